/- The smallest change, in the program. -/
import Derived.Test.YtpihighajaeabaaGreatQChangeM
import Derived.Test.YtpihighajaeabaaGreatQChangeS
import Derived.Test.YtpihighajaeabaaGreatQBestS
namespace Go.Proofs.YtpihighajaeabaaGreat
open Go.RowKit
set_option linter.unusedVariables false
set_option linter.unusedSimpArgs false
set_option maxRecDepth 100000 in
set_option maxHeartbeats 6400000 in
theorem gL (w:World) (l:List gA) (e:List kA) (id:Int) (v u:Value) (h:Rd MA w l [v]) (h':Rd RA w e [u]) (hB:dB l e=true) (j:Nat) (p:gA) (hf:UA l id=(j:Int)) (hp:l[j]? = some p) (hid:p.id=id) :
  Calls Tryz.prog 276 #[v,u,.int .i64 id] w (BC w (ZO BG w.heap.size (XE l e p id 1000).1 (.int .i64 (XE l e p id 1000).2) (.bool true))):=by
 obtain ⟨A,n,c,rfl,L0,Lc,Lm⟩:=iA h;unfold maxLen at Lm;have L:=Lib.hid L0;clear L0;have HB:=Lib.hid hB;have hP:=NA (sA hB) (List.mem_of_getElem? hp);have hid2:=wD hP;rw [hid] at hid2;have hjn:j<n:=by rw [L.out];exact (List.getElem?_eq_some_iff.1 hp).1
 have n16:n≤16:=by rw [L.out];exact VA (sA hB)
 obtain ⟨Y,hY⟩:∃Y,Y=XE l e p id 1000:=⟨_,rfl⟩;rw [← hY];have HY:=Lib.hid hY;obtain ⟨ba,oa,Ap,cp,rfl,_,hc0,hc1,hin⟩:=mB h hp;rw [YA hP] at hc1 hin;have HPi:=Lib.hid hP;have HID:=Lib.hid hid2;have A0:Bw w (w.alloc (.cells #[.int .i64 0,.slice none 0 0] 30)):=(Bw.refl w).alloc _;have hcall:=fun W (B:Bw w W)=>QC W l id _ (h.bw jA B)
 rw [hf] at hcall;have j1:(0:Int)≤(j:Int):=by omega
 have j2:(j:Int)<(n:Int):=by omega
 have j3:¬((j:Int)<0):=by omega
 clear hY hB hP hid2 hp hf hid;go_enter Tryz.func276,Tryz.ntmps276;go_wp2_with fail;refine (hcall _ A0).mono ?_;rintro e w1 ⟨rfl,hb1⟩;have B1:=A0.then hb1;go_wp2_with fail;refine (JD _ l e _ _ (h.bw jA B1) (h'.bw lA B1)).mono ?_;rintro e w2 ⟨rfl,hb2⟩;rw [HB.out];have B2:=B1.then hb2;have r0:w2.cell? ⟨w.heap.size,0,none⟩=some (.int .i64 0):=(hb1.then hb2).cell (by go_simp);have r1:w2.cell? ⟨w.heap.size,1,none⟩=some (.slice none 0 0):=(hb1.then hb2).cell (by go_simp);have hfr:∀o,w2.frozen? ⟨w.heap.size,o,none⟩=false:=fun o=>by rw [kC (hb1.then hb2) _ _ (by first | (simp;done) | (simp;omega))];go_simp
 have d0:=B2.cell hc0;have d1:=B2.cell hc1;have HH:=Lib.hid h;clear hcall h hc0 hc1;go_wp2
 go_loopg [11,31] 1000 (fun g s i w'=>∃(k:Nat) (ls:Int) (fd:gA) (A':Option Addr) (c':Nat) (F:List Nat),k≤1000∧g=1000-k∧i=.int .i64 k∧s=.int .i64 ls∧Hid (XE l e p id k=(fd,ls))∧w'.cell? ⟨w2.heap.size,0,none⟩=some (.int .i64 fd.id)∧w'.cell? ⟨w2.heap.size,1,none⟩=some (.slice A' fd.vals.length c')∧(∀o,w'.frozen? ⟨w2.heap.size,o,none⟩=false)∧ZA w' fd.vals [.slice A' fd.vals.length c'] F∧pA (w2.heap.size+1) F∧Bw w2 w')
 case atStart=>exact ⟨0,-1,⟨0,[]⟩,none,0,[],by omega,rfl,rfl,rfl,Lib.hid rfl,by go_simp,by go_simp,fun o=>by go_simp,vI _,pA.nil,(Bw.refl _).alloc _⟩
 case round=>
  obtain ⟨k,ls,fd,A',c',F,hk,rfl,rfl,rfl,HT,f0,f1,hfz,hv,hF,hb⟩:=hrel;obtain ⟨wo,hwo⟩:∃wo,wo=wr:=⟨_,rfl⟩;subst hwo;by_cases hlt:k<1000
  ·have e0:=hb.cell d0;have e1:=hb.cell d1;have k0:(0:Int)≤(k:Int):=by omega
   have k1:(k:Int)<1000:=by omega
   obtain ⟨W,hW⟩:∃W,W=(wo.alloc (.cells #[.int .i64 ((k:Int) / 100),.int .i64 ((k:Int) / 10 % 10),.int .i64 ((k:Int) % 10)] 3)).alloc (.cells #[.int .i64 id,.slice (some ⟨wo.heap.size,0,none⟩) 3 3] 30):=⟨_,rfl⟩;have x3:ZA W (IB id k).vals [.slice (some ⟨wo.heap.size,0,none⟩) 3 3] [wo.heap.size]:=by rw [hW];exact (aA (B:=0)).bw ((Bw.refl _).alloc _) (Nat.zero_le _) NP
   have bW:Bw wo W:=by rw [hW];exact ((Bw.refl wo).alloc _).alloc _
   have x0:W.cell? ⟨wo.heap.size+1,0,none⟩=some (.int .i64 id):=by rw [hW];go_simp
   have x1:W.cell? ⟨wo.heap.size+1,1,none⟩=some (.slice (some ⟨wo.heap.size,0,none⟩) 3 3):=by rw [hW];go_simp
   have HW:=Lib.hid hW;have bw2:=hb.size;have bg:=World.block_lt_of_cell? _ _ f0;have hP3:=gU HID.out hlt;have HP3:=Lib.hid hP3;have s0:=qA x0;have s1:=qA x1;have s2:=qA (bW.cell e0);have s3:=qA (bW.cell e1);have x3r:=AA x3;have hinW:=Rd.bw dA hin ((B2.then hb).then bW);have hc2:∀s:GC W,Calls Tryz.prog 286 #[.agg #[.int .i64 p.id,.slice Ap 3 cp],.agg #[.int .i64 id,.slice (some ⟨wo.heap.size,0,none⟩) 3 3]] s.1 (Ret s.1 (.int .i64 (gD p (IB id k)))):=fun s=>fA0 _ p (IB id k) _ _ (Rd.bw dA hinW s.bw) (Rd.bw dA x3r s.bw)
   have HYES:=Lib.hid (fun h1 h2=>mX (l:=l) (e:=e) (p:=p) (id:=id) (n:=k) h1 h2);have HNO:=Lib.hid (fun h1=>bAk (l:=l) (e:=e) (p:=p) (id:=id) (n:=k) h1);obtain ⟨q,hq⟩:∃q,q=gD p (IB id k):=⟨_,rfl⟩;rw [← hq] at hc2 HYES HNO;replace HYES:=Lib.hid (show ls<0∨q<ls→AF l e id (IB id k)=true→XE l e p id (k+1)=(IB id k,q) from fun h1 h2=>HYES.out (by rw [HT.out];exact h1) h2);replace HNO:=Lib.hid (show ¬(ls<0∨q<ls)∨AF l e id (IB id k)=false→XE l e p id (k+1)=(fd,ls) from fun h1=>(HNO.out (by rw [HT.out];exact h1)).trans HT.out);clear hW hq HT hP3 e0 e1;go_wp2;rw [← HW.out];refine mA (by kernel_rfl) (by kernel_rfl) ?_
   repeat (first | go_big_quiet_skip | (go_big_quiet_want;go_big_quiet_op;first | go_big_quiet_on | (apply Exists.intro;refine ⟨fun _=>?_,?_⟩;(· (((first | (go_at_call 286;exact GA (hc2 _))))));go_big_quiet_on)))
   refine wpQuiet_nil ?_;rintro ⟨wq,hbq⟩;dsimp only at *;have bq:=bW.then hbq;replace x0:=hbq.cell x0;replace x1:=hbq.cell x1;have bz:=hb.then bq;have bg2:=bq.size;replace f0:=bq.cell f0;replace f1:=bq.cell f1;have hfz2:∀o,wq.frozen? ⟨w2.heap.size,o,none⟩=false:=fun o=>(kC bq w2.heap.size o bg).trans (hfz o)
   have hv4:=(aA (B:=w2.heap.size)).bw bq hb.size hv;have x4:=(aA (B:=0)).bw hbq (Nat.zero_le _) x3;clear s0 s1 s2 s3 hc2 hinW hfz hv x3r;by_cases hg:ls<0∨q<ls
   ·have x4r:=AA x4;have HG:=Lib.hid hg;have HFIN:=Lib.hid (show ∀w4,Bw wq w4→∃F2,pA (w2.heap.size+1) F2∧ZA ((w4.setCell ⟨w2.heap.size,0,none⟩ (.int .i64 id)).setCell ⟨w2.heap.size,1,none⟩ (.slice (some ⟨wo.heap.size,0,none⟩) 3 3)) (IB id k).vals [.slice (some ⟨wo.heap.size,0,none⟩) 3 3] F2 from fun w4 hb4=>by
     refine ⟨[wo.heap.size],⟨by simp,by simp;omega⟩,?_⟩;have x5:=(aA (B:=0)).bw hb4 (Nat.zero_le _) x4;refine (aA (B:=0)).step (fun b hb=>?_) x5;rcases hb with hb | hb
     ·have:b=wo.heap.size:=by simpa using hb
      have bg':w2.heap.size<wo.heap.size:=bg
      repeat rw [Below.heap_setCell _ _ _ _ (by dsimp only;omega)]
     ·omega)
    have HV4:=Lib.hid hv4;have hcc:=fun w4 (B:Bw wq w4) (y:gA) (Ay:Option Addr) (cy:Nat) (hy:Rd XA w4 y.vals [.slice Ay 3 cy]) (hPy:LA y=true)=>(show Calls Tryz.prog 78 #[u,.agg #[.int .i64 y.id,.slice Ay 3 cy],.agg #[.int .i64 id,.slice (some ⟨wo.heap.size,0,none⟩) 3 3]] w4 (Ret w4 (.int .i64 (CC e y (IB id k)))) from FG w4 e y (IB id k) _ _ _ (h'.bw lA ((B2.then bz).then B)) hy (x4r.bw dA B) (iC HB.out) hPy HP3.out)
    have HCC:=Lib.hid hcc;rcases Decidable.em (ls<0) with a1 | a1
    ·have a3:¬(0≤ls):=by omega
     clear hg hcc hv4 x3 x4 x4r;go_wp2
     go_loopg [15,59] n (fun g b i2 w'=>∃(j2:Nat) (qb:Bool),j2≤n∧g=n-j2∧i2=.int .i64 j2∧b=.bool qb∧Hid (qb=(l.take j2).any fun y=>RC e id y (IB id k))∧Bw wq w')
     case atStart=>exact ⟨0,false,by omega,rfl,rfl,rfl,Lib.hid rfl,Bw.refl _⟩
     case round=>
      obtain ⟨j2,qb,hj2,rfl,rfl,rfl,HQ,hbj⟩:=hrel;have hbw:=(B2.then bz).then hbj;have kk0:=hbj.cell x0;have kk1:=hbj.cell x1;by_cases hlt2:j2<n
      ·obtain ⟨y,hy⟩:=rA (xs:=l) (k:=j2) (by have:=L.out;omega);obtain ⟨b2,o2,Ay,cy,eA,_,hd0,hd1,hin2⟩:=mB HH.out hy;injection eA with eA;injection eA with eA1 eA2;subst eA1 eA2;have HPy:=Lib.hid (NA (sA HB.out) (List.mem_of_getElem? hy));have hleny:=YA HPy.out;rw [hleny] at hd1 hin2;replace hd0:=hbw.cell hd0;replace hd1:=hbw.cell hd1;have i1:(0:Int)≤(j2:Int):=by omega
       have i2:(j2:Int)<(n:Int):=by omega
       have HS:=Lib.hid (iG (fun y=>RC e id y (IB id k)) hy);have hby:=World.block_lt_of_cell? _ _ kk0;have C1:Bw wr (wr.alloc (.cells #[.int .i64 y.id,.slice Ay 3 cy] 30)):=(Bw.refl wr).alloc _;clear hy hleny
       cases qb with
       | true=>
        have HQ2:=Lib.hid (show true=(l.take (j2+1)).any fun y=>RC e id y (IB id k) by rw [HS.out,← HQ.out];rfl);clear HQ HS;go_wp2
        go_roundg (n-(j2+1))
        case measure=>omega
        case rel=>exact ⟨j2+1,true,by omega,rfl,by go_num,rfl,HQ2,hbj.then C1⟩
       | false=>
        have HQ0:=Lib.hid (show RC e id y (IB id k)=(l.take (j2+1)).any fun y=>RC e id y (IB id k) by rw [HS.out,← HQ.out];rfl);clear HQ HS;by_cases hyd:y.id=id
        ·have e0:(y.id != id)=false:=by simpa using hyd
         have HQ2:=Lib.hid (show false=(l.take (j2+1)).any fun y=>RC e id y (IB id k) by rw [← HQ0.out];simp [RC,hyd]);clear hyd HQ0;go_wp2
         go_roundg (n-(j2+1))
         case measure=>omega
         case rel=>exact ⟨j2+1,false,by omega,rfl,by go_num,rfl,HQ2,hbj.then C1⟩
        ·have e0:(y.id != id)=true:=by simpa using hyd
         have hcall:=HCC.out _ (hbj.then C1) y Ay cy (Rd.bw dA hin2 (hbw.then C1)) HPy.out;have HQ2:=Lib.hid (show decide (CC e y (IB id k)=1)=(l.take (j2+1)).any fun y=>RC e id y (IB id k) by rw [← HQ0.out];simp [RC,hyd,MC]);obtain ⟨r,hr⟩:∃r,r=CC e y (IB id k):=⟨_,rfl⟩;rw [← hr] at hcall HQ2;clear HQ0 hr hyd;go_wp2_with fail;refine (hcall).mono ?_;rintro e w3 ⟨rfl,hb3⟩;by_cases hr1:r=1
         ·have e1:(r==1)=true:=by simpa using hr1
          have HQ3:=Lib.hid (show true=(l.take (j2+1)).any fun y=>RC e id y (IB id k) by rw [← HQ2.out];simpa using hr1);clear hr1 HQ2;go_wp2
          go_roundg (n-(j2+1))
          case measure=>omega
          case rel=>exact ⟨j2+1,true,by omega,rfl,by go_num,rfl,HQ3,hbj.then (C1.then hb3)⟩
         ·have e1:(r==1)=false:=by simpa using hr1
          have HQ3:=Lib.hid (show false=(l.take (j2+1)).any fun y=>RC e id y (IB id k) by rw [← HQ2.out];simpa using hr1);clear hr1 HQ2;go_wp2
          go_roundg (n-(j2+1))
          case measure=>omega
          case rel=>exact ⟨j2+1,false,by omega,rfl,by go_num,rfl,HQ3,hbj.then (C1.then hb3)⟩
      ·obtain rfl:j2=n:=by omega
       have HF:=Lib.hid (show AF l e id (IB id k)=!qb by rw [AF,HQ.out,bH _ (by rw [← L.out];exact Nat.le_refl _)]);have f0':=hbj.cell f0;have f1':=hbj.cell f1;have hfz4:∀o,wr.frozen? ⟨w2.heap.size,o,none⟩=false:=fun o=>(kC hbj w2.heap.size o (by omega)).trans (hfz2 o)
       have hv5:=(aA (B:=w2.heap.size)).bw hbj bz.size HV4.out;have bz2:=bz.then hbj;clear HQ hlt2
       cases qb with
       | true=>
        have HT:=Lib.hid (HNO.out (.inr HF.out));go_wp2
        go_roundg (1000-(k+1))
        case measure=>omega
        case rel=>exact ⟨k+1,ls,fd,A',c',F,by omega,rfl,by go_num,rfl,HT,f0',f1',hfz4,hv5,hF,bz2⟩
       | false=>
        have HT:=Lib.hid (HYES.out HG.out HF.out);obtain ⟨F2,fF2,hv2⟩:=HFIN.out wr hbj;clear HYES HNO HFIN HG hv5 f0 f1;go_wp2
        go_roundg (1000-(k+1))
        case measure=>omega
        case rel=>
         refine ⟨k+1,q,IB id k,some ⟨wo.heap.size,0,none⟩,3,F2,by omega,rfl,by go_num,rfl,HT,by go_simp;rfl,by go_simp;rfl,fun o=>by go_simp,hv2,fF2,?_⟩
         repeat (first | with_reducible exact bz2 | with_reducible refine Bw.set ?_ ?_ _)
         all_goals (dsimp only;omega)
    ·have a2:q<ls:=hg.resolve_left a1;have a3:¬(ls≤q):=by omega
     have a4:0≤ls:=by omega
     clear hg hcc hv4 x3 x4 x4r;go_wp2
     go_loopg [15,59] n (fun g b i2 w'=>∃(j2:Nat) (qb:Bool),j2≤n∧g=n-j2∧i2=.int .i64 j2∧b=.bool qb∧Hid (qb=(l.take j2).any fun y=>RC e id y (IB id k))∧Bw wq w')
     case atStart=>exact ⟨0,false,by omega,rfl,rfl,rfl,Lib.hid rfl,Bw.refl _⟩
     case round=>
      obtain ⟨j2,qb,hj2,rfl,rfl,rfl,HQ,hbj⟩:=hrel;have hbw:=(B2.then bz).then hbj;have kk0:=hbj.cell x0;have kk1:=hbj.cell x1;by_cases hlt2:j2<n
      ·obtain ⟨y,hy⟩:=rA (xs:=l) (k:=j2) (by have:=L.out;omega);obtain ⟨b2,o2,Ay,cy,eA,_,hd0,hd1,hin2⟩:=mB HH.out hy;injection eA with eA;injection eA with eA1 eA2;subst eA1 eA2;have HPy:=Lib.hid (NA (sA HB.out) (List.mem_of_getElem? hy));have hleny:=YA HPy.out;rw [hleny] at hd1 hin2;replace hd0:=hbw.cell hd0;replace hd1:=hbw.cell hd1;have i1:(0:Int)≤(j2:Int):=by omega
       have i2:(j2:Int)<(n:Int):=by omega
       have HS:=Lib.hid (iG (fun y=>RC e id y (IB id k)) hy);have hby:=World.block_lt_of_cell? _ _ kk0;have C1:Bw wr (wr.alloc (.cells #[.int .i64 y.id,.slice Ay 3 cy] 30)):=(Bw.refl wr).alloc _;clear hy hleny
       cases qb with
       | true=>
        have HQ2:=Lib.hid (show true=(l.take (j2+1)).any fun y=>RC e id y (IB id k) by rw [HS.out,← HQ.out];rfl);clear HQ HS;go_wp2
        go_roundg (n-(j2+1))
        case measure=>omega
        case rel=>exact ⟨j2+1,true,by omega,rfl,by go_num,rfl,HQ2,hbj.then C1⟩
       | false=>
        have HQ0:=Lib.hid (show RC e id y (IB id k)=(l.take (j2+1)).any fun y=>RC e id y (IB id k) by rw [HS.out,← HQ.out];rfl);clear HQ HS;by_cases hyd:y.id=id
        ·have e0:(y.id != id)=false:=by simpa using hyd
         have HQ2:=Lib.hid (show false=(l.take (j2+1)).any fun y=>RC e id y (IB id k) by rw [← HQ0.out];simp [RC,hyd]);clear hyd HQ0;go_wp2
         go_roundg (n-(j2+1))
         case measure=>omega
         case rel=>exact ⟨j2+1,false,by omega,rfl,by go_num,rfl,HQ2,hbj.then C1⟩
        ·have e0:(y.id != id)=true:=by simpa using hyd
         have hcall:=HCC.out _ (hbj.then C1) y Ay cy (Rd.bw dA hin2 (hbw.then C1)) HPy.out;have HQ2:=Lib.hid (show decide (CC e y (IB id k)=1)=(l.take (j2+1)).any fun y=>RC e id y (IB id k) by rw [← HQ0.out];simp [RC,hyd,MC]);obtain ⟨r,hr⟩:∃r,r=CC e y (IB id k):=⟨_,rfl⟩;rw [← hr] at hcall HQ2;clear HQ0 hr hyd;go_wp2_with fail;refine (hcall).mono ?_;rintro e w3 ⟨rfl,hb3⟩;by_cases hr1:r=1
         ·have e1:(r==1)=true:=by simpa using hr1
          have HQ3:=Lib.hid (show true=(l.take (j2+1)).any fun y=>RC e id y (IB id k) by rw [← HQ2.out];simpa using hr1);clear hr1 HQ2;go_wp2
          go_roundg (n-(j2+1))
          case measure=>omega
          case rel=>exact ⟨j2+1,true,by omega,rfl,by go_num,rfl,HQ3,hbj.then (C1.then hb3)⟩
         ·have e1:(r==1)=false:=by simpa using hr1
          have HQ3:=Lib.hid (show false=(l.take (j2+1)).any fun y=>RC e id y (IB id k) by rw [← HQ2.out];simpa using hr1);clear hr1 HQ2;go_wp2
          go_roundg (n-(j2+1))
          case measure=>omega
          case rel=>exact ⟨j2+1,false,by omega,rfl,by go_num,rfl,HQ3,hbj.then (C1.then hb3)⟩
      ·obtain rfl:j2=n:=by omega
       have HF:=Lib.hid (show AF l e id (IB id k)=!qb by rw [AF,HQ.out,bH _ (by rw [← L.out];exact Nat.le_refl _)]);have f0':=hbj.cell f0;have f1':=hbj.cell f1;have hfz4:∀o,wr.frozen? ⟨w2.heap.size,o,none⟩=false:=fun o=>(kC hbj w2.heap.size o (by omega)).trans (hfz2 o)
       have hv5:=(aA (B:=w2.heap.size)).bw hbj bz.size HV4.out;have bz2:=bz.then hbj;clear HQ hlt2
       cases qb with
       | true=>
        have HT:=Lib.hid (HNO.out (.inr HF.out));go_wp2
        go_roundg (1000-(k+1))
        case measure=>omega
        case rel=>exact ⟨k+1,ls,fd,A',c',F,by omega,rfl,by go_num,rfl,HT,f0',f1',hfz4,hv5,hF,bz2⟩
       | false=>
        have HT:=Lib.hid (HYES.out HG.out HF.out);obtain ⟨F2,fF2,hv2⟩:=HFIN.out wr hbj;clear HYES HNO HFIN HG hv5 f0 f1;go_wp2
        go_roundg (1000-(k+1))
        case measure=>omega
        case rel=>
         refine ⟨k+1,q,IB id k,some ⟨wo.heap.size,0,none⟩,3,F2,by omega,rfl,by go_num,rfl,HT,by go_simp;rfl,by go_simp;rfl,fun o=>by go_simp,hv2,fF2,?_⟩
         repeat (first | with_reducible exact bz2 | with_reducible refine Bw.set ?_ ?_ _)
         all_goals (dsimp only;omega)
   ·have a1:0≤ls:=by omega
    have a2:ls≤q:=by omega
    have HT:=Lib.hid (HNO.out (.inl hg));clear hg x0 x1 x3 x4;go_wp2
    go_roundg (1000-(k+1))
    case measure=>omega
    case rel=>exact ⟨k+1,ls,fd,A',c',F,by omega,rfl,by go_num,rfl,HT,f0,f1,hfz2,hv4,hF,bz⟩
  ·obtain rfl:k=1000:=by omega
   have HNN:=Lib.hid (show ¬(ls<0) by have h1:=qR (p:=p) HB.out HID.out;rw [HT.out] at h1;dsimp only at h1;omega);have HYY:=Lib.hid (HY.out.trans HT.out);replace r0:=hb.cell r0;replace r1:=hb.cell r1;have hz2:w.heap.size<w2.heap.size:=by have:=(hb1.then hb2).size;simp at this;omega
   have hf4:∀o,wo.frozen? ⟨w.heap.size,o,none⟩=false:=fun o=>(kC hb w.heap.size o hz2).trans (hfr o)
   have hFz:∀b∈F,w.heap.size+1≤b:=fun b hb=>by have:=hF.ge b hb;omega
   have fF:pA w.heap.size F:=hF.mono (by omega);have B3:=B2.then hb;clear HY HT hfr;have l0:¬(ls<0):=HNN.out;go_wp2;obtain rfl:=HYY.out;refine bodyPost_ret (v:=.tuple #[.agg #[.int .i64 fd.id,.slice A' fd.vals.length c'],.int .i64 ls,.bool true]) (by simp [results,Tryz.results276,go_sem,r0,r1]) rfl ⟨_,rfl,⟨[.int .i64 fd.id,.slice A' fd.vals.length c'],rfl,F,⟨_,rfl,?_⟩,fF⟩,?_⟩
   ·refine (aA (B:=0)).step (fun b hb=>?_) hv;rcases hb with hb | hb
    ·have:=hFz b hb
     repeat rw [Below.heap_setCell _ _ _ _ (by dsimp only;omega)]
    ·omega
   ·repeat (first | with_reducible exact B3 | with_reducible refine Bw.set ?_ ?_ _)
    all_goals (dsimp only;omega)
set_option maxRecDepth 100000 in
set_option maxHeartbeats 1600000 in
theorem rM (w:World) (l:List gA) (e:List kA) (id:Int) (v u:Value) (h:Rd MA w l [v]) (h':Rd RA w e [u]) (hno:qB l e id=false) :
  Calls Tryz.prog 276 #[v,u,.int .i64 id] w (BC w (ZO BG w.heap.size ⟨0,[]⟩ (.int .i64 0) (.bool false))):=by
 have A0:Bw w (w.alloc (.cells #[.int .i64 0,.slice none 0 0] 30)):=(Bw.refl w).alloc _;have hcall:=fun W (B:Bw w W)=>QC W l id _ (h.bw jA B)
 have HNO:=Lib.hid (show dB l e=true→UA l id<0 from fun hB=>by
  unfold qB at hno;rw [hB,Bool.true_and,decide_eq_false_iff_not] at hno;omega)
 obtain ⟨K,hK⟩:∃K,K=UA l id:=⟨_,rfl⟩;rw [← hK] at hcall HNO;clear hno hK;go_enter Tryz.func276,Tryz.ntmps276;go_wp2_with fail;refine (hcall _ A0).mono ?_;rintro e w1 ⟨rfl,hb1⟩;have B1:=A0.then hb1;go_wp2_with fail;refine (JD _ l e _ _ (h.bw jA B1) (h'.bw lA B1)).mono ?_;rintro e w2 ⟨rfl,hb2⟩;have B2:=B1.then hb2;have r0:w2.cell? ⟨w.heap.size,0,none⟩=some (.int .i64 0):=(hb1.then hb2).cell (by go_simp);have r1:w2.cell? ⟨w.heap.size,1,none⟩=some (.slice none 0 0):=(hb1.then hb2).cell (by go_simp);have hfr:∀o,w2.frozen? ⟨w.heap.size,o,none⟩=false:=fun o=>by rw [kC (hb1.then hb2) _ _ (by first | (simp;done) | (simp;omega))];go_simp
 clear hcall;rcases Bool.eq_false_or_eq_true (dB l e) with e1 | e1
 ·have k1:=HNO.out e1;rw [e1];clear e1;go_wp2;refine bodyPost_ret (v:=.tuple #[.agg #[.int .i64 0,.slice none 0 0],.int .i64 0,.bool false]) (by simp [results,Tryz.results276,go_sem,r0,r1]) rfl ⟨_,rfl,⟨[.int .i64 0,.slice none 0 0],rfl,[],⟨_,rfl,vI _⟩,pA.nil⟩,?_⟩
  repeat (first | with_reducible exact B2 | with_reducible refine Bw.set ?_ ?_ _)
  all_goals (dsimp only;omega)
 ·rw [e1];clear e1 HNO;go_wp2;refine bodyPost_ret (v:=.tuple #[.agg #[.int .i64 0,.slice none 0 0],.int .i64 0,.bool false]) (by simp [results,Tryz.results276,go_sem,r0,r1]) rfl ⟨_,rfl,⟨[.int .i64 0,.slice none 0 0],rfl,[],⟨_,rfl,vI _⟩,pA.nil⟩,?_⟩
  repeat (first | with_reducible exact B2 | with_reducible refine Bw.set ?_ ?_ _)
  all_goals (dsimp only;omega)
theorem bP (w:World) (l:List gA) (e:List kA) (id:Int) (v u:Value) (h:Rd MA w l [v]) (h':Rd RA w e [u]) :
  Calls Tryz.prog 276 #[v,u,.int .i64 id] w (BC w (ZO BG w.heap.size (TB l e id) (.int .i64 (xC l e id)) (.bool (qB l e id)))):=by
 rcases Bool.eq_false_or_eq_true (qB l e id) with hc | hc
 ·have h1:=hc;unfold qB at h1;rw [Bool.and_eq_true,decide_eq_true_eq] at h1;rcases PB l id with ⟨hK,_⟩ | ⟨j,x,hK,hx,hid⟩
  ·have:=h1.2;omega
  ·have:=gL w l e id v u h h' h1.1 j x hK hx hid;rw [show TB l e id=(XE l e x id 1000).1 by rw [TB,if_pos hc,KE hK hx],show xC l e id=(XE l e x id 1000).2 by rw [xC,if_pos hc,KE hK hx],hc];exact this
 ·have:=rM w l e id v u h h' hc;rw [show TB l e id=⟨0,[]⟩ by rw [TB,hc];rfl,show xC l e id=0 by rw [xC,hc];rfl,hc];exact this
end Go.Proofs.YtpihighajaeabaaGreat
