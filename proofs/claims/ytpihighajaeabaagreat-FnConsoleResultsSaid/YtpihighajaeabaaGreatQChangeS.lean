/- The smallest change, in the reference. -/
import Derived.Test.YtpihighajaeabaaGreatProg
import Derived.Test.YtpihighajaeabaaGreatQOwn
import Derived.Deep.Slices
import Derived.OpenShut
import Derived.ShutString
import Derived.ChangeOld
import Derived.Carry
import Derived.Test.YtpihighajaeabaaGreatRows
import Derived.Test.YtpihighajaeabaaGreatQChangeM
import Derived.Test.YtpihighajaeabaaGreatQBestS
namespace Go.Proofs.YtpihighajaeabaaGreat
open Go.RowKit Go.ChangeShapes Go.WideShapes Go.Deep
set_option linter.unusedVariables false
theorem fA1:ownKnob Tryz.prog.godebug=none:=by kernel_rfl
theorem fA2:laidOutB Tryz.prog=true:=by kernel_rfl
section
variable {H:Type} {enc:TypeId×Value→H} {w:World} {sp:Nat→Bool} {held:Bool}
theorem gAy {α:Type} {t e:TypeId} {sz:Nat} {R:Rep α} {Q:α→Prop} (ht:Tryz.prog.underlying t=some (.slice e)) (hC:Tryz.prog.cellsOf e=sz) (hsz:0<sz)
  (hE:∀n cs y,DataW.trod enc Tryz.prog w 0 sp held n e cs=some y→cs.length=sz→∃x,R w (lt w) x cs∧Q x) {fuel:Nat} {cs:List Value} {x:DataW H×List MemPlace}
  (h:DataW.trod enc Tryz.prog w 0 sp held fuel t cs=some x):∃xs,Rd (rSl sz R) w xs cs∧∀x∈xs,Q x:=by
 rcases open_slice ht h with ⟨rfl,_⟩ | ⟨a,len,cap,m,n,D,Pl,rfl,_,hl,hm,hmm,_,hi⟩
 ·exact ⟨[],AN,fun x hx=>by simp at hx⟩
 ·have hml:len≤m:=by rw [hmm];split<;>omega
  by_cases hl0:len=0
  ·subst hl0;exact ⟨[],⟨some a,cap,rfl,Nat.zero_le _,hm,fun k x hx=>by simp at hx⟩,fun x hx=>by simp at hx⟩
  obtain ⟨b,o,spot⟩:=a;have hsp:spot=none:=by
   obtain ⟨cs',hc,ht'⟩:=hi 0 (by omega);obtain ⟨_,hlen,hat⟩:=World.cells?_some hc;rw [hC] at hlen hat;have h0:=hat 0 hsz;rw [List.getElem?_eq_getElem (by omega),Nat.zero_mul] at h0;exact World.cell?_spot h0
  subst hsp;have key:∀i:Nat,∃x:Option α,i<len→∃x' us,x=some x'∧b<w.heap.size∧us.length=sz∧(∀j u,us[j]? = some u→w.cell? ⟨b,o+i*sz+j,none⟩=some u)∧R w (lt w) x' us∧Q x':=by
   intro i;by_cases hil:i<len
   ·obtain ⟨cs',hc,ht'⟩:=hi i (by omega);obtain ⟨_,hlen,hat⟩:=World.cells?_some hc;rw [hC] at hlen hat;obtain ⟨x,hR,hQ⟩:=hE _ _ _ ht' hlen;have h0:=hat 0 hsz;rw [List.getElem?_eq_getElem (by omega)] at h0;have hb:=World.block_lt_of_cell? _ _ h0;refine ⟨some x,fun _=>⟨x,cs',rfl,by rw [Go.Proofs.YtpihighajaeabaaGreat.iAq,Go.Proofs.YtpihighajaeabaaGreat.iAq] at hb;exact hb,hlen,fun j u hu=>?_,hR,hQ⟩⟩;have hj:j<sz:=by rw [← hlen];exact (List.getElem?_eq_some_iff.1 hu).1
    have:=hat j hj;have ea:((⟨b,o,none⟩:Addr).add (i*sz)).add j=⟨b,o+i*sz+j,none⟩:=by
     rw [Go.Proofs.YtpihighajaeabaaGreat.jA9,Nat.add_assoc];unfold Addr.add
     split
     ·rename_i h;rw [h];rfl
     ·rfl
    rw [ea,hu] at this;exact this
   ·exact ⟨none,fun h=>absurd h hil⟩
  obtain ⟨f,hf⟩:=Classical.axiomOfChoice key;refine ⟨(List.range len).filterMap f,?_,?_⟩
  ·have hlen:((List.range len).filterMap f).length=len:=by
    have:∀k,k≤len→((List.range k).filterMap f).length=k:=by
     intro k hk
     induction k with
     | zero=>rfl
     | succ k ih=>
      rw [List.range_succ,List.filterMap_append,List.length_append,ih (by omega)];obtain ⟨x',_,e,_⟩:=hf k (by omega);simp [e]
    exact this len (Nat.le_refl _)
   have hget:∀k,k<len→((List.range len).filterMap f)[k]? = f k:=by
    have:∀m,m≤len→∀k,k<m→((List.range m).filterMap f)[k]? = f k∧((List.range m).filterMap f).length=m:=by
     intro m hm'
     induction m with
     | zero=>intro k hk;omega
     | succ m ih=>
      intro k hk;have hl':((List.range m).filterMap f).length=m:=by
       rcases Nat.eq_zero_or_pos m with rfl | hp
       ·rfl
       ·exact (ih (by omega) 0 hp).2
      obtain ⟨x',_,e,_⟩:=hf m (by omega);rw [List.range_succ,List.filterMap_append];have es:[m].filterMap f=[x']:=by simp [e]
      rw [es];refine ⟨?_,by simp [hl']⟩;by_cases hkm:k<m
      ·rw [List.getElem?_append_left (by omega)];exact (ih (by omega) k hkm).1
      ·obtain rfl:k=m:=by omega
       rw [List.getElem?_append_right (by omega),hl',Nat.sub_self,e];rfl
    exact fun k hk=>(this len (Nat.le_refl _) k hk).1
   refine ⟨some ⟨b,o,none⟩,cap,by rw [hlen],by rw [hlen];exact hl,hm,fun k x hx=>?_⟩;have hk:k<len:=by
    have:=(List.getElem?_eq_some_iff.1 hx).1;omega
   rw [hget k hk] at hx;obtain ⟨x',us,e,hb,hul,hc,hR,_⟩:=hf k hk;rw [hx] at e;injection e with e;subst e;exact ⟨b,o,us,rfl,hb,hul,hc,hR⟩
  ·intro x hx;obtain ⟨i,hi',hfi⟩:=List.mem_filterMap.1 hx;obtain ⟨x',_,e,_,_,_,_,hQ⟩:=hf i (by simpa using hi');rw [hfi] at e;injection e with e;rw [e];exact hQ
end
end Go.Proofs.YtpihighajaeabaaGreat
namespace Go.Proofs.YtpihighajaeabaaGreat
open Go.RowKit Go.ChangeShapes Go.WideShapes Go.ChangeAt
set_option linter.unusedVariables false
end Go.Proofs.YtpihighajaeabaaGreat
namespace Go.Proofs.YtpihighajaeabaaGreat
open Go.RowKit
set_option linter.unusedVariables false
set_option linter.unusedSimpArgs false
set_option maxRecDepth 100000 in
set_option maxHeartbeats 3200000 in
theorem cAo (w:World) (l:List gA) (e:List kA) (x:gA) (v u t:Value) (h:Rd MA w l [v]) (h':Rd RA w e [u]) (h2:Rd XA w x.vals [t]) (hI:WA l=true) (hE:bB e=true) (hP:LA x=true) :
  Calls Tryz.prog 290 #[v,u,.agg #[.int .i64 x.id,t]] w (Ret w (.bool (AF l e x.id x))):=by
 obtain ⟨A,n,c,rfl,L0,Lc,Lm⟩:=iA h;unfold maxLen at Lm;have L:=Lib.hid L0;clear L0;have HE1:=Lib.hid hE;have HI:=Lib.hid hI;have HP:=Lib.hid hP;have n16:n≤16:=by rw [L.out];exact VA HI.out
 obtain ⟨Ax,cx,rfl,_⟩:=aB h2;rw [YA hP] at h2 ⊢;have B0:Bw w (w.alloc (.cells #[.int .i64 x.id,.slice Ax 3 cx] 30)):=(Bw.refl w).alloc _;have k0:(w.alloc (.cells #[.int .i64 x.id,.slice Ax 3 cx] 30)).cell? ⟨w.heap.size,0,none⟩=some (.int .i64 x.id):=by go_simp
 have k1:(w.alloc (.cells #[.int .i64 x.id,.slice Ax 3 cx] 30)).cell? ⟨w.heap.size,1,none⟩=some (.slice Ax 3 cx):=by go_simp
 obtain ⟨W,hW⟩:∃W,W=w.alloc (.cells #[.int .i64 x.id,.slice Ax 3 cx] 30):=⟨_,rfl⟩;rw [← hW] at B0 k0 k1;have HW:=Lib.hid hW;clear hE hI hP hW;go_enter Tryz.func290,Tryz.ntmps290;go_wp2
 go_loopg [7] n (fun g i w'=>∃(k:Nat),k≤n∧g=n-k∧i=.int .i64 k∧Hid (((l.take k).any fun y=>RC e x.id y x)=false)∧Bw W w')
 case atStart=>exact ⟨0,by omega,rfl,rfl,Lib.hid rfl,by rw [HW.out];exact Bw.refl _⟩
 case round=>
  obtain ⟨j,hj,rfl,rfl,HQ,hbj⟩:=hrel;have hbw:=B0.then hbj;have m0:=hbj.cell k0;have m1:=hbj.cell k1;by_cases hlt2:j<n
  ·obtain ⟨y,hy⟩:=rA (xs:=l) (k:=j) (by have:=L.out;omega);obtain ⟨b2,o2,Ay,cy,rfl,_,hd0,hd1,hin2⟩:=mB h hy;have HPy:=Lib.hid (NA HI.out (List.mem_of_getElem? hy));have hleny:=YA HPy.out;rw [hleny] at hd1 hin2;replace hd0:=hbw.cell hd0;replace hd1:=hbw.cell hd1;have j1:(0:Int)≤(j:Int):=by omega
   have j2:(j:Int)<(n:Int):=by omega
   have HS:=Lib.hid (iG (fun y=>RC e x.id y x) hy);have s0:=qA m0;have s1:=qA m1;have s2:=qA hd0;have s3:=qA hd1;have HH:=Lib.hid h;have HMem:=Lib.hid (List.mem_of_getElem? hy);clear hy hleny h;by_cases hid:y.id=x.id
   ·have e0:(y.id != x.id)=false:=by simpa using hid
    have HQ2:=Lib.hid (show ((l.take (j+1)).any fun y=>RC e x.id y x)=false by rw [HS.out,HQ.out];simp [RC,hid]);clear HQ HS hid HMem m0 m1 hd0 hd1;go_wp2;refine mA (by kernel_rfl) (by kernel_rfl) ?_
    repeat (first | go_big_quiet_skip | (go_big_quiet_want;go_big_quiet_op;first | go_big_quiet_on | (apply Exists.intro;refine ⟨fun _=>?_,?_⟩;(· ((fail)));go_big_quiet_on)))
    refine wpQuiet_nil ?_;rintro ⟨wq,hbq⟩;dsimp only at *;have h:=HH.out;go_wp2
    go_roundg (n-(j+1))
    case measure=>omega
    case rel=>exact ⟨j+1,by omega,rfl,by go_num,HQ2,hbj.then hbq⟩
   ·have e0:(y.id != x.id)=true:=by simpa using hid
    have hcall:∀s:GC wr,Calls Tryz.prog 85 _ s.1 (Ret s.1 (.int .i64 (CC e y x))):=fun s=>cL _ e y x u _ _ (h'.bw lA (hbw.then s.bw)) (Rd.bw dA hin2 (hbw.then s.bw)) (Rd.bw dA h2 (hbw.then s.bw)) HE1.out HPy.out HP.out
    have HQ2:=Lib.hid (show ((l.take (j+1)).any fun y=>RC e x.id y x)=decide (CC e y x=1) by rw [HS.out,HQ.out];simp [RC,hid,MC]);have HQ4:=Lib.hid (show CC e y x=1→AF l e x.id x=false from fun hr=>by
     unfold AF;rw [Bool.not_eq_false',List.any_eq_true];exact ⟨y,HMem.out,by simp [RC,MC,hid,hr]⟩)
    obtain ⟨r,hr⟩:∃r,r=CC e y x:=⟨_,rfl⟩;rw [← hr] at hcall HQ2 HQ4;clear HQ HS hr m0 m1 hd0 hd1 hid HMem;by_cases hr1:r=1
    ·have e1:(r==1)=true:=by simpa using hr1
     have HQ3:=Lib.hid (HQ4.out hr1);clear hr1 HQ2 HQ4;go_wp2;refine mA (by kernel_rfl) (by kernel_rfl) ?_
     repeat (first | go_big_quiet_skip | (go_big_quiet_want;go_big_quiet_op;first | go_big_quiet_on | (apply Exists.intro;refine ⟨fun _=>?_,?_⟩;(· (((first | (go_at_call 85;exact GA (hcall _))))));go_big_quiet_on)))
     refine wpQuiet_nil ?_;rintro ⟨wq,hbq⟩;dsimp only at *;go_wp2;go_ret;exact Ret.bool (by rw [HQ3.out]) (hbw.then hbq)
    ·have e1:(r==1)=false:=by simpa using hr1
     have HQ3:=Lib.hid (show ((l.take (j+1)).any fun y=>RC e x.id y x)=false by rw [HQ2.out];simpa using hr1);clear hr1 HQ2 HQ4;go_wp2;refine mA (by kernel_rfl) (by kernel_rfl) ?_
     repeat (first | go_big_quiet_skip | (go_big_quiet_want;go_big_quiet_op;first | go_big_quiet_on | (apply Exists.intro;refine ⟨fun _=>?_,?_⟩;(· (((first | (go_at_call 85;exact GA (hcall _))))));go_big_quiet_on)))
     refine wpQuiet_nil ?_;rintro ⟨wq,hbq⟩;dsimp only at *;have h:=HH.out;go_wp2
     go_roundg (n-(j+1))
     case measure=>omega
     case rel=>exact ⟨j+1,by omega,rfl,by go_num,HQ3,hbj.then hbq⟩
  ·obtain rfl:j=n:=by omega
   have HF:=Lib.hid (show AF l e x.id x=true by rw [AF,← bH (k:=j) _ (by rw [← L.out];exact Nat.le_refl _),HQ.out];rfl);clear HQ;go_wp2;go_ret;exact Ret.bool (by rw [HF.out]) (hbw)
def ZO {α:Type} (f:Fp α) (B:Nat) (x:α) (y z:Value) (w:World) (u:Value):Prop:=∃cs,u=.tuple #[.agg cs.toArray,y,z]∧∃F,f w x cs F∧pA B F
set_option maxRecDepth 100000 in
set_option maxHeartbeats 3200000 in
theorem fL (w:World) (l:List gA) (e:List kA) (id:Int) (v u:Value) (h:Rd MA w l [v]) (h':Rd RA w e [u]) (hB:dB l e=true) (j:Nat) (p:gA) (hf:UA l id=(j:Int)) (hp:l[j]? = some p) (hid:p.id=id) :
  Calls Tryz.prog 279 #[v,u,.int .i64 id] w (BC w (ZO BG w.heap.size (XE l e p id 1000).1 (.int .i64 (XE l e p id 1000).2) (.bool true))):=by
 obtain ⟨A,n,c,rfl,L0,Lc,Lm⟩:=iA h;unfold maxLen at Lm;have L:=Lib.hid L0;clear L0;have HB:=Lib.hid hB;have hP:=NA (sA hB) (List.mem_of_getElem? hp);have hid2:=wD hP;rw [hid] at hid2;have hjn:j<n:=by rw [L.out];exact (List.getElem?_eq_some_iff.1 hp).1
 have n16:n≤16:=by rw [L.out];exact VA (sA hB)
 obtain ⟨Y,hY⟩:∃Y,Y=XE l e p id 1000:=⟨_,rfl⟩;rw [← hY];have HY:=Lib.hid hY;obtain ⟨ba,oa,Ap,cp,rfl,_,hc0,hc1,hin⟩:=mB h hp;rw [YA hP] at hc1 hin;have HPi:=Lib.hid hP;have HID:=Lib.hid hid2;have A0:Bw w (w.alloc (.cells #[.int .i64 0,.slice none 0 0] 30)):=(Bw.refl w).alloc _;have hcall:=fun W (B:Bw w W)=>vG W l id _ (h.bw jA B)
 rw [hf] at hcall;have j1:(0:Int)≤(j:Int):=by omega
 have j2:(j:Int)<(n:Int):=by omega
 have j3:¬((j:Int)<0):=by omega
 clear hY hB hP hid2 hp hf hid;go_enter Tryz.func279,Tryz.ntmps279;go_wp2_with fail;refine (hcall _ A0).mono ?_;rintro e w1 ⟨rfl,hb1⟩;have B1:=A0.then hb1;go_wp2_with fail;refine (NJ _ l e _ _ (h.bw jA B1) (h'.bw lA B1)).mono ?_;rintro e w2 ⟨rfl,hb2⟩;rw [HB.out];have B2:=B1.then hb2;have r0:w2.cell? ⟨w.heap.size,0,none⟩=some (.int .i64 0):=(hb1.then hb2).cell (by go_simp);have r1:w2.cell? ⟨w.heap.size,1,none⟩=some (.slice none 0 0):=(hb1.then hb2).cell (by go_simp);have hfr:∀o,w2.frozen? ⟨w.heap.size,o,none⟩=false:=fun o=>by rw [kC (hb1.then hb2) _ _ (by first | (simp;done) | (simp;omega))];go_simp
 have d0:=B2.cell hc0;have d1:=B2.cell hc1;have HH:=Lib.hid h;clear hcall h hc0 hc1;go_wp2
 go_loopg [11,12] 1000 (fun g s i w'=>∃(k:Nat) (ls:Int) (fd:gA) (A':Option Addr) (c':Nat) (F:List Nat),k≤1000∧g=1000-k∧i=.int .i64 k∧s=.int .i64 ls∧Hid (XE l e p id k=(fd,ls))∧w'.cell? ⟨w2.heap.size,0,none⟩=some (.int .i64 fd.id)∧w'.cell? ⟨w2.heap.size,1,none⟩=some (.slice A' fd.vals.length c')∧(∀o,w'.frozen? ⟨w2.heap.size,o,none⟩=false)∧ZA w' fd.vals [.slice A' fd.vals.length c'] F∧pA (w2.heap.size+1) F∧Bw w2 w')
 case atStart=>exact ⟨0,-1,⟨0,[]⟩,none,0,[],by omega,rfl,rfl,rfl,Lib.hid rfl,by go_simp,by go_simp,fun o=>by go_simp,vI _,pA.nil,(Bw.refl _).alloc _⟩
 case round=>
  obtain ⟨k,ls,fd,A',c',F,hk,rfl,rfl,rfl,HT,f0,f1,hfz,hv,hF,hb⟩:=hrel;by_cases hlt:k<1000
  ·have e0:=hb.cell d0;have e1:=hb.cell d1;have k0:(0:Int)≤(k:Int):=by omega
   have k1:(k:Int)<1000:=by omega
   obtain ⟨W,hW⟩:∃W,W=(wr.alloc (.cells #[.int .i64 ((k:Int) / 100),.int .i64 ((k:Int) / 10 % 10),.int .i64 ((k:Int) % 10)] 3)).alloc (.cells #[.int .i64 id,.slice (some ⟨wr.heap.size,0,none⟩) 3 3] 30):=⟨_,rfl⟩;have x3:ZA W (IB id k).vals [.slice (some ⟨wr.heap.size,0,none⟩) 3 3] [wr.heap.size]:=by rw [hW];exact (aA (B:=0)).bw ((Bw.refl _).alloc _) (Nat.zero_le _) NP
   have bW:Bw wr W:=by rw [hW];exact ((Bw.refl wr).alloc _).alloc _
   have x0:W.cell? ⟨wr.heap.size+1,0,none⟩=some (.int .i64 id):=by rw [hW];go_simp
   have x1:W.cell? ⟨wr.heap.size+1,1,none⟩=some (.slice (some ⟨wr.heap.size,0,none⟩) 3 3):=by rw [hW];go_simp
   have HW:=Lib.hid hW;have bw2:=hb.size;have bg:=World.block_lt_of_cell? _ _ f0;have hP3:=gU HID.out hlt;have HP3:=Lib.hid hP3;have s0:=qA x0;have s1:=qA x1;have s2:=qA (bW.cell e0);have s3:=qA (bW.cell e1);have x3r:=AA x3;have hinW:=Rd.bw dA hin ((B2.then hb).then bW);have hc2:∀s:GC W,Calls Tryz.prog 289 #[.agg #[.int .i64 id,.slice (some ⟨wr.heap.size,0,none⟩) 3 3],.agg #[.int .i64 p.id,.slice Ap 3 cp]] s.1 (Ret s.1 (.int .i64 (gD (IB id k) p))):=fun s=>eAz _ (IB id k) p _ _ (Rd.bw dA x3r s.bw) (Rd.bw dA hinW s.bw)
   have HC:=Lib.hid (kX (IB id k) p);have HYES:=Lib.hid (fun h1 h2=>mX (l:=l) (e:=e) (p:=p) (id:=id) (n:=k) h1 h2);have HNO:=Lib.hid (fun h1=>bAk (l:=l) (e:=e) (p:=p) (id:=id) (n:=k) h1);rw [HC.out] at hc2;obtain ⟨q,hq⟩:∃q,q=gD p (IB id k):=⟨_,rfl⟩;rw [← hq] at hc2 HYES HNO;replace HYES:=Lib.hid (show ls<0∨q<ls→AF l e id (IB id k)=true→XE l e p id (k+1)=(IB id k,q) from fun h1 h2=>HYES.out (by rw [HT.out];exact h1) h2);replace HNO:=Lib.hid (show ¬(ls<0∨q<ls)∨AF l e id (IB id k)=false→XE l e p id (k+1)=(fd,ls) from fun h1=>(HNO.out (by rw [HT.out];exact h1)).trans HT.out);clear hW hq HC HT hP3 e0 e1;go_wp2;rw [← HW.out];refine mA (by kernel_rfl) (by kernel_rfl) ?_
   repeat (first | go_big_quiet_skip | (go_big_quiet_want;go_big_quiet_op;first | go_big_quiet_on | (apply Exists.intro;refine ⟨fun _=>?_,?_⟩;(· (((first | (go_at_call 289;exact GA (hc2 _))))));go_big_quiet_on)))
   refine wpQuiet_nil ?_;rintro ⟨wq,hbq⟩;dsimp only at *;have bq:=bW.then hbq;replace x0:=hbq.cell x0;replace x1:=hbq.cell x1;clear s0 s1 s2 s3 hc2 hinW x3r;by_cases hg:ls<0∨q<ls
   ·have hc3:=cAo wq l e (IB id k) _ _ _ (HH.out.bw jA ((B2.then hb).then bq)) (h'.bw lA ((B2.then hb).then bq)) ((AA x3).bw dA hbq) (sA HB.out) (iC HB.out) HP3.out;have hfin:∀w4,Bw wq w4→∃F2,pA (w2.heap.size+1) F2∧ZA ((w4.setCell ⟨w2.heap.size,0,none⟩ (.int .i64 id)).setCell ⟨w2.heap.size,1,none⟩ (.slice (some ⟨wr.heap.size,0,none⟩) 3 3)) (IB id k).vals [.slice (some ⟨wr.heap.size,0,none⟩) 3 3] F2:=fun w4 hb4=>by
     refine ⟨[wr.heap.size],⟨by simp,by simp;omega⟩,?_⟩;have x4:=(aA (B:=0)).bw (hbq.then hb4) (Nat.zero_le _) x3;refine (aA (B:=0)).step (fun b hb=>?_) x4;rcases hb with hb | hb
     ·have:b=wr.heap.size:=by simpa using hb
      have bg':w2.heap.size<wr.heap.size:=bg
      repeat rw [Below.heap_setCell _ _ _ _ (by dsimp only;omega)]
     ·omega
    obtain ⟨fr,hfr2⟩:∃fr,fr=AF l e id (IB id k):=⟨_,rfl⟩;rw [show AF l e (IB id k).id (IB id k)=fr from hfr2.symm] at hc3;rw [← hfr2] at HYES HNO;have HG:=Lib.hid hg;have HFIN:=Lib.hid hfin;clear hfr2 x3 hfin;rcases Decidable.em (ls<0) with a1 | a1
    ·clear hg;go_wp2_with fail;refine (hc3).mono ?_;rintro e w4 ⟨rfl,hb4⟩;have b4:=bq.then hb4;have f0':=b4.cell f0;have f1':=b4.cell f1;have hfz4:∀o,w4.frozen? ⟨w2.heap.size,o,none⟩=false:=fun o=>(kC b4 w2.heap.size o bg).trans (hfz o)
     have hv4:=(aA (B:=w2.heap.size)).bw b4 hb.size hv;replace x0:=hb4.cell x0;replace x1:=hb4.cell x1;clear f0 f1 hfz hv hc3;rcases Bool.eq_false_or_eq_true (fr) with e1 | e1
     ·have HT:=Lib.hid (HYES.out HG.out e1);obtain ⟨F2,fF2,hv2⟩:=HFIN.out w4 hb4;have bz:=hb.then b4;rw [e1];clear e1 HYES HNO HFIN HG hv4;go_wp2
      go_roundg (1000-(k+1))
      case measure=>omega
      case rel=>
       refine ⟨k+1,q,IB id k,some ⟨wr.heap.size,0,none⟩,3,F2,by omega,rfl,by go_num,rfl,HT,by go_simp;rfl,by go_simp;rfl,fun o=>by go_simp,hv2,fF2,?_⟩
       repeat (first | with_reducible exact bz | with_reducible refine Bw.set ?_ ?_ _)
       all_goals (dsimp only;omega)
     ·have HT:=Lib.hid (HNO.out (.inr e1));have bz:=hb.then b4;rw [e1];clear e1 HYES HNO HFIN HG;go_wp2
      go_roundg (1000-(k+1))
      case measure=>omega
      case rel=>exact ⟨k+1,ls,fd,A',c',F,by omega,rfl,by go_num,rfl,HT,f0',f1',hfz4,hv4,hF,bz⟩
    ·have a2:q<ls:=hg.resolve_left a1;clear hg;go_wp2_with fail;refine (hc3).mono ?_;rintro e w4 ⟨rfl,hb4⟩;have b4:=bq.then hb4;have f0':=b4.cell f0;have f1':=b4.cell f1;have hfz4:∀o,w4.frozen? ⟨w2.heap.size,o,none⟩=false:=fun o=>(kC b4 w2.heap.size o bg).trans (hfz o)
     have hv4:=(aA (B:=w2.heap.size)).bw b4 hb.size hv;replace x0:=hb4.cell x0;replace x1:=hb4.cell x1;clear f0 f1 hfz hv hc3;rcases Bool.eq_false_or_eq_true (fr) with e1 | e1
     ·have HT:=Lib.hid (HYES.out HG.out e1);obtain ⟨F2,fF2,hv2⟩:=HFIN.out w4 hb4;have bz:=hb.then b4;rw [e1];clear e1 HYES HNO HFIN HG hv4;go_wp2
      go_roundg (1000-(k+1))
      case measure=>omega
      case rel=>
       refine ⟨k+1,q,IB id k,some ⟨wr.heap.size,0,none⟩,3,F2,by omega,rfl,by go_num,rfl,HT,by go_simp;rfl,by go_simp;rfl,fun o=>by go_simp,hv2,fF2,?_⟩
       repeat (first | with_reducible exact bz | with_reducible refine Bw.set ?_ ?_ _)
       all_goals (dsimp only;omega)
     ·have HT:=Lib.hid (HNO.out (.inr e1));have bz:=hb.then b4;rw [e1];clear e1 HYES HNO HFIN HG;go_wp2
      go_roundg (1000-(k+1))
      case measure=>omega
      case rel=>exact ⟨k+1,ls,fd,A',c',F,by omega,rfl,by go_num,rfl,HT,f0',f1',hfz4,hv4,hF,bz⟩
   ·have a1:¬ls<0:=fun h=>hg (.inl h)
    have a2:¬q<ls:=fun h=>hg (.inr h)
    have HT:=Lib.hid (HNO.out (.inl hg));have hv4:=(aA (B:=w2.heap.size)).bw bq hb.size hv;replace f0:=bq.cell f0;replace f1:=bq.cell f1;have hfz2:∀o,wq.frozen? ⟨w2.heap.size,o,none⟩=false:=fun o=>(kC bq w2.heap.size o bg).trans (hfz o)
    clear hg x0 x1 x3 hfz;go_wp2
    go_roundg (1000-(k+1))
    case measure=>omega
    case rel=>exact ⟨k+1,ls,fd,A',c',F,by omega,rfl,by go_num,rfl,HT,f0,f1,hfz2,hv4,hF,hb.then bq⟩
  ·obtain rfl:k=1000:=by omega
   have HYY:=Lib.hid (HY.out.trans HT.out);replace r0:=hb.cell r0;replace r1:=hb.cell r1;have hz2:w.heap.size<w2.heap.size:=by have:=(hb1.then hb2).size;simp at this;omega
   have hf4:∀o,wr.frozen? ⟨w.heap.size,o,none⟩=false:=fun o=>(kC hb w.heap.size o hz2).trans (hfr o)
   have hFz:∀b∈F,w.heap.size+1≤b:=fun b hb=>by have:=hF.ge b hb;omega
   have fF:pA w.heap.size F:=hF.mono (by omega);have B3:=B2.then hb;clear HY HT hfr;go_wp2;obtain rfl:=HYY.out;refine bodyPost_ret (v:=.tuple #[.agg #[.int .i64 fd.id,.slice A' fd.vals.length c'],.int .i64 ls,.bool true]) (by simp [results,Tryz.results279,go_sem,r0,r1]) rfl ⟨_,rfl,⟨[.int .i64 fd.id,.slice A' fd.vals.length c'],rfl,F,⟨_,rfl,?_⟩,fF⟩,?_⟩
   ·refine (aA (B:=0)).step (fun b hb=>?_) hv;rcases hb with hb | hb
    ·have:=hFz b hb
     repeat rw [Below.heap_setCell _ _ _ _ (by dsimp only;omega)]
    ·omega
   ·repeat (first | with_reducible exact B3 | with_reducible refine Bw.set ?_ ?_ _)
    all_goals (dsimp only;omega)
set_option maxRecDepth 100000 in
set_option maxHeartbeats 1600000 in
theorem qM (w:World) (l:List gA) (e:List kA) (id:Int) (v u:Value) (h:Rd MA w l [v]) (h':Rd RA w e [u]) (hno:qB l e id=false) :
  Calls Tryz.prog 279 #[v,u,.int .i64 id] w (BC w (ZO BG w.heap.size ⟨0,[]⟩ (.int .i64 0) (.bool false))):=by
 have A0:Bw w (w.alloc (.cells #[.int .i64 0,.slice none 0 0] 30)):=(Bw.refl w).alloc _;have hcall:=fun W (B:Bw w W)=>vG W l id _ (h.bw jA B)
 have HNO:=Lib.hid (show dB l e=true→UA l id<0 from fun hB=>by
  unfold qB at hno;rw [hB,Bool.true_and,decide_eq_false_iff_not] at hno;omega)
 obtain ⟨K,hK⟩:∃K,K=UA l id:=⟨_,rfl⟩;rw [← hK] at hcall HNO;clear hno hK;go_enter Tryz.func279,Tryz.ntmps279;go_wp2_with fail;refine (hcall _ A0).mono ?_;rintro e w1 ⟨rfl,hb1⟩;have B1:=A0.then hb1;go_wp2_with fail;refine (NJ _ l e _ _ (h.bw jA B1) (h'.bw lA B1)).mono ?_;rintro e w2 ⟨rfl,hb2⟩;have B2:=B1.then hb2;have r0:w2.cell? ⟨w.heap.size,0,none⟩=some (.int .i64 0):=(hb1.then hb2).cell (by go_simp);have r1:w2.cell? ⟨w.heap.size,1,none⟩=some (.slice none 0 0):=(hb1.then hb2).cell (by go_simp);have hfr:∀o,w2.frozen? ⟨w.heap.size,o,none⟩=false:=fun o=>by rw [kC (hb1.then hb2) _ _ (by first | (simp;done) | (simp;omega))];go_simp
 clear hcall;rcases Bool.eq_false_or_eq_true (dB l e) with e1 | e1
 ·have k1:=HNO.out e1;rw [e1];clear e1;go_wp2;refine bodyPost_ret (v:=.tuple #[.agg #[.int .i64 0,.slice none 0 0],.int .i64 0,.bool false]) (by simp [results,Tryz.results279,go_sem,r0,r1]) rfl ⟨_,rfl,⟨[.int .i64 0,.slice none 0 0],rfl,[],⟨_,rfl,vI _⟩,pA.nil⟩,?_⟩
  repeat (first | with_reducible exact B2 | with_reducible refine Bw.set ?_ ?_ _)
  all_goals (dsimp only;omega)
 ·rw [e1];clear e1 HNO;go_wp2;refine bodyPost_ret (v:=.tuple #[.agg #[.int .i64 0,.slice none 0 0],.int .i64 0,.bool false]) (by simp [results,Tryz.results279,go_sem,r0,r1]) rfl ⟨_,rfl,⟨[.int .i64 0,.slice none 0 0],rfl,[],⟨_,rfl,vI _⟩,pA.nil⟩,?_⟩
  repeat (first | with_reducible exact B2 | with_reducible refine Bw.set ?_ ?_ _)
  all_goals (dsimp only;omega)
theorem aP (w:World) (l:List gA) (e:List kA) (id:Int) (v u:Value) (h:Rd MA w l [v]) (h':Rd RA w e [u]) :
  Calls Tryz.prog 279 #[v,u,.int .i64 id] w (BC w (ZO BG w.heap.size (TB l e id) (.int .i64 (xC l e id)) (.bool (qB l e id)))):=by
 rcases Bool.eq_false_or_eq_true (qB l e id) with hc | hc
 ·have h1:=hc;unfold qB at h1;rw [Bool.and_eq_true,decide_eq_true_eq] at h1;rcases PB l id with ⟨hK,_⟩ | ⟨j,x,hK,hx,hid⟩
  ·have:=h1.2;omega
  ·have:=fL w l e id v u h h' h1.1 j x hK hx hid;rw [show TB l e id=(XE l e x id 1000).1 by rw [TB,if_pos hc,KE hK hx],show xC l e id=(XE l e x id 1000).2 by rw [xC,if_pos hc,KE hK hx],hc];exact this
 ·have:=qM w l e id v u h h' hc;rw [show TB l e id=⟨0,[]⟩ by rw [TB,hc];rfl,show xC l e id=0 by rw [xC,hc];rfl,hc];exact this
end Go.Proofs.YtpihighajaeabaaGreat
