/- An element is taken from the midst of a list of the call's own: append(xs[:k], xs[k+1:]...). -/
import Derived.Test.YtpihighajaeabaaGreatQSortT
import Derived.Test.YtpihighajaeabaaGreatQFmtP
import Derived.Test.YtpihighajaeabaaGreatQDelS2
import Derived.Test.YtpihighajaeabaaGreatQInsI
import Derived.Test.YtpihighajaeabaaGreatQCopies
import Derived.Test.YtpihighajaeabaaGreatQFind
namespace Go.Proofs.YtpihighajaeabaaGreat
open Go.RowKit
set_option linter.unusedVariables false
set_option linter.unusedSimpArgs false
set_option maxRecDepth 100000 in
set_option maxHeartbeats 6400000 in
theorem NT (w:World) (s:tA) (id:Int) (va vb vc:Value) (ha:Rd MA w s.items [va]) (hb:Rd RA w s.wanted [vb]) (hc:Rd XA w s.best [vc]) :
  Calls Tryz.prog 22 #[.agg #[va,vb,vc,.int .i64 s.tests],.int .i64 id] w (BC w (pF ZA w.heap.size (KD s id))):=by
 obtain ⟨i0,hi,hz0,hz1,hz2⟩:=info_parts PC;obtain ⟨A,n,c,rfl,L0,Lc,Lm⟩:=iA ha;unfold maxLen at Lm;have L:=Lib.hid L0;clear L0;obtain ⟨B,m,c2,rfl,M0,Mc,Mm⟩:=iA hc;unfold maxLen at Mm;have M:=Lib.hid M0;clear M0;obtain ⟨W0,hW0⟩:∃W0,W0=w.alloc (.cells #[.slice A n c,vb,.slice B m c2,.int .i64 s.tests] 28):=⟨_,rfl⟩;have B0:Bw w W0:=by rw [hW0];exact (Bw.refl w).alloc _
 have z0:W0.cell? ⟨w.heap.size,0,none⟩=some (.slice A n c):=by rw [hW0];go_simp
 have z1:W0.cell? ⟨w.heap.size,1,none⟩=some vb:=by rw [hW0];go_simp
 have z2:W0.cell? ⟨w.heap.size,2,none⟩=some (.slice B m c2):=by rw [hW0];go_simp
 have z3:W0.cell? ⟨w.heap.size,3,none⟩=some (.int .i64 s.tests):=by rw [hW0];go_simp
 have hs0:W0.heap.size=w.heap.size+1:=by rw [hW0];simp
 have HS0:=Lib.hid hs0;obtain ⟨Y,hY⟩:∃Y,Y=KD s id:=⟨_,rfl⟩;rw [← hY];have HY:=Lib.hid hY;clear hY;have HW0:=Lib.hid hW0;have hv0:=PA (e:=3) (sz:=1) (R:=RG) W0;have A0:Bw W0 (W0.alloc (.cells #[] 3)):=(Bw.refl W0).alloc _;have y0:=A0.cell z0;have y1:=A0.cell z1;have y2:=A0.cell z2;have y3:=A0.cell z3;have hst:=fun W (b:Bw w W)=>VE W s _ _ _ (ha.bw jA b) (hb.bw lA b) (hc.bw dA b)
 have HC:=Lib.hid hc;have HA:=Lib.hid ha;have HST:=Lib.hid hst;have hYs:(W0.alloc (.cells #[] 3)).heap.size=W0.heap.size+1:=by simp
 rw [hs0] at hv0;clear hW0 hst ha hc hs0;obtain ⟨Y0,hY0⟩:∃Y0,Y0=W0.alloc (.cells #[] 3):=⟨_,rfl⟩;rw [← hY0] at y0 y1 y2 y3 A0 hv0;have HY0:=Lib.hid hY0;clear hY0 hYs;go_enter Tryz.func22,Tryz.ntmps22;go_wp2_with fail;rw [← HW0.out,← HY0.out];refine (HST.out _ (B0.then A0)).mono ?_;rintro e w1 ⟨rfl,hb1⟩;replace y0:=hb1.cell y0;replace y1:=hb1.cell y1;replace y2:=hb1.cell y2;have C1:=A0.then hb1;have hv1:=(aA (B:=W0.heap.size)).bw hb1 A0.size hv0;rcases Bool.eq_false_or_eq_true (tB s) with e1 | e1
 ·have E1:=Lib.hid e1;rw [e1];clear e1;go_wp2_with fail;refine (CD _ s.best id _ (HC.out.bw dA (B0.then C1))).mono ?_;rintro e w2 ⟨rfl,hb2⟩;replace y0:=hb2.cell y0;replace y1:=hb2.cell y1;replace y2:=hb2.cell y2;have C2:=C1.then hb2;have hv2:=(aA (B:=W0.heap.size)).bw hb2 C1.size hv1;rcases Bool.eq_false_or_eq_true (s.best.contains id) with e2 | e2
  ·have E2:=Lib.hid e2;rw [e2];clear e2;have HB:=Lib.hid (ZB E1.out).1;have HI:=Lib.hid (sA HB.out);have n16:n≤16:=by rw [L.out];exact VA HI.out
   have hidm:id∈s.best:=by simpa using E2.out
   have HIDM:=Lib.hid hidm;clear hidm hv1 hv0 C1 z0 z1 z2 z3 y3;obtain ⟨f,hf⟩:∃f,f=dAc s id:=⟨_,rfl⟩;have HF:=Lib.hid hf;clear hf;go_wp2
   go_loopg [5,26] n (fun g t i w'=>∃(k:Nat) (F:List Nat),k≤n∧g=n-k∧i=.int .i64 k∧ZA w' (UF f s.items k) [t] F∧pA W0.heap.size F∧w'.cell? ⟨w.heap.size,0,none⟩=some (.slice A n c)∧w'.cell? ⟨w.heap.size,1,none⟩=some vb∧w'.cell? ⟨w.heap.size,2,none⟩=some (.slice B m c2)∧Bw W0 w')
   case atStart=>exact ⟨0,_,by omega,rfl,rfl,hv2,⟨by simp,fun b hb=>by have:=HS0.out;simp at hb;omega⟩,y0,y1,y2,C2⟩
   case round=>
    clear hv2 C2 y0 y1 y2;obtain ⟨k,F,hk,rfl,rfl,hv,hF,y0,y1,y2,hbb⟩:=hrel;obtain ⟨wo,hwo⟩:∃wo,wo=wr:=⟨_,rfl⟩;subst hwo;have bw0:=B0.then hbb;have ha:=HA.out.bw jA bw0;by_cases hlt:k<n
    ·obtain ⟨x,hx⟩:=rA (xs:=s.items) (k:=k) (by have:=L.out;omega);obtain ⟨bx,ox,Ax,cx,rfl,_,hd0,hd1,hin2⟩:=mB ha hx;have HPx:=Lib.hid (NA HI.out (List.mem_of_getElem? hx));have hlen:=YA HPx.out;rw [hlen] at hd1 hin2;have i1:(0:Int)≤(k:Int):=by omega
     have i2:(k:Int)<(n:Int):=by omega
     have HYES:=Lib.hid (fun hf=>WL (f:=f) hx hf);have HNO:=Lib.hid (fun hf=>UN (f:=f) hx hf);have HFX:=Lib.hid (show f x=decide (byL s x=[id]) by rw [HF.out,iAn E1.out HIDM.out (List.mem_of_getElem? hx)]);have hwz:w.heap.size<wo.heap.size:=World.block_lt_of_cell? _ _ y0;have D0:Bw wo (wo.alloc (.cells #[.int .i64 x.id,.slice Ax 3 cx] 30)):=(Bw.refl wo).alloc _;obtain ⟨W1,hW1⟩:∃W1,W1=wo.alloc (.cells #[.int .i64 x.id,.slice Ax 3 cx] 30):=⟨_,rfl⟩;have kx0:W1.cell? ⟨wo.heap.size,0,none⟩=some (.int .i64 x.id):=by rw [hW1];go_simp
     have hW1s:W1.heap.size=wo.heap.size+1:=by rw [hW1];simp
     rw [← hW1] at D0;have D1:Bw W1 (W1.alloc (.cells #[] 3)):=(Bw.refl W1).alloc _;have hby0:=PA (e:=3) (sz:=1) (R:=RG) W1;rw [hW1s] at hby0;obtain ⟨W2,hW2⟩:∃W2,W2=W1.alloc (.cells #[] 3):=⟨_,rfl⟩;have hW2s:W2.heap.size=wo.heap.size+2:=by rw [hW2];simp [hW1s]
     rw [← hW2] at D1 hby0;have D2:=D0.then D1;replace kx0:=D1.cell kx0;have hdom:=fH W2 s.items s.wanted x.id _ _ (ha.bw jA D2) (hb.bw lA (bw0.then D2));have k0:=D2.cell y0;have k1:=D2.cell y1;have k2:=D2.cell y2;have HW1:=Lib.hid hW1;have HW2:=Lib.hid hW2;have HW2S:=Lib.hid hW2s;have HAA:=Lib.hid ha;have hb2o:=D2;clear hx hlen hW1 hW2 ha hin2 hW1s hW2s k0 k1 k2;go_wp2_with fail;rw [← HW1.out,← HW2.out];refine hdom.mono ?_;rintro e w5 ⟨vd,rfl,⟨FD,od,fd⟩,hb5⟩;have D5:=D2.then hb5;have hby5:=(aA (B:=0)).bw hb5 (Nat.zero_le _) hby0;replace kx0:=hb5.cell kx0;have zD:∀z∈FD,z∉[wo.heap.size+1]:=fun z hz=>by have:=fd.ge z hz;have:=HW2S.out;simp only [List.mem_singleton];omega
     have hw5s:wo.heap.size+2≤w5.heap.size:=by have:=hb5.size;have:=HW2S.out;omega
     obtain ⟨D,hD⟩:∃D,D=tD s.items s.wanted x.id 1:=⟨_,rfl⟩;have HBE:=Lib.hid (show ∀k,D.length≤k→pP s D k=byL s x from fun k h=>by rw [hD];exact fAu (by rw [← hD];exact h));rw [← hD] at od;have hdl:D.length≤s.items.length:=by rw [hD];exact kG _ _ _ _
     rw [← L.out] at hdl;have hodr:=AA od;obtain ⟨A3,n3,c3,rfl,L30,L3c,L3m⟩:=iA hodr;unfold maxLen at L3m;have L3:=Lib.hid L30;clear L30;rw [← L3.out] at hdl;have OD:=Lib.hid od;have ZD:=Lib.hid zD;have HW5:=Lib.hid hw5s;have HKX:=Lib.hid kx0;clear hD hodr od zD hdom hby0 D0 D1 hb2o fd hd0 hd1;go_wp2
     go_loopg [8,39] n3 (fun g t i2 w'=>∃(j:Nat) (FB:List Nat),j≤n3∧g=n3-j∧i2=.int .i64 j∧ZA w' (pP s D j) [t] FB∧pA wo.heap.size FB∧Bw wo w'∧SB [wo.heap.size+1] w5 w'∧Hid (∀z∈FB,z=wo.heap.size+1∨w5.heap.size≤z))
     case atStart=>exact ⟨0,_,by omega,rfl,rfl,hby5,⟨by simp,by simp⟩,D5,SB.refl _ _,Lib.hid (fun z hz=>.inl (by simpa using hz))⟩
     case round=>
      clear hby5;obtain ⟨j,FB,hj,rfl,rfl,hbv,hFB,hbj,hO5,HFB⟩:=hrel;have t0:=hbj.cell y0;have t1:=hbj.cell y1;have t2:=hbj.cell y2;have bwj:=bw0.then hbj;by_cases hlt2:j<n3
      ·obtain ⟨d,hd⟩:=rA (xs:=D) (k:=j) (by have:=L3.out;omega);obtain ⟨bb,ob,rfl,_,hcd⟩:=GB (AA (hO5.keeps aA OD.out ZD.out)) hd;have i3:(0:Int)≤(j:Int):=by omega
       have i4:(j:Int)<(n3:Int):=by omega
       have HBY:=Lib.hid (fun h=>fAt (s:=s) hd h);have HBN:=Lib.hid (fun h=>hAq (s:=s) hd h);clear hd;go_wp2_with fail;refine (CD _ s.best d _ (HC.out.bw dA bwj)).mono ?_;rintro e w6 ⟨rfl,hb6⟩;have hb6o:=hbj.then hb6;have hbv6:=(aA (B:=wo.heap.size)).bw hb6 hbj.size hbv;have hO6:=hO5.then (hb6.only []) (by simp);rcases Bool.eq_false_or_eq_true (s.best.contains d) with e3 | e3
       ·have HB2:=Lib.hid (HBY.out e3);rw [e3];clear e3;have HBL:=Lib.hid (fAv (s:=s) (D:=D) (k:=j));have hFm:=(aA (B:=0)).lt hbv6;have A3':Bw w6 (w6.alloc (.cells #[.int .i64 d] 3)):=(Bw.refl w6).alloc _;have hvW:=(aA (B:=wo.heap.size)).bw A3' hb6o.size hbv6;have hbW:=hb6o.then A3';have hOW:=Lib.hid (hO6.then (A3'.only []) (by simp));have hcl:=cell_one_new w6 (.int .i64 d) 3;have hbs:=hb6o.size;clear hbv6 hbv hO5 hO6;go_wp2_with (at_builtin;refine mC _ rfl (.tmp 47) (.tmp 49) 26 rfl wo 3 i0 _ 1 8 Tryz.underlying26 hi hz0 hz1 hz2 rfl (by omega) nB _ (pP s D j) FB rfl hvW hFB ⟨w6.heap.size,0,none⟩ 1 rfl d [.int .i64 d] [] hcl ⟨rfl,rfl⟩ rfl _ hFm pA.nil hbs (by have:=HBL.out;omega) (by have:=HBL.out;omega) hbW ?_;intro v' w' F' hv' hF' hb' hO' hs');have hOn:=SB.push hOW.out hO' HFB.out;have HF':=Lib.hid (show ∀z∈F',z=wo.heap.size+1∨w5.heap.size≤z from fun z hz=>(hs' z hz).elim (fun h=>HFB.out z h) (fun h=>h.elim (fun h=>by simp at h) (fun h=>.inr (Nat.le_trans hOW.out.1 h))))
        go_roundg (n3-(j+1))
        case measure=>omega
        case rel=>exact ⟨j+1,F',by omega,rfl,by go_num,by rw [HB2.out];exact hv',hF',hb',hOn,HF'⟩
       ·have HB2:=Lib.hid (HBN.out e3);rw [e3];clear e3;go_wp2
        go_roundg (n3-(j+1))
        case measure=>omega
        case rel=>exact ⟨j+1,FB,by omega,rfl,by go_num,by rw [HB2.out];exact hbv6,hFB,hb6o,hO6,HFB⟩
      ·obtain rfl:j=n3:=by omega
       rw [HBE.out _ (by rw [← L3.out];exact Nat.le_refl _)] at hbv;have kk0:=hO5.cell HKX.out (by simp);have bbj:=hbb.then hbj;have hv1:=(aA (B:=W0.heap.size)).bw hbj hbb.size hv;obtain ⟨BY,hBY⟩:∃BY,BY=byL s x:=⟨_,rfl⟩;rw [← hBY] at hbv HFX;have hbr:=AA hbv;obtain ⟨A5,n5,c5,rfl,L50,L5c,L5m⟩:=iA hbr;unfold maxLen at L5m;have L5:=Lib.hid L50;clear L50;clear hBY hv hbv hlt2;by_cases h1:n5=1
       ·subst h1;obtain ⟨d0,hd0⟩:∃d0,BY=[d0]:=by
         have:=L5.out
         match BY,this with
         | [d0],_=>exact ⟨d0,rfl⟩
        obtain ⟨bb,ob,rfl,_,hcd⟩:=GB (k:=0) hbr (x:=d0) (by rw [hd0];rfl);rw [Nat.add_zero] at hcd;by_cases hdd:d0=id
        ·have e0:(d0==id)=true:=by simpa using hdd
         have HB2:=Lib.hid (HYES.out (by rw [HFX.out,hd0,hdd];simp));have HBL:=Lib.hid (YL (f:=f) (l:=s.items) (k:=k));have hFm:=(aA (B:=0)).lt hv1;have A3':Bw wr (wr.alloc (.cells #[.int .i64 x.id] 3)):=(Bw.refl wr).alloc _;have hvW:=(aA (B:=W0.heap.size)).bw A3' bbj.size hv1;have hbW:=bbj.then A3';have hcl:=cell_one_new wr (.int .i64 x.id) 3;have hbs:=bbj.size;have hzz:w.heap.size<W0.heap.size:=by have:=HS0.out;omega
         clear hv1 hd0 hdd hbr HYES HNO;go_wp2_with (at_builtin;refine rB _ rfl (.tmp 62) (.tmp 65) 26 rfl W0 3 i0 _ 1 8 Tryz.underlying26 hi hz0 hz1 hz2 rfl (by omega) nB _ (UF f s.items k) F rfl hvW hF ⟨wr.heap.size,0,none⟩ 1 rfl x.id [.int .i64 x.id] [] hcl ⟨rfl,rfl⟩ rfl _ hFm pA.nil hbs (by have:=HBL.out;omega) (by have:=HBL.out;omega) hbW ?_;intro v' w' F' hv' hF' hb';have hcell:∀o u,wr.cell? ⟨w.heap.size,o,none⟩=some u→w'.cell? ⟨w.heap.size,o,none⟩=some u:=(fun o u h=>(Below.cell hb' (p:=⟨w.heap.size,o,none⟩) hzz).trans ((Below.cell bbj (p:=⟨w.heap.size,o,none⟩) hzz).symm.trans h));replace t0:=hcell _ _ t0;replace t1:=hcell _ _ t1;replace t2:=hcell _ _ t2;clear hcell)
         go_roundg (n-(k+1))
         case measure=>omega
         case rel=>exact ⟨k+1,F',by omega,rfl,by go_num,by rw [HB2.out];exact hv',hF',t0,t1,t2,hb'⟩
        ·have e0:(d0==id)=false:=by simpa using hdd
         have HB2:=Lib.hid (HNO.out (by rw [HFX.out,hd0];simpa using hdd));clear hdd hd0 hbr;go_wp2
         go_roundg (n-(k+1))
         case measure=>omega
         case rel=>exact ⟨k+1,F,by omega,rfl,by go_num,by rw [HB2.out];exact hv1,hF,t0,t1,t2,bbj⟩
       ·have e0:((n5:Int)==1)=false:=by
         rw [beq_eq_false_iff_ne];omega
        have HB2:=Lib.hid (HNO.out (by
         rw [HFX.out,decide_eq_false_iff_not];intro h;have:=L5.out;rw [h] at this;simp at this;omega))
        clear h1 hbr;go_wp2
        go_roundg (n-(k+1))
        case measure=>omega
        case rel=>exact ⟨k+1,F,by omega,rfl,by go_num,by rw [HB2.out];exact hv1,hF,t0,t1,t2,bbj⟩
    ·obtain rfl:k=n:=by omega
     rw [XL (by rw [← L.out];exact Nat.le_refl _),HF.out,← AY E1.out E2.out,← HY.out] at hv;go_wp2;go_ret;exact ⟨_,rfl,⟨F,hv,hF.mono B0.size⟩,bw0⟩
  ·have E2:=Lib.hid (YV (s:=s) (id:=id) (by rw [E1.out,e2];rfl));rw [e2];rw [← E2.out,← HY.out] at hv2;clear e2;go_wp2;go_ret;exact ⟨_,rfl,⟨_,hv2,⟨by simp,by simp⟩⟩,B0.then C2⟩
 ·have E2:=Lib.hid (YV (s:=s) (id:=id) (by rw [e1];rfl));rw [e1];rw [← E2.out,← HY.out] at hv1;clear e1;go_wp2;go_ret;exact ⟨_,rfl,⟨_,hv1,⟨by simp,by simp⟩⟩,B0.then C1⟩
end Go.Proofs.YtpihighajaeabaaGreat
namespace Go.Proofs.YtpihighajaeabaaGreat
open Go.RowKit
set_option linter.unusedVariables false
set_option linter.unusedSimpArgs false
set_option maxRecDepth 100000 in
set_option maxHeartbeats 6400000 in
theorem zQ (w:World) (s:tA) (id:Int) (va vb vc:Value) (ha:Rd MA w s.items [va]) (hb:Rd RA w s.wanted [vb]) (hc:Rd XA w s.best [vc]) (t1:eC s.items≤1048576) (t2:tC s.wanted≤1048576) (t3:s.best.length≤1048576) (hno:oF s id=false) :
  Calls Tryz.prog 18 #[.agg #[va,vb,vc,.int .i64 s.tests],.int .i64 id] w (BC w (xQ aC w.heap.size s (.bool false))):=by
 obtain ⟨K,hK⟩:∃K,K=UA s.items id:=⟨_,rfl⟩;have HK:=Lib.hid hK;clear hK;obtain ⟨A,n,c,rfl,L0,Lc,Lm⟩:=iA ha;unfold maxLen at Lm;have L:=Lib.hid L0;clear L0;obtain ⟨B,m,c4,rfl,M0,Mc,Mm⟩:=iA hc;unfold maxLen at Mm;have M:=Lib.hid M0;clear M0;obtain ⟨W0,hW0⟩:∃W0,W0=(w.alloc (.cells #[.slice A n c,vb,.slice B m c4,.int .i64 s.tests] 28)).alloc (.cells #[.slice none 0 0,.slice none 0 0,.slice none 0 0,.int .i64 0] 28):=⟨_,rfl⟩;have A0:Bw w W0:=by rw [hW0];exact ((Bw.refl w).alloc _).alloc _
 have bS:Box W0 w.heap.size [.slice A n c,vb,.slice B m c4,.int .i64 s.tests]:=by rw [hW0];exact (Box.new w #[.slice A n c,vb,.slice B m c4,.int .i64 s.tests] 28).bw ((Bw.refl _).alloc _)
 have bR:Box W0 (w.heap.size+1) [.slice none 0 0,.slice none 0 0,.slice none 0 0,.int .i64 0]:=by
  have:=Box.new (w.alloc (.cells #[.slice A n c,vb,.slice B m c4,.int .i64 s.tests] 28)) #[.slice none 0 0,.slice none 0 0,.slice none 0 0,.int .i64 0] 28;rw [show (w.alloc (.cells #[.slice A n c,vb,.slice B m c4,.int .i64 s.tests] 28)).heap.size=w.heap.size+1 from by simp] at this;rw [hW0];exact this
 have z0:W0.heap.size=w.heap.size+2:=by rw [hW0];simp
 have hcopy:=ED W0 s _ vb _ (ha.bw jA A0) (hb.bw lA A0) (hc.bw dA A0) t1 t2 t3;have HW0:=Lib.hid hW0;clear hW0;go_enter Tryz.func18,Tryz.ntmps18;go_wp2_with fail;rw [← HW0.out];refine hcopy.mono ?_;rintro e w1 ⟨cs,F0,rfl,oS,fS,hb1⟩;obtain ⟨A1,c1,A2,c2,A3,c3,rfl⟩:=NC oS;obtain ⟨F1,F2,F3,o1,o2,o3,rfl⟩:=XC oS;obtain ⟨m1,hm1⟩:∃m,m=s.items.length:=⟨_,rfl⟩;obtain ⟨m2,hm2⟩:∃m,m=s.wanted.length:=⟨_,rfl⟩;obtain ⟨m3,hm3⟩:∃m,m=s.best.length:=⟨_,rfl⟩;rw [← hm1] at o1;rw [← hm2] at o2;rw [← hm3] at o3;dsimp only;rw [← hm1,← hm2,← hm3];have bS1:=(bS.bw hb1).bw ((Bw.refl w1).alloc (.cells #[.slice A1 m1 c1,.slice A2 m2 c2,.slice A3 m3 c3,.int .i64 s.tests] 28));have y0:=bS1.c 0 _ rfl;have y1:=bS1.c 1 _ rfl;have y2:=bS1.c 2 _ rfl;have y3:=bS1.c 3 _ rfl;have HM1:=Lib.hid hm1;have HM2:=Lib.hid hm2;have HM3:=Lib.hid hm3;clear hm1 hm2 hm3;go_wp2_with fail;obtain ⟨V,hV⟩:∃V,V=w1.alloc (.cells #[.slice A1 m1 c1,.slice A2 m2 c2,.slice A3 m3 c3,.int .i64 s.tests] 28):=⟨_,rfl⟩;have A1':Bw w1 V:=by rw [hV];exact (Bw.refl w1).alloc _
 have bO:Box V w1.heap.size [.slice A1 m1 c1,.slice A2 m2 c2,.slice A3 m3 c3,.int .i64 s.tests]:=by rw [hV];exact Box.new w1 #[.slice A1 m1 c1,.slice A2 m2 c2,.slice A3 m3 c3,.int .i64 s.tests] 28
 have zV:V.heap.size=w1.heap.size+1:=by rw [hV];simp
 have BV:Bw w V:=A0.then (hb1.then A1');replace bS:=bS.bw (hb1.then A1');replace bR:=bR.bw (hb1.then A1');have zw:w.heap.size+2≤w1.heap.size:=by have:=hb1.size;omega
 have lS:=(oD (B:=0)).lt oS;replace o1:=xA A1' yA o1;replace o2:=xA A1' nA o2;replace o3:=xA A1' aA o3;have fV:pA (w.heap.size+2) (F1++(F2++F3)):=fS.mono (by omega);have HLS:=Lib.hid lS;have HV:=Lib.hid hV;have k1:=Lib.hid (fun W (B:Bw V W)=>VE W s _ vb _ (ha.bw jA (BV.then B)) (hb.bw lA (BV.then B)) (hc.bw dA (BV.then B)));have k3:=Lib.hid (fun W (B:Bw V W)=>QC W s.items id _ (ha.bw jA (BV.then B)));obtain ⟨b6,hb6⟩:∃b,b=w1.heap.size:=⟨_,rfl⟩;rw [← hb6] at bO zV zw lS;have HB6:=Lib.hid hb6;rw [← HV.out,← HB6.out];clear hV oS fS hcopy hb1 A0 hb6 lS y0 y1 y2 y3 bS1;have hcall:=k3.out _ (Bw.refl V);rw [← HK.out] at hcall;have y0:=bS.c 0 _ rfl;go_wp2_with fail;refine hcall.mono ?_;rintro e w2 ⟨rfl,hb2⟩;clear y0;have bS2:=bS.bw hb2;have y0:=bS2.c 0 _ rfl;have y1:=bS2.c 1 _ rfl;have y2:=bS2.c 2 _ rfl;have y3:=bS2.c 3 _ rfl;have yf:=bS2.fr;have hcall:=k1.out _ hb2;clear bS2;go_wp2_with fail;refine hcall.mono ?_;rintro e w3 ⟨rfl,hb3⟩;have hB3:=hb2.then hb3;clear y0 y1 y2 y3 yf;rcases Bool.eq_false_or_eq_true (tB s) with e1 | e1
 ·have E1:=Lib.hid e1;rw [e1];clear e1;by_cases hK0:K<0
  ·clear hno;have bR2:=bR.bw hB3;have bO2:=bO.bw hB3;have r0:=bR2.c 0 _ rfl;have r1:=bR2.c 1 _ rfl;have r2:=bR2.c 2 _ rfl;have r3:=bR2.c 3 _ rfl;have rf:=bR2.fr;have q0:=bO2.c 0 _ rfl;have q1:=bO2.c 1 _ rfl;have q2:=bO2.c 2 _ rfl;have q3:=bO2.c 3 _ rfl;have qf:=bO2.fr;have hBB:=BV.then hB3;have p1:=xA hB3 yA o1;have p2:=xA hB3 nA o2;have p3:=xA hB3 aA o3;clear bR2 bO2 o1 o2 o3 bR bO;go_wp2;rw [HM1.out] at p1 ⊢;rw [HM2.out] at p2 ⊢;rw [HM3.out] at p3 ⊢;refine bodyPost_ret (v:=.tuple #[.agg #[.slice A1 s.items.length c1,.slice A2 s.wanted.length c2,.slice A3 s.best.length c3,.int .i64 s.tests],.bool false]) (by simp [results,Tryz.results18,go_sem,r0,r1,r2,r3]) rfl (cD p1 p2 p3 (fV.mono (by omega)) (by omega) hBB)
  ·have hK1:¬K<(0:Int):=hK0;have ht0:999900<s.tests:=by
    rcases Decidable.em (999900<s.tests) with h | h
    ·exact h
    ·exfalso
     have h2:oF s id=true:=by
      unfold oF;rw [E1.out,decide_eq_true (show 0≤UA s.items id by rw [← HK.out];omega),decide_eq_true (show s.tests≤999900 by omega)];rfl
     rw [h2] at hno;cases hno
   have bS3:=bS.bw hB3;have y0:=bS3.c 0 _ rfl;have y1:=bS3.c 1 _ rfl;have y2:=bS3.c 2 _ rfl;have y3:=bS3.c 3 _ rfl;have yf:=bS3.fr;clear hno bS3;have bR2:=bR.bw hB3;have bO2:=bO.bw hB3;have r0:=bR2.c 0 _ rfl;have r1:=bR2.c 1 _ rfl;have r2:=bR2.c 2 _ rfl;have r3:=bR2.c 3 _ rfl;have rf:=bR2.fr;have q0:=bO2.c 0 _ rfl;have q1:=bO2.c 1 _ rfl;have q2:=bO2.c 2 _ rfl;have q3:=bO2.c 3 _ rfl;have qf:=bO2.fr;have hBB:=BV.then hB3;have p1:=xA hB3 yA o1;have p2:=xA hB3 nA o2;have p3:=xA hB3 aA o3;clear bR2 bO2 o1 o2 o3 bR bO;go_wp2;rw [HM1.out] at p1 ⊢;rw [HM2.out] at p2 ⊢;rw [HM3.out] at p3 ⊢;refine bodyPost_ret (v:=.tuple #[.agg #[.slice A1 s.items.length c1,.slice A2 s.wanted.length c2,.slice A3 s.best.length c3,.int .i64 s.tests],.bool false]) (by simp [results,Tryz.results18,go_sem,r0,r1,r2,r3]) rfl (cD p1 p2 p3 (fV.mono (by omega)) (by omega) hBB)
 ·rw [e1];clear e1 hno;have bR2:=bR.bw hB3;have bO2:=bO.bw hB3;have r0:=bR2.c 0 _ rfl;have r1:=bR2.c 1 _ rfl;have r2:=bR2.c 2 _ rfl;have r3:=bR2.c 3 _ rfl;have rf:=bR2.fr;have q0:=bO2.c 0 _ rfl;have q1:=bO2.c 1 _ rfl;have q2:=bO2.c 2 _ rfl;have q3:=bO2.c 3 _ rfl;have qf:=bO2.fr;have hBB:=BV.then hB3;have p1:=xA hB3 yA o1;have p2:=xA hB3 nA o2;have p3:=xA hB3 aA o3;clear bR2 bO2 o1 o2 o3 bR bO;go_wp2;rw [HM1.out] at p1 ⊢;rw [HM2.out] at p2 ⊢;rw [HM3.out] at p3 ⊢;refine bodyPost_ret (v:=.tuple #[.agg #[.slice A1 s.items.length c1,.slice A2 s.wanted.length c2,.slice A3 s.best.length c3,.int .i64 s.tests],.bool false]) (by simp [results,Tryz.results18,go_sem,r0,r1,r2,r3]) rfl (cD p1 p2 p3 (fV.mono (by omega)) (by omega) hBB)
end Go.Proofs.YtpihighajaeabaaGreat
namespace Go.Proofs.YtpihighajaeabaaGreat
open Go.RowKit
set_option linter.unusedVariables false
section
variable {α:Type} {R:α→List Value→List Nat→Prop}
theorem IU:∀ {xs:List α} {us:List (List Value)} {fs:List (List Nat)} (k:Nat),dG R xs us fs→dG R (xs.take k) (us.take k) (fs.take k)
 | [],[],[],k,_=>by simp [dG]
 | x::xs,u::us,f::fs,0,_=>by simp [dG]
 | x::xs,u::us,f::fs,k+1,h=>⟨h.1,IU k h.2⟩
theorem JU:∀ {xs:List α} {us:List (List Value)} {fs:List (List Nat)} (k:Nat),dG R xs us fs→dG R (xs.drop k) (us.drop k) (fs.drop k)
 | [],[],[],k,_=>by simp [dG]
 | x::xs,u::us,f::fs,0,h=>h
 | x::xs,u::us,f::fs,k+1,h=>JU k h.2
theorem kW {xs:List α} {us:List (List Value)} {fs:List (List Nat)} (k:Nat) (h:dG R xs us fs):dG R (xs.take k++xs.drop (k+1)) (us.take k++us.drop (k+1)) (fs.take k++fs.drop (k+1)):=AG (IU k h) (JU (k+1) h)
end
theorem dAl {us:List (List Value)} {sz k:Nat} (h:∀u∈us,u.length=sz) (hk:k≤us.length):us.flatten.take (k*sz)=(us.take k).flatten:=by
 have hl:(us.take k).flatten.length=k*sz:=by
  rw [GE (sz:=sz) (fun u hu=>h u (List.mem_of_mem_take hu)),List.length_take,Nat.min_eq_left hk]
 conv=>lhs;rw [← List.take_append_drop k us,List.flatten_append]
 rw [← hl,List.take_left]
theorem dAm {us:List (List Value)} {sz k:Nat} (h:∀u∈us,u.length=sz) (hk:k≤us.length):us.flatten.drop (k*sz)=(us.drop k).flatten:=by
 have hl:(us.take k).flatten.length=k*sz:=by
  rw [GE (sz:=sz) (fun u hu=>h u (List.mem_of_mem_take hu)),List.length_take,Nat.min_eq_left hk]
 conv=>lhs;rw [← List.take_append_drop k us,List.flatten_append]
 rw [← hl,List.drop_left]
theorem aAv {Fs:List (List Nat)} {k:Nat}:(Fs.take k++Fs.drop (k+1)).flatten.Sublist Fs.flatten:=by
 rw [List.flatten_append]
 conv=>rhs;rw [← List.take_append_drop k Fs,List.flatten_append]
 refine List.Sublist.append (List.Sublist.refl _) ?_;rcases h:Fs.drop k with _ | ⟨f,l⟩
 ·have:Fs.drop (k+1)=[]:=by rw [← List.drop_drop,h];rfl
  rw [this];exact List.Sublist.refl _
 ·have:Fs.drop (k+1)=l:=by rw [← List.drop_drop,h];rfl
  rw [this,List.flatten_cons];exact List.sublist_append_right _ _
section
variable {P:Program}
theorem nI {α:Type} {ops:Array Oper} {o:Oper} {a:Act} {K:Act→World→Prop} {Q:Exit→Act→World→Prop} {E:Prop} (W:World) (hgd:o.guard=none) (s x:Operand) (t:TypeId)
  (ho:o.op=.call { callee:=.builtin .append,args:=#[s,x],argTypes:=#[t,t] })
  (w0:World) (e:TypeId) (i:TypeInfo) (z:Value) (sz bytes:Nat) (ht:P.underlying t=some (.slice e)) (hi:P.info? e=some i) (hz:i.zero=some z)
  (hsize:i.size=sz) (hby:i.bytes=bytes) (hzs:z.cells.size=sz) (hsz:0<sz)
  {R:Fp α} (hR:VB w0.heap.size R) (g n c:Nat) (xs:List α) (F:List Nat) (hv:fSl e sz R W xs [.slice (some ⟨g,0,none⟩) n c] F) (hF:pA w0.heap.size F)
  (k:Nat) (hk:k<n) (hs:a.eval s=.slice (some ⟨g,0,none⟩) k c) (ad:Addr) (l c':Nat) (hx:a.eval x=.slice (some ad) l c') (hln:l=n-(k+1)) (had:k+1<n→ad=⟨g,(k+1)*sz,none⟩)
  (hbytes:n*bytes≤140737488355328) (hlen:n<4611686018427387904) (hbw:Bw w0 W)
  (h:∀v' w' F',fSl e sz R w' (xs.take k++xs.drop (k+1)) [v'] F'→pA w0.heap.size F'→Bw w0 w'→SB F W w'→(∀b∈F',b∈F∨W.heap.size≤b)→K (a.put o.dst v') w'):if Region.wanted o (yielded ops a.tmps)=true then Oper.wp P o a W K Q else E:=by
 have hw:Region.wanted o (yielded ops a.tmps)=true:=by simp [Region.wanted,hgd]
 rw [if_pos hw];subst hln;obtain ⟨v0,us,Fs,hv0,hown,hall,hFe⟩:=hv;injection hv0 with hv0;have hl:=EE hall;have hus:∀u∈us,u.length=sz:=fun u hu=>by obtain ⟨x,f,hr⟩:=RE hall hu;exact hr.2
 rcases hown.2 with ⟨h0,_⟩ | ⟨g',cap,cur,hv1,_,hb,h1,h2,h3,h4⟩
 ·rw [← hv0] at h0;cases h0
 rw [← hv0] at hv1;injection hv1 with e1 e2 e3;injection e1 with e1;injection e1 with e1;subst e1 e3;have hn:us.length=n:=by rw [hl.1,e2]
 have hpre:W.ownsRow 0 e sz (.slice (some ⟨g,0,none⟩) k c) k (us.take k).flatten:=by
  refine ⟨by rw [GE (sz:=sz) (fun u hu=>hus u (List.mem_of_mem_take hu)),List.length_take,Nat.min_eq_left (by omega)],.inr ⟨g,c,cur,rfl,Nat.zero_le _,hb,by omega,h2,h3,?_⟩⟩;rw [← dAl hus (by omega),← h4,List.take_take,Nat.min_eq_left (Nat.mul_le_mul_right _ (by omega))]
 have hnl:(us.drop (k+1)).flatten.length=(n-(k+1))*sz:=by rw [GE (sz:=sz) (fun u hu=>hus u (List.mem_of_mem_drop hu)),List.length_drop,hn]
 have hnews:∀j u,(us.drop (k+1)).flatten[j]? = some u→W.cell? (ad.add j)=some u:=by
  intro j u hj;have hjl:j<(n-(k+1))*sz:=by rw [← hnl];exact (List.getElem?_eq_some_iff.1 hj).1
  have hkn:k+1<n:=by
   rcases Nat.lt_or_ge (k+1) n with h | h
   ·exact h
   ·rw [show n-(k+1)=0 from by omega] at hjl;omega
  rw [had hkn,show (⟨g,(k+1)*sz,none⟩:Addr).add j=⟨g,(k+1)*sz+j,none⟩ by
   unfold Addr.add
   split
   ·rename_i h0;subst h0;rfl
   ·rfl]
  rw [cell_of_row W g _ cur e (0,0) hb];rw [← dAm hus (by omega),List.getElem?_drop,← h4,List.getElem?_take] at hj
  split at hj
  ·rw [← hj];simp
  ·cases hj
 have hone:∀u∈(us.drop (k+1)).flatten,u.oneCell'=true:=fun u hu=>by
  obtain ⟨l,hl',hul⟩:=List.mem_flatten.1 hu;obtain ⟨y,f,hr⟩:=RE hall (List.mem_of_mem_drop hl');exact hR.one hr.1 u hul
 have hvg:w0.heap.size≤g:=hF.ge g (by rw [hFe,← hv0];simp [Value.ownBlock]);have hgF:g∈F:=by rw [hFe,← hv0];simp [Value.ownBlock]
 obtain ⟨v',w',hrun,hown',hgrow,_,hat⟩:=run_append_own_at (P:=P) W 0 t o.type e i z sz bytes ht hi hz hsize hby hzs hsz _ k _ hpre ad (n-(k+1)) c' (us.drop (k+1)).flatten hnl hnews hone
  (by simp only [maxLen];omega) (by rw [show k+(n-(k+1))=n-1 from by omega];exact Nat.le_trans (Nat.mul_le_mul_right _ (by omega)) hbytes) (Nat.zero_le _)
 have hbw':Bw w0 w':=hbw.grown hgrow (fun k' hk'=>by simp [Value.ownBlock] at hk';omega);have hnd:=hF.nodup;rw [hFe,← hv0] at hnd;simp only [Value.ownBlock,Option.toList,List.singleton_append,List.nodup_cons] at hnd;have hsub:=aAv (Fs:=Fs) (k:=k);have hlts:∀b∈Fs.flatten,b<W.heap.size:=fun b hb=>(xB hR).lt (⟨v0,us,Fs,rfl,hown,hall,rfl⟩:fSl e sz R W xs [v0] _) b (List.mem_append_right _ hb)
 have hold:∀b,b<w0.heap.size→w'.heap[b]? = W.heap[b]?:=fun b hb=>hgrow.block b (Nat.lt_of_lt_of_le hb hbw.size) (fun e=>by simp [Value.ownBlock] at e;omega)
 unfold Oper.wp execOp;simp only [ho,resolve,invoke,builtin,Sem.run_bind,Sem.run_pure,Result.andThen_ok,List.map_toArray,List.map_cons,List.map_nil,hs,hx,hrun];refine h v' w' (v'.ownBlock.toList++(Fs.take k++Fs.drop (k+1)).flatten) ⟨v',us.take k++us.drop (k+1),Fs.take k++Fs.drop (k+1),rfl,?_,?_,rfl⟩ ⟨?_,?_⟩ hbw' ⟨hgrow.size,fun b hb hn=>hgrow.block b hb (fun e=>by simp [Value.ownBlock] at e;exact hn (e▸hgF))⟩ ?_
 ·rw [List.flatten_append,List.length_append,List.length_take,List.length_drop,show min k xs.length+(xs.length-(k+1))=k+(n-(k+1)) from by omega];exact hown'
 ·refine rF (fun y u f' hf' hy=>⟨hR.step (fun b hb=>?_) hy.1,hy.2⟩) (kW k hall);rcases hb with hb | hb
  ·have hb':b∈Fs.flatten:=hsub.subset (List.mem_flatten.2 ⟨_,hf',hb⟩);exact hgrow.block b (hlts b hb') (fun e=>by simp [Value.ownBlock] at e;exact hnd.1 (e▸hb'))
  ·exact hold b hb
 ·rw [List.nodup_append];refine ⟨by cases v'.ownBlock<;>simp,hnd.2.sublist hsub,fun p hp q hq e=>?_⟩;subst e;have hp':v'.ownBlock=some p:=by simpa using hp
  have hq':=hsub.subset hq;rcases hat with e | e
  ·rw [hp'] at e;simp [Value.ownBlock] at e;exact hnd.1 (e▸hq')
  ·rw [hp'] at e;injection e with e;have:=hlts p hq';omega
 ·intro b hb;rcases List.mem_append.1 hb with hb | hb
  ·have hb':v'.ownBlock=some b:=by simpa using hb
   rcases hat with e | e
   ·rw [hb'] at e;simp [Value.ownBlock] at e;omega
   ·rw [hb'] at e;injection e with e;have:=hbw.size;omega
  ·exact hF.ge b (by rw [hFe];exact List.mem_append_right _ (hsub.subset hb))
 ·intro b hb;rcases List.mem_append.1 hb with hb | hb
  ·have hb':v'.ownBlock=some b:=by simpa using hb
   rcases hat with e | e
   ·rw [hb'] at e;simp [Value.ownBlock] at e;exact .inl (e▸hgF)
   ·rw [hb'] at e;injection e with e;exact .inr (by omega)
  ·exact .inl (by rw [hFe];exact List.mem_append_right _ (hsub.subset hb))
end
end Go.Proofs.YtpihighajaeabaaGreat
