/- Pairs as text, in both programs. -/
import Derived.Test.YtpihighajaeabaaGreatQBestS
import Derived.Test.YtpihighajaeabaaGreatQFind
import Derived.Test.YtpihighajaeabaaGreatQReach
import Derived.Test.YtpihighajaeabaaGreatQWishS
import Derived.Test.YtpihighajaeabaaGreatQAbove
namespace Go.Proofs.YtpihighajaeabaaGreat
open Go.RowKit
set_option linter.unusedVariables false
set_option linter.unusedSimpArgs false
theorem AJ {l:List gA} {e:List kA} (h:dB l e=true):BA l e=mD l e:=by rw [BA,if_pos h]
set_option maxRecDepth 100000 in
set_option maxHeartbeats 3200000 in
theorem VE (w:World) (x:tA) (va vb vc:Value) (ha:Rd MA w x.items [va]) (hb:Rd RA w x.wanted [vb]) (hc:Rd XA w x.best [vc]) :
  Calls Tryz.prog 16 #[.agg #[va,vb,vc,.int .i64 x.tests]] w (Ret w (.bool (tB x))):=by
 have B0:Bw w (w.alloc (.cells #[va,vb,vc,.int .i64 x.tests] 28)).drew:=((Bw.refl w).alloc _).drew;have q0:(w.alloc (.cells #[va,vb,vc,.int .i64 x.tests] 28)).drew.cell? ⟨w.heap.size,0,none⟩=some va:=by go_simp
 have q1:(w.alloc (.cells #[va,vb,vc,.int .i64 x.tests] 28)).drew.cell? ⟨w.heap.size,1,none⟩=some vb:=by go_simp
 have q2:(w.alloc (.cells #[va,vb,vc,.int .i64 x.tests] 28)).drew.cell? ⟨w.heap.size,2,none⟩=some vc:=by go_simp
 have q3:(w.alloc (.cells #[va,vb,vc,.int .i64 x.tests] 28)).drew.cell? ⟨w.heap.size,3,none⟩=some (.int .i64 x.tests):=by go_simp
 have ka:=ha.bw jA B0;have kb:=hb.bw lA B0;have kc:=hc.bw dA B0;clear ha hb hc;rcases Bool.eq_false_or_eq_true (dB x.items x.wanted) with e1 | e1
 ·by_cases e2:x.best=mD x.items x.wanted
  ·have d2:decide (x.best=mD x.items x.wanted)=true:=by simpa using e2
   have E1:=Lib.hid e1;have D2:=Lib.hid d2;rcases Bool.eq_false_or_eq_true (inB x.tests 0 1000000) with e3 | e3
   ·have HF:=Lib.hid (show tB x=true by rw [tB,e1,d2,e3];rfl);clear e2;go_enter Tryz.func16,Tryz.ntmps16;go_wp2_with fail
    go_region_held3 (fun w'=>w'.cell? ⟨w.heap.size,0,none⟩=some va∧w'.cell? ⟨w.heap.size,1,none⟩=some vb∧w'.cell? ⟨w.heap.size,2,none⟩=some vc∧w'.cell? ⟨w.heap.size,3,none⟩=some (.int .i64 x.tests)) (first | go_keep | exact ⟨q0,q1,q2,q3⟩)
     (first
      | (go_at_call 92;refine (lD (JD _ x.items x.wanted _ _ ka kb) (congrArg Value.bool e1)).mono ?_;rintro e w1 ⟨rfl,hb1⟩;replace q0:=hb1.cell q0;replace q1:=hb1.cell q1;replace q2:=hb1.cell q2;replace q3:=hb1.cell q3;have B1:=B0.then hb1;replace ka:=ka.bw jA hb1;replace kb:=kb.bw lA hb1;replace kc:=kc.bw dA hb1)
      | (go_at_call 37;refine (IG _ x.items x.wanted _ _ ka kb).mono ?_;rintro e w2 ⟨v2,rfl,⟨F2,o2,f2⟩,hb2⟩;rw [AJ E1.out] at o2;replace q0:=hb2.cell q0;replace q1:=hb2.cell q1;replace q2:=hb2.cell q2;replace q3:=hb2.cell q3;have B2:=B1.then hb2;replace kc:=kc.bw dA hb2)
      | (go_at_call 93;refine (lD (jF _ x.best (mD x.items x.wanted) _ _ kc (AA o2)) (congrArg Value.bool d2)).mono ?_;rintro e w3 ⟨rfl,hb3⟩;replace q0:=hb3.cell q0;replace q1:=hb3.cell q1;replace q2:=hb3.cell q2;replace q3:=hb3.cell q3;have B3:=B2.then hb3)
      | (go_at_call 94;refine (lD (JC _ _ _ _) (congrArg Value.bool e3)).mono ?_;rintro e w4 ⟨rfl,hb4⟩;replace q0:=hb4.cell q0;replace q1:=hb4.cell q1;replace q2:=hb4.cell q2;replace q3:=hb4.cell q3;have B4:=B3.then hb4))
    go_wp2;go_ret;exact Ret.bool HF.out.symm B4
   ·have HF:=Lib.hid (show tB x=false by rw [tB,e1,d2,e3];rfl);clear e2;go_enter Tryz.func16,Tryz.ntmps16;go_wp2_with fail
    go_region_held3 (fun w'=>w'.cell? ⟨w.heap.size,0,none⟩=some va∧w'.cell? ⟨w.heap.size,1,none⟩=some vb∧w'.cell? ⟨w.heap.size,2,none⟩=some vc∧w'.cell? ⟨w.heap.size,3,none⟩=some (.int .i64 x.tests)) (first | go_keep | exact ⟨q0,q1,q2,q3⟩)
     (first
      | (go_at_call 92;refine (lD (JD _ x.items x.wanted _ _ ka kb) (congrArg Value.bool e1)).mono ?_;rintro e w1 ⟨rfl,hb1⟩;replace q0:=hb1.cell q0;replace q1:=hb1.cell q1;replace q2:=hb1.cell q2;replace q3:=hb1.cell q3;have B1:=B0.then hb1;replace ka:=ka.bw jA hb1;replace kb:=kb.bw lA hb1;replace kc:=kc.bw dA hb1)
      | (go_at_call 37;refine (IG _ x.items x.wanted _ _ ka kb).mono ?_;rintro e w2 ⟨v2,rfl,⟨F2,o2,f2⟩,hb2⟩;rw [AJ E1.out] at o2;replace q0:=hb2.cell q0;replace q1:=hb2.cell q1;replace q2:=hb2.cell q2;replace q3:=hb2.cell q3;have B2:=B1.then hb2;replace kc:=kc.bw dA hb2)
      | (go_at_call 93;refine (lD (jF _ x.best (mD x.items x.wanted) _ _ kc (AA o2)) (congrArg Value.bool d2)).mono ?_;rintro e w3 ⟨rfl,hb3⟩;replace q0:=hb3.cell q0;replace q1:=hb3.cell q1;replace q2:=hb3.cell q2;replace q3:=hb3.cell q3;have B3:=B2.then hb3)
      | (go_at_call 94;refine (lD (JC _ _ _ _) (congrArg Value.bool e3)).mono ?_;rintro e w4 ⟨rfl,hb4⟩;replace q0:=hb4.cell q0;replace q1:=hb4.cell q1;replace q2:=hb4.cell q2;replace q3:=hb4.cell q3;have B4:=B3.then hb4))
    go_wp2;go_ret;exact Ret.bool HF.out.symm B4
  ·have d2:decide (x.best=mD x.items x.wanted)=false:=by simpa using e2
   have E1:=Lib.hid e1;have HF:=Lib.hid (show tB x=false by rw [tB,e1,d2];rfl);clear e2;go_enter Tryz.func16,Tryz.ntmps16;go_wp2_with fail;refine wp_region_noPanic ?_;refine wp_region_held_drew (S:=(fun w'=>w'.cell? ⟨w.heap.size,0,none⟩=some va∧w'.cell? ⟨w.heap.size,1,none⟩=some vb∧w'.cell? ⟨w.heap.size,2,none⟩=some vc∧w'.cell? ⟨w.heap.size,3,none⟩=some (.int .i64 x.tests))) (by kernel_rfl) ?_ (fun hHeld=>?_)
   ·exact ⟨q0,q1,q2,q3⟩
   refine wpAnyH_take (i:=0) (oi:=_) (v:=?_) rfl (by kernel_rfl) (by kernel_rfl) (by kernel_rfl) (fun _ _ _ h=>h) (Or.inl ⟨by rfl,?_⟩) (by assumption) ?_;rotate_left 1
   ·(intro wS hSw;(try dsimp only at hSw);go_simp;try with_reducible rfl)
   try simp only [Act.put,List.getElem_toArray,List.getElem_cons_zero,List.getElem_cons_succ,List.setIfInBounds_toArray,List.set_cons_zero,List.set_cons_succ]
   refine wpAnyH_take (i:=1) (oi:=_) (v:=?_) rfl (by kernel_rfl) (by kernel_rfl) (by kernel_rfl) (fun _ _ _ h=>h) (Or.inl ⟨by rfl,?_⟩) (by assumption) ?_;rotate_left 1
   ·(intro wS hSw;(try dsimp only at hSw);go_simp;try with_reducible rfl)
   try simp only [Act.put,List.getElem_toArray,List.getElem_cons_zero,List.getElem_cons_succ,List.setIfInBounds_toArray,List.set_cons_zero,List.set_cons_succ]
   refine wpAnyH_take (i:=2) (oi:=_) (v:=?_) rfl (by kernel_rfl) (by kernel_rfl) (by kernel_rfl) (fun _ _ _ h=>h) (Or.inl ⟨by rfl,?_⟩) (by assumption) ?_;rotate_left 1
   ·(intro wS hSw;(try dsimp only at hSw);go_simp;try with_reducible rfl)
   try simp only [Act.put,List.getElem_toArray,List.getElem_cons_zero,List.getElem_cons_succ,List.setIfInBounds_toArray,List.set_cons_zero,List.set_cons_succ]
   refine wpAnyH_take (i:=3) (oi:=_) (v:=?_) rfl (by kernel_rfl) (by kernel_rfl) (by kernel_rfl) (fun _ _ _ h=>h) (Or.inl ⟨by rfl,?_⟩) (by assumption) ?_;rotate_left 1
   ·(intro wS hSw;(try dsimp only at hSw);go_simp;try with_reducible rfl)
   try simp only [Act.put,List.getElem_toArray,List.getElem_cons_zero,List.getElem_cons_succ,List.setIfInBounds_toArray,List.set_cons_zero,List.set_cons_succ]
   refine wpAnyH_ready (rs:=[4]) (by kernel_rfl) (by simp) (AllReadyH.cons (o:=_) rfl (fun K hK=>?_) AllReadyH.nil)
   go_simp
   refine (lD (JD _ x.items x.wanted _ _ ka kb) (congrArg Value.bool e1)).mono ?_;rintro e w1 ⟨rfl,hb1⟩;replace q0:=hb1.cell q0;replace q1:=hb1.cell q1;replace q2:=hb1.cell q2;replace q3:=hb1.cell q3;have B1:=B0.then hb1;replace ka:=ka.bw jA hb1;replace kb:=kb.bw lA hb1;replace kc:=kc.bw dA hb1;refine hK.out _ _ ⟨q0,q1,q2,q3⟩ (fun hHeld=>?_);clear hK K
   try simp only [Act.put,List.getElem_toArray,List.getElem_cons_zero,List.getElem_cons_succ,List.setIfInBounds_toArray,List.set_cons_zero,List.set_cons_succ]
   refine wpAnyH_take (i:=5) (oi:=_) (v:=?_) rfl (by kernel_rfl) (by kernel_rfl) (by kernel_rfl) (fun _ _ _ h=>h) (Or.inl ⟨by rfl,?_⟩) (by assumption) ?_;rotate_left 1
   ·(intro wS hSw;(try dsimp only at hSw);go_simp;try with_reducible rfl)
   try simp only [Act.put,List.getElem_toArray,List.getElem_cons_zero,List.getElem_cons_succ,List.setIfInBounds_toArray,List.set_cons_zero,List.set_cons_succ]
   refine wpAnyH_take (i:=6) (oi:=_) (v:=?_) rfl (by kernel_rfl) (by kernel_rfl) (by kernel_rfl) (fun _ _ _ h=>h) (Or.inl ⟨by rfl,?_⟩) (by assumption) ?_;rotate_left 1
   ·(intro wS hSw;(try dsimp only at hSw);go_simp;try with_reducible rfl)
   try simp only [Act.put,List.getElem_toArray,List.getElem_cons_zero,List.getElem_cons_succ,List.setIfInBounds_toArray,List.set_cons_zero,List.set_cons_succ]
   refine wpAnyH_take (i:=7) (oi:=_) (v:=?_) rfl (by kernel_rfl) (by kernel_rfl) (by kernel_rfl) (fun _ _ _ h=>h) (Or.inl ⟨by rfl,?_⟩) (by assumption) ?_;rotate_left 1
   ·(intro wS hSw;(try dsimp only at hSw);go_simp;try with_reducible rfl)
   try simp only [Act.put,List.getElem_toArray,List.getElem_cons_zero,List.getElem_cons_succ,List.setIfInBounds_toArray,List.set_cons_zero,List.set_cons_succ]
   refine wpAnyH_take (i:=8) (oi:=_) (v:=?_) rfl (by kernel_rfl) (by kernel_rfl) (by kernel_rfl) (fun _ _ _ h=>h) (Or.inl ⟨by rfl,?_⟩) (by assumption) ?_;rotate_left 1
   ·(intro wS hSw;(try dsimp only at hSw);go_simp;try with_reducible rfl)
   try simp only [Act.put,List.getElem_toArray,List.getElem_cons_zero,List.getElem_cons_succ,List.setIfInBounds_toArray,List.set_cons_zero,List.set_cons_succ]
   refine wpAnyH_take (i:=9) (oi:=_) (v:=?_) rfl (by kernel_rfl) (by kernel_rfl) (by kernel_rfl) (fun _ _ _ h=>h) (Or.inl ⟨by rfl,?_⟩) (by assumption) ?_;rotate_left 1
   ·(intro wS hSw;(try dsimp only at hSw);go_simp;try with_reducible rfl)
   try simp only [Act.put,List.getElem_toArray,List.getElem_cons_zero,List.getElem_cons_succ,List.setIfInBounds_toArray,List.set_cons_zero,List.set_cons_succ]
   refine wpAnyH_take (i:=10) (oi:=_) (v:=?_) rfl (by kernel_rfl) (by kernel_rfl) (by kernel_rfl) (fun _ _ _ h=>h) (Or.inl ⟨by rfl,?_⟩) (by assumption) ?_;rotate_left 1
   ·(intro wS hSw;(try dsimp only at hSw);go_simp;try with_reducible rfl)
   try simp only [Act.put,List.getElem_toArray,List.getElem_cons_zero,List.getElem_cons_succ,List.setIfInBounds_toArray,List.set_cons_zero,List.set_cons_succ]
   refine wpAnyH_take (i:=11) (oi:=_) (v:=?_) rfl (by kernel_rfl) (by kernel_rfl) (by kernel_rfl) (fun _ _ _ h=>h) (Or.inl ⟨by rfl,?_⟩) (by assumption) ?_;rotate_left 1
   ·(intro wS hSw;(try dsimp only at hSw);go_simp;try with_reducible rfl)
   try simp only [Act.put,List.getElem_toArray,List.getElem_cons_zero,List.getElem_cons_succ,List.setIfInBounds_toArray,List.set_cons_zero,List.set_cons_succ]
   refine wpAnyH_ready (rs:=[12]) (by kernel_rfl) (by simp) (AllReadyH.cons (o:=_) rfl (fun K hK=>?_) AllReadyH.nil)
   go_simp
   refine (IG _ x.items x.wanted _ _ ka kb).mono ?_;rintro e w2 ⟨v2,rfl,⟨F2,o2,f2⟩,hb2⟩;rw [AJ E1.out] at o2;replace q0:=hb2.cell q0;replace q1:=hb2.cell q1;replace q2:=hb2.cell q2;replace q3:=hb2.cell q3;have B2:=B1.then hb2;replace kc:=kc.bw dA hb2;refine hK.out _ _ ⟨q0,q1,q2,q3⟩ (fun hHeld=>?_);clear hK K
   try simp only [Act.put,List.getElem_toArray,List.getElem_cons_zero,List.getElem_cons_succ,List.setIfInBounds_toArray,List.set_cons_zero,List.set_cons_succ]
   refine wpAnyH_ready (rs:=[13]) (by kernel_rfl) (by simp) (AllReadyH.cons (o:=_) rfl (fun K hK=>?_) AllReadyH.nil)
   go_simp
   refine (lD (jF _ x.best (mD x.items x.wanted) _ _ kc (AA o2)) (congrArg Value.bool d2)).mono ?_;rintro e w3 ⟨rfl,hb3⟩;replace q0:=hb3.cell q0;replace q1:=hb3.cell q1;replace q2:=hb3.cell q2;replace q3:=hb3.cell q3;have B3:=B2.then hb3;refine hK.out _ _ ⟨q0,q1,q2,q3⟩ (fun hHeld=>?_);clear hK K
   try simp only [Act.put,List.getElem_toArray,List.getElem_cons_zero,List.getElem_cons_succ,List.setIfInBounds_toArray,List.set_cons_zero,List.set_cons_succ]
   refine wpAnyH_take (i:=14) (oi:=_) (v:=?_) rfl (by kernel_rfl) (by kernel_rfl) (by kernel_rfl) (fun _ _ _ h=>h) (Or.inl ⟨by rfl,?_⟩) (by assumption) ?_;rotate_left 1
   ·(intro wS hSw;(try dsimp only at hSw);go_simp;try with_reducible rfl)
   try simp only [Act.put,List.getElem_toArray,List.getElem_cons_zero,List.getElem_cons_succ,List.setIfInBounds_toArray,List.set_cons_zero,List.set_cons_succ]
   refine wpAnyH_take (i:=15) (oi:=_) (v:=?_) rfl (by kernel_rfl) (by kernel_rfl) (by kernel_rfl) (fun _ _ _ h=>h) (Or.inl ⟨by rfl,?_⟩) (by assumption) ?_;rotate_left 1
   ·(intro wS hSw;(try dsimp only at hSw);go_simp;try with_reducible rfl)
   try simp only [Act.put,List.getElem_toArray,List.getElem_cons_zero,List.getElem_cons_succ,List.setIfInBounds_toArray,List.set_cons_zero,List.set_cons_succ]
   refine wpAnyH_take (i:=16) (oi:=_) (v:=undef) rfl (by kernel_rfl) (by kernel_rfl) (by kernel_rfl) (fun _ _ _ h=>h) (Or.inr ⟨by rfl,rfl⟩) (by assumption) ?_
   try simp only [Act.put,List.getElem_toArray,List.getElem_cons_zero,List.getElem_cons_succ,List.setIfInBounds_toArray,List.set_cons_zero,List.set_cons_succ]
   refine wpAnyH_take (i:=17) (oi:=_) (v:=undef) rfl (by kernel_rfl) (by kernel_rfl) (by kernel_rfl) (fun _ _ _ h=>h) (Or.inr ⟨by rfl,rfl⟩) (by assumption) ?_
   try simp only [Act.put,List.getElem_toArray,List.getElem_cons_zero,List.getElem_cons_succ,List.setIfInBounds_toArray,List.set_cons_zero,List.set_cons_succ]
   refine wpAnyH_take (i:=18) (oi:=_) (v:=undef) rfl (by kernel_rfl) (by kernel_rfl) (by kernel_rfl) (fun _ _ _ h=>h) (Or.inr ⟨by rfl,rfl⟩) (by assumption) ?_
   try simp only [Act.put,List.getElem_toArray,List.getElem_cons_zero,List.getElem_cons_succ,List.setIfInBounds_toArray,List.set_cons_zero,List.set_cons_succ]
   refine wpAnyH_take (i:=19) (oi:=_) (v:=?_) rfl (by kernel_rfl) (by kernel_rfl) (by kernel_rfl) (fun _ _ _ h=>h) (Or.inl ⟨by rfl,?_⟩) (by assumption) ?_;rotate_left 1
   ·(intro wS hSw;(try dsimp only at hSw);go_simp;try with_reducible rfl)
   try simp only [Act.put,List.getElem_toArray,List.getElem_cons_zero,List.getElem_cons_succ,List.setIfInBounds_toArray,List.set_cons_zero,List.set_cons_succ]
   refine wpAnyH_take (i:=20) (oi:=_) (v:=?_) rfl (by kernel_rfl) (by kernel_rfl) (by kernel_rfl) (fun _ _ _ h=>h) (Or.inl ⟨by rfl,?_⟩) (by assumption) ?_;rotate_left 1
   ·(intro wS hSw;(try dsimp only at hSw);go_simp;try with_reducible rfl)
   try simp only [Act.put,List.getElem_toArray,List.getElem_cons_zero,List.getElem_cons_succ,List.setIfInBounds_toArray,List.set_cons_zero,List.set_cons_succ]
   refine wpAnyH_done (by kernel_rfl) ?_ _;refine NoPanic.normal ?_;go_wp2;go_ret;exact Ret.bool HF.out.symm B3
 ·have HF:=Lib.hid (show tB x=false by rw [tB,e1];rfl);have A0:Bw w (w.alloc (.cells #[va,vb,vc,.int .i64 x.tests] 28)):=(Bw.refl w).alloc _;have s0:=qA (show (w.alloc (.cells #[va,vb,vc,.int .i64 x.tests] 28)).cell? ⟨w.heap.size,0,none⟩=some va from q0);have s1:=qA (show (w.alloc (.cells #[va,vb,vc,.int .i64 x.tests] 28)).cell? ⟨w.heap.size,1,none⟩=some vb from q1);have ka':Rd MA (w.alloc (.cells #[va,vb,vc,.int .i64 x.tests] 28)) x.items [va]:=ka;have kb':Rd RA (w.alloc (.cells #[va,vb,vc,.int .i64 x.tests] 28)) x.wanted [vb]:=kb;clear q0 q1 q2 q3;go_enter Tryz.func16,Tryz.ntmps16;go_wp2;refine mA (by kernel_rfl) (by kernel_rfl) ?_
  repeat (first | go_big_quiet_skip | (go_big_quiet_want;go_big_quiet_op;first | go_big_quiet_on | (apply Exists.intro;refine ⟨fun _=>?_,?_⟩;(· (((first | (go_at_call 92;exact GA (lD (JD _ x.items x.wanted _ _ (ka'.bw jA (GC.bw _)) (kb'.bw lA (GC.bw _))) (congrArg Value.bool e1)))))));go_big_quiet_on)))
  refine wpQuiet_nil ?_;rintro ⟨wq,hbq⟩;dsimp only at *;go_wp2;go_ret;exact Ret.bool HF.out.symm (A0.then hbq)
end Go.Proofs.YtpihighajaeabaaGreat
namespace Go.Proofs.YtpihighajaeabaaGreat
open Go.RowKit
set_option linter.unusedVariables false
set_option linter.unusedSimpArgs false
def JG (x:tA):ByteArray:=
 if tB x then ⟨#[105,116,101,109,115,32]⟩++EA x.items.length++⟨#[32,98,101,115,116,32]⟩++nC x.best++⟨#[32,116,101,115,116,115,32]⟩++EA x.tests else ⟨#[]⟩
theorem iB {n:Int} (h:0≤n∧n≤1000000000):(Lit.int .i64 n).wf=true:=by
 simp [Lit.wf,IntKind.min,IntKind.max,IntKind.signed,IntKind.bits];omega
theorem qD {l:List gA} {e:List kA} (h:WA l=true):∀v∈mD l e,0≤v∧v≤99:=fun v hv=>by
 unfold mD at hv;obtain ⟨x,hx,rfl⟩:=List.mem_map.1 hv;exact wD (NA h (List.mem_filter.1 hx).1)
theorem lJ {l:List Int} (hw:∀x∈l,(Lit.int .i64 x).wf=true):(nC l).size≤4+l.length*21:=by
 unfold nC
 split
 ·show 4≤_;omega
 ·unfold MB mE;have h1:=iJ ⟨#[32]⟩ (SC l) 0 ⟨#[]⟩;have h2:=iK (l:=l) ⟨#[32]⟩ hw;have e:(⟨#[32]⟩:ByteArray).size=1:=rfl;have e0:(⟨#[]⟩:ByteArray).size=0:=rfl;rw [e] at h2;omega
set_option maxRecDepth 100000 in
set_option maxHeartbeats 1600000 in
theorem lR (w:World) (x:tA) (va vb vc:Value) (ha:Rd MA w x.items [va]) (hb:Rd RA w x.wanted [vb]) (hc:Rd XA w x.best [vc]) :
  Calls Tryz.prog 59 #[.agg #[va,vb,vc,.int .i64 x.tests]] w (Ret w (.string (JG x))):=by
 obtain ⟨A,n,c,rfl,L0,Lc,Lm⟩:=iA ha;unfold maxLen at Lm;have L:=Lib.hid L0;clear L0;have B0:Bw w (w.alloc (.cells #[.slice A n c,vb,vc,.int .i64 x.tests] 28)):=(Bw.refl w).alloc _;go_enter Tryz.func59,Tryz.ntmps59;go_wp2_with fail;refine (VE _ x _ _ _ (ha.bw jA B0) (hb.bw lA B0) (hc.bw dA B0)).mono ?_;rintro e w2 ⟨rfl,hb2⟩;have p0:w2.cell? ⟨w.heap.size,0,none⟩=some (.slice A n c):=hb2.cell (by go_simp);have p1:w2.cell? ⟨w.heap.size,1,none⟩=some (vb):=hb2.cell (by go_simp);have p2:w2.cell? ⟨w.heap.size,2,none⟩=some (vc):=hb2.cell (by go_simp);have p3:w2.cell? ⟨w.heap.size,3,none⟩=some (.int .i64 x.tests):=hb2.cell (by go_simp);have B2:=B0.then hb2;rcases Bool.eq_false_or_eq_true (tB x) with e1 | e1
 ·have E1:=Lib.hid e1;rw [e1];clear e1;have hst:=E1.out;unfold tB at hst;simp only [Bool.and_eq_true,decide_eq_true_iff] at hst;obtain ⟨h1,h2,h3⟩:=hst;have hI:=sA h1;have hn16:=VA hI;rw [← L.out] at hn16;have ht:=qC.1 h3;have hids:∀v∈x.best,(Lit.int .i64 v).wf=true:=fun v hv=>iB (by rw [h2] at hv;have:=qD hI v hv;omega)
  have hbl:x.best.length≤16:=by rw [h2];have:=tI x.items x.wanted;rw [← L.out] at this;omega
  have hsz:=lJ hids;have HF:=Lib.hid (show ⟨#[105,116,101,109,115,32]⟩++EA x.items.length++⟨#[32,98,101,115,116,32]⟩++nC x.best++⟨#[32,116,101,115,116,115,32]⟩++EA x.tests=JG x by rw [JG,if_pos E1.out]);rw [← L.out] at HF;have wn:=iB (n:=(n:Int)) (by omega);have wt:=iB (n:=x.tests) (by omega);have k2:=hc.bw dA B2;obtain ⟨P,hP⟩:∃P,P=EA n:=⟨_,rfl⟩;obtain ⟨Q,hQ⟩:∃Q,Q=EA x.tests:=⟨_,rfl⟩;obtain ⟨C,hC⟩:∃C,C=nC x.best:=⟨_,rfl⟩;have szP:P.size≤20:=by rw [hP];exact (OA wn).2
  have szQ:Q.size≤20:=by rw [hQ];exact (OA wt).2
  have szC:C.size≤400:=by rw [hC];omega
  have cP:∀W,Calls Tryz.prog 125 #[.int .i64 (n:Int)] W (Ret W (.string P)):=fun W=>by rw [hP];exact OB W n wn
  have cQ:∀W,Calls Tryz.prog 125 #[.int .i64 x.tests] W (Ret W (.string Q)):=fun W=>by rw [hQ];exact OB W x.tests wt
  have cC:∀s:GC w2,Calls Tryz.prog 51 #[vc] s.1 (Ret s.1 (.string C)):=fun s=>by rw [hC];exact VK s.1 x.best vc (k2.bw dA s.bw) hids (by omega)
  rw [← hP,← hQ,← hC] at HF;have a1:∀W,(Op.stringOp .add ⟨#[105,116,101,109,115,32]⟩ P).run Tryz.prog W=.ok (.string (⟨#[105,116,101,109,115,32]⟩++P)) W:=fun W=>run_string_add_sum W _ _ (by have:(⟨#[105,116,101,109,115,32]⟩:ByteArray).size=6:=rfl;omega)
  have a2:∀W,(Op.stringOp .add (⟨#[105,116,101,109,115,32]⟩++P) ⟨#[32,98,101,115,116,32]⟩).run Tryz.prog W=.ok (.string (⟨#[105,116,101,109,115,32]⟩++P++⟨#[32,98,101,115,116,32]⟩)) W:=fun W=>run_string_add_sum W _ _ (by have:(⟨#[105,116,101,109,115,32]⟩:ByteArray).size=6:=rfl;have:(⟨#[32,98,101,115,116,32]⟩:ByteArray).size=6:=rfl;rw [cA];omega)
  have a3:∀W,(Op.stringOp .add (⟨#[105,116,101,109,115,32]⟩++P++⟨#[32,98,101,115,116,32]⟩) C).run Tryz.prog W=.ok (.string (⟨#[105,116,101,109,115,32]⟩++P++⟨#[32,98,101,115,116,32]⟩++C)) W:=fun W=>run_string_add_sum W _ _ (by have:(⟨#[105,116,101,109,115,32]⟩:ByteArray).size=6:=rfl;have:(⟨#[32,98,101,115,116,32]⟩:ByteArray).size=6:=rfl;rw [cA,cA];omega)
  have a4:∀W,(Op.stringOp .add (⟨#[105,116,101,109,115,32]⟩++P++⟨#[32,98,101,115,116,32]⟩++C) ⟨#[32,116,101,115,116,115,32]⟩).run Tryz.prog W=.ok (.string (⟨#[105,116,101,109,115,32]⟩++P++⟨#[32,98,101,115,116,32]⟩++C++⟨#[32,116,101,115,116,115,32]⟩)) W:=fun W=>run_string_add_sum W _ _ (by have:(⟨#[105,116,101,109,115,32]⟩:ByteArray).size=6:=rfl;have:(⟨#[32,98,101,115,116,32]⟩:ByteArray).size=6:=rfl;have:(⟨#[32,116,101,115,116,115,32]⟩:ByteArray).size=7:=rfl;rw [cA,cA,cA];omega)
  have a5:∀W,(Op.stringOp .add (⟨#[105,116,101,109,115,32]⟩++P++⟨#[32,98,101,115,116,32]⟩++C++⟨#[32,116,101,115,116,115,32]⟩) Q).run Tryz.prog W=.ok (.string (⟨#[105,116,101,109,115,32]⟩++P++⟨#[32,98,101,115,116,32]⟩++C++⟨#[32,116,101,115,116,115,32]⟩++Q)) W:=fun W=>run_string_add_sum W _ _ (by have:(⟨#[105,116,101,109,115,32]⟩:ByteArray).size=6:=rfl;have:(⟨#[32,98,101,115,116,32]⟩:ByteArray).size=6:=rfl;have:(⟨#[32,116,101,115,116,115,32]⟩:ByteArray).size=7:=rfl;rw [cA,cA,cA,cA];omega)
  have s0:=qA p0;have s2:=qA p2;have s3:=qA p3;clear p0 p1 p2 p3 hP hQ hC szP szQ szC h1 h2 h3 hI hn16 ht hids hbl hsz wn wt k2;go_wp2;refine mA (by kernel_rfl) (by kernel_rfl) ?_
  repeat (first | go_big_quiet_skip | (go_big_quiet_want;go_big_quiet_op;first | go_big_quiet_on | (apply Exists.intro;refine ⟨fun _=>?_,?_⟩;(· (((first | (go_at_call 125;first | (with_reducible exact GA (cP _)) | (with_reducible exact GA (cQ _))) | (go_at_call 51;exact GA (cC _))))));go_big_quiet_on)))
  refine wpQuiet_nil ?_;rintro ⟨wq,hbq⟩;dsimp only at *;go_wp2;go_ret;exact Ret.str HF.out (B2.then hbq)
 ·have E1:=Lib.hid e1;rw [e1];clear e1;go_wp2;go_ret;exact Ret.str (by rw [JG,E1.out];rfl) (B2)
end Go.Proofs.YtpihighajaeabaaGreat
namespace Go.Proofs.YtpihighajaeabaaGreat
open Go.RowKit
set_option linter.unusedVariables false
theorem Bw.only {a b:World} (F:List Nat) (h:Bw a b):SB F a b:=⟨h.size,fun x hx _=>Below.block h x hx⟩
theorem SB.push {g:Nat} {F:List Nat} {a b c:World} (h:SB [g] a b) (k:SB F b c) (hF:∀x∈F,x=g∨a.heap.size≤x):SB [g] a c:=⟨Nat.le_trans h.1 k.1,fun x hx hn=>(k.2 x (Nat.lt_of_lt_of_le hx h.1) (fun e=>(hF x e).elim (fun e=>hn (by simp [e])) (fun e=>by omega))).trans (h.2 x hx hn)⟩
def Two {α:Type} (f:Fp α) (B:Nat) (x:α) (z:Value) (w:World) (u:Value):Prop:=∃v,u=.tuple #[v,z]∧pF f B x w v
theorem BC.two {α:Type} {f:Fp α} {w w':World} {x:α} {v z z':Value} {F:List Nat} (h:f w' x [v] F) (hF:pA w.heap.size F) (hz:z=z') (hb:Bw w w'):BC w (Two f w.heap.size x z') (.returned (.tuple #[v,z])) w':=⟨_,rfl,⟨v,by rw [hz],F,h,hF⟩,hb⟩
end Go.Proofs.YtpihighajaeabaaGreat
namespace Go.Proofs.YtpihighajaeabaaGreat
open Go.RowKit
set_option linter.unusedVariables false
set_option linter.unusedSimpArgs false
def sD (p:lB):ByteArray:=EA p.fst++⟨#[62]⟩++EA p.snd
def jC (l:List lB):List ByteArray:=l.map sD
def sB (l:List lB):ByteArray:=if yB l then (if l=[] then ⟨#[110,111,110,101]⟩ else mE (jC l) ⟨#[44]⟩) else ⟨#[]⟩
theorem xF (a b c:ByteArray):a++b++c=a++(b++c):=by
 apply ByteArray.ext;simp [ByteArray.data_append,Array.append_assoc]
theorem yF {n:Int} (h:0≤n∧n≤9):(Lit.int .i64 n).wf=true:=iB (by omega)
theorem xM {p:lB} (h:(0≤p.fst∧p.fst≤9)∧0≤p.snd∧p.snd≤9):1≤(sD p).size∧(sD p).size≤41:=by
 unfold sD;rw [cA,cA];have h1:=OA (yF h.1);have h2:=OA (yF h.2);have e:(⟨#[62]⟩:ByteArray).size=1:=rfl;omega
theorem jT {l:List lB} {k:Nat} {x:lB} (h:l[k]? = some x):jC (l.take (k+1))=jC (l.take k)++[sD x]:=by
 unfold jC;rw [List.take_add_one,h];simp
theorem dL:∀ {l:List lB},(∀p∈l,(0≤p.fst∧p.fst≤9)∧0≤p.snd∧p.snd≤9)→TD ⟨#[44]⟩ (jC l)≤42*l.length
 | [],_=>by simp [jC,TD,NH]
 | p::l,h=>by
  have h1:=(xM (h p (by simp))).2;have h2:=dL (l:=l) (fun q hq=>h q (by simp [hq]));have e:TD ⟨#[44]⟩ (jC (p::l))=(sD p).size+1+TD ⟨#[44]⟩ (jC l):=rfl;rw [e,List.length_cons];omega
theorem cH (l:List lB):(sB l).size≤400:=by
 unfold sB
 split
 ·rename_i h
  split
  ·show 4≤400;omega
  ·have h1:=iJ ⟨#[44]⟩ (jC l) 0 ⟨#[]⟩;have h2:=dL (fun p hp=>tF (wF h) hp);have h3:=YG h;have e0:(⟨#[]⟩:ByteArray).size=0:=rfl;unfold mE;omega
 ·show 0≤400;omega
theorem cAj {x y:Int} (hx:0≤x∧x≤9) (hy:0≤y∧y≤9) :
  (∀W,(Op.stringOp .add (EA x) ⟨#[62]⟩).run Tryz.prog W=.ok (.string (EA x++⟨#[62]⟩)) W) ∧
  (∀W,(Op.stringOp .add (EA x++⟨#[62]⟩) (EA y)).run Tryz.prog W=.ok (.string (EA x++⟨#[62]⟩++EA y)) W):=by
 have h1:=(OA (yF hx)).2;have h2:=(OA (yF hy)).2;have e:(⟨#[62]⟩:ByteArray).size=1:=rfl;exact ⟨fun W=>run_string_add_sum W _ _ (by omega),fun W=>run_string_add_sum W _ _ (by rw [cA];omega)⟩
theorem EB {a b:ByteArray} (h:a.size+b.size≤100000):∀W,(Op.stringOp .add a b).run Tryz.prog W=.ok (.string (a++b)) W:=fun W=>run_string_add_sum W _ _ (by omega)
set_option maxRecDepth 100000 in
set_option maxHeartbeats 3200000 in
theorem JH (w:World) (l:List lB) (v:Value) (h:Rd RB w l [v]):Calls Tryz.prog 239 #[v] w (Ret w (.string (sB l))):=by
 obtain ⟨i0,hi,hz0,hz1,hz2⟩:=info_parts UK;obtain ⟨T,hT⟩:∃T,T=sB l:=⟨_,rfl⟩;rw [← hT];have HT:=Lib.hid hT;clear hT;obtain ⟨A,n,c,rfl,L0,Lc,Lm⟩:=iA h;unfold maxLen at Lm;have L:=Lib.hid L0;clear L0;go_enter Tryz.func239,Tryz.ntmps239;go_wp2_with fail;refine (XQ _ l _ h).mono ?_;rintro e w1 ⟨rfl,hb1⟩;rcases Bool.eq_false_or_eq_true (yB l) with e1 | e1
 ·have E1:=Lib.hid e1;rw [e1];clear e1;by_cases hn:n=0
  ·have HF:=Lib.hid (show T=⟨#[110,111,110,101]⟩ by rw [HT.out,sB,if_pos E1.out,if_pos (List.eq_nil_of_length_eq_zero (by rw [← L.out];exact hn))]);subst hn;go_wp2;go_ret;exact Ret.str (by rw [HF.out]) (hb1)
  ·have e0:((n:Int)==0)=false:=by rw [beq_eq_false_iff_ne];omega
   have n8:n≤8:=by rw [L.out];exact YG E1.out
   have HM:=Lib.hid (fun p (hp:p∈l)=>tF (wF E1.out) hp);have HF:=Lib.hid (show T=mE (jC l) ⟨#[44]⟩ by rw [HT.out,sB,if_pos E1.out,if_neg (fun hh=>hn (by rw [L.out,hh];rfl))]);have hv0:=PA (e:=9) (sz:=1) (R:=KW) w1;have hs:=hb1.size;have hB0:=hb1.alloc (.cells #[] 9);have HH:=Lib.hid h;clear hn HT h;go_wp2
   go_loopg [3,15] n (fun g s i w'=>∃(k:Nat) (F:List Nat),k≤n∧g=n-k∧i=.int .i64 k∧GK w' (jC (l.take k)) [s] F∧pA w.heap.size F∧Bw w w')
   case atStart=>exact ⟨0,_,by omega,rfl,rfl,hv0,⟨by simp,by simpa using hs⟩,hB0⟩
   case round=>
    clear hv0 hB0;obtain ⟨k,F,hk,rfl,rfl,hv,hF,hb⟩:=hrel;have h:=HH.out;by_cases hlt:k<n
    ·obtain ⟨p,hx⟩:=rA (xs:=l) (k:=k) (by have:=L.out;omega);obtain ⟨ba,oa,rfl,_,d0,d1⟩:=YE h hx;replace d0:=hb.cell d0;replace d1:=hb.cell d1;have i1:(0:Int)≤(k:Int):=by omega
     have i2:(k:Int)<(n:Int):=by omega
     obtain ⟨m1,m2⟩:=HM.out p (List.mem_of_getElem? hx);have HS:=Lib.hid (jT hx);have HLEN:=Lib.hid (show (jC (l.take k)).length≤8 by unfold jC;rw [List.length_map,List.length_take];omega);obtain ⟨x,hx1⟩:∃x,x=p.fst:=⟨_,rfl⟩;obtain ⟨y,hy1⟩:∃y,y=p.snd:=⟨_,rfl⟩;rw [← hx1] at m1 d0;rw [← hy1] at m2 d1;obtain ⟨a1,a2⟩:=cAj m1 m2;have c1:=fun W=>OB W x (yF m1)
     have c2:=fun W=>OB W y (yF m2)
     obtain ⟨P,hP⟩:∃P,P=EA x:=⟨_,rfl⟩;obtain ⟨Q,hQ⟩:∃Q,Q=EA y:=⟨_,rfl⟩;have HPT:=Lib.hid (show sD p=P++⟨#[62]⟩++Q by rw [hP,hQ,hx1,hy1];rfl);simp only [← hP] at c1;simp only [← hQ] at c2;rw [← hP] at a1 a2;rw [← hQ] at a2;have C1:=Lib.hid c1;have C2:=Lib.hid c2;obtain ⟨W,hW⟩:∃W,W=wr.alloc (.cells #[.int .i64 x,.int .i64 y] 214):=⟨_,rfl⟩;have D1:Bw wr W.drew:=by rw [hW];exact ((Bw.refl wr).alloc _).drew
     have q0:W.drew.cell? ⟨wr.heap.size,0,none⟩=some (.int .i64 x):=by rw [hW];go_simp
     have q1:W.drew.cell? ⟨wr.heap.size,1,none⟩=some (.int .i64 y):=by rw [hW];go_simp
     have HW:=Lib.hid hW;have hFm0:=(kB (B:=0)).lt hv;have hFn:wr.heap.size∉F:=fun e=>by have:=hFm0 _ e;omega
     have hvd:=(kB (B:=w.heap.size)).bw D1 hb.size hv;have hbd:=hb.then D1;have hB:=Bw.refl W.drew;clear hx m1 m2 hx1 hy1 hP hQ c1 c2 hW hv h;go_wp2_with fail;rw [← HW.out]
     go_region_held3 (fun w'=>w'.cell? ⟨wr.heap.size,0,none⟩=some (.int .i64 x)∧w'.cell? ⟨wr.heap.size,1,none⟩=some (.int .i64 y)) (first | exact ⟨q0,q1⟩ | exact ⟨hB.cell q0,hB.cell q1⟩ | exact ⟨(hB.then ((Bw.refl _).alloc _)).cell q0,(hB.then ((Bw.refl _).alloc _)).cell q1⟩ | exact ⟨n0,n1⟩)
      (first
       | (go_at_call_of 125 (Value.int IntKind.i64 x);refine (C1.out _).mono ?_;rintro e' w5 ⟨rfl,hb5⟩;replace hB:=hB.then hb5)
       | (go_at_call_of 125 (Value.int IntKind.i64 y);refine (C2.out _).mono ?_;rintro e' w5 ⟨rfl,hb5⟩;replace hB:=hB.then hb5)
       | (have hA:=(Bw.refl w5).alloc (.cells #[.string (P++⟨#[62]⟩++Q)] 9);have hBA:=hB.then hA;have hvW:=(kB (B:=w.heap.size)).bw hBA hbd.size hvd;have hFm:=(kB (B:=0)).lt hvd;have hbW:=hbd.then hBA;have hcl:=cell_one_new w5 (.string (P++⟨#[62]⟩++Q)) 9;refine tE _ (by rfl) (.tmp 19) (.tmp 28) 58 (by rfl) w 9 i0 _ 1 16 Tryz.underlying58 hi hz0 hz1 hz2 rfl (by omega) FE _ (jC (l.take k)) F (by rfl) hvW hF ⟨w5.heap.size,0,none⟩ 1 (by rfl) (P++⟨#[62]⟩++Q) [.string (P++⟨#[62]⟩++Q)] [] hcl ⟨rfl,rfl⟩ rfl W.drew.heap.size hFm pA.nil hbd.size (by have:=HLEN.out;omega) (by have:=HLEN.out;omega) hbW ?_;intro v' w' F' hv' hF' hb' hO' hs';have n0:=hO'.cell (hBA.cell q0) hFn;have n1:=hO'.cell (hBA.cell q1) hFn)
       | fail)
     all_goals
      go_wp2
      go_roundg (n-(k+1))
      case measure=>omega
      case rel=>exact ⟨k+1,F',by omega,rfl,by go_num,by rw [HS.out,HPT.out];exact hv',hF',hb'⟩
    ·obtain rfl:k=n:=by omega
     rw [List.take_of_length_le (by rw [← L.out];exact Nat.le_refl _)] at hv;have hsz:=dL HM.out;rw [← L.out] at hsz;go_wp2_with fail;refine (FQ _ (jC l) ⟨#[44]⟩ _ (PD hv) (by omega) (by show 1≤1024;omega)).mono ?_;rintro e w3 ⟨rfl,hb3⟩;go_wp2;go_ret;exact Ret.str (by rw [HF.out]) (hb.then hb3)
 ·have HF:=Lib.hid (show T=⟨#[]⟩ by rw [HT.out,sB,e1];rfl);rw [e1];clear e1;go_wp2;go_ret;exact Ret.str (by rw [HF.out]) (hb1)
set_option maxRecDepth 100000 in
set_option maxHeartbeats 3200000 in
theorem kT (w:World) (l:List lB) (v:Value) (h:Rd RB w l [v]):Calls Tryz.prog 196 #[v] w (Ret w (.string (sB l))):=by
 obtain ⟨T,hT⟩:∃T,T=sB l:=⟨_,rfl⟩;rw [← hT];have HT:=Lib.hid hT;clear hT;obtain ⟨A,n,c,rfl,L0,Lc,Lm⟩:=iA h;unfold maxLen at Lm;have L:=Lib.hid L0;clear L0;go_enter Tryz.func196,Tryz.ntmps196;go_wp2_with fail;refine (UQ _ l _ h).mono ?_;rintro e w1 ⟨rfl,hb1⟩;rcases Bool.eq_false_or_eq_true (yB l) with e1 | e1
 ·have E1:=Lib.hid e1;rw [e1];clear e1;have n8:n≤8:=by rw [L.out];exact YG E1.out
  have HM:=Lib.hid (fun p (hp:p∈l)=>tF (wF E1.out) hp);have HH:=Lib.hid h;clear h;go_wp2
  go_loopg [3,4] n (fun g s i w'=>∃(k:Nat) (acc:ByteArray),k≤n∧g=n-k∧i=.int .i64 k∧s=.string acc∧Hid (mE (jC l) ⟨#[44]⟩=gl ⟨#[44]⟩ k acc ((jC l).drop k))∧acc.size≤42*k∧(0<k→1≤acc.size)∧Bw w w')
  case atStart=>exact ⟨0,_,by omega,rfl,rfl,rfl,rfl,Nat.zero_le _,by omega,hb1⟩
  case round=>
   clear hb1;obtain ⟨k,acc,hk,rfl,rfl,rfl,HE,g1,g2,hb⟩:=hrel;have h:=HH.out;by_cases hlt:k<n
   ·obtain ⟨p,hx⟩:=rA (xs:=l) (k:=k) (by have:=L.out;omega);obtain ⟨ba,oa,rfl,_,d0,d1⟩:=YE h hx;replace d0:=hb.cell d0;replace d1:=hb.cell d1;have i1:(0:Int)≤(k:Int):=by omega
    have i2:(k:Int)<(n:Int):=by omega
    have hpm:=HM.out p (List.mem_of_getElem? hx);have hpz:=xM hpm;obtain ⟨m1,m2⟩:=hpm;have HS:=Lib.hid (kV (sep:=⟨#[44]⟩) (acc:=acc) (l:=jC l) (k:=k) (t:=sD p) (by unfold jC;rw [List.getElem?_map,hx];rfl));obtain ⟨x,hx1⟩:∃x,x=p.fst:=⟨_,rfl⟩;obtain ⟨y,hy1⟩:∃y,y=p.snd:=⟨_,rfl⟩;rw [← hx1] at m1 d0;rw [← hy1] at m2 d1;have z1:=(OA (yF m1)).2;have z2:=(OA (yF m2)).2;have c1:=fun W=>KC W x (yF m1)
    have c2:=fun W=>KC W y (yF m2)
    obtain ⟨P,hP⟩:∃P,P=EA x:=⟨_,rfl⟩;obtain ⟨Q,hQ⟩:∃Q,Q=EA y:=⟨_,rfl⟩;have hpt:sD p=P++⟨#[62]⟩++Q:=by rw [hP,hQ,hx1,hy1];rfl
    have HPT:=Lib.hid hpt;simp only [← hP] at c1 z1;simp only [← hQ] at c2 z2;have eg:(⟨#[62]⟩:ByteArray).size=1:=rfl;have ec:(⟨#[44]⟩:ByteArray).size=1:=rfl;obtain ⟨B,hBt⟩:∃B,B=(if 0<k then acc++⟨#[44]⟩ else acc):=⟨_,rfl⟩;have hBs:B.size≤42*k+1:=by rw [hBt];split;(rw [cA];omega);omega
    have b1:∀W,(Op.stringOp .add B P).run Tryz.prog W=.ok (.string (B++P)) W:=EB (by omega);have b2:∀W,(Op.stringOp .add (B++P) ⟨#[62]⟩).run Tryz.prog W=.ok (.string (B++P++⟨#[62]⟩)) W:=EB (by rw [cA];omega);have b3:∀W,(Op.stringOp .add (B++P++⟨#[62]⟩) Q).run Tryz.prog W=.ok (.string (B++P++⟨#[62]⟩++Q)) W:=EB (by rw [cA,cA];omega);have b0:∀W,(Op.stringOp .add acc ⟨#[44]⟩).run Tryz.prog W=.ok (.string (acc++⟨#[44]⟩)) W:=EB (by omega);have HN:=Lib.hid (show gl ⟨#[44]⟩ k acc ((jC l).drop k)=gl ⟨#[44]⟩ (k+1) (B++P++⟨#[62]⟩++Q) ((jC l).drop (k+1)) by
     have hq:∀X:ByteArray,X++(P++⟨#[62]⟩++Q)=X++P++⟨#[62]⟩++Q:=fun X=>by rw [xF X P,xF X (P++_)]
     rw [HS.out,hpt,hq,hBt])
    have hNs:(B++P++⟨#[62]⟩++Q).size≤42*(k+1)∧1≤(B++P++⟨#[62]⟩++Q).size:=by
     rw [hpt,cA,cA] at hpz;rw [cA,cA,cA];omega
    have s0:=qA d0;have s1:=qA d1;have f1:∀s:GC wr,Calls Tryz.prog 64 #[.int .i64 x] s.1 (Ret s.1 (.string P)):=fun s=>c1 s.1
    have f2:∀s:GC wr,Calls Tryz.prog 64 #[.int .i64 y] s.1 (Ret s.1 (.string Q)):=fun s=>c2 s.1
    have hNN:=hNs;clear hx m1 m2 hx1 hy1 hP hQ c1 c2 hpz hpt z1 z2 eg ec hBs g1 g2 HS hNs;by_cases hk0:0<k
    ·have k0:(0:Int)<(k:Int):=by omega
     rw [if_pos hk0] at hBt;subst hBt;clear hk0;go_wp2;refine mA (by kernel_rfl) (by kernel_rfl) ?_
     repeat (first | go_big_quiet_skip | (go_big_quiet_want;go_big_quiet_op;first | go_big_quiet_on | (apply Exists.intro;refine ⟨fun _=>?_,?_⟩;(· (((go_at_call 64;first | (with_reducible exact GA (f1 _)) | (with_reducible exact GA (f2 _))))));go_big_quiet_on)))
     refine wpQuiet_nil ?_;rintro ⟨wq,hbq⟩;dsimp only at *;have h:=HH.out;have hbz:=hb.then hbq;clear f1 f2 s0 s1 d0 d1;go_wp2
     go_roundg (n-(k+1))
     case measure=>omega
     case rel=>exact ⟨k+1,_,by omega,rfl,by go_num,rfl,by show _=_;rw [HE.out,HN.out],hNN.1,fun _=>hNN.2,hbz⟩
    ·have k0:¬(0:Int)<(k:Int):=by omega
     rw [if_neg hk0] at hBt;subst hBt;clear hk0;go_wp2;refine mA (by kernel_rfl) (by kernel_rfl) ?_
     repeat (first | go_big_quiet_skip | (go_big_quiet_want;go_big_quiet_op;first | go_big_quiet_on | (apply Exists.intro;refine ⟨fun _=>?_,?_⟩;(· (((go_at_call 64;first | (with_reducible exact GA (f1 _)) | (with_reducible exact GA (f2 _))))));go_big_quiet_on)))
     refine wpQuiet_nil ?_;rintro ⟨wq,hbq⟩;dsimp only at *;have h:=HH.out;have hbz:=hb.then hbq;clear f1 f2 s0 s1 d0 d1;go_wp2
     go_roundg (n-(k+1))
     case measure=>omega
     case rel=>exact ⟨k+1,_,by omega,rfl,by go_num,rfl,by show _=_;rw [HE.out,HN.out],hNN.1,fun _=>hNN.2,hbz⟩
   ·obtain rfl:k=n:=by omega
    have hacc:mE (jC l) ⟨#[44]⟩=acc:=by rw [HE.out,List.drop_of_length_le (by unfold jC;rw [List.length_map,← L.out];exact Nat.le_refl _)];rfl
    by_cases hk0:k=0
    ·have hl:l=[]:=List.eq_nil_of_length_eq_zero (by rw [← L.out];exact hk0);have ha:acc=⟨#[]⟩:=by rw [← hacc,hl];rfl
     have HF:=Lib.hid (show T=⟨#[110,111,110,101]⟩ by rw [HT.out,sB,if_pos E1.out,if_pos hl]);have b1:acc.toList.isEmpty=true:=by rw [ha,ByteArray.toList_eq];rfl
     clear hl ha hacc hk0 HE;go_wp2;go_ret;exact Ret.str (by rw [HF.out]) (hb)
    ·have hl:¬l=[]:=fun hh=>hk0 (by rw [L.out,hh];rfl)
     have HF:=Lib.hid (show T=acc by rw [HT.out,sB,if_pos E1.out,if_neg hl,hacc]);have b1:acc.toList.isEmpty=false:=yJ (by have:=g2 (by omega);omega);clear hl hacc hk0 HE g1 g2;go_wp2;go_ret;exact Ret.str (by rw [HF.out]) (hb)
 ·have HF:=Lib.hid (show T=⟨#[]⟩ by rw [HT.out,sB,e1];rfl);rw [e1];clear e1;go_wp2;go_ret;exact Ret.str (by rw [HF.out]) (hb1)
end Go.Proofs.YtpihighajaeabaaGreat
