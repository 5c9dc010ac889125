/- For every input, FnExactEqualCouples returns true and leaves its arguments as they were. No condition. -/
import Derived.Test.YtjhieohbobfjjaaRows
import Derived.Test.YtjhieohbobfjjaaPairs
import Derived.Test.YtjhieohbobfjjaaOpen
import Derived.Carry
namespace Go.Proofs.Ytjhieohbobfjjaa
open Go.RowKit Go.ChangeShapes Go.WideShapes Go.ChangeAt
set_option linter.unusedVariables false
set_option maxHeartbeats 800000 in
theorem walk_EqualCouples (w : World) (xs ys : List GPair) (A1 A2 : Option Addr) (n1 n2 c1 c2 : Nat) (h1 : Rd rPairs w xs [.slice A1 n1 c1]) (h2 : Rd rPairs w ys [.slice A2 n2 c2]) :
    Calls Try.prog 3 #[.slice A1 n1 c1, .slice A2 n2 c2] w (Ret w (.bool true)) := by
  obtain ⟨a1, a2, a3⟩ := rSl_len h1
  obtain ⟨b1, b2, b3⟩ := rSl_len h2
  have L1 := Lib.hid a1
  have L2 := Lib.hid b1
  clear a1 b1
  go_enter Try.func3, Try.ntmps3
  go_wp2_with fail
  refine (L_szCoupleS _ _ _ _ _ (by omega) (by omega) (by omega)).mono ?_
  rintro e w1 ⟨rfl, hb1⟩
  by_cases s1 : (1048576 : Int) < n1
  · rw [show szM 1048576 n1 = -1 from if_pos s1]
    go_wp2
    go_ret
    exact Ret.bool rfl hb1
  rw [show szM 1048576 n1 = 1048576 - (n1 : Int) from if_neg s1]
  go_wp2_with fail
  refine (L_szCoupleS _ _ _ _ _ (by omega) (by omega) (by omega)).mono ?_
  rintro e w2 ⟨rfl, hb2⟩
  have B2 := hb1.then hb2
  by_cases s2 : (1048576 : Int) - n1 < n2
  · rw [show szM (1048576 - (n1 : Int)) n2 = -1 from if_pos s2]
    go_wp2
    go_ret
    exact Ret.bool rfl B2
  rw [show szM (1048576 - (n1 : Int)) n2 = 1048576 - (n1 : Int) - n2 from if_neg s2]
  clear hb1 hb2
  go_wp2_with fail
  refine (L_toCoupleS _ xs _ _ _ (h1.bw rPairs_good B2) (by omega)).mono ?_
  rintro e w3 ⟨v3, rfl, ⟨F3, o3, f3⟩, hb3⟩
  have B3 := B2.then hb3
  go_wp2_with fail
  refine (L_toCoupleS _ ys _ _ _ (h2.bw rPairs_good B3) (by omega)).mono ?_
  rintro e w4 ⟨v4, rfl, ⟨F4, o4, f4⟩, hb4⟩
  have B4 := B3.then hb4
  have r3 := (fCouples_Rd o3).bw rPairs_good hb4
  have r4 := fCouples_Rd o4
  obtain ⟨A3, c3, rfl, _⟩ := rSl_shape r3
  obtain ⟨A4, c4, rfl, _⟩ := rSl_shape r4
  go_wp2_with fail
  refine (S_EqualCouples _ xs ys _ _ _ _ _ _ r3 r4).mono ?_
  rintro e w5 ⟨rfl, hb5⟩
  have B5 := B4.then hb5
  clear r3 r4 o3 o4 f3 f4 hb3 hb4 hb5
  go_wp2_with fail
  refine (L_toCoupleS _ xs _ _ _ (h1.bw rPairs_good B5) (by omega)).mono ?_
  rintro e w6 ⟨v6, rfl, ⟨F6, o6, f6⟩, hb6⟩
  have B6 := B5.then hb6
  go_wp2_with fail
  refine (L_toCoupleS _ ys _ _ _ (h2.bw rPairs_good B6) (by omega)).mono ?_
  rintro e w7 ⟨v7, rfl, ⟨F7, o7, f7⟩, hb7⟩
  have B7 := B6.then hb7
  have r6 := (fCouples_Rd o6).bw rPairs_good hb7
  have r7 := fCouples_Rd o7
  obtain ⟨A6, c6, rfl, _⟩ := rSl_shape r6
  obtain ⟨A7, c7, rfl, _⟩ := rSl_shape r7
  go_wp2_with fail
  refine (I_EqualCouples _ xs ys _ _ _ _ _ _ r6 r7).mono ?_
  rintro e w8 ⟨rfl, hb8⟩
  have B8 := B7.then hb8
  have r6' := r6.bw rPairs_good hb8
  have r7' := r7.bw rPairs_good hb8
  clear r6 r7 o6 o7 f6 f7 hb6 hb7 hb8
  go_wp2_with fail
  refine (L_toCoupleS _ xs _ _ _ (h1.bw rPairs_good B8) (by omega)).mono ?_
  rintro e w9 ⟨v9, rfl, ⟨F9, o9, f9⟩, hb9⟩
  have B9 := B8.then hb9
  have r9 := fCouples_Rd o9
  obtain ⟨A9, c9, rfl, _⟩ := rSl_shape r9
  go_wp2_with fail
  refine (L_eqCoupleS _ xs xs _ _ _ _ _ _ (r6'.bw rPairs_good hb9) r9).mono ?_
  rintro e w10 ⟨rfl, hb10⟩
  have B10 := B9.then hb10
  have D1 : decide (xs = xs) = true := by simp
  rw [D1]
  go_wp2_with fail
  refine (L_toCoupleS _ ys _ _ _ (h2.bw rPairs_good B10) (by omega)).mono ?_
  rintro e w11 ⟨v11, rfl, ⟨F11, o11, f11⟩, hb11⟩
  have B11 := B10.then hb11
  have r11 := fCouples_Rd o11
  obtain ⟨A11, c11, rfl, _⟩ := rSl_shape r11
  go_wp2_with fail
  refine (L_eqCoupleS _ ys ys _ _ _ _ _ _ (((r7'.bw rPairs_good hb9).bw rPairs_good hb10).bw rPairs_good hb11) r11).mono ?_
  rintro e w12 ⟨rfl, hb12⟩
  have D2 : decide (ys = ys) = true := by simp
  rw [D2]
  go_wp2
  go_ret
  exact Ret.bool rfl (B11.then hb12)
theorem own_knob : ownKnob Try.prog.godebug = none := by kernel_rfl
theorem laid_out : laidOutB Try.prog = true := by kernel_rfl
set_option maxRecDepth 100000 in
theorem lifted_EqualCouples (os : Os) (started : os.Started) (H : Type) (enc : TypeId × Value → H) :
    ReturnsInHanded {} Try.checked os 3 .any (Rows.fnExactEqualCouplesSpec.pre6 enc Try.prog Try.f3 Rows.fnExactEqualCouplesRow.domain false) (Rows.fnExactEqualCouplesSpec.post enc Try.prog Try.f3 false true false false) := by
  refine returnsInHanded_of_change (C := Try.checked) own_knob started (by kernel_rfl) Try.func3
    (ChangeSpec.witness6 (enc := enc) (C := Try.checked) false ⟨#[], #[.slice none 0 0, .slice none 0 0], []⟩ 8 (by kernel_rfl) (by kernel_rfl) (by kernel_rfl) (by kernel_rfl)) ?_
  intro W base args ds gs before hval0 hW hcnd _
  have hval : ∀ (j : Nat) t v, Try.f3.params[j]? = some t → args[j]? = some v → Value.okWide Try.prog W .any base t v := hval0
  have hW' := hW
  obtain ⟨p, q, hA0, hV, rfl, hfz, hnd⟩ := hW
  have hA : DataW.TrodAll enc Try.prog W 0 (fun _ => true) true Try.f3.params.toList args.toList ds p := hA0
  rw [Try.params3] at hA hval
  obtain ⟨v0, vs0, d0, ds0, p0, q0, hargs, rfl, rfl, h0, r0⟩ := trodAll_cons hA
  obtain ⟨v1, vs1, d1, ds1, p1, q1, rfl, rfl, rfl, h1, r1⟩ := trodAll_cons r0
  obtain ⟨rfl, rfl, rfl⟩ := trodAll_nil r1
  obtain rfl : args = #[v0, v1] := by cases args; simp_all
  obtain ⟨rfl, rfl⟩ := trodVars_none hV
  have k0 := h0
  have lt0 : ∀ x ∈ p0, x.block < W.heap.size := by obtain ⟨m, hm⟩ := k0; exact DataW.trod_lt m _ _ _ hm
  have k1 := h1
  have lt1 : ∀ x ∈ p1, x.block < W.heap.size := by obtain ⟨m, hm⟩ := k1; exact DataW.trod_lt m _ _ _ hm
  obtain ⟨a0, len0, cap0, rfl⟩ := okWide_slice Try.underlying22 (hval 0 22 v0 rfl rfl)
  obtain ⟨a1, len1, cap1, rfl⟩ := okWide_slice Try.underlying22 (hval 1 22 v1 rfl rfl)
  obtain ⟨x0, R0, Q0⟩ : ∃ xs, Rd rPairs W xs [.slice a0 len0 cap0] ∧ ∀ x ∈ xs, wfPair x := by obtain ⟨m, hm⟩ := h0; exact t_couples hm
  obtain ⟨x1, R1, Q1⟩ : ∃ xs, Rd rPairs W xs [.slice a1 len1 cap1] ∧ ∀ x ∈ xs, wfPair x := by obtain ⟨m, hm⟩ := h1; exact t_couples hm
  clear hA0 hval0
  refine (walk_EqualCouples W x0 x1 a0 a1 len0 len1 cap0 cap1 R0 R1).mono fun e W' ⟨he, bel⟩ => ?_
  subst he
  exact ⟨_, rfl, _, _, _, [], _, [], hW', trodAll_mk1 (shut_bool Try.underlying4 _), (trodAll_cons_mk (Below.trod laid_out (by kernel_rfl) (of_decide_eq_true (by kernel_rfl)) k0 bel lt0) (trodAll_cons_mk (Below.trod laid_out (by kernel_rfl) (of_decide_eq_true (by kernel_rfl)) k1 bel lt1) trodAll_mk0)), rfl, Below.frame bel _, fun h => by cases h⟩
theorem EqualCouples_holds : Rows.FnExactEqualCouplesSaid :=
  OpenClaim.holds_of_wide 3 Try.f3 rfl rfl rfl rfl rfl rfl rfl ⟨rfl, rfl, rfl, rfl, rfl⟩ rfl rfl rfl rfl rfl (by kernel_rfl) Try.func3 (by kernel_rfl)
    (of_decide_eq_true (by kernel_rfl)) (by unfold Func.isWrapper; first | (rw [if_pos (by decide +kernel)]; kernel_rfl) | (rw [if_neg (by decide +kernel)]; exact ⟨rfl, rfl⟩))
    (fun os started H enc _ => lifted_EqualCouples os started H enc)
end Go.Proofs.Ytjhieohbobfjjaa
