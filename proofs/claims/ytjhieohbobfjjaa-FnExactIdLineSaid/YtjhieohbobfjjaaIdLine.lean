/- For every input, FnExactIdLine returns true and leaves its argument as it was. No condition. -/
import Derived.Test.YtjhieohbobfjjaaRows
import Derived.Test.YtjhieohbobfjjaaLines
import Derived.Test.YtjhieohbobfjjaaOpen
namespace Go.Proofs.Ytjhieohbobfjjaa
open Go.RowKit Go.ChangeShapes Go.WideShapes Go.ChangeAt
set_option linter.unusedVariables false
set_option maxRecDepth 100000 in
set_option maxHeartbeats 4000000 in
theorem walk_FnExactIdLine (w : World) (x0 : List Int) (v0 : Value) (h0 : Rd rInts w x0 [v0]) (q0 : wfInts x0) :
    Calls Try.prog 5 #[v0] w (Ret w (.bool true)) := by
  obtain ⟨A0, n0, c0, rfl, l0, m0, M0⟩ := rSl_open h0
  have L0 := Lib.hid l0
  clear l0
  unfold maxLen at M0
  go_enter Try.func5, Try.ntmps5
  by_cases s0 : 1048576 < n0
  · go_wp2
    go_ret
    exact Ret.bool rfl (Bw.refl w)
  have t0 : x0.length ≤ 1048576 := by rw [← L0.out]; omega
  go_wp2_with fail
  refine (L_toIntS _ x0 _ (by exact (h0.bw rInts_good (Bw.refl w))) t0).mono ?_
  rintro e w1 ⟨a0, rfl, ⟨aF0, ao0, af0⟩, hb1⟩
  have B1 : Bw w _ := (Bw.refl w).then hb1
  have ar0 := fInts_Rd ao0
  go_wp2_with fail
  refine (S_IdLine _ x0 _ (by exact ar0) q0 t0).mono ?_
  rintro e w2 ⟨rfl, hb2⟩
  have B2 : Bw w _ := B1.then hb2
  replace ar0 := ar0.bw rInts_good hb2
  clear ar0 ao0 af0
  go_wp2_with fail
  refine (L_toIntS _ x0 _ (by exact (h0.bw rInts_good B2)) t0).mono ?_
  rintro e w3 ⟨b0, rfl, ⟨bF0, bo0, bf0⟩, hb3⟩
  have B3 : Bw w _ := B2.then hb3
  have br0 := fInts_Rd bo0
  go_wp2_with fail
  refine (I_IdLine _ x0 _ (by exact br0) q0 t0).mono ?_
  rintro e w4 ⟨rfl, hb4⟩
  have B4 : Bw w _ := B3.then hb4
  replace br0 := br0.bw rInts_good hb4
  go_wp2_with fail
  refine (L_toIntS _ x0 _ (by exact (h0.bw rInts_good B4)) t0).mono ?_
  rintro e w5 ⟨c0, rfl, ⟨cF0, co0, cf0⟩, hb5⟩
  have B5 : Bw w _ := B4.then hb5
  replace br0 := br0.bw rInts_good hb5
  have cr0 := fInts_Rd co0
  go_wp2_with fail
  refine (L_eqIntS _ x0 x0 _ _ (by exact br0) (by exact cr0)).mono ?_
  rintro e w6 ⟨rfl, hb6⟩
  have B6 : Bw w _ := B5.then hb6
  replace br0 := br0.bw rInts_good hb6
  replace cr0 := cr0.bw rInts_good hb6
  rw [show decide (x0 = x0) = true from by simp]
  go_wp2
  go_ret
  exact Ret.bool rfl B6
set_option maxRecDepth 100000 in
theorem lifted_FnExactIdLine (os : Os) (started : os.Started) (H : Type) (enc : TypeId × Value → H) :
    ReturnsInHanded {} Try.checked os 5 .any (Rows.fnExactIdLineSpec.pre6 enc Try.prog Try.f5 Rows.fnExactIdLineRow.domain false) (Rows.fnExactIdLineSpec.post enc Try.prog Try.f5 false true false false) := by
  refine returnsInHanded_of_change (C := Try.checked) own_knob started (by kernel_rfl) Try.func5
    (ChangeSpec.witness6 (enc := enc) (C := Try.checked) false ⟨#[], #[.slice none 0 0], []⟩ 8 (by kernel_rfl) (by kernel_rfl) (by kernel_rfl) (by kernel_rfl)) ?_
  intro W base args ds gs before hval0 hW hcnd _
  have hval : ∀ (j : Nat) t v, Try.f5.params[j]? = some t → args[j]? = some v → Value.okWide Try.prog W .any base t v := hval0
  have hW' := hW
  obtain ⟨p, q, hA0, hV, rfl, hfz, hnd⟩ := hW
  have hA : DataW.TrodAll enc Try.prog W 0 (fun _ => true) true Try.f5.params.toList args.toList ds p := hA0
  rw [Try.params5] at hA hval
  obtain ⟨v0, vs0, d0, ds0, p0, q0, hargs, rfl, rfl, h0, r0⟩ := trodAll_cons hA
  obtain ⟨rfl, rfl, rfl⟩ := trodAll_nil r0
  obtain rfl : args = #[v0] := by cases args; simp_all
  obtain ⟨rfl, rfl⟩ := trodVars_none hV
  have k0 := h0
  have lt0 : ∀ x ∈ p0, x.block < W.heap.size := by obtain ⟨m, hm⟩ := k0; exact DataW.trod_lt m _ _ _ hm
  obtain ⟨a0, len0, cap0, rfl⟩ := okWide_slice Try.underlying28 (hval 0 28 v0 rfl rfl)
  obtain ⟨x0, R0, Q0⟩ : ∃ xs, Rd rInts W xs [.slice a0 len0 cap0] ∧ wfInts xs := by obtain ⟨m, hm⟩ := h0; exact t_ints hm
  clear hA0 hval0
  refine (walk_FnExactIdLine W x0 _ R0 Q0).mono fun e W' ⟨he, bel⟩ => ?_
  subst he
  exact ⟨_, rfl, _, _, _, [], _, [], hW', trodAll_mk1 (shut_bool Try.underlying4 _), (trodAll_cons_mk (Below.trod laid_out (by kernel_rfl) (of_decide_eq_true (by kernel_rfl)) k0 bel lt0) trodAll_mk0), rfl, Below.frame bel _, fun h => by cases h⟩
/-- the statement -/
theorem FnExactIdLine_holds : Rows.FnExactIdLineSaid :=
  OpenClaim.holds_of_wide 5 Try.f5 rfl rfl rfl rfl rfl rfl rfl ⟨rfl, rfl, rfl, rfl, rfl⟩ rfl rfl rfl rfl rfl (by kernel_rfl) Try.func5 (by kernel_rfl)
    (of_decide_eq_true (by kernel_rfl)) (by unfold Func.isWrapper; first | (rw [if_pos (by decide +kernel)]; kernel_rfl) | (rw [if_neg (by decide +kernel)]; exact ⟨rfl, rfl⟩))
    (fun os started H enc _ => lifted_FnExactIdLine os started H enc)
end Go.Proofs.Ytjhieohbobfjjaa
