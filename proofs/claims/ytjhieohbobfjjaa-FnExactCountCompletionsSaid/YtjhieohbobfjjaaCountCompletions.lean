/- For every input, FnExactCountCompletions returns true and leaves its arguments as they were. No condition. -/
import Derived.Test.YtjhieohbobfjjaaRows
import Derived.Test.YtjhieohbobfjjaaPartial
import Derived.Test.YtjhieohbobfjjaaOpen
namespace Go.Proofs.Ytjhieohbobfjjaa
open Go.RowKit Go.ChangeShapes Go.WideShapes Go.ChangeAt
set_option linter.unusedVariables false
set_option maxRecDepth 100000 in
set_option maxHeartbeats 4000000 in
theorem walk_FnExactCountCompletions (w : World) (x0 : List GItem) (v0 : Value) (h0 : Rd rItems w x0 [v0]) (q0 : ∀ x ∈ x0, wfItem x) :
    Calls Try.prog 9 #[v0] w (Ret w (.bool true)) := by
  go_enter Try.func9, Try.ntmps9
  go_wp2_with fail
  refine (L_szItemS _ x0 _ (h0.bw rItems_good (Bw.refl w)) (1048576 : Int) (by omega) (by omega)).mono ?_
  rintro e w1 ⟨rfl, hb1⟩
  have B1 : Bw w _ := (Bw.refl w).then hb1
  by_cases s0 : (1048576 : Int) < ((totItems x0 : Nat) : Int)
  · rw [show szM (1048576 : Int) (totItems x0) = -1 from if_pos s0]
    go_wp2
    go_ret
    exact Ret.bool rfl B1
  rw [show szM (1048576 : Int) (totItems x0) = ((1048576 : Int) - ((totItems x0 : Nat) : Int)) from if_neg s0]
  have t0 : totItems x0 ≤ 1048576 := by omega
  go_wp2_with fail
  refine (L_toItemS _ x0 _ (by exact (h0.bw rItems_good B1)) t0).mono ?_
  rintro e w2 ⟨a0, rfl, ⟨aF0, ao0, af0⟩, hb2⟩
  have B2 : Bw w _ := B1.then hb2
  have ar0 := fItems_Rd ao0
  go_wp2_with fail
  refine (S_CountCompletions _ x0 _ (by exact ar0) t0).mono ?_
  rintro e w3 ⟨rfl, hb3⟩
  have B3 : Bw w _ := B2.then hb3
  replace ar0 := ar0.bw rItems_good hb3
  clear ar0 ao0 af0
  go_wp2_with fail
  refine (L_toItemS _ x0 _ (by exact (h0.bw rItems_good B3)) t0).mono ?_
  rintro e w4 ⟨b0, rfl, ⟨bF0, bo0, bf0⟩, hb4⟩
  have B4 : Bw w _ := B3.then hb4
  have br0 := fItems_Rd bo0
  go_wp2_with fail
  refine (I_CountCompletions _ x0 _ (by exact br0) t0).mono ?_
  rintro e w5 ⟨rfl, hb5⟩
  have B5 : Bw w _ := B4.then hb5
  replace br0 := br0.bw rItems_good hb5
  go_wp2_with fail
  refine (L_toItemS _ x0 _ (by exact (h0.bw rItems_good B5)) t0).mono ?_
  rintro e w6 ⟨c0, rfl, ⟨cF0, co0, cf0⟩, hb6⟩
  have B6 : Bw w _ := B5.then hb6
  replace br0 := br0.bw rItems_good hb6
  have cr0 := fItems_Rd co0
  go_wp2_with fail
  refine (L_eqItemS _ x0 x0 _ _ (by exact br0) (by exact cr0)).mono ?_
  rintro e w7 ⟨rfl, hb7⟩
  have B7 : Bw w _ := B6.then hb7
  replace br0 := br0.bw rItems_good hb7
  replace cr0 := cr0.bw rItems_good hb7
  rw [show decide (x0 = x0) = true from by simp]
  go_wp2
  go_ret
  exact Ret.bool rfl B7
set_option maxRecDepth 100000 in
theorem lifted_FnExactCountCompletions (os : Os) (started : os.Started) (H : Type) (enc : TypeId × Value → H) :
    ReturnsInHanded {} Try.checked os 9 .any (Rows.fnExactCountCompletionsSpec.pre6 enc Try.prog Try.f9 Rows.fnExactCountCompletionsRow.domain false) (Rows.fnExactCountCompletionsSpec.post enc Try.prog Try.f9 false true false false) := by
  refine returnsInHanded_of_change (C := Try.checked) own_knob started (by kernel_rfl) Try.func9
    (ChangeSpec.witness6 (enc := enc) (C := Try.checked) false ⟨#[], #[.slice none 0 0], []⟩ 8 (by kernel_rfl) (by kernel_rfl) (by kernel_rfl) (by kernel_rfl)) ?_
  intro W base args ds gs before hval0 hW hcnd _
  have hval : ∀ (j : Nat) t v, Try.f9.params[j]? = some t → args[j]? = some v → Value.okWide Try.prog W .any base t v := hval0
  have hW' := hW
  obtain ⟨p, q, hA0, hV, rfl, hfz, hnd⟩ := hW
  have hA : DataW.TrodAll enc Try.prog W 0 (fun _ => true) true Try.f9.params.toList args.toList ds p := hA0
  rw [Try.params9] at hA hval
  obtain ⟨v0, vs0, d0, ds0, p0, q0, hargs, rfl, rfl, h0, r0⟩ := trodAll_cons hA
  obtain ⟨rfl, rfl, rfl⟩ := trodAll_nil r0
  obtain rfl : args = #[v0] := by cases args; simp_all
  obtain ⟨rfl, rfl⟩ := trodVars_none hV
  have k0 := h0
  have lt0 : ∀ x ∈ p0, x.block < W.heap.size := by obtain ⟨m, hm⟩ := k0; exact DataW.trod_lt m _ _ _ hm
  obtain ⟨a0, len0, cap0, rfl⟩ := okWide_slice Try.underlying45 (hval 0 45 v0 rfl rfl)
  obtain ⟨x0, R0, Q0⟩ : ∃ xs, Rd rItems W xs [.slice a0 len0 cap0] ∧ ∀ x ∈ xs, wfItem x := by obtain ⟨m, hm⟩ := h0; exact t_items hm
  clear hA0 hval0
  refine (walk_FnExactCountCompletions W x0 _ R0 Q0).mono fun e W' ⟨he, bel⟩ => ?_
  subst he
  exact ⟨_, rfl, _, _, _, [], _, [], hW', trodAll_mk1 (shut_bool Try.underlying4 _), (trodAll_cons_mk (Below.trod laid_out (by kernel_rfl) (of_decide_eq_true (by kernel_rfl)) k0 bel lt0) trodAll_mk0), rfl, Below.frame bel _, fun h => by cases h⟩
/-- the statement -/
theorem FnExactCountCompletions_holds : Rows.FnExactCountCompletionsSaid :=
  OpenClaim.holds_of_wide 9 Try.f9 rfl rfl rfl rfl rfl rfl rfl ⟨rfl, rfl, rfl, rfl, rfl⟩ rfl rfl rfl rfl rfl (by kernel_rfl) Try.func9 (by kernel_rfl)
    (of_decide_eq_true (by kernel_rfl)) (by unfold Func.isWrapper; first | (rw [if_pos (by decide +kernel)]; kernel_rfl) | (rw [if_neg (by decide +kernel)]; exact ⟨rfl, rfl⟩))
    (fun os started H enc _ => lifted_FnExactCountCompletions os started H enc)
end Go.Proofs.Ytjhieohbobfjjaa
