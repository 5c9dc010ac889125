/- What a comparison by an expression may answer. No program in sight. -/
import Derived.Test.YtdfmgpmfalnffaaStack
namespace Go.Proofs.Ytdfmgpmfalnffaa
open Go.RowKit
set_option linter.unusedVariables false
theorem cmpBy_codeC {e : List GNode} {p q : GItem} (h : isExpr e = true) : -1 ≤ cmpBy e p q ∧ cmpBy e p q ≤ 2 := by
  have key : ∀ (k : Nat), k ≤ e.length → codes (stackAt e p q k) ∧ depthOf (e.drop k) (stackAt e p q k).length = some 1 := fun k => by
    induction k with
    | zero => intro _; exact ⟨fun v hv => by simp [stackAt] at hv, by simpa [stackAt] using isExpr_depth h⟩
    | succ k ih =>
      intro hk
      obtain ⟨h1, h2⟩ := ih (by omega)
      obtain ⟨x, hx⟩ := get_of_lt (xs := e) (k := k) (by omega)
      obtain ⟨hok, hd⟩ := depth_step h2 hx
      have hge := nodeOk_ge hok
      have hop := nodeOk_op hok
      rw [stackAt_next hx]
      by_cases o0 : x.op = 0
      · rw [stack_base o0]
        refine ⟨codes_snoc h1 (cmpItem_code _ _ _), ?_⟩
        rw [← hd, o0]; congr 1; simp [opnds]
      · by_cases o3 : x.op = 3
        · rw [show opnds x.op = 1 by rw [o3]; rfl] at hge hd
          obtain ⟨T, a, hT⟩ := snoc1 (l := stackAt e p q k) (by omega)
          rw [hT] at h1 hd ⊢
          rw [stack_dual o3]
          refine ⟨codes_snoc (codes_left h1) (neg2_code (h1 a (by simp))), ?_⟩
          rw [← hd]; congr 1; simp; try omega
        · rw [show opnds x.op = 2 by unfold opnds; rw [if_neg o0, if_neg o3]] at hge hd
          obtain ⟨T, a, b, hT⟩ := snoc2 (l := stackAt e p q k) (by omega)
          rw [hT] at h1 hd ⊢
          rw [stack_two o0 o3]
          refine ⟨codes_snoc (codes_left h1) (comb_code (h1 a (by simp)) (h1 b (by simp))), ?_⟩
          rw [← hd]; congr 1; simp; try omega
  obtain ⟨h1, h2⟩ := key e.length (Nat.le_refl _)
  rw [← stackAt_end (k := e.length) (Nat.le_refl _)]
  rw [List.drop_of_length_le (Nat.le_refl _), depthOf] at h2
  injection h2 with h2
  obtain ⟨T, a, hT⟩ := snoc1 (l := stackAt e p q e.length) (by omega)
  have hT0 : T = [] := List.eq_nil_of_length_eq_zero (by rw [hT, List.length_append] at h2; simp only [List.length_singleton] at h2; omega)
  rw [hT, hT0]
  exact h1 a (by rw [hT]; simp)
end Go.Proofs.Ytdfmgpmfalnffaa
