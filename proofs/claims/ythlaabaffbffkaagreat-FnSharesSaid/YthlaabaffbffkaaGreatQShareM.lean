/- Shared evaluation of several expressions: plain model. No program in sight. -/
import Derived.Test.YthlaabaffbffkaaGreatQEqLists
import Derived.Test.YthlaabaffbffkaaGreatQWeakI
namespace Go.Proofs.YthlaabaffbffkaaGreat
open Go.RowKit
set_option linter.unusedVariables false
def allIds (l : List GItem) : List Int := l.map (·.id)
/-- the shortest list among those that may be shared, of the first k -/
noncomputable def fromTo (l : List GItem) (g : List (List GNode)) (outs : List (List Int)) (q : List GNode) : Nat → List Int
  | 0 => allIds l
  | k + 1 => match g[k]?, outs[k]? with
    | some p, some o => if isWeaker p q && decide (o.length < (fromTo l g outs q k).length) then o else fromTo l g outs q k
    | _, _ => fromTo l g outs q k
noncomputable def outsTo (l : List GItem) (g : List (List GNode)) : Nat → List (List Int)
  | 0 => []
  | i + 1 => outsTo l g i ++ [refineM l (fromTo l g (outsTo l g i) (g.getD i []) i) (g.getD i [])]
noncomputable def workTo (l : List GItem) (g : List (List GNode)) : Nat → Int
  | 0 => 0
  | i + 1 => workTo l g i + ((fromTo l g (outsTo l g i) (g.getD i []) i).length : Int) * ((fromTo l g (outsTo l g i) (g.getD i []) i).length : Int)
noncomputable def shareL (l : List GItem) (g : List (List GNode)) : List (List Int) := if isPoll l g then outsTo l g g.length else []
noncomputable def shareW (l : List GItem) (g : List (List GNode)) : Int := if isPoll l g then workTo l g g.length else 0
theorem getD_at {α : Type} {l : List α} {k : Nat} {x d : α} (h : l[k]? = some x) : l.getD k d = x := by rw [List.getD_eq_getElem?_getD, h]; rfl
theorem fromTo_yes {l : List GItem} {g : List (List GNode)} {outs : List (List Int)} {q p : List GNode} {o : List Int} {k : Nat} (hp : g[k]? = some p) (ho : outs[k]? = some o) (h1 : isWeaker p q = true) (h2 : o.length < (fromTo l g outs q k).length) : fromTo l g outs q (k + 1) = o := by
  rw [fromTo, hp, ho]; dsimp only; rw [h1, decide_eq_true h2]; rfl
theorem fromTo_no {l : List GItem} {g : List (List GNode)} {outs : List (List Int)} {q p : List GNode} {o : List Int} {k : Nat} (hp : g[k]? = some p) (ho : outs[k]? = some o) (h : isWeaker p q = false ∨ ¬ o.length < (fromTo l g outs q k).length) : fromTo l g outs q (k + 1) = fromTo l g outs q k := by
  rw [fromTo, hp, ho]; dsimp only
  rcases h with h | h
  · rw [h]; rfl
  · rw [decide_eq_false h, Bool.and_false]; rfl
theorem outsTo_len (l : List GItem) (g : List (List GNode)) : ∀ i, (outsTo l g i).length = i
  | 0 => rfl
  | i + 1 => by rw [outsTo, List.length_append, outsTo_len l g i]; rfl
theorem refine_len (l : List GItem) (ids : List Int) (q : List GNode) : (refineM l ids q).length ≤ l.length := by
  unfold refineM; split
  · exact Nat.le_trans (bestM_len _ _) (List.length_filter_le _ _)
  · exact Nat.zero_le _
theorem outsTo_small (l : List GItem) (g : List (List GNode)) : ∀ i, ∀ o ∈ outsTo l g i, o.length ≤ l.length
  | 0, o, h => by simp [outsTo] at h
  | i + 1, o, h => by
    rw [outsTo, List.mem_append, List.mem_singleton] at h
    rcases h with h | h
    · exact outsTo_small l g i o h
    · rw [h]; exact refine_len _ _ _
theorem fromTo_small {l : List GItem} {g : List (List GNode)} {outs : List (List Int)} {q : List GNode} (h : ∀ o ∈ outs, o.length ≤ l.length) : ∀ k, (fromTo l g outs q k).length ≤ l.length
  | 0 => by unfold fromTo allIds; rw [List.length_map]; exact Nat.le_refl _
  | k + 1 => by
    have h1 := fromTo_small (g := g) (q := q) h k
    rw [fromTo]
    split
    · rename_i ho
      split
      · exact h _ (List.mem_of_getElem? ho)
      · exact h1
    · exact h1
theorem workTo_bound {l : List GItem} {g : List (List GNode)} (hl : l.length ≤ 16) : ∀ i : Nat, 0 ≤ workTo l g i ∧ workTo l g i ≤ 256 * (i : Int)
  | 0 => by rw [workTo]; omega
  | i + 1 => by
    have h1 := workTo_bound (g := g) hl i
    have h2 := fromTo_small (q := g.getD i []) (g := g) (outsTo_small l g i) i
    rw [workTo]
    obtain ⟨m, hm⟩ : ∃ m, m = (fromTo l g (outsTo l g i) (g.getD i []) i).length := ⟨_, rfl⟩
    rw [← hm] at h2 ⊢
    have h3 : m * m ≤ 16 * 16 := Nat.mul_le_mul (by omega) (by omega)
    have h4 : ((m : Int) * (m : Int)) = ((m * m : Nat) : Int) := by rw [Int.natCast_mul]
    rw [h4]; omega
theorem outsTo_succ {l : List GItem} {g : List (List GNode)} {i : Nat} {e : List GNode} (h : g[i]? = some e) : outsTo l g (i + 1) = outsTo l g i ++ [refineM l (fromTo l g (outsTo l g i) e i) e] := by
  rw [outsTo, getD_at h]
theorem workTo_succ {l : List GItem} {g : List (List GNode)} {i : Nat} {e : List GNode} (h : g[i]? = some e) : workTo l g (i + 1) = workTo l g i + ((fromTo l g (outsTo l g i) e i).length : Int) * ((fromTo l g (outsTo l g i) e i).length : Int) := by
  rw [workTo, getD_at h]
end Go.Proofs.YthlaabaffbffkaaGreat
