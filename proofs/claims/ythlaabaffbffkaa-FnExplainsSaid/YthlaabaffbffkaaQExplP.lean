/- The change that is named makes an item one of the best, and no cheaper change does. No program in sight. -/
import Derived.Test.YthlaabaffbffkaaQExpl
import Derived.Test.YthlaabaffbffkaaQOnly
import Derived.Test.YthlaabaffbffkaaQDropM
import Derived.Test.YthlaabaffbffkaaQStandM
namespace Go.Proofs.Ythlaabaffbffkaa
open Go.RowKit
set_option linter.unusedVariables false
theorem set_mem {α : Type} : ∀ {l : List α} {j : Nat} {x z : α}, z ∈ l.set j x → z = x ∨ z ∈ l := fun h => (List.mem_or_eq_of_mem_set h).symm
theorem set_sorted {x : GItem} : ∀ {l : List GItem} {j : Nat} {p : GItem}, l.Pairwise (fun a b => a.id < b.id) → l[j]? = some p → p.id = x.id → (l.set j x).Pairwise (fun a b => a.id < b.id)
  | [], _, _, _, h, _ => by simp at h
  | y :: l, 0, p, hs, h, e => by
    simp at h
    subst h
    rw [List.pairwise_cons] at hs
    rw [List.set_cons_zero]
    exact List.Pairwise.cons (fun z hz => by rw [← e]; exact hs.1 z hz) hs.2
  | y :: l, j + 1, p, hs, h, e => by
    rw [List.pairwise_cons] at hs
    rw [List.set_cons_succ]
    have hj : l[j]? = some p := by simpa using h
    refine List.Pairwise.cons (fun z hz => ?_) (set_sorted hs.2 hj e)
    rcases set_mem hz with rfl | hz
    · rw [← e]; exact hs.1 p (List.mem_of_getElem? hj)
    · exact hs.1 z hz
/-- the list in which an item is replaced -/
theorem repl_are {l : List GItem} {z : GItem} (h : areItems l = true) (hz : isItem z = true) : areItems (replM l z) = true := by
  unfold replM
  split
  · rename_i hf
    rcases findIdx_cases l z.id with ⟨h1, _⟩ | ⟨j, p, h1, h2, h3⟩
    · omega
    · rw [h1]
      have e : ((j : Int)).toNat = j := by omega
      rw [e]
      exact areItems_of (fun x hx => (set_mem hx).elim (fun e => by rw [e]; exact hz) (fun h4 => areItems_mem h h4)) (set_sorted (items_sorted h) h2 h3) (by rw [List.length_set]; exact areItems_len h)
  · exact h
theorem repl_mem {l : List GItem} {z : GItem} {j : Nat} {p : GItem} (h1 : findIdx l z.id = (j : Int)) (h2 : l[j]? = some p) : z ∈ replM l z := by
  unfold replM
  rw [if_pos (by omega), h1]
  have e : ((j : Int)).toNat = j := by omega
  rw [e]
  have hj := (List.getElem?_eq_some_iff.1 h2).1
  exact List.mem_set hj z
theorem any_set_skip {f : GItem → Bool} {x : GItem} : ∀ {l : List GItem} {j : Nat} {p : GItem}, l[j]? = some p → f p = false → f x = false → (l.set j x).any f = l.any f
  | [], _, _, h, _, _ => by simp at h
  | y :: l, 0, p, h, h1, h2 => by
    simp at h
    subst h
    rw [List.set_cons_zero, List.any_cons, List.any_cons, h1, h2]
  | y :: l, j + 1, p, h, h1, h2 => by
    rw [List.set_cons_succ, List.any_cons, List.any_cons, any_set_skip (by simpa using h) h1 h2]
theorem freeO_repl {l : List GItem} {e : List GNode} {z : GItem} {j : Nat} {p : GItem} (h1 : findIdx l z.id = (j : Int)) (h2 : l[j]? = some p) (h3 : p.id = z.id) : freeO (replM l z) e z.id z = freeO l e z.id z := by
  unfold freeO replM
  rw [if_pos (by omega), h1]
  have e1 : ((j : Int)).toNat = j := by omega
  rw [e1, any_set_skip h2 (by unfold beatsO; rw [h3]; simp) (by unfold beatsO; simp)]
theorem best_repl {l : List GItem} {e : List GNode} {z : GItem} (hB : areBoth l e = true) (hz : isItem z = true) {j : Nat} {p : GItem} (h1 : findIdx l z.id = (j : Int)) (h2 : l[j]? = some p) (h3 : p.id = z.id) : (bestItems (replM l z) e).contains z.id = freeO l e z.id z := by
  have hB2 : areBoth (replM l z) e = true := by
    unfold areBoth
    rw [repl_are (areBoth_items hB) hz, areBoth_expr hB]; rfl
  rw [free_best hB2 (repl_mem h1 h2) rfl]
  exact freeO_repl h1 h2 h3
theorem costL_zero : ∀ {xs ys : List Int}, xs.length = ys.length → costL xs ys = 0 → xs = ys
  | [], [], _, _ => rfl
  | a :: p, b :: q, hl, h => by
    rw [costL] at h
    have h1 := dist_nn a b
    have h2 := costL_nn p q
    have h3 : dist a b = 0 := by omega
    have h4 : costL p q = 0 := by omega
    have : a = b := by unfold dist at h3; split at h3 <;> omega
    rw [this, costL_zero (by simpa using hl) h4]
  | [], _ :: _, hl, _ | _ :: _, [], hl, _ => by simp at hl
theorem costL_self : ∀ xs, costL xs xs = 0
  | [] => rfl
  | a :: p => by rw [costL, costL_self p]; unfold dist; simp
theorem chTo_min {l : List GItem} {e : List GNode} {p : GItem} {id : Int} {m : Nat} (hf : freeO l e id (candI id m) = true) : ∀ {n}, m < n → (chTo l e p id n).2 ≤ costOf p (candI id m)
  | 0, h => absurd h (Nat.not_lt_zero _)
  | n + 1, h => by
    by_cases hm : m = n
    · subst hm
      rw [chTo, chStep, hf]
      split
      · exact Int.le_refl _
      · rename_i hc
        simp only [Bool.and_true, Bool.or_eq_true, decide_eq_true_eq, not_or] at hc
        omega
    · have ih := chTo_min (p := p) hf (n := n) (by omega)
      rw [chTo, chStep]
      split
      · rename_i hc
        rw [Bool.and_eq_true, Bool.or_eq_true, decide_eq_true_eq, decide_eq_true_eq] at hc
        have := chTo_found (p := p) hf (n := n) (by omega)
        rcases hc.1 with h1 | h1
        · omega
        · dsimp only; omega
      · exact ih
section
variable {l : List GItem} {e : List GNode} {id : Int} (h : changeOk l e id = true)
include h
theorem change_old : ∃ (j : Nat) (p : GItem), areBoth l e = true ∧ findIdx l id = (j : Int) ∧ l[j]? = some p ∧ p.id = id ∧ itemAt l id = p ∧ isItem p = true := by
  rcases change_cases l e id with hc | ⟨hB, j, p, hf, hp, hid⟩
  · rw [hc] at h; cases h
  · exact ⟨j, p, hB, hf, hp, hid, itemAt_of hf hp, areItems_mem (areBoth_items hB) (List.mem_of_getElem? hp)⟩
theorem change_is : ∃ m, m < 1000 ∧ changeX l e id = candI id m ∧ changeC l e id = costOf (itemAt l id) (candI id m) ∧ freeO l e id (candI id m) = true ∧ isItem (candI id m) = true := by
  obtain ⟨j, p, hB, hf, hp, hid, hia, hip⟩ := change_old h
  have hb := isItem_id hip
  rw [hid] at hb
  obtain ⟨m, hm, h1, h2⟩ := chTo_at l e (itemAt l id) id 1000 (change_pos hB hb)
  refine ⟨m, hm, ?_, ?_, h2, cand_item hb hm⟩
  · unfold changeX; rw [if_pos h, h1]
  · unfold changeC; rw [if_pos h, h1]
/-- the change makes it one of the best -/
theorem expl_best : (bestItems (replM l (changeX l e id)) e).contains id = true := by
  obtain ⟨m, hm, h1, h2, h3, h4⟩ := change_is h
  obtain ⟨j, p, hB, hf, hp, hid, hia, hip⟩ := change_old h
  rw [h1]
  have := best_repl (z := candI id m) hB h4 hf hp hid
  rw [show (candI id m).id = id from rfl] at this
  rw [this, h3]
theorem expl_cost : costOf (changeX l e id) (itemAt l id) = changeC l e id := by
  obtain ⟨m, hm, h1, h2, h3, h4⟩ := change_is h
  rw [h1, h2, costOf_comm]
theorem expl_zero : decide (changeC l e id = 0) = (bestItems l e).contains id := by
  obtain ⟨m, hm, h1, h2, h3, h4⟩ := change_is h
  obtain ⟨j, p, hB, hf, hp, hid, hia, hip⟩ := change_old h
  rw [free_best hB (List.mem_of_getElem? hp) hid, hid, Bool.eq_iff_iff, decide_eq_true_eq]
  have hsame : ∀ k, (candI id k).vals = p.vals → candI id k = p := fun k hk => (GItem.eq_iff _ _).2 ⟨hid.symm, hk⟩
  constructor
  · intro hc
    rw [h2, hia] at hc
    unfold costOf at hc
    rw [hip, h4] at hc
    have := costL_zero (by rw [isItem_len hip, isItem_len h4]) hc
    rw [← hsame m this.symm]; exact h3
  · intro hfr
    obtain ⟨k, hk, hv⟩ := cand_of hip id
    have hkp := hsame k hv
    have h5 := chTo_min (p := itemAt l id) (l := l) (e := e) (id := id) (m := k) (by rw [hkp]; exact hfr) hk
    have h6 : costOf (itemAt l id) (candI id k) = 0 := by
      rw [hia, hkp]; unfold costOf; rw [hip]; exact costL_self _
    have h7 : changeC l e id = (chTo l e (itemAt l id) id 1000).2 := by unfold changeC; rw [if_pos h]
    have h8 := costOf_nn (itemAt l id) (candI id m)
    rw [← h2, h7] at h8
    rw [h7]; omega
theorem expl_min {a b c : Int} (ha : 0 ≤ a ∧ a ≤ 9) (hb : 0 ≤ b ∧ b ≤ 9) (hc : 0 ≤ c ∧ c ≤ 9) (hlt : costOf ⟨id, [a, b, c]⟩ (itemAt l id) < changeC l e id) : (bestItems (replM l ⟨id, [a, b, c]⟩) e).contains id = false := by
  obtain ⟨j, p, hB, hf, hp, hid, hia, hip⟩ := change_old h
  have hbd := isItem_id hip
  rw [hid] at hbd
  have hn : (a * 100 + b * 10 + c).toNat < 1000 := by omega
  have hz : (⟨id, [a, b, c]⟩ : GItem) = candI id (a * 100 + b * 10 + c).toNat := by
    rw [GItem.eq_iff]
    refine ⟨rfl, ?_⟩
    simp only [candI, List.cons.injEq, and_true]
    exact ⟨by omega, by omega, by omega⟩
  have hzi := cand_item hbd hn
  have := best_repl (z := ⟨id, [a, b, c]⟩) hB (by rw [hz]; exact hzi) hf hp hid
  dsimp only at this
  rw [this]
  cases hfr : freeO l e id ⟨id, [a, b, c]⟩ with
  | false => rfl
  | true =>
    rw [hz] at hfr hlt
    have h5 := chTo_min (p := itemAt l id) hfr hn
    rw [costOf_comm] at hlt
    unfold changeC at hlt
    rw [if_pos h] at hlt
    omega
end
end Go.Proofs.Ythlaabaffbffkaa
