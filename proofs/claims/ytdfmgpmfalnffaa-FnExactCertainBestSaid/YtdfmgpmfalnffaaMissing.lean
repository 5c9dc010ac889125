/- Answers over all completions in plain words. No program in sight. -/
import Derived.Test.YtdfmgpmfalnffaaPartial
import Derived.Test.YtdfmgpmfalnffaaModel3
namespace Go.Proofs.Ytdfmgpmfalnffaa
open Go.RowKit
set_option linter.unusedVariables false
def simV : List Int → List Int → Prop
  | [], [] => True
  | u :: l, v :: m => (u = v ∨ (inB u 0 3 = true ∧ inB v 0 3 = true)) ∧ simV l m
  | _, _ => False
def simL : List GItem → List GItem → Prop
  | [], [] => True
  | x :: xs, y :: ys => (x.id = y.id ∧ simV x.vals y.vals) ∧ simL xs ys
  | _, _ => False
theorem simV_refl : ∀ l, simV l l
  | [] => trivial
  | _ :: l => ⟨.inl rfl, simV_refl l⟩
theorem simL_refl : ∀ l, simL l l
  | [] => trivial
  | x :: l => ⟨⟨rfl, simV_refl _⟩, simL_refl l⟩
theorem simV_set {z z' : Int} (hz : inB z 0 3 = true) (hz' : inB z' 0 3 = true) : ∀ {l m : List Int} {k : Nat}, simV l m → simV (l.set k z) (m.set k z')
  | [], [], _, _ => trivial
  | u :: l, v :: m, 0, h => ⟨.inr ⟨hz, hz'⟩, h.2⟩
  | u :: l, v :: m, k + 1, h => ⟨h.1, simV_set hz hz' (l := l) (m := m) h.2⟩
  | [], _ :: _, _, h | _ :: _, [], _, h => h.elim
theorem simL_upd {z z' : Int} {k : Nat} (hz : inB z 0 3 = true) (hz' : inB z' 0 3 = true) : ∀ {xs ys : List GItem} {i : Nat}, simL xs ys → simL (updI xs i k z) (updI ys i k z')
  | [], [], _, _ => by simp [updI, simL]
  | x :: xs, y :: ys, 0, h => ⟨⟨h.1.1, simV_set hz hz' h.1.2⟩, h.2⟩
  | x :: xs, y :: ys, i + 1, h => ⟨h.1, simL_upd hz hz' (xs := xs) (ys := ys) (i := i) h.2⟩
  | [], _ :: _, _, h | _ :: _, [], _, h => h.elim
theorem fill_sim : ∀ (hs : List (List Int)) {xs ys : List GItem} {n m : Int}, 0 ≤ n → 0 ≤ m → simL xs ys → simL (fillL xs n hs) (fillL ys m hs)
  | [], _, _, _, _, _, _, h => h
  | h :: hs, xs, ys, n, m, hn, hm, hh => by
    have key : ∀ a : Int, 0 ≤ a → inB (a.tmod 4) 0 3 = true := fun a ha => inB_iff.2 (by rw [Int.tmod_eq_emod_of_nonneg ha]; omega)
    exact fill_sim hs (Int.tdiv_nonneg hn (by omega)) (Int.tdiv_nonneg hm (by omega)) (simL_upd (key n hn) (key m hm) hh)
theorem simV_all : ∀ {l m : List Int}, simV l m → l.all (fun v => inB v 0 9) = true → m.all (fun v => inB v 0 9) = true
  | [], [], _, _ => rfl
  | u :: l, v :: m, h, ha => by
    simp only [List.all_cons, Bool.and_eq_true] at ha ⊢
    refine ⟨?_, simV_all h.2 ha.2⟩
    rcases h.1 with rfl | ⟨_, h2⟩
    · exact ha.1
    · have := inB_iff.1 h2; exact inB_iff.2 (by omega)
  | [], _ :: _, h, _ | _ :: _, [], h, _ => h.elim
theorem simV_len : ∀ {l m : List Int}, simV l m → l.length = m.length
  | [], [], _ => rfl
  | u :: l, v :: m, h => by simp [simV_len h.2]
  | [], _ :: _, h | _ :: _, [], h => h.elim
theorem sim_isItem {x y : GItem} (h : x.id = y.id ∧ simV x.vals y.vals) (hx : isItem x = true) : isItem y = true := by
  simp only [isItem, Bool.and_eq_true, decide_eq_true_iff] at hx ⊢
  exact ⟨by rw [← h.1]; exact hx.1, by rw [← simV_len h.2]; exact hx.2.1, simV_all h.2 hx.2.2⟩
theorem sim_from : ∀ {xs ys : List GItem} {p : Option Int}, simL xs ys → areItemsFrom p xs = true → areItemsFrom p ys = true
  | [], [], _, _, _ => by cases ‹Option Int› <;> rfl
  | x :: xs, y :: ys, none, h, ha => by
    simp only [areItemsFrom, Bool.and_eq_true] at ha ⊢
    exact ⟨sim_isItem h.1 ha.1, by rw [← h.1.1]; exact sim_from h.2 ha.2⟩
  | x :: xs, y :: ys, some p, h, ha => by
    simp only [areItemsFrom, Bool.and_eq_true, decide_eq_true_iff] at ha ⊢
    exact ⟨⟨sim_isItem h.1 ha.1.1, by rw [← h.1.1]; exact ha.1.2⟩, by rw [← h.1.1]; exact sim_from h.2 ha.2⟩
  | [], _ :: _, _, h, _ | _ :: _, [], _, h, _ => h.elim
theorem sim_len : ∀ {xs ys : List GItem}, simL xs ys → xs.length = ys.length
  | [], [], _ => rfl
  | x :: xs, y :: ys, h => by simp [sim_len h.2]
  | [], _ :: _, h | _ :: _, [], h => h.elim
theorem fill_are {l : List GItem} (h : isPartial l = true) (n : Nat) : areItems (fillM l n) = true := by
  simp only [isPartial, Bool.and_eq_true] at h
  have hs : simL (fillM l 0) (fillM l n) := fill_sim _ (by omega) (by omega) (simL_refl l)
  have h2 := h.2
  unfold areItems at h2 ⊢
  simp only [Bool.and_eq_true, decide_eq_true_iff] at h2 ⊢
  exact ⟨sim_from hs h2.1, by rw [← sim_len hs]; exact h2.2⟩
theorem partial_len {l : List GItem} (h : isPartial l = true) : l.length ≤ 16 := by
  simp only [isPartial, Bool.and_eq_true] at h
  have h2 := areItems_len h.2
  have := congrArg List.length (shape_fill (holes l) l 0)
  simp only [shape, List.length_map] at this
  unfold fillM at h2
  omega
/-- how many completions -/
def cntN (l : List GItem) : Nat := if isPartial l = true then 4 ^ (holes l).length else 0
theorem cntN_eq (l : List GItem) : countC l = (cntN l : Int) := by unfold countC cntN; split <;> rfl
theorem cntN_le (l : List GItem) : cntN l ≤ 64 := by
  unfold cntN; split
  · rename_i h
    simp only [isPartial, Bool.and_eq_true, decide_eq_true_iff] at h
    calc 4 ^ (holes l).length ≤ 4 ^ 3 := Nat.pow_le_pow_right (by omega) h.1
      _ = 64 := rfl
  · omega
theorem cntN_pos {l : List GItem} (h : 0 < cntN l) : isPartial l = true := by unfold cntN at h; split at h; assumption; omega
def bestIn (l : List GItem) (e : List GNode) (x : GItem) (n : Nat) : Bool := (bestM (fillM l n) e).contains x.id
def possF (l : List GItem) (e : List GNode) (x : GItem) : Bool := (List.range (cntN l)).any (bestIn l e x)
def certF (l : List GItem) (e : List GNode) (x : GItem) : Bool := (List.range (cntN l)).all (bestIn l e x)
def possM (l : List GItem) (e : List GNode) : List Int := if isPartial l && isExpr e then (l.filter (possF l e)).map (·.id) else []
def certM (l : List GItem) (e : List GNode) : List Int := if isPartial l && isExpr e then (l.filter (certF l e)).map (·.id) else []
theorem possM_len (l : List GItem) (e : List GNode) : (possM l e).length ≤ l.length := by
  unfold possM; split
  · rw [List.length_map]; exact List.length_filter_le _ _
  · simp
theorem certM_len (l : List GItem) (e : List GNode) : (certM l e).length ≤ l.length := by
  unfold certM; split
  · rw [List.length_map]; exact List.length_filter_le _ _
  · simp
/-- the Ids of those of the first items for which f holds -/
def idsTo (f : GItem → Bool) (l : List GItem) (k : Nat) : List Int := ((l.take k).filter f).map (·.id)
theorem idsTo_yes {f : GItem → Bool} {l : List GItem} {k : Nat} {x : GItem} (hx : l[k]? = some x) (h : f x = true) : idsTo f l (k + 1) = idsTo f l k ++ [x.id] := by
  unfold idsTo; rw [List.take_add_one, hx, List.filter_append, List.map_append]; simp [h]
theorem idsTo_no {f : GItem → Bool} {l : List GItem} {k : Nat} {x : GItem} (hx : l[k]? = some x) (h : f x = false) : idsTo f l (k + 1) = idsTo f l k := by
  unfold idsTo; rw [List.take_add_one, hx, List.filter_append, List.map_append]; simp [h]
theorem idsTo_end {f : GItem → Bool} {l : List GItem} {k : Nat} (h : l.length ≤ k) : idsTo f l k = (l.filter f).map (·.id) := by unfold idsTo; rw [List.take_of_length_le h]
theorem idsTo_len {f : GItem → Bool} {l : List GItem} {k : Nat} : (idsTo f l k).length ≤ k := by
  unfold idsTo; rw [List.length_map]
  exact Nat.le_trans (List.length_filter_le _ _) (by rw [List.length_take]; omega)
theorem any_range_succ (f : Nat → Bool) (k : Nat) : (List.range (k + 1)).any f = ((List.range k).any f || f k) := by rw [List.range_succ, List.any_append]; simp
theorem all_range_succ (f : Nat → Bool) (k : Nat) : (List.range (k + 1)).all f = ((List.range k).all f && f k) := by rw [List.range_succ, List.all_append]; simp
theorem any_range_le {f : Nat → Bool} {k n : Nat} (h : (List.range k).any f = true) (hk : k ≤ n) : (List.range n).any f = true := by
  rw [List.any_eq_true] at h ⊢
  obtain ⟨j, hj, hf⟩ := h
  exact ⟨j, List.mem_range.2 (by have := List.mem_range.1 hj; omega), hf⟩
theorem all_range_le {f : Nat → Bool} {k n : Nat} (h : (List.range k).all f = false) (hk : k ≤ n) : (List.range n).all f = false := by
  rw [List.all_eq_false] at h ⊢
  obtain ⟨j, hj, hf⟩ := h
  exact ⟨j, List.mem_range.2 (by have := List.mem_range.1 hj; omega), hf⟩
end Go.Proofs.Ytdfmgpmfalnffaa
