/- The best couples in plain words. No program in sight. -/
import Derived.Test.YtdfmgpmfalnffaaCouples
import Derived.Test.YtdfmgpmfalnffaaModel3
namespace Go.Proofs.Ytdfmgpmfalnffaa
open Go.RowKit
set_option linter.unusedVariables false
def itemOf (l : List GItem) (id : Int) : GItem := (l[(findIdx l id).toNat]?).getD ⟨0, []⟩
theorem itemOf_at {l : List GItem} {id : Int} (h : ∃ x ∈ l, x.id = id) : ∃ (k : Nat) (x : GItem), findIdx l id = (k : Int) ∧ l[k]? = some x ∧ itemOf l id = x := by
  rcases findIdx_cases l id with ⟨_, h2⟩ | ⟨k, x, h1, h2, _⟩
  · obtain ⟨x, hx, e⟩ := h
    exact absurd e (h2 x hx)
  · exact ⟨k, x, h1, h2, by rw [itemOf, h1]; simp [h2]⟩
def beatsC (a b : List GItem) (p q : List GNode) (d c : GPair) : Bool := decide (comb 1 (cmpBy p (itemOf a d.fst) (itemOf a c.fst)) (cmpBy q (itemOf b d.snd) (itemOf b c.snd)) = 1)
def freeC (a b : List GItem) (p q : List GNode) (l : List GPair) (c : GPair) : Bool := !(l.any fun d => beatsC a b p q d c)
def bestC (a b : List GItem) (p q : List GNode) (l : List GPair) : List GPair := l.filter (freeC a b p q l)
def bestCTo (a b : List GItem) (p q : List GNode) (l : List GPair) (k : Nat) : List GPair := (l.take k).filter (freeC a b p q l)
theorem bestCTo_yes {a b : List GItem} {p q : List GNode} {l : List GPair} {k : Nat} {c : GPair} (hc : l[k]? = some c) (h : freeC a b p q l c = true) : bestCTo a b p q l (k + 1) = bestCTo a b p q l k ++ [c] := by
  unfold bestCTo; rw [List.take_add_one, hc, List.filter_append]; simp [h]
theorem bestCTo_no {a b : List GItem} {p q : List GNode} {l : List GPair} {k : Nat} {c : GPair} (hc : l[k]? = some c) (h : freeC a b p q l c = false) : bestCTo a b p q l (k + 1) = bestCTo a b p q l k := by
  unfold bestCTo; rw [List.take_add_one, hc, List.filter_append]; simp [h]
theorem bestCTo_end {a b : List GItem} {p q : List GNode} {l : List GPair} {k : Nat} (h : l.length ≤ k) : bestCTo a b p q l k = bestC a b p q l := by unfold bestCTo bestC; rw [List.take_of_length_le h]
theorem bestCTo_len {a b : List GItem} {p q : List GNode} {l : List GPair} {k : Nat} : (bestCTo a b p q l k).length ≤ k := by
  unfold bestCTo
  exact Nat.le_trans (List.length_filter_le _ _) (by rw [List.length_take]; omega)
def fitC (a b : List GItem) (c : GPair) : Prop := (areItems a = true ∧ areItems b = true) ∧ (∃ x ∈ a, x.id = c.fst) ∧ ∃ y ∈ b, y.id = c.snd
theorem coupL_mem {x : GItem} {f g : Int} : ∀ {b : List GItem} {c : GPair}, c ∈ coupL x f g b → c.fst = x.id ∧ ∃ y ∈ b, y.id = c.snd
  | y :: b, c, h => by
    unfold coupL at h
    split at h
    · rcases List.mem_cons.1 h with rfl | h
      · exact ⟨rfl, y, by simp, rfl⟩
      · obtain ⟨h1, z, hz, e⟩ := coupL_mem h; exact ⟨h1, z, by simp [hz], e⟩
    · obtain ⟨h1, z, hz, e⟩ := coupL_mem h; exact ⟨h1, z, by simp [hz], e⟩
  | [], c, h => by simp [coupL] at h
theorem coupA_mem {f g : Int} {b : List GItem} : ∀ {a : List GItem} {c : GPair}, c ∈ coupA f g b a → (∃ x ∈ a, x.id = c.fst) ∧ ∃ y ∈ b, y.id = c.snd
  | x :: a, c, h => by
    rcases List.mem_append.1 h with h | h
    · obtain ⟨h1, h2⟩ := coupL_mem h; exact ⟨⟨x, by simp, h1.symm⟩, h2⟩
    · obtain ⟨⟨z, hz, e⟩, h2⟩ := coupA_mem h; exact ⟨⟨z, by simp [hz], e⟩, h2⟩
  | [], c, h => by simp [coupA] at h
theorem couples_fit {a b : List GItem} {f g : Int} : ∀ c ∈ couples a b f g, fitC a b c := fun c hc => by
  unfold couples at hc
  split at hc
  · rename_i h
    simp only [coupOk, Bool.and_eq_true] at h
    obtain ⟨h1, h2⟩ := coupA_mem hc
    exact ⟨⟨h.1, h.2.1⟩, h1, h2⟩
  · simp at hc
def bestCoup (a b : List GItem) (f g : Int) (p q : List GNode) : List GPair := if isExpr p && isExpr q then bestC a b p q (couples a b f g) else []
theorem bestCoup_len (a b : List GItem) (f g : Int) (p q : List GNode) : (bestCoup a b f g p q).length ≤ 256 := by
  unfold bestCoup; split
  · exact Nat.le_trans (List.length_filter_le _ _) (couples_len _ _ _ _)
  · simp
end Go.Proofs.Ytdfmgpmfalnffaa
