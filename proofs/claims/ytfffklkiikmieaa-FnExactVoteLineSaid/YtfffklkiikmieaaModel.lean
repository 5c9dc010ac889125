/- The program's answers in plain words: orders, wishes, expressions. No program in sight. -/
import Derived.Test.YtfffklkiikmieaaFacts
namespace Go.Proofs.Ytfffklkiikmieaa
open Go.RowKit
set_option linter.unusedVariables false

/-! ### pairs -/
def baseB (l : List GPair) (i j : Nat) : Bool := l.any fun p => decide (p.fst = (i : Int)) && decide (p.snd = (j : Int))
def warsh (M : Nat → Nat → Bool) : Nat → Nat → Nat → Bool
  | 0 => M
  | k + 1 => fun i j => warsh M k i j || (warsh M k i k && warsh M k k j)
def reachB (l : List GPair) (a b : Int) : Bool := warsh (baseB l) 10 a.toNat b.toNat
def pairIn (p : GPair) : Bool := inB p.fst 0 9 && inB p.snd 0 9
def pairsIn (l : List GPair) : Bool := l.all pairIn
def arePairs (l : List GPair) : Bool := pairsIn l && (decide (l.length ≤ 8) && (List.range 10).all fun v => !reachB l (v : Int) (v : Int))
theorem warsh_ge {M : Nat → Nat → Bool} {i j : Nat} (h : M i j = true) : ∀ k, warsh M k i j = true
  | 0 => h
  | k + 1 => by simp [warsh, warsh_ge h k]
theorem warsh_step {M : Nat → Nat → Bool} {k i j : Nat} (h : warsh M k i j = true) : warsh M (k + 1) i j = true := by simp [warsh, h]
theorem warsh_mono {M : Nat → Nat → Bool} {i j k : Nat} (h : warsh M k i j = true) : ∀ d, warsh M (k + d) i j = true
  | 0 => h
  | d + 1 => warsh_step (warsh_mono h d)
theorem warsh_closed (M : Nat → Nat → Bool) : ∀ (k m : Nat), m < k → ∀ i j, warsh M k i m = true → warsh M k m j = true → warsh M k i j = true
  | 0, m, h, _, _, _, _ => by omega
  | k + 1, m, h, i, j, h1, h2 => by
    simp only [warsh, Bool.or_eq_true, Bool.and_eq_true] at h1 h2 ⊢
    have ih := warsh_closed M k m
    by_cases hm : m < k
    · have ih := ih hm
      rcases h1 with h1 | ⟨h1, h1'⟩ <;> rcases h2 with h2 | ⟨h2, h2'⟩
      · exact .inl (ih _ _ h1 h2)
      · exact .inr ⟨ih _ _ h1 h2, h2'⟩
      · exact .inr ⟨h1, ih _ _ h1' h2⟩
      · exact .inr ⟨h1, h2'⟩
    · obtain rfl : m = k := by omega
      rcases h1 with h1 | ⟨h1, h1'⟩ <;> rcases h2 with h2 | ⟨h2, h2'⟩
      · exact .inr ⟨h1, h2⟩
      · exact .inr ⟨h1, h2'⟩
      · exact .inr ⟨h1, h2⟩
      · exact .inr ⟨h1, h2'⟩
theorem warsh_sound {M : Nat → Nat → Bool} {R : Nat → Nat → Prop} (ht : ∀ a b c, R a b → R b c → R a c) (hM : ∀ i j, M i j = true → R i j) : ∀ (k : Nat) {i j : Nat}, warsh M k i j = true → R i j
  | 0, i, j, h => hM i j h
  | k + 1, i, j, h => by
    simp only [warsh, Bool.or_eq_true, Bool.and_eq_true] at h
    rcases h with h | ⟨h1, h2⟩
    · exact warsh_sound ht hM k h
    · exact ht _ _ _ (warsh_sound ht hM k h1) (warsh_sound ht hM k h2)
theorem warsh_row {M : Nat → Nat → Bool} {k i : Nat} : warsh M (k + 1) i k = warsh M k i k := by
  simp only [warsh]; cases warsh M k i k <;> simp
theorem warsh_col {M : Nat → Nat → Bool} {k j : Nat} : warsh M (k + 1) k j = warsh M k k j := by
  simp only [warsh]; cases warsh M k k j <;> simp
theorem baseB_mem {l : List GPair} {i j : Nat} (h : baseB l i j = true) : ∃ p ∈ l, p.fst = (i : Int) ∧ p.snd = (j : Int) := by
  obtain ⟨p, hp, h⟩ := List.any_eq_true.1 h
  simp at h
  exact ⟨p, hp, h⟩
theorem pairsIn_mem {l : List GPair} (h : pairsIn l = true) {p : GPair} (hp : p ∈ l) : (0 ≤ p.fst ∧ p.fst ≤ 9) ∧ 0 ≤ p.snd ∧ p.snd ≤ 9 := by
  have := List.all_eq_true.1 h p hp
  simp only [pairIn, Bool.and_eq_true, inB_iff] at this
  exact this
theorem reach_edge {l : List GPair} (hl : pairsIn l = true) {p : GPair} (hp : p ∈ l) : reachB l p.fst p.snd = true := by
  have := pairsIn_mem hl hp
  refine warsh_ge ?_ 10
  refine List.any_eq_true.2 ⟨p, hp, ?_⟩
  simp only [Bool.and_eq_true, decide_eq_true_iff]
  omega
theorem reach_trans {l : List GPair} {a b c : Int} (hb : 0 ≤ b ∧ b ≤ 9) (h1 : reachB l a b = true) (h2 : reachB l b c = true) : reachB l a c = true :=
  warsh_closed _ 10 b.toNat (by omega) _ _ h1 h2
/-- what a search that has come to its end tells -/
theorem reach_no {l : List GPair} {a b : Int} {S : List Int} (ha : 0 ≤ a) (hb : 0 ≤ b) (h0 : a ∈ S) (hS : ∀ s ∈ S, ∀ p ∈ l, p.fst = s → p.snd ∈ S ∧ p.snd ≠ b) : reachB l a b = false := by
  rw [Bool.eq_false_iff]
  intro h
  have := warsh_sound (R := fun i j => (i : Int) ∈ S → ((j : Int) ∈ S ∧ (j : Int) ≠ b)) (fun x y z h1 h2 hx => h2 (h1 hx).1) (fun i j h hi => by
    obtain ⟨p, hp, e1, e2⟩ := baseB_mem h
    rw [← e2]; exact hS _ hi p hp e1) 10 h
  have := this (by rw [Int.toNat_of_nonneg ha]; exact h0)
  omega

end Go.Proofs.Ytfffklkiikmieaa
