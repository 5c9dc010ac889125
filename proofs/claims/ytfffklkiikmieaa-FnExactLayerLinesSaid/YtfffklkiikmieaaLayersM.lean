/- Layers of items in plain words. No program in sight. -/
import Derived.Test.YtfffklkiikmieaaOrder
namespace Go.Proofs.Ytfffklkiikmieaa
open Go.RowKit
set_option linter.unusedVariables false

/-- what is left behind the best -/
def restM (l : List GItem) (e : List GNode) : List GItem := onlyM l (bestM l e) false
def layersF (e : List GNode) : Nat → List GItem → List (List Int)
  | 0, _ => []
  | n + 1, l => if l.length = 0 then [] else bestM l e :: layersF e n (restM l e)
theorem rest_lt {l : List GItem} {e : List GNode} (hE : isExpr e = true) (hl : ¬ l.length = 0) (hi : ∀ x ∈ l, isItem x = true) : (restM l e).length < l.length := by
  have hb := best_pos hE (fun h => hl (by rw [h]; rfl)) hi
  obtain ⟨b, hb⟩ := List.exists_mem_of_ne_nil _ hb
  obtain ⟨x, hx, rfl⟩ := List.mem_map.1 (show b ∈ (l.filter (freeIn l e)).map (·.id) from hb)
  have hxl := (List.mem_filter.1 hx).1
  rcases Nat.lt_or_ge (restM l e).length l.length with h | h
  · exact h
  · exfalso
    have h2 : (restM l e).length = l.length := Nat.le_antisymm (List.length_filter_le _ _) h
    have := List.length_filter_eq_length_iff.1 h2 x hxl
    simp only [beq_iff_eq] at this
    rw [List.contains_iff_mem.2 hb] at this
    cases this
theorem rest_items {l : List GItem} {e : List GNode} (h : areItems l = true) : areItems (restM l e) = true := areItems_filter _ h
theorem layersF_fuel {e : List GNode} (hE : isExpr e = true) : ∀ (n m : Nat) (l : List GItem), areItems l = true → l.length ≤ n → l.length ≤ m → layersF e n l = layersF e m l
  | 0, 0, l, _, _, _ => rfl
  | 0, m + 1, l, _, h, _ => by simp only [layersF]; rw [if_pos (by omega)]
  | n + 1, 0, l, _, _, h => by simp only [layersF]; rw [if_pos (by omega)]
  | n + 1, m + 1, l, hi, h1, h2 => by
    simp only [layersF]
    by_cases hl : l.length = 0
    · rw [if_pos hl, if_pos hl]
    · rw [if_neg hl, if_neg hl]
      have := rest_lt hE hl (fun x hx => areItems_mem hi hx)
      rw [layersF_fuel hE n m _ (rest_items hi) (by omega) (by omega)]
def layersOf (l : List GItem) (e : List GNode) : List (List Int) := layersF e l.length l
theorem layersOf_nil {l : List GItem} {e : List GNode} (h : l.length = 0) : layersOf l e = [] := by unfold layersOf; rw [h]; rfl
theorem layersOf_cons {l : List GItem} {e : List GNode} (hE : isExpr e = true) (hi : areItems l = true) (h : ¬ l.length = 0) : layersOf l e = bestM l e :: layersOf (restM l e) e := by
  unfold layersOf
  obtain ⟨n, hn⟩ : ∃ n, l.length = n + 1 := ⟨l.length - 1, by omega⟩
  have := rest_lt hE h (fun x hx => areItems_mem hi hx)
  rw [hn]
  simp only [layersF]
  rw [if_neg h, layersF_fuel hE n (restM l e).length _ (rest_items hi) (by omega) (Nat.le_refl _)]
theorem layersF_len {e : List GNode} : ∀ (n : Nat) (l : List GItem), (layersF e n l).length ≤ n
  | 0, _ => Nat.le_refl _
  | n + 1, l => by
    simp only [layersF]
    split
    · simp
    · have := layersF_len (e := e) n (restM l e)
      simp only [List.length_cons]; omega
theorem layersF_mem {e : List GNode} : ∀ (n : Nat) (l : List GItem) (b : List Int), b ∈ layersF e n l → b.length ≤ l.length
  | 0, _, _, h => by simp [layersF] at h
  | n + 1, l, b, h => by
    simp only [layersF] at h
    split at h
    · simp at h
    · rcases List.mem_cons.1 h with rfl | h
      · exact bestM_len l e
      · exact Nat.le_trans (layersF_mem n _ b h) (List.length_filter_le _ _)
def layersM (l : List GItem) (e : List GNode) : List (List Int) := if areBoth l e then layersOf l e else []
theorem layersM_len (l : List GItem) (e : List GNode) : (layersM l e).length ≤ 16 := by
  unfold layersM; split
  · rename_i h
    have := areItems_len (areBoth_items h)
    have := layersF_len (e := e) l.length l
    unfold layersOf; omega
  · simp
theorem layersM_mem {l : List GItem} {e : List GNode} {b : List Int} (h : b ∈ layersM l e) : b.length ≤ 16 := by
  unfold layersM at h; split at h
  · rename_i h2
    have := areItems_len (areBoth_items h2)
    have := layersF_mem l.length l b h
    omega
  · simp at h
end Go.Proofs.Ytfffklkiikmieaa
