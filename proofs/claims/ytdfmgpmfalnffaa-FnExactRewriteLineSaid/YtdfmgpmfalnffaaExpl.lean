/- Why an item is not one of the best: ExplainItem in both programs. -/
import Derived.Test.YtdfmgpmfalnffaaDom
import Derived.Test.YtdfmgpmfalnffaaChangeI
import Derived.Test.YtdfmgpmfalnffaaChangeS
import Derived.Test.YtdfmgpmfalnffaaLines3
namespace Go.Proofs.Ytdfmgpmfalnffaa
open Go.RowKit
set_option linter.unusedVariables false
set_option linter.unusedSimpArgs false
def explLine (l : List GItem) (e : List GNode) (id : Int) : ByteArray :=
  if changeOk l e id then (if relM l e id 1 = [] then ⟨#[98, 101, 115, 116]⟩ else ⟨#[98, 101, 108, 111, 119, 32]⟩ ++ numText (relM l e id 1) ⟨#[44]⟩ ++ ⟨#[32, 99, 104, 97, 110, 103, 101, 32, 116, 111, 32]⟩ ++ numText (changeX l e id).vals ⟨#[44]⟩ ++ ⟨#[32, 99, 111, 115, 116, 32]⟩ ++ fmtInt (changeC l e id)) else ⟨#[]⟩
theorem best_iff {l : List GItem} {e : List GNode} {id : Int} (h : changeOk l e id = true) : (bestItems l e).contains id = decide (relM l e id 1 = []) := by
  rcases change_cases l e id with hc | ⟨hB, j, p, hf, hp, hid⟩
  · rw [hc] at h; exact absurd h (by simp)
  · rw [relM_yes hB hf hp]
    have hpm := List.mem_of_getElem? hp
    have h1 : bestItems l e = bestM l e := by unfold bestItems; rw [hB]; rfl
    rw [h1, Bool.eq_iff_iff, List.contains_iff_mem, decide_eq_true_eq]
    constructor
    · intro hm
      obtain ⟨x, hx, hxi⟩ := List.mem_map.1 (show id ∈ (l.filter (freeIn l e)).map (·.id) from hm)
      have hxp : x = p := areItems_uniq (areBoth_items hB) (List.mem_filter.1 hx).1 hpm (hxi.trans hid.symm)
      subst hxp
      have hf2 := (List.mem_filter.1 hx).2
      unfold freeIn at hf2
      rw [Bool.not_eq_true', List.any_eq_false] at hf2
      unfold idsOf
      rw [List.map_eq_nil_iff, List.filter_eq_nil_iff]
      intro y hy
      exact hf2 y hy
    · intro hn
      unfold idsOf at hn
      rw [List.map_eq_nil_iff, List.filter_eq_nil_iff] at hn
      refine List.mem_map.2 ⟨p, List.mem_filter.2 ⟨hpm, ?_⟩, hid⟩
      unfold freeIn
      rw [Bool.not_eq_true', List.any_eq_false]
      exact hn
theorem relM_ids {l : List GItem} {e : List GNode} {id c : Int} (hB : areBoth l e = true) {v : Int} (hv : v ∈ relM l e id c) : 0 ≤ v ∧ v ≤ 99 := by
  unfold relM at hv
  split at hv
  · unfold idsOf at hv
    obtain ⟨x, hx, rfl⟩ := List.mem_map.1 hv
    exact isItem_id (areItems_mem (areBoth_items hB) (List.mem_filter.1 hx).1)
  · simp at hv
theorem change_at (l : List GItem) (e : List GNode) (id : Int) : (changeX l e id = ⟨0, []⟩ ∧ changeC l e id = 0) ∨ (∃ m p, m < 1000 ∧ changeX l e id = candI id m ∧ changeC l e id = costOf p (candI id m)) ∨ (changeX l e id = ⟨0, []⟩ ∧ changeC l e id = -1) := by
  unfold changeX changeC
  split
  · rcases chTo_sign l e (itemAt l id) id 1000 with h | h
    · rw [h]; exact .inr (.inr ⟨rfl, rfl⟩)
    · obtain ⟨m, hm, h1, _⟩ := chTo_at l e (itemAt l id) id 1000 h
      rw [h1]
      exact .inr (.inl ⟨m, _, hm, rfl, rfl⟩)
  · exact .inl ⟨rfl, rfl⟩
theorem changeX_vals (l : List GItem) (e : List GNode) (id : Int) {v : Int} (hv : v ∈ (changeX l e id).vals) : 0 ≤ v ∧ v ≤ 9 := by
  rcases change_at l e id with ⟨h, _⟩ | ⟨m, p, hm, h, _⟩ | ⟨h, _⟩
  · rw [h] at hv; simp at hv
  · rw [h] at hv
    simp only [candI, List.mem_cons, List.not_mem_nil, or_false] at hv
    omega
  · rw [h] at hv; simp at hv
theorem changeX_len (l : List GItem) (e : List GNode) (id : Int) : (changeX l e id).vals.length ≤ 3 := by
  rcases change_at l e id with ⟨h, _⟩ | ⟨m, p, hm, h, _⟩ | ⟨h, _⟩
  · rw [h]; exact Nat.zero_le _
  · rw [h]; exact Nat.le_refl _
  · rw [h]; exact Nat.zero_le _
theorem costL_le : ∀ {xs ys : List Int}, (∀ v ∈ xs, 0 ≤ v ∧ v ≤ 9) → (∀ v ∈ ys, 0 ≤ v ∧ v ≤ 9) → costL xs ys ≤ 9 * xs.length
  | a :: p, b :: q, h1, h2 => by
    have := costL_le (xs := p) (ys := q) (fun v hv => h1 v (by simp [hv])) (fun v hv => h2 v (by simp [hv]))
    have ha := h1 a (by simp)
    have hb := h2 b (by simp)
    have hd : dist a b ≤ 9 := by unfold dist; split <;> omega
    rw [costL, List.length_cons]; omega
  | [], _, _, _ => by simp [costL]
  | _ :: _, [], _, _ => by simp [costL]; omega
theorem costOf_le (x y : GItem) : costOf x y ≤ 27 := by
  unfold costOf
  split
  · rename_i h
    rw [Bool.and_eq_true] at h
    have := costL_le (fun v hv => isItem_val h.1 (v := v) hv) (fun v hv => isItem_val h.2 (v := v) hv)
    rw [isItem_len h.1] at this
    omega
  · omega
theorem changeC_bd (l : List GItem) (e : List GNode) (id : Int) (hB : areBoth l e = true) : 0 ≤ changeC l e id ∧ changeC l e id ≤ 27 := by
  rcases change_cases l e id with hc | ⟨_, j, p, hf, hp, hid⟩
  · unfold changeC; rw [hc]; simp
  · have hid2 := isItem_id (areItems_mem (areBoth_items hB) (List.mem_of_getElem? hp))
    rw [hid] at hid2
    have h0 := change_pos (p := itemAt l id) hB hid2
    unfold changeC
    split
    · obtain ⟨m, hm, h1, _⟩ := chTo_at l e (itemAt l id) id 1000 h0
      refine ⟨h0, ?_⟩
      rw [h1]; exact costOf_le _ _
    · omega
theorem numText_size {l : List Int} (sep : ByteArray) (hw : ∀ x ∈ l, (Lit.int .i64 x).wf = true) : (numText l sep).size ≤ l.length * (20 + sep.size) := by
  unfold numText glued
  have h1 := gl_size sep (numList l) 0 ⟨#[]⟩
  have h2 := numList_size (l := l) sep hw
  have e0 : (⟨#[]⟩ : ByteArray).size = 0 := rfl
  omega
theorem fItem_shape {w : World} {x : GItem} {cs : List Value} {F : List Nat} (h : fItem w x cs F) : ∃ A c, cs = [.int .i64 x.id, .slice A x.vals.length c] ∧ fInts w x.vals [.slice A x.vals.length c] F := by
  obtain ⟨v, e, h⟩ := h
  obtain ⟨A, c, rfl, _⟩ := rSl_shape (fInts_Rd h)
  exact ⟨A, c, e, h⟩
set_option maxHeartbeats 1600000 in
theorem S_l2List (w : World) (l : List Int) (v : Value) (h : Rd rInts w l [v]) (hw : ∀ x ∈ l, (Lit.int .i64 x).wf = true) (hn : l.length ≤ 1048576) :
    Calls Try.prog 161 #[v] w (Ret w (.string (numText l ⟨#[44]⟩))) := by
  obtain ⟨A, n, c, rfl, a1, a2, a3⟩ := rSl_open h
  have L1 := Lib.hid a1
  rw [← a1] at hn
  clear a1
  go_enter Try.func161, Try.ntmps161
  go_wp2
  go_loopw [3, 4] (fun s i w' => ∃ (k : Nat) (acc : ByteArray), k ≤ n ∧ i = .int .i64 k ∧ s = .string acc ∧ Hid (numText l ⟨#[44]⟩ = gl ⟨#[44]⟩ k acc (numList (l.drop k))) ∧ acc.size ≤ 21 * k ∧ Bw w w') (fun s i _ => n - (intOf i).toNat)
  case atStart => exact ⟨0, _, by omega, rfl, rfl, rfl, Nat.zero_le _, Bw.refl _⟩
  case round =>
    obtain ⟨k, acc, hk, rfl, rfl, HE, g1, hb⟩ := hrel
    by_cases hlt : k < n
    · obtain ⟨x, hx⟩ := get_of_lt (xs := l) (k := k) (by rw [← L1.out]; exact hlt)
      obtain ⟨ba, oa, rfl, _, hcx⟩ := rInts_at (h.bw rInts_good hb) hx
      have hwx := hw x (List.mem_of_getElem? hx)
      have HS := Lib.hid (numText_step (sep := ⟨#[44]⟩) (acc := acc) hx)
      have ⟨hsz1, hsz⟩ := fmtInt_size hwx
      clear hx h hw hsz1
      by_cases h0 : 0 < k
      · have hadd : ∀ W, (Op.stringOp .add acc ⟨#[44]⟩).run Try.prog W = .ok (.string (acc ++ ⟨#[44]⟩)) W := fun W => run_string_add_sum W _ _ (by have e : (⟨#[44]⟩ : ByteArray).size = 1 := rfl; omega)
        have hadd2 : ∀ W, (Op.stringOp .add (acc ++ ⟨#[44]⟩) (fmtInt x)).run Try.prog W = .ok (.string (acc ++ ⟨#[44]⟩ ++ fmtInt x)) W := fun W => run_string_add_sum W _ _ (by have e : (⟨#[44]⟩ : ByteArray).size = 1 := rfl; rw [size_append]; omega)
        go_wp2_with fail
        refine (S_FormatInt _ x hwx).mono ?_
        rintro e w1 ⟨rfl, hb1⟩
        go_wp2
        go_roundw
        case rel => exact ⟨k + 1, _, by omega, by go_num, rfl, by show _ = _; rw [HE.out, HS.out, if_pos h0], by have e : (⟨#[44]⟩ : ByteArray).size = 1 := rfl; rw [size_append, size_append]; omega, hb.then hb1⟩
        case measure => simp [intOf]; omega
      · have hadd2 : ∀ W, (Op.stringOp .add acc (fmtInt x)).run Try.prog W = .ok (.string (acc ++ fmtInt x)) W := fun W => run_string_add_sum W _ _ (by omega)
        go_wp2_with fail
        refine (S_FormatInt _ x hwx).mono ?_
        rintro e w1 ⟨rfl, hb1⟩
        go_wp2
        go_roundw
        case rel => exact ⟨k + 1, _, by omega, by go_num, rfl, by show _ = _; rw [HE.out, HS.out, if_neg (by omega)], by rw [size_append]; omega, hb.then hb1⟩
        case measure => simp [intOf]; omega
    · have hacc : Hid (acc = numText l ⟨#[44]⟩) := by show _ = _; rw [HE.out, List.drop_of_length_le (by rw [← L1.out]; omega)]; rfl
      go_wp2
      go_ret
      exact Ret.str hacc.out hb
end Go.Proofs.Ytdfmgpmfalnffaa
