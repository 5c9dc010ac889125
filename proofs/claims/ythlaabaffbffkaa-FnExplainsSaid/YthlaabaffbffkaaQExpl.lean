/- Why an item is not one of the best: ExplainItem in both programs. -/
import Derived.Test.YthlaabaffbffkaaQDom
import Derived.Test.YthlaabaffbffkaaQChangeI
import Derived.Test.YthlaabaffbffkaaQChangeS
import Derived.Test.YthlaabaffbffkaaQLines3
namespace Go.Proofs.Ythlaabaffbffkaa
open Go.RowKit
set_option linter.unusedVariables false
set_option linter.unusedSimpArgs false
def explLine (l : List GItem) (e : List GNode) (id : Int) : ByteArray :=
  if changeOk l e id then (if relM l e id 1 = [] then ⟨#[98, 101, 115, 116]⟩ else ⟨#[98, 101, 108, 111, 119, 32]⟩ ++ numText (relM l e id 1) ⟨#[44]⟩ ++ ⟨#[32, 99, 104, 97, 110, 103, 101, 32, 116, 111, 32]⟩ ++ numText (changeX l e id).vals ⟨#[44]⟩ ++ ⟨#[32, 99, 111, 115, 116, 32]⟩ ++ fmtInt (changeC l e id)) else ⟨#[]⟩
theorem best_iff {l : List GItem} {e : List GNode} {id : Int} (h : changeOk l e id = true) : (bestItems l e).contains id = decide (relM l e id 1 = []) := by
  rcases change_cases l e id with hc | ⟨hB, j, p, hf, hp, hid⟩
  · rw [hc] at h; exact absurd h (by simp)
  · rw [relM_yes hB hf hp]
    have hpm := List.mem_of_getElem? hp
    have h1 : bestItems l e = bestM l e := by unfold bestItems; rw [hB]; rfl
    rw [h1, Bool.eq_iff_iff, List.contains_iff_mem, decide_eq_true_eq]
    constructor
    · intro hm
      obtain ⟨x, hx, hxi⟩ := List.mem_map.1 (show id ∈ (l.filter (freeIn l e)).map (·.id) from hm)
      have hxp : x = p := areItems_uniq (areBoth_items hB) (List.mem_filter.1 hx).1 hpm (hxi.trans hid.symm)
      subst hxp
      have hf2 := (List.mem_filter.1 hx).2
      unfold freeIn at hf2
      rw [Bool.not_eq_true', List.any_eq_false] at hf2
      unfold idsOf
      rw [List.map_eq_nil_iff, List.filter_eq_nil_iff]
      intro y hy
      exact hf2 y hy
    · intro hn
      unfold idsOf at hn
      rw [List.map_eq_nil_iff, List.filter_eq_nil_iff] at hn
      refine List.mem_map.2 ⟨p, List.mem_filter.2 ⟨hpm, ?_⟩, hid⟩
      unfold freeIn
      rw [Bool.not_eq_true', List.any_eq_false]
      exact hn
theorem relM_ids {l : List GItem} {e : List GNode} {id c : Int} (hB : areBoth l e = true) {v : Int} (hv : v ∈ relM l e id c) : 0 ≤ v ∧ v ≤ 99 := by
  unfold relM at hv
  split at hv
  · unfold idsOf at hv
    obtain ⟨x, hx, rfl⟩ := List.mem_map.1 hv
    exact isItem_id (areItems_mem (areBoth_items hB) (List.mem_filter.1 hx).1)
  · simp at hv
theorem change_at (l : List GItem) (e : List GNode) (id : Int) : (changeX l e id = ⟨0, []⟩ ∧ changeC l e id = 0) ∨ (∃ m p, m < 1000 ∧ changeX l e id = candI id m ∧ changeC l e id = costOf p (candI id m)) ∨ (changeX l e id = ⟨0, []⟩ ∧ changeC l e id = -1) := by
  unfold changeX changeC
  split
  · rcases chTo_sign l e (itemAt l id) id 1000 with h | h
    · rw [h]; exact .inr (.inr ⟨rfl, rfl⟩)
    · obtain ⟨m, hm, h1, _⟩ := chTo_at l e (itemAt l id) id 1000 h
      rw [h1]
      exact .inr (.inl ⟨m, _, hm, rfl, rfl⟩)
  · exact .inl ⟨rfl, rfl⟩
theorem changeX_vals (l : List GItem) (e : List GNode) (id : Int) {v : Int} (hv : v ∈ (changeX l e id).vals) : 0 ≤ v ∧ v ≤ 9 := by
  rcases change_at l e id with ⟨h, _⟩ | ⟨m, p, hm, h, _⟩ | ⟨h, _⟩
  · rw [h] at hv; simp at hv
  · rw [h] at hv
    simp only [candI, List.mem_cons, List.not_mem_nil, or_false] at hv
    omega
  · rw [h] at hv; simp at hv
theorem changeX_len (l : List GItem) (e : List GNode) (id : Int) : (changeX l e id).vals.length ≤ 3 := by
  rcases change_at l e id with ⟨h, _⟩ | ⟨m, p, hm, h, _⟩ | ⟨h, _⟩
  · rw [h]; exact Nat.zero_le _
  · rw [h]; exact Nat.le_refl _
  · rw [h]; exact Nat.zero_le _
theorem costL_le : ∀ {xs ys : List Int}, (∀ v ∈ xs, 0 ≤ v ∧ v ≤ 9) → (∀ v ∈ ys, 0 ≤ v ∧ v ≤ 9) → costL xs ys ≤ 9 * xs.length
  | a :: p, b :: q, h1, h2 => by
    have := costL_le (xs := p) (ys := q) (fun v hv => h1 v (by simp [hv])) (fun v hv => h2 v (by simp [hv]))
    have ha := h1 a (by simp)
    have hb := h2 b (by simp)
    have hd : dist a b ≤ 9 := by unfold dist; split <;> omega
    rw [costL, List.length_cons]; omega
  | [], _, _, _ => by simp [costL]
  | _ :: _, [], _, _ => by simp [costL]; omega
theorem costOf_le (x y : GItem) : costOf x y ≤ 27 := by
  unfold costOf
  split
  · rename_i h
    rw [Bool.and_eq_true] at h
    have := costL_le (fun v hv => isItem_val h.1 (v := v) hv) (fun v hv => isItem_val h.2 (v := v) hv)
    rw [isItem_len h.1] at this
    omega
  · omega
theorem changeC_bd (l : List GItem) (e : List GNode) (id : Int) (hB : areBoth l e = true) : 0 ≤ changeC l e id ∧ changeC l e id ≤ 27 := by
  rcases change_cases l e id with hc | ⟨_, j, p, hf, hp, hid⟩
  · unfold changeC; rw [hc]; simp
  · have hid2 := isItem_id (areItems_mem (areBoth_items hB) (List.mem_of_getElem? hp))
    rw [hid] at hid2
    have h0 := change_pos (p := itemAt l id) hB hid2
    unfold changeC
    split
    · obtain ⟨m, hm, h1, _⟩ := chTo_at l e (itemAt l id) id 1000 h0
      refine ⟨h0, ?_⟩
      rw [h1]; exact costOf_le _ _
    · omega
theorem numText_size {l : List Int} (sep : ByteArray) (hw : ∀ x ∈ l, (Lit.int .i64 x).wf = true) : (numText l sep).size ≤ l.length * (20 + sep.size) := by
  unfold numText glued
  have h1 := gl_size sep (numList l) 0 ⟨#[]⟩
  have h2 := numList_size (l := l) sep hw
  have e0 : (⟨#[]⟩ : ByteArray).size = 0 := rfl
  omega
theorem fItem_shape {w : World} {x : GItem} {cs : List Value} {F : List Nat} (h : fItem w x cs F) : ∃ A c, cs = [.int .i64 x.id, .slice A x.vals.length c] ∧ fInts w x.vals [.slice A x.vals.length c] F := by
  obtain ⟨v, e, h⟩ := h
  obtain ⟨A, c, rfl, _⟩ := rSl_shape (fInts_Rd h)
  exact ⟨A, c, e, h⟩
set_option maxHeartbeats 1600000 in
theorem S_l2List (w : World) (l : List Int) (v : Value) (h : Rd rInts w l [v]) (hw : ∀ x ∈ l, (Lit.int .i64 x).wf = true) (hn : l.length ≤ 1048576) :
    Calls Try.prog 32 #[v] w (Ret w (.string (numText l ⟨#[44]⟩))) := by
  obtain ⟨A, n, c, rfl, a1, a2, a3⟩ := rSl_open h
  have L1 := Lib.hid a1
  rw [← a1] at hn
  clear a1
  go_enter Try.func32, Try.ntmps32
  go_wp2
  go_loopw [3, 4] (fun s i w' => ∃ (k : Nat) (acc : ByteArray), k ≤ n ∧ i = .int .i64 k ∧ s = .string acc ∧ Hid (numText l ⟨#[44]⟩ = gl ⟨#[44]⟩ k acc (numList (l.drop k))) ∧ acc.size ≤ 21 * k ∧ Bw w w') (fun s i _ => n - (intOf i).toNat)
  case atStart => exact ⟨0, _, by omega, rfl, rfl, rfl, Nat.zero_le _, Bw.refl _⟩
  case round =>
    obtain ⟨k, acc, hk, rfl, rfl, HE, g1, hb⟩ := hrel
    by_cases hlt : k < n
    · obtain ⟨x, hx⟩ := get_of_lt (xs := l) (k := k) (by rw [← L1.out]; exact hlt)
      obtain ⟨ba, oa, rfl, _, hcx⟩ := rInts_at (h.bw rInts_good hb) hx
      have hwx := hw x (List.mem_of_getElem? hx)
      have HS := Lib.hid (numText_step (sep := ⟨#[44]⟩) (acc := acc) hx)
      have ⟨hsz1, hsz⟩ := fmtInt_size hwx
      clear hx h hw hsz1
      by_cases h0 : 0 < k
      · have hadd : ∀ W, (Op.stringOp .add acc ⟨#[44]⟩).run Try.prog W = .ok (.string (acc ++ ⟨#[44]⟩)) W := fun W => run_string_add_sum W _ _ (by have e : (⟨#[44]⟩ : ByteArray).size = 1 := rfl; omega)
        have hadd2 : ∀ W, (Op.stringOp .add (acc ++ ⟨#[44]⟩) (fmtInt x)).run Try.prog W = .ok (.string (acc ++ ⟨#[44]⟩ ++ fmtInt x)) W := fun W => run_string_add_sum W _ _ (by have e : (⟨#[44]⟩ : ByteArray).size = 1 := rfl; rw [size_append]; omega)
        go_wp2_with fail
        refine (S_FormatInt _ x hwx).mono ?_
        rintro e w1 ⟨rfl, hb1⟩
        go_wp2
        go_roundw
        case rel => exact ⟨k + 1, _, by omega, by go_num, rfl, by show _ = _; rw [HE.out, HS.out, if_pos h0], by have e : (⟨#[44]⟩ : ByteArray).size = 1 := rfl; rw [size_append, size_append]; omega, hb.then hb1⟩
        case measure => simp [intOf]; omega
      · have hadd2 : ∀ W, (Op.stringOp .add acc (fmtInt x)).run Try.prog W = .ok (.string (acc ++ fmtInt x)) W := fun W => run_string_add_sum W _ _ (by omega)
        go_wp2_with fail
        refine (S_FormatInt _ x hwx).mono ?_
        rintro e w1 ⟨rfl, hb1⟩
        go_wp2
        go_roundw
        case rel => exact ⟨k + 1, _, by omega, by go_num, rfl, by show _ = _; rw [HE.out, HS.out, if_neg (by omega)], by rw [size_append]; omega, hb.then hb1⟩
        case measure => simp [intOf]; omega
    · have hacc : Hid (acc = numText l ⟨#[44]⟩) := by show _ = _; rw [HE.out, List.drop_of_length_le (by rw [← L1.out]; omega)]; rfl
      go_wp2
      go_ret
      exact Ret.str hacc.out hb
set_option maxRecDepth 100000 in
set_option maxHeartbeats 6400000 in
theorem S_ExplainItem (w : World) (l : List GItem) (e : List GNode) (id : Int) (v u : Value) (h : Rd rItems w l [v]) (h' : Rd rNodes w e [u]) :
    Calls Try.prog 10 #[v, u, .int .i64 id] w (Ret w (.string (explLine l e id))) := by
  obtain ⟨K, hK⟩ : ∃ K, K = findIdx l id := ⟨_, rfl⟩
  have HK := Lib.hid hK
  have hcall := fun W (B : Bw w W) => S_FindItem W l id _ (h.bw rItems_good B)
  rw [← hK] at hcall
  clear hK
  go_enter Try.func10, Try.ntmps10
  go_wp2_with fail
  refine (S_l7Fine _ l e _ _ h h').mono ?_
  rintro e w1 ⟨rfl, hb1⟩
  rcases Bool.eq_false_or_eq_true (areBoth l e) with e1 | e1
  · have HB := Lib.hid e1
    rw [e1]
    clear e1
    go_wp2_with fail
    refine (hcall _ hb1).mono ?_
    rintro e w2 ⟨rfl, hb2⟩
    have B2 := hb1.then hb2
    clear hcall
    by_cases hk : K < 0
    · have HN := Lib.hid (show explLine l e id = ⟨#[]⟩ by
        have : changeOk l e id = false := by unfold changeOk; rw [HB.out, ← HK.out]; simp; omega
        unfold explLine; rw [this]; rfl)
      go_wp2
      go_ret
      exact Ret.str (by rw [HN.out]) (B2)
    · have HOK := Lib.hid (show changeOk l e id = true by unfold changeOk; rw [HB.out, ← HK.out]; simp; omega)
      go_wp2_with fail
      refine (S_DominatorsOf _ l e id _ _ (h.bw rItems_good B2) (h'.bw rNodes_good B2)).mono ?_
      rintro e w3 ⟨v3, rfl, ⟨F3, o3, f3⟩, hb3⟩
      have B3 := B2.then hb3
      by_cases hne : relM l e id 1 = []
      · have HN := Lib.hid (show explLine l e id = ⟨#[98, 101, 115, 116]⟩ by rw [explLine, if_pos HOK.out, if_pos hne])
        rw [hne] at o3
        obtain ⟨A3, c3, rfl, _⟩ := rSl_shape (fInts_Rd o3)
        clear hne
        go_wp2
        go_ret
        exact Ret.str (by rw [HN.out]) (B3)
      · have HNE := Lib.hid hne
        have hl0 : (relM l e id 1).length ≠ 0 := fun h => hne (List.eq_nil_of_length_eq_zero h)
        obtain ⟨A3, n3, c3, rfl, L3, _, _⟩ := rSl_open (fInts_Rd o3)
        rw [← L3] at hl0
        have hl1 : ((n3 : Int) == 0) = false := by simpa using hl0
        have hd3 := fInts_Rd o3
        clear hne L3 hl0
        go_wp2_with fail
        refine (S_SmallestChange _ l e id _ _ (h.bw rItems_good B3) (h'.bw rNodes_good B3)).mono ?_
        rintro e w4 ⟨_, rfl, ⟨cs, rfl, F4, o4, f4⟩, hb4⟩
        have B4 := B3.then hb4
        obtain ⟨A4, c4, rfl, o5⟩ := fItem_shape o4
        obtain ⟨X, hX⟩ : ∃ X, X = changeX l e id := ⟨_, rfl⟩
        have hx4 := fInts_Rd o5
        have hids : ∀ v ∈ relM l e id 1, (Lit.int .i64 v).wf = true := fun v hv => wf_small' (by have := relM_ids HB.out hv; omega)
        have hvs : ∀ v ∈ (changeX l e id).vals, (Lit.int .i64 v).wf = true := fun v hv => wf_small' (by have := changeX_vals l e id hv; omega)
        have wc := wf_small' (n := changeC l e id) (by have := changeC_bd l e id HB.out; omega)
        have dl := Nat.le_trans (relM_len l e id 1) (areItems_len (areBoth_items HB.out))
        have xl := changeX_len l e id
        have HF := Lib.hid (show ⟨#[98, 101, 108, 111, 119, 32]⟩ ++ numText (relM l e id 1) ⟨#[44]⟩ ++ ⟨#[32, 99, 104, 97, 110, 103, 101, 32, 116, 111, 32]⟩ ++ numText (changeX l e id).vals ⟨#[44]⟩ ++ ⟨#[32, 99, 111, 115, 116, 32]⟩ ++ fmtInt (changeC l e id) = explLine l e id by rw [explLine, if_pos HOK.out, if_neg HNE.out])
        obtain ⟨P, hP⟩ : ∃ P, P = numText (relM l e id 1) ⟨#[44]⟩ := ⟨_, rfl⟩
        obtain ⟨Q, hQ⟩ : ∃ Q, Q = numText (changeX l e id).vals ⟨#[44]⟩ := ⟨_, rfl⟩
        obtain ⟨R, hR⟩ : ∃ R, R = fmtInt (changeC l e id) := ⟨_, rfl⟩
        have szP : P.size ≤ 400 := by rw [hP]; have := numText_size ⟨#[44]⟩ hids; have e : (⟨#[44]⟩ : ByteArray).size = 1 := rfl; rw [e] at this; omega
        have szQ : Q.size ≤ 400 := by rw [hQ]; have := numText_size ⟨#[44]⟩ hvs; have e : (⟨#[44]⟩ : ByteArray).size = 1 := rfl; rw [e] at this; omega
        have szR : R.size ≤ 20 := by rw [hR]; exact (fmtInt_size wc).2
        have cP : ∀ W v, Rd rInts W (relM l e id 1) [v] → Calls Try.prog 32 #[v] W (Ret W (.string P)) := fun W v h => by rw [hP]; exact S_l2List W (relM l e id 1) v h hids (by omega)
        have cQ : ∀ W v, Rd rInts W (changeX l e id).vals [v] → Calls Try.prog 32 #[v] W (Ret W (.string Q)) := fun W v h => by rw [hQ]; exact S_l2List W (changeX l e id).vals v h hvs (by omega)
        have cR : ∀ W, Calls Try.prog 33 #[.int .i64 (changeC l e id)] W (Ret W (.string R)) := fun W => by rw [hR]; exact S_FormatInt W _ wc
        rw [← hP, ← hQ, ← hR] at HF
        have a1 : ∀ W, (Op.stringOp .add ⟨#[98, 101, 108, 111, 119, 32]⟩ P).run Try.prog W = .ok (.string (⟨#[98, 101, 108, 111, 119, 32]⟩ ++ P)) W := fun W => run_string_add_sum W _ _ (by have : (⟨#[98, 101, 108, 111, 119, 32]⟩ : ByteArray).size = 6 := rfl; have : (⟨#[32, 99, 104, 97, 110, 103, 101, 32, 116, 111, 32]⟩ : ByteArray).size = 11 := rfl; have : (⟨#[32, 99, 111, 115, 116, 32]⟩ : ByteArray).size = 6 := rfl; omega)
        have a2 : ∀ W, (Op.stringOp .add (⟨#[98, 101, 108, 111, 119, 32]⟩ ++ P) ⟨#[32, 99, 104, 97, 110, 103, 101, 32, 116, 111, 32]⟩).run Try.prog W = .ok (.string (⟨#[98, 101, 108, 111, 119, 32]⟩ ++ P ++ ⟨#[32, 99, 104, 97, 110, 103, 101, 32, 116, 111, 32]⟩)) W := fun W => run_string_add_sum W _ _ (by have : (⟨#[98, 101, 108, 111, 119, 32]⟩ : ByteArray).size = 6 := rfl; have : (⟨#[32, 99, 104, 97, 110, 103, 101, 32, 116, 111, 32]⟩ : ByteArray).size = 11 := rfl; have : (⟨#[32, 99, 111, 115, 116, 32]⟩ : ByteArray).size = 6 := rfl; rw [size_append]; omega)
        have a3 : ∀ W, (Op.stringOp .add (⟨#[98, 101, 108, 111, 119, 32]⟩ ++ P ++ ⟨#[32, 99, 104, 97, 110, 103, 101, 32, 116, 111, 32]⟩) Q).run Try.prog W = .ok (.string (⟨#[98, 101, 108, 111, 119, 32]⟩ ++ P ++ ⟨#[32, 99, 104, 97, 110, 103, 101, 32, 116, 111, 32]⟩ ++ Q)) W := fun W => run_string_add_sum W _ _ (by have : (⟨#[98, 101, 108, 111, 119, 32]⟩ : ByteArray).size = 6 := rfl; have : (⟨#[32, 99, 104, 97, 110, 103, 101, 32, 116, 111, 32]⟩ : ByteArray).size = 11 := rfl; have : (⟨#[32, 99, 111, 115, 116, 32]⟩ : ByteArray).size = 6 := rfl; rw [size_append, size_append]; omega)
        have a4 : ∀ W, (Op.stringOp .add (⟨#[98, 101, 108, 111, 119, 32]⟩ ++ P ++ ⟨#[32, 99, 104, 97, 110, 103, 101, 32, 116, 111, 32]⟩ ++ Q) ⟨#[32, 99, 111, 115, 116, 32]⟩).run Try.prog W = .ok (.string (⟨#[98, 101, 108, 111, 119, 32]⟩ ++ P ++ ⟨#[32, 99, 104, 97, 110, 103, 101, 32, 116, 111, 32]⟩ ++ Q ++ ⟨#[32, 99, 111, 115, 116, 32]⟩)) W := fun W => run_string_add_sum W _ _ (by have : (⟨#[98, 101, 108, 111, 119, 32]⟩ : ByteArray).size = 6 := rfl; have : (⟨#[32, 99, 104, 97, 110, 103, 101, 32, 116, 111, 32]⟩ : ByteArray).size = 11 := rfl; have : (⟨#[32, 99, 111, 115, 116, 32]⟩ : ByteArray).size = 6 := rfl; rw [size_append, size_append, size_append]; omega)
        have a5 : ∀ W, (Op.stringOp .add (⟨#[98, 101, 108, 111, 119, 32]⟩ ++ P ++ ⟨#[32, 99, 104, 97, 110, 103, 101, 32, 116, 111, 32]⟩ ++ Q ++ ⟨#[32, 99, 111, 115, 116, 32]⟩) R).run Try.prog W = .ok (.string (⟨#[98, 101, 108, 111, 119, 32]⟩ ++ P ++ ⟨#[32, 99, 104, 97, 110, 103, 101, 32, 116, 111, 32]⟩ ++ Q ++ ⟨#[32, 99, 111, 115, 116, 32]⟩ ++ R)) W := fun W => run_string_add_sum W _ _ (by have : (⟨#[98, 101, 108, 111, 119, 32]⟩ : ByteArray).size = 6 := rfl; have : (⟨#[32, 99, 104, 97, 110, 103, 101, 32, 116, 111, 32]⟩ : ByteArray).size = 11 := rfl; have : (⟨#[32, 99, 111, 115, 116, 32]⟩ : ByteArray).size = 6 := rfl; rw [size_append, size_append, size_append, size_append]; omega)
        obtain ⟨W, hW⟩ : ∃ W, W = w4.alloc (.cells #[.int .i64 (changeX l e id).id, .slice A4 (changeX l e id).vals.length c4] 30) := ⟨_, rfl⟩
        have bW : Bw w4 W := by rw [hW]; exact (Bw.refl w4).alloc _
        have k1 : W.cell? ⟨w4.heap.size, 1, none⟩ = some (.slice A4 (changeX l e id).vals.length c4) := by rw [hW]; go_simp
        have HW := Lib.hid hW
        have hdW := (hd3.bw rInts_good hb4).bw rInts_good bW
        have hxW := hx4.bw rInts_good bW
        have c1 : ∀ s : Since W, Calls Try.prog 32 #[.slice A3 n3 c3] s.1 (Ret s.1 (.string P)) := fun s => cP _ _ (hdW.bw rInts_good s.bw)
        have c2 : ∀ s : Since W, Calls Try.prog 32 #[.slice A4 (changeX l e id).vals.length c4] s.1 (Ret s.1 (.string Q)) := fun s => cQ _ _ (hxW.bw rInts_good s.bw)
        have s1 := since_cell k1
        obtain ⟨C, hC⟩ : ∃ C, C = changeC l e id := ⟨_, rfl⟩
        rw [← hC] at cR ⊢
        obtain ⟨M, hM⟩ : ∃ M, M = (changeX l e id).vals.length := ⟨_, rfl⟩
        rw [← hM] at c2 k1 s1 HW
        have HMM := Lib.hid hM
        clear hW hX hP hQ hR szP szQ szR hids hvs wc dl xl cP cQ o3 o4 o5 hd3 hx4 hdW hxW hC hM
        go_wp2
        rw [← HMM.out]
        rw [← HW.out]
        refine wp_region_since (by kernel_rfl) (by kernel_rfl) ?_
        repeat (first | go_big_quiet_skip | (go_big_quiet_want; go_big_quiet_op; first | go_big_quiet_on | (apply Exists.intro; refine ⟨fun _ => ?_, ?_⟩; (· (((first | (go_at_call 32; first | (with_reducible exact Calls_since (c1 _)) | (with_reducible exact Calls_since (c2 _))) | (go_at_call 33; exact Calls_since (cR _)))))); go_big_quiet_on)))
        refine wpQuiet_nil ?_
        rintro ⟨wq, hbq⟩
        dsimp only at *
        go_wp2
        go_ret
        exact Ret.str HF.out (B4.then (bW.then hbq))
  · have HN := Lib.hid (show explLine l e id = ⟨#[]⟩ by
      have : changeOk l e id = false := by unfold changeOk; rw [e1]; rfl
      unfold explLine; rw [this]; rfl)
    rw [e1]
    clear e1
    go_wp2
    go_ret
    exact Ret.str (by rw [HN.out]) (hb1)
set_option maxRecDepth 100000 in
set_option maxHeartbeats 6400000 in
theorem I_ExplainItem (w : World) (l : List GItem) (e : List GNode) (id : Int) (v u : Value) (h : Rd rItems w l [v]) (h' : Rd rNodes w e [u]) :
    Calls Try.prog 9 #[v, u, .int .i64 id] w (Ret w (.string (explLine l e id))) := by
  obtain ⟨K, hK⟩ : ∃ K, K = findIdx l id := ⟨_, rfl⟩
  have HK := Lib.hid hK
  have hcall := fun W (B : Bw w W) => I_FindItem W l id _ (h.bw rItems_good B)
  rw [← hK] at hcall
  clear hK
  go_enter Try.func9, Try.ntmps9
  go_wp2_with fail
  refine (I_areBoth _ l e _ _ h h').mono ?_
  rintro e w1 ⟨rfl, hb1⟩
  rcases Bool.eq_false_or_eq_true (areBoth l e) with e1 | e1
  · have HB := Lib.hid e1
    rw [e1]
    clear e1
    go_wp2_with fail
    refine (hcall _ hb1).mono ?_
    rintro e w2 ⟨rfl, hb2⟩
    have B2 := hb1.then hb2
    clear hcall
    by_cases hk : K < 0
    · have HN := Lib.hid (show explLine l e id = ⟨#[]⟩ by
        have : changeOk l e id = false := by unfold changeOk; rw [HB.out, ← HK.out]; simp; omega
        unfold explLine; rw [this]; rfl)
      go_wp2
      go_ret
      exact Ret.str (by rw [HN.out]) (B2)
    · have HOK := Lib.hid (show changeOk l e id = true by unfold changeOk; rw [HB.out, ← HK.out]; simp; omega)
      have hbi := I_IsBest w2 l e id _ _ (h.bw rItems_good B2) (h'.bw rNodes_good B2)
      rw [best_iff HOK.out] at hbi
      go_wp2_with fail
      refine (hbi).mono ?_
      rintro e w3 ⟨rfl, hb3⟩
      have B3 := B2.then hb3
      by_cases hne : relM l e id 1 = []
      · have HN := Lib.hid (show explLine l e id = ⟨#[98, 101, 115, 116]⟩ by rw [explLine, if_pos HOK.out, if_pos hne])
        rw [decide_eq_true hne]
        clear hne hbi
        go_wp2
        go_ret
        exact Ret.str (by rw [HN.out]) (B3)
      · have HNE := Lib.hid hne
        rw [decide_eq_false hne]
        clear hne hbi
        go_wp2_with fail
        refine (I_SmallestChange _ l e id _ _ (h.bw rItems_good B3) (h'.bw rNodes_good B3)).mono ?_
        rintro e w4 ⟨_, rfl, ⟨cs, rfl, F4, o4, f4⟩, hb4⟩
        have B4 := B3.then hb4
        obtain ⟨A4, c4, rfl, o5⟩ := fItem_shape o4
        have hx4 := fInts_Rd o5
        have hids : ∀ v ∈ relM l e id 1, (Lit.int .i64 v).wf = true := fun v hv => wf_small' (by have := relM_ids HB.out hv; omega)
        have hvs : ∀ v ∈ (changeX l e id).vals, (Lit.int .i64 v).wf = true := fun v hv => wf_small' (by have := changeX_vals l e id hv; omega)
        have wc := wf_small' (n := changeC l e id) (by have := changeC_bd l e id HB.out; omega)
        have dl := Nat.le_trans (relM_len l e id 1) (areItems_len (areBoth_items HB.out))
        have xl := changeX_len l e id
        have HF := Lib.hid (show ⟨#[98, 101, 108, 111, 119, 32]⟩ ++ numText (relM l e id 1) ⟨#[44]⟩ ++ ⟨#[32, 99, 104, 97, 110, 103, 101, 32, 116, 111, 32]⟩ ++ numText (changeX l e id).vals ⟨#[44]⟩ ++ ⟨#[32, 99, 111, 115, 116, 32]⟩ ++ fmtInt (changeC l e id) = explLine l e id by rw [explLine, if_pos HOK.out, if_neg HNE.out])
        obtain ⟨P, hP⟩ : ∃ P, P = numText (relM l e id 1) ⟨#[44]⟩ := ⟨_, rfl⟩
        obtain ⟨Q, hQ⟩ : ∃ Q, Q = numText (changeX l e id).vals ⟨#[44]⟩ := ⟨_, rfl⟩
        obtain ⟨R, hR⟩ : ∃ R, R = fmtInt (changeC l e id) := ⟨_, rfl⟩
        have szP : P.size ≤ 400 := by rw [hP]; have := numText_size ⟨#[44]⟩ hids; have e : (⟨#[44]⟩ : ByteArray).size = 1 := rfl; rw [e] at this; omega
        have szQ : Q.size ≤ 400 := by rw [hQ]; have := numText_size ⟨#[44]⟩ hvs; have e : (⟨#[44]⟩ : ByteArray).size = 1 := rfl; rw [e] at this; omega
        have szR : R.size ≤ 20 := by rw [hR]; exact (fmtInt_size wc).2
        have cP : ∀ W v, Rd rInts W (relM l e id 1) [v] → Calls Try.prog 28 #[v, .string ⟨#[44]⟩] W (Ret W (.string P)) := fun W v h => by rw [hP]; exact I_numbers W (relM l e id 1) ⟨#[44]⟩ v h hids (by omega) (by show 1 ≤ 1024; omega)
        have cQ : ∀ W v, Rd rInts W (changeX l e id).vals [v] → Calls Try.prog 28 #[v, .string ⟨#[44]⟩] W (Ret W (.string Q)) := fun W v h => by rw [hQ]; exact I_numbers W (changeX l e id).vals ⟨#[44]⟩ v h hvs (by omega) (by show 1 ≤ 1024; omega)
        have cR : ∀ W, Calls Try.prog 30 #[.int .i64 (changeC l e id)] W (Ret W (.string R)) := fun W => by rw [hR]; exact I_FormatInt W _ wc
        rw [← hP, ← hQ, ← hR] at HF
        have a1 : ∀ W, (Op.stringOp .add ⟨#[98, 101, 108, 111, 119, 32]⟩ P).run Try.prog W = .ok (.string (⟨#[98, 101, 108, 111, 119, 32]⟩ ++ P)) W := fun W => run_string_add_sum W _ _ (by have : (⟨#[98, 101, 108, 111, 119, 32]⟩ : ByteArray).size = 6 := rfl; have : (⟨#[32, 99, 104, 97, 110, 103, 101, 32, 116, 111, 32]⟩ : ByteArray).size = 11 := rfl; have : (⟨#[32, 99, 111, 115, 116, 32]⟩ : ByteArray).size = 6 := rfl; omega)
        have a2 : ∀ W, (Op.stringOp .add (⟨#[98, 101, 108, 111, 119, 32]⟩ ++ P) ⟨#[32, 99, 104, 97, 110, 103, 101, 32, 116, 111, 32]⟩).run Try.prog W = .ok (.string (⟨#[98, 101, 108, 111, 119, 32]⟩ ++ P ++ ⟨#[32, 99, 104, 97, 110, 103, 101, 32, 116, 111, 32]⟩)) W := fun W => run_string_add_sum W _ _ (by have : (⟨#[98, 101, 108, 111, 119, 32]⟩ : ByteArray).size = 6 := rfl; have : (⟨#[32, 99, 104, 97, 110, 103, 101, 32, 116, 111, 32]⟩ : ByteArray).size = 11 := rfl; have : (⟨#[32, 99, 111, 115, 116, 32]⟩ : ByteArray).size = 6 := rfl; rw [size_append]; omega)
        have a3 : ∀ W, (Op.stringOp .add (⟨#[98, 101, 108, 111, 119, 32]⟩ ++ P ++ ⟨#[32, 99, 104, 97, 110, 103, 101, 32, 116, 111, 32]⟩) Q).run Try.prog W = .ok (.string (⟨#[98, 101, 108, 111, 119, 32]⟩ ++ P ++ ⟨#[32, 99, 104, 97, 110, 103, 101, 32, 116, 111, 32]⟩ ++ Q)) W := fun W => run_string_add_sum W _ _ (by have : (⟨#[98, 101, 108, 111, 119, 32]⟩ : ByteArray).size = 6 := rfl; have : (⟨#[32, 99, 104, 97, 110, 103, 101, 32, 116, 111, 32]⟩ : ByteArray).size = 11 := rfl; have : (⟨#[32, 99, 111, 115, 116, 32]⟩ : ByteArray).size = 6 := rfl; rw [size_append, size_append]; omega)
        have a4 : ∀ W, (Op.stringOp .add (⟨#[98, 101, 108, 111, 119, 32]⟩ ++ P ++ ⟨#[32, 99, 104, 97, 110, 103, 101, 32, 116, 111, 32]⟩ ++ Q) ⟨#[32, 99, 111, 115, 116, 32]⟩).run Try.prog W = .ok (.string (⟨#[98, 101, 108, 111, 119, 32]⟩ ++ P ++ ⟨#[32, 99, 104, 97, 110, 103, 101, 32, 116, 111, 32]⟩ ++ Q ++ ⟨#[32, 99, 111, 115, 116, 32]⟩)) W := fun W => run_string_add_sum W _ _ (by have : (⟨#[98, 101, 108, 111, 119, 32]⟩ : ByteArray).size = 6 := rfl; have : (⟨#[32, 99, 104, 97, 110, 103, 101, 32, 116, 111, 32]⟩ : ByteArray).size = 11 := rfl; have : (⟨#[32, 99, 111, 115, 116, 32]⟩ : ByteArray).size = 6 := rfl; rw [size_append, size_append, size_append]; omega)
        have a5 : ∀ W, (Op.stringOp .add (⟨#[98, 101, 108, 111, 119, 32]⟩ ++ P ++ ⟨#[32, 99, 104, 97, 110, 103, 101, 32, 116, 111, 32]⟩ ++ Q ++ ⟨#[32, 99, 111, 115, 116, 32]⟩) R).run Try.prog W = .ok (.string (⟨#[98, 101, 108, 111, 119, 32]⟩ ++ P ++ ⟨#[32, 99, 104, 97, 110, 103, 101, 32, 116, 111, 32]⟩ ++ Q ++ ⟨#[32, 99, 111, 115, 116, 32]⟩ ++ R)) W := fun W => run_string_add_sum W _ _ (by have : (⟨#[98, 101, 108, 111, 119, 32]⟩ : ByteArray).size = 6 := rfl; have : (⟨#[32, 99, 104, 97, 110, 103, 101, 32, 116, 111, 32]⟩ : ByteArray).size = 11 := rfl; have : (⟨#[32, 99, 111, 115, 116, 32]⟩ : ByteArray).size = 6 := rfl; rw [size_append, size_append, size_append, size_append]; omega)
        obtain ⟨W, hW⟩ : ∃ W, W = w4.alloc (.cells #[.int .i64 (changeX l e id).id, .slice A4 (changeX l e id).vals.length c4] 30) := ⟨_, rfl⟩
        have bW : Bw w4 W := by rw [hW]; exact (Bw.refl w4).alloc _
        have bWd : Bw w4 W.drew := bW.drew
        have k1 : W.drew.cell? ⟨w4.heap.size, 1, none⟩ = some (.slice A4 (changeX l e id).vals.length c4) := by rw [hW]; go_simp
        have HW := Lib.hid hW
        have hxW := hx4.bw rInts_good bWd
        have hIW := h.bw rItems_good (B4.then bWd)
        have hEW := h'.bw rNodes_good (B4.then bWd)
        obtain ⟨C, hC⟩ : ∃ C, C = changeC l e id := ⟨_, rfl⟩
        rw [← hC] at cR ⊢
        obtain ⟨M, hM⟩ : ∃ M, M = (changeX l e id).vals.length := ⟨_, rfl⟩
        rw [← hM] at k1 HW hxW
        have HMM := Lib.hid hM
        have hB := Bw.refl W.drew
        clear hW hP hQ hR szP szQ szR hids hvs wc dl xl o4 o5 hx4 hC hM
        go_wp2
        rw [← HMM.out]
        rw [← HW.out]
        go_region_held3 (fun w' => w'.cell? ⟨w4.heap.size, 1, none⟩ = some (.slice A4 M c4)) (first | exact k1 | exact hB.cell k1)
          (first
            | (go_at_call 29; refine (I_DominatorsOf _ l e id _ _ (hIW.bw rItems_good hB) (hEW.bw rNodes_good hB)).mono ?_; rintro e' w5 ⟨vd, rfl, ⟨Fd, od, fd⟩, hb5⟩; replace hB := hB.then hb5; have hd := fInts_Rd od; clear od fd)
            | (go_at_call 28; refine (cP _ _ hd).mono ?_; rintro e' w5 ⟨rfl, hb5⟩; replace hB := hB.then hb5; clear hd)
            | (go_at_call 28; refine (cQ _ _ (hxW.bw rInts_good hB)).mono ?_; rintro e' w5 ⟨rfl, hb5⟩; replace hB := hB.then hb5; try replace hd := hd.bw rInts_good hb5)
            | (go_at_call 30; refine (cR _).mono ?_; rintro e' w5 ⟨rfl, hb5⟩; replace hB := hB.then hb5; try replace hd := hd.bw rInts_good hb5))
        all_goals
          go_wp2
          go_ret
          exact Ret.str HF.out (B4.then (bWd.then hB))
  · have HN := Lib.hid (show explLine l e id = ⟨#[]⟩ by
      have : changeOk l e id = false := by unfold changeOk; rw [e1]; rfl
      unfold explLine; rw [this]; rfl)
    rw [e1]
    clear e1
    go_wp2
    go_ret
    exact Ret.str (by rw [HN.out]) (hb1)
end Go.Proofs.Ythlaabaffbffkaa
