/- The smallest change that makes an item one of the best: plain model. -/
import Derived.Test.YthlaabaffbffkaaQMarks
import Derived.Test.YthlaabaffbffkaaQOrder
import Derived.Test.YthlaabaffbffkaaQFind
namespace Go.Proofs.Ythlaabaffbffkaa
open Go.RowKit
set_option linter.unusedVariables false

def dist (a b : Int) : Int := if a - b < b - a then b - a else a - b
def costL : List Int → List Int → Int
  | a :: p, b :: q => dist a b + costL p q
  | _, _ => 0
def costOf (x y : GItem) : Int := if isItem x && isItem y then costL x.vals y.vals else 0
theorem costL_step {xs ys : List Int} {k : Nat} {x y : Int} (hx : xs[k]? = some x) (hy : ys[k]? = some y) : costL (xs.drop k) (ys.drop k) = dist x y + costL (xs.drop (k + 1)) (ys.drop (k + 1)) := by
  rw [drop_cons hx, drop_cons hy, costL]
set_option maxHeartbeats 800000 in
theorem S_CostOf (w : World) (x y : GItem) (v1 v2 : Value) (h1 : Rd rInts w x.vals [v1]) (h2 : Rd rInts w y.vals [v2]) :
    Calls Try.prog 16 #[.agg #[.int .i64 x.id, v1], .agg #[.int .i64 y.id, v2]] w (Ret w (.int .i64 (costOf x y))) := by
  have B0 : Bw w ((w.alloc (.cells #[.int .i64 x.id, v1] 30)).alloc (.cells #[.int .i64 y.id, v2] 30)) := ((Bw.refl w).alloc _).alloc _
  obtain ⟨A1, n1, c1, rfl, a1, a2, a3⟩ := rSl_open h1
  obtain ⟨A2, n2, c2, rfl, b1, b2, b3⟩ := rSl_open h2
  have L1 := Lib.hid a1
  have L2 := Lib.hid b1
  clear a1 b1
  unfold maxLen at a3 b3
  go_enter Try.func16, Try.ntmps16
  go_wp2_with fail
  refine (S_IsItem _ x _ (h1.bw rInts_good B0)).mono ?_
  rintro e w2 ⟨rfl, hb2⟩
  have hc2 := bw_cell hb2
  by_cases i1 : isItem x = true
  · go_wp2_with fail
    refine (S_IsItem _ y _ (h2.bw rInts_good (B0.then hb2))).mono ?_
    rintro e w3 ⟨rfl, hb3⟩
    have B3 := hb2.then hb3
    have hc3 := bw_cell B3
    clear hc2
    by_cases i2 : isItem y = true
    · have hn1 : n1 = 3 := L1.out.trans (isItem_len i1)
      have hn2 : n2 = 3 := L2.out.trans (isItem_len i2)
      subst hn1 hn2
      have fin : costOf x y = costL x.vals y.vals := by simp [costOf, i1, i2]
      have FIN := Lib.hid fin
      clear fin
      go_wp2
      go_loopw [5, 6] (fun s i w' => ∃ (k : Nat) (n : Int), k ≤ 3 ∧ i = .int .i64 k ∧ s = .int .i64 n ∧ 0 ≤ n ∧ n ≤ 9 * k ∧ Hid (costOf x y = n + costL (x.vals.drop k) (y.vals.drop k)) ∧ Bw ((w.alloc (.cells #[.int .i64 x.id, .slice A1 3 c1] 30)).alloc (.cells #[.int .i64 y.id, .slice A2 3 c2] 30)) w') (fun s i _ => 3 - (intOf i).toNat)
      case atStart => exact ⟨0, 0, by omega, rfl, rfl, by omega, by omega, by show _ = _; rw [FIN.out]; simp, B3⟩
      case round =>
        obtain ⟨k, n, hk, rfl, rfl, g1, g2, HE, hb⟩ := hrel
        have hc := bw_cell hb
        clear hc3
        by_cases hlt : k < 3
        · obtain ⟨p, hp⟩ := get_of_lt (xs := x.vals) (k := k) (by rw [← L1.out]; exact hlt)
          obtain ⟨q, hq⟩ := get_of_lt (xs := y.vals) (k := k) (by rw [← L2.out]; exact hlt)
          obtain ⟨ba, oa, rfl, _, hcx⟩ := rInts_at (h1.bw rInts_good (B0.then hb)) hp
          obtain ⟨bb, ob, rfl, _, hcy⟩ := rInts_at (h2.bw rInts_good (B0.then hb)) hq
          have ⟨p1, p2⟩ := isItem_val i1 (List.mem_of_getElem? hp)
          have ⟨q1, q2⟩ := isItem_val i2 (List.mem_of_getElem? hq)
          have HS := Lib.hid (costL_step hp hq)
          clear hp hq h1 h2
          go_wp2
          go_quiet (fail)
          go_wp2
          have hd : 0 ≤ dist p q ∧ dist p q ≤ 9 := by unfold dist; split <;> omega
          go_roundw
          case rel => exact ⟨k + 1, n + dist p q, by omega, by go_num, rfl, by omega, by omega, by show _ = _; rw [HE.out, HS.out]; omega, hb.drewN _⟩
          case measure => simp [intOf]; omega
        · obtain rfl : k = 3 := by omega
          go_wp2
          go_ret
          exact Ret.int (by rw [HE.out, List.drop_of_length_le (by rw [← L1.out]; omega)]; simp [costL]) (B0.then hb)
    · have i2' : isItem y = false := by simpa using i2
      clear i2
      go_wp2
      go_ret
      exact Ret.int (by simp [costOf, i2']) (B0.then B3)
  · have i1' : isItem x = false := by simpa using i1
    clear i1
    go_wp2
    go_ret
    exact Ret.int (by simp [costOf, i1']) (B0.then hb2)
set_option maxHeartbeats 800000 in
theorem I_CostOf (w : World) (x y : GItem) (v1 v2 : Value) (h1 : Rd rInts w x.vals [v1]) (h2 : Rd rInts w y.vals [v2]) :
    Calls Try.prog 14 #[.agg #[.int .i64 x.id, v1], .agg #[.int .i64 y.id, v2]] w (Ret w (.int .i64 (costOf x y))) := by
  have B0 : Bw w ((w.alloc (.cells #[.int .i64 x.id, v1] 30)).alloc (.cells #[.int .i64 y.id, v2] 30)) := ((Bw.refl w).alloc _).alloc _
  obtain ⟨A1, n1, c1, rfl, a1, a2, a3⟩ := rSl_open h1
  obtain ⟨A2, n2, c2, rfl, b1, b2, b3⟩ := rSl_open h2
  have L1 := Lib.hid a1
  have L2 := Lib.hid b1
  clear a1 b1
  unfold maxLen at a3 b3
  go_enter Try.func14, Try.ntmps14
  go_wp2_with fail
  refine (I_IsItem _ x _ (h1.bw rInts_good B0)).mono ?_
  rintro e w2 ⟨rfl, hb2⟩
  have hc2 := bw_cell hb2
  by_cases i1 : isItem x = true
  · go_wp2_with fail
    refine (I_IsItem _ y _ (h2.bw rInts_good (B0.then hb2))).mono ?_
    rintro e w3 ⟨rfl, hb3⟩
    have B3 := hb2.then hb3
    have hc3 := bw_cell B3
    clear hc2
    by_cases i2 : isItem y = true
    · have hn1 : n1 = 3 := L1.out.trans (isItem_len i1)
      have hn2 : n2 = 3 := L2.out.trans (isItem_len i2)
      subst hn1 hn2
      have fin : costOf x y = costL x.vals y.vals := by simp [costOf, i1, i2]
      have FIN := Lib.hid fin
      clear fin
      go_wp2
      go_loopw [5, 19] (fun s i w' => ∃ (k : Nat) (n : Int), k ≤ 3 ∧ i = .int .i64 k ∧ s = .int .i64 n ∧ 0 ≤ n ∧ n ≤ 9 * k ∧ Hid (costOf x y = n + costL (x.vals.drop k) (y.vals.drop k)) ∧ Bw ((w.alloc (.cells #[.int .i64 x.id, .slice A1 3 c1] 30)).alloc (.cells #[.int .i64 y.id, .slice A2 3 c2] 30)) w') (fun s i _ => 3 - (intOf i).toNat)
      case atStart => exact ⟨0, 0, by omega, rfl, rfl, by omega, by omega, by show _ = _; rw [FIN.out]; simp, B3⟩
      case round =>
        obtain ⟨k, n, hk, rfl, rfl, g1, g2, HE, hb⟩ := hrel
        have hc := bw_cell hb
        clear hc3
        by_cases hlt : k < 3
        · obtain ⟨p, hp⟩ := get_of_lt (xs := x.vals) (k := k) (by rw [← L1.out]; exact hlt)
          obtain ⟨q, hq⟩ := get_of_lt (xs := y.vals) (k := k) (by rw [← L2.out]; exact hlt)
          obtain ⟨ba, oa, rfl, _, hcx⟩ := rInts_at (h1.bw rInts_good (B0.then hb)) hp
          obtain ⟨bb, ob, rfl, _, hcy⟩ := rInts_at (h2.bw rInts_good (B0.then hb)) hq
          have ⟨p1, p2⟩ := isItem_val i1 (List.mem_of_getElem? hp)
          have ⟨q1, q2⟩ := isItem_val i2 (List.mem_of_getElem? hq)
          have HS := Lib.hid (costL_step hp hq)
          clear hp hq h1 h2
          go_wp2
          go_quiet (fail)
          go_wp2
          have hd : 0 ≤ dist p q ∧ dist p q ≤ 9 := by unfold dist; split <;> omega
          go_roundw
          case rel => exact ⟨k + 1, n + dist p q, by omega, by go_num, rfl, by omega, by omega, by show _ = _; rw [HE.out, HS.out]; omega, hb.drewN _⟩
          case measure => simp [intOf]; omega
        · obtain rfl : k = 3 := by omega
          go_wp2
          go_ret
          exact Ret.int (by rw [HE.out, List.drop_of_length_le (by rw [← L1.out]; omega)]; simp [costL]) (B0.then hb)
    · have i2' : isItem y = false := by simpa using i2
      clear i2
      go_wp2
      go_ret
      exact Ret.int (by simp [costOf, i2']) (B0.then B3)
  · have i1' : isItem x = false := by simpa using i1
    clear i1
    go_wp2
    go_ret
    exact Ret.int (by simp [costOf, i1']) (B0.then hb2)
end Go.Proofs.Ythlaabaffbffkaa

namespace Go.Proofs.Ythlaabaffbffkaa
open Go.RowKit
set_option linter.unusedVariables false
def candI (id : Int) (n : Nat) : GItem := ⟨id, [(n : Int) / 100, (n : Int) / 10 % 10, (n : Int) % 10]⟩
def beatsO (e : List GNode) (id : Int) (y x : GItem) : Bool := decide (y.id ≠ id) && beats e y x
def freeO (l : List GItem) (e : List GNode) (id : Int) (x : GItem) : Bool := !(l.any fun y => beatsO e id y x)
def chStep (l : List GItem) (e : List GNode) (p : GItem) (id : Int) (s : GItem × Int) (n : Nat) : GItem × Int :=
  if (decide (s.2 < 0) || decide (costOf p (candI id n) < s.2)) && freeO l e id (candI id n) then (candI id n, costOf p (candI id n)) else s
def chTo (l : List GItem) (e : List GNode) (p : GItem) (id : Int) : Nat → GItem × Int
  | 0 => (⟨0, []⟩, -1)
  | n + 1 => chStep l e p id (chTo l e p id n) n
def itemAt (l : List GItem) (id : Int) : GItem := (l[(findIdx l id).toNat]?).getD ⟨0, []⟩
def changeOk (l : List GItem) (e : List GNode) (id : Int) : Bool := areBoth l e && decide (0 ≤ findIdx l id)
def changeX (l : List GItem) (e : List GNode) (id : Int) : GItem := if changeOk l e id then (chTo l e (itemAt l id) id 1000).1 else ⟨0, []⟩
def changeC (l : List GItem) (e : List GNode) (id : Int) : Int := if changeOk l e id then (chTo l e (itemAt l id) id 1000).2 else 0
theorem itemAt_of {l : List GItem} {id : Int} {j : Nat} {x : GItem} (h : findIdx l id = (j : Int)) (hx : l[j]? = some x) : itemAt l id = x := by
  unfold itemAt; rw [h]; simp [hx]
theorem dist_nn (a b : Int) : 0 ≤ dist a b := by unfold dist; split <;> omega
theorem dist_comm (a b : Int) : dist a b = dist b a := by unfold dist; split <;> split <;> omega
theorem costL_nn : ∀ xs ys, 0 ≤ costL xs ys
  | a :: p, b :: q => by have := dist_nn a b; have := costL_nn p q; rw [costL]; omega
  | [], _ => by simp [costL]
  | _ :: _, [] => by simp [costL]
theorem costL_comm : ∀ xs ys, costL xs ys = costL ys xs
  | a :: p, b :: q => by rw [costL, costL, dist_comm a b, costL_comm p q]
  | [], [] => rfl
  | [], _ :: _ => rfl
  | _ :: _, [] => rfl
theorem costOf_nn (x y : GItem) : 0 ≤ costOf x y := by unfold costOf; split; exact costL_nn _ _; exact Int.le_refl _
theorem costOf_comm (x y : GItem) : costOf x y = costOf y x := by unfold costOf; rw [Bool.and_comm, costL_comm]
theorem cand_item {id : Int} (h : 0 ≤ id ∧ id ≤ 99) {n : Nat} (hn : n < 1000) : isItem (candI id n) = true := by
  simp only [isItem, candI, inB, Bool.and_eq_true, decide_eq_true_eq, List.all_cons, List.all_nil, List.length_cons, List.length_nil]
  refine ⟨decide_eq_true h, by trivial, ?_⟩
  exact ⟨⟨by omega, by omega⟩, ⟨by omega, by omega⟩, ⟨by omega, by omega⟩, trivial⟩
theorem cand_of {x : GItem} (h : isItem x = true) (id : Int) : ∃ n, n < 1000 ∧ (candI id n).vals = x.vals := by
  have hl := isItem_len h
  have hv := fun v hv => isItem_val h (v := v) hv
  obtain ⟨i, vs⟩ := x
  dsimp only at hl hv
  match vs, hl with
  | [a, b, c], _ =>
    have ha := hv a (by simp)
    have hb := hv b (by simp)
    have hc := hv c (by simp)
    refine ⟨a.toNat * 100 + b.toNat * 10 + c.toNat, by omega, ?_⟩
    simp only [candI, List.cons.injEq, and_true]
    refine ⟨by omega, by omega, by omega⟩
theorem chTo_sign (l : List GItem) (e : List GNode) (p : GItem) (id : Int) : ∀ n, (chTo l e p id n = (⟨0, []⟩, -1)) ∨ 0 ≤ (chTo l e p id n).2
  | 0 => .inl rfl
  | n + 1 => by
    rw [chTo, chStep]
    split
    · exact .inr (costOf_nn _ _)
    · exact chTo_sign l e p id n
theorem chTo_found {l : List GItem} {e : List GNode} {p : GItem} {id : Int} {m : Nat} (hf : freeO l e id (candI id m) = true) : ∀ {n}, m < n → 0 ≤ (chTo l e p id n).2
  | 0, h => absurd h (Nat.not_lt_zero _)
  | n + 1, h => by
    rw [chTo, chStep]
    split
    · exact costOf_nn _ _
    · rename_i hc
      by_cases hm : m = n
      · subst hm
        rcases chTo_sign l e p id m with h1 | h1
        · rw [h1, hf] at hc
          simp at hc
        · exact h1
      · exact chTo_found hf (by omega)
theorem free_exists {l : List GItem} {e : List GNode} {id : Int} (hE : isExpr e = true) (hi : ∀ x ∈ l, isItem x = true) (hid : 0 ≤ id ∧ id ≤ 99) : ∃ m, m < 1000 ∧ freeO l e id (candI id m) = true := by
  by_cases hl : l.filter (fun y => decide (y.id ≠ id)) = []
  · refine ⟨0, by omega, ?_⟩
    unfold freeO
    rw [Bool.not_eq_true', List.any_eq_false]
    intro y hy
    have := List.filter_eq_nil_iff.1 hl y hy
    unfold beatsO
    intro hc
    rw [Bool.and_eq_true] at hc
    exact this hc.1
  · obtain ⟨t, ht, hb⟩ := (cmpBy_PO hE).top hl (fun x hx => hi x (List.mem_filter.1 hx).1)
    obtain ⟨n, hn, hv⟩ := cand_of (hi t (List.mem_filter.1 ht).1) id
    refine ⟨n, hn, ?_⟩
    unfold freeO
    rw [Bool.not_eq_true', List.any_eq_false]
    intro y hy
    unfold beatsO beats
    intro hc
    rw [Bool.and_eq_true, decide_eq_true_eq, decide_eq_true_eq] at hc
    have h2 := hc.2
    rw [cmpBy_vals (x' := y) (y' := t) rfl hv] at h2
    exact hb y (List.mem_filter.2 ⟨hy, by simpa using hc.1⟩) h2
theorem change_pos {l : List GItem} {e : List GNode} {p : GItem} {id : Int} (hB : areBoth l e = true) (hid : 0 ≤ id ∧ id ≤ 99) : 0 ≤ (chTo l e p id 1000).2 := by
  obtain ⟨m, hm, hf⟩ := free_exists (areBoth_expr hB) (fun x hx => areItems_mem (areBoth_items hB) hx) hid
  exact chTo_found hf hm
theorem chTo_len (l : List GItem) (e : List GNode) (p : GItem) (id : Int) : ∀ n, (chTo l e p id n).1.vals.length ≤ 3
  | 0 => Nat.zero_le _
  | n + 1 => by
    rw [chTo, chStep]
    split
    · exact Nat.le_refl _
    · exact chTo_len l e p id n
theorem chTo_at (l : List GItem) (e : List GNode) (p : GItem) (id : Int) : ∀ n, 0 ≤ (chTo l e p id n).2 → ∃ m, m < n ∧ chTo l e p id n = (candI id m, costOf p (candI id m)) ∧ freeO l e id (candI id m) = true
  | 0, h => absurd h (by simp [chTo])
  | n + 1, h => by
    rw [chTo, chStep] at h ⊢
    split
    · rename_i hc
      exact ⟨n, by omega, rfl, (by simpa using hc : _ ∧ _).2⟩
    · rename_i hc
      rw [if_neg hc] at h
      obtain ⟨m, hm, h1⟩ := chTo_at l e p id n h
      exact ⟨m, by omega, h1⟩
theorem chTo_ge (l : List GItem) (e : List GNode) (p : GItem) (id : Int) (n : Nat) : -1 ≤ (chTo l e p id n).2 := by
  rcases chTo_sign l e p id n with h | h
  · rw [h]; omega
  · omega
theorem chTo_yes {l : List GItem} {e : List GNode} {p : GItem} {id : Int} {n : Nat} (h1 : (chTo l e p id n).2 < 0 ∨ costOf p (candI id n) < (chTo l e p id n).2) (h2 : freeO l e id (candI id n) = true) : chTo l e p id (n + 1) = (candI id n, costOf p (candI id n)) := by
  rw [chTo, chStep, h2, if_pos]
  simpa using h1
theorem chTo_no {l : List GItem} {e : List GNode} {p : GItem} {id : Int} {n : Nat} (h : ¬ ((chTo l e p id n).2 < 0 ∨ costOf p (candI id n) < (chTo l e p id n).2) ∨ freeO l e id (candI id n) = false) : chTo l e p id (n + 1) = chTo l e p id n := by
  rw [chTo, chStep, if_neg]
  intro hc
  simp only [Bool.and_eq_true, Bool.or_eq_true, decide_eq_true_eq] at hc
  rcases h with h | h
  · exact h hc.1
  · rw [h] at hc; exact absurd hc.2 (by simp)
/-- three numbers laid in a row -/
theorem fInts_three {w : World} {a b c : Int} : fInts (w.alloc (.cells #[.int .i64 a, .int .i64 b, .int .i64 c] 3)) [a, b, c] [.slice (some ⟨w.heap.size, 0, none⟩) 3 3] [w.heap.size] := by
  refine ⟨_, [[.int .i64 a], [.int .i64 b], [.int .i64 c]], [[], [], []], rfl, ⟨by simp, .inr ⟨w.heap.size, 3, _, rfl, Nat.zero_le _, heap_alloc_new w _, Nat.le_refl _, by unfold maxLen; omega, rfl, by simp⟩⟩, ?_, by simp [Value.ownBlock]⟩
  exact ⟨⟨⟨rfl, rfl⟩, rfl⟩, ⟨⟨rfl, rfl⟩, rfl⟩, ⟨⟨rfl, rfl⟩, rfl⟩, trivial⟩
theorem fInts_nil (w : World) : fInts w [] [.slice none 0 0] [] := ⟨_, [], [], rfl, World.ownsRow_nil _ _ _ _, trivial, by simp [Value.ownBlock]⟩
end Go.Proofs.Ythlaabaffbffkaa
