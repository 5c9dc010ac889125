/- Comparisons of values and items in the program. -/
import Derived.Test.YthlaabaffbffkaaGreatQOwn3
import Derived.Test.YthlaabaffbffkaaGreatQOrder
import Derived.Test.YthlaabaffbffkaaGreatQFind
import Derived.Test.YthlaabaffbffkaaGreatQBoxT
import Derived.Test.YthlaabaffbffkaaGreatQStack
namespace Go.Proofs.YthlaabaffbffkaaGreat
open Go.RowKit
set_option linter.unusedVariables false

def dist (a b : Int) : Int := if a - b < b - a then b - a else a - b
def costL : List Int → List Int → Int
  | a :: p, b :: q => dist a b + costL p q
  | _, _ => 0
def costOf (x y : GItem) : Int := if isItem x && isItem y then costL x.vals y.vals else 0
theorem costL_step {xs ys : List Int} {k : Nat} {x y : Int} (hx : xs[k]? = some x) (hy : ys[k]? = some y) : costL (xs.drop k) (ys.drop k) = dist x y + costL (xs.drop (k + 1)) (ys.drop (k + 1)) := by
  rw [drop_cons hx, drop_cons hy, costL]


end Go.Proofs.YthlaabaffbffkaaGreat

namespace Go.Proofs.YthlaabaffbffkaaGreat
open Go.RowKit
set_option linter.unusedVariables false
def candI (id : Int) (n : Nat) : GItem := ⟨id, [(n : Int) / 100, (n : Int) / 10 % 10, (n : Int) % 10]⟩
def beatsO (e : List GNode) (id : Int) (y x : GItem) : Bool := decide (y.id ≠ id) && beats e y x
def freeO (l : List GItem) (e : List GNode) (id : Int) (x : GItem) : Bool := !(l.any fun y => beatsO e id y x)
def chStep (l : List GItem) (e : List GNode) (p : GItem) (id : Int) (s : GItem × Int) (n : Nat) : GItem × Int :=
  if (decide (s.2 < 0) || decide (costOf p (candI id n) < s.2)) && freeO l e id (candI id n) then (candI id n, costOf p (candI id n)) else s
def chTo (l : List GItem) (e : List GNode) (p : GItem) (id : Int) : Nat → GItem × Int
  | 0 => (⟨0, []⟩, -1)
  | n + 1 => chStep l e p id (chTo l e p id n) n
def itemAt (l : List GItem) (id : Int) : GItem := (l[(findIdx l id).toNat]?).getD ⟨0, []⟩
def changeOk (l : List GItem) (e : List GNode) (id : Int) : Bool := areBoth l e && decide (0 ≤ findIdx l id)
def changeX (l : List GItem) (e : List GNode) (id : Int) : GItem := if changeOk l e id then (chTo l e (itemAt l id) id 1000).1 else ⟨0, []⟩
def changeC (l : List GItem) (e : List GNode) (id : Int) : Int := if changeOk l e id then (chTo l e (itemAt l id) id 1000).2 else 0
theorem itemAt_of {l : List GItem} {id : Int} {j : Nat} {x : GItem} (h : findIdx l id = (j : Int)) (hx : l[j]? = some x) : itemAt l id = x := by
  unfold itemAt; rw [h]; simp [hx]
theorem dist_nn (a b : Int) : 0 ≤ dist a b := by unfold dist; split <;> omega
theorem dist_comm (a b : Int) : dist a b = dist b a := by unfold dist; split <;> split <;> omega
theorem costL_nn : ∀ xs ys, 0 ≤ costL xs ys
  | a :: p, b :: q => by have := dist_nn a b; have := costL_nn p q; rw [costL]; omega
  | [], _ => by simp [costL]
  | _ :: _, [] => by simp [costL]
theorem costL_comm : ∀ xs ys, costL xs ys = costL ys xs
  | a :: p, b :: q => by rw [costL, costL, dist_comm a b, costL_comm p q]
  | [], [] => rfl
  | [], _ :: _ => rfl
  | _ :: _, [] => rfl
theorem costOf_nn (x y : GItem) : 0 ≤ costOf x y := by unfold costOf; split; exact costL_nn _ _; exact Int.le_refl _
theorem costOf_comm (x y : GItem) : costOf x y = costOf y x := by unfold costOf; rw [Bool.and_comm, costL_comm]
theorem cand_item {id : Int} (h : 0 ≤ id ∧ id ≤ 99) {n : Nat} (hn : n < 1000) : isItem (candI id n) = true := by
  simp only [isItem, candI, inB, Bool.and_eq_true, decide_eq_true_eq, List.all_cons, List.all_nil, List.length_cons, List.length_nil]
  refine ⟨decide_eq_true h, by trivial, ?_⟩
  exact ⟨⟨by omega, by omega⟩, ⟨by omega, by omega⟩, ⟨by omega, by omega⟩, trivial⟩
theorem cand_of {x : GItem} (h : isItem x = true) (id : Int) : ∃ n, n < 1000 ∧ (candI id n).vals = x.vals := by
  have hl := isItem_len h
  have hv := fun v hv => isItem_val h (v := v) hv
  obtain ⟨i, vs⟩ := x
  dsimp only at hl hv
  match vs, hl with
  | [a, b, c], _ =>
    have ha := hv a (by simp)
    have hb := hv b (by simp)
    have hc := hv c (by simp)
    refine ⟨a.toNat * 100 + b.toNat * 10 + c.toNat, by omega, ?_⟩
    simp only [candI, List.cons.injEq, and_true]
    refine ⟨by omega, by omega, by omega⟩
theorem chTo_sign (l : List GItem) (e : List GNode) (p : GItem) (id : Int) : ∀ n, (chTo l e p id n = (⟨0, []⟩, -1)) ∨ 0 ≤ (chTo l e p id n).2
  | 0 => .inl rfl
  | n + 1 => by
    rw [chTo, chStep]
    split
    · exact .inr (costOf_nn _ _)
    · exact chTo_sign l e p id n
theorem chTo_found {l : List GItem} {e : List GNode} {p : GItem} {id : Int} {m : Nat} (hf : freeO l e id (candI id m) = true) : ∀ {n}, m < n → 0 ≤ (chTo l e p id n).2
  | 0, h => absurd h (Nat.not_lt_zero _)
  | n + 1, h => by
    rw [chTo, chStep]
    split
    · exact costOf_nn _ _
    · rename_i hc
      by_cases hm : m = n
      · subst hm
        rcases chTo_sign l e p id m with h1 | h1
        · rw [h1, hf] at hc
          simp at hc
        · exact h1
      · exact chTo_found hf (by omega)
theorem free_exists {l : List GItem} {e : List GNode} {id : Int} (hE : isExpr e = true) (hi : ∀ x ∈ l, isItem x = true) (hid : 0 ≤ id ∧ id ≤ 99) : ∃ m, m < 1000 ∧ freeO l e id (candI id m) = true := by
  by_cases hl : l.filter (fun y => decide (y.id ≠ id)) = []
  · refine ⟨0, by omega, ?_⟩
    unfold freeO
    rw [Bool.not_eq_true', List.any_eq_false]
    intro y hy
    have := List.filter_eq_nil_iff.1 hl y hy
    unfold beatsO
    intro hc
    rw [Bool.and_eq_true] at hc
    exact this hc.1
  · obtain ⟨t, ht, hb⟩ := (cmpBy_PO hE).top hl (fun x hx => hi x (List.mem_filter.1 hx).1)
    obtain ⟨n, hn, hv⟩ := cand_of (hi t (List.mem_filter.1 ht).1) id
    refine ⟨n, hn, ?_⟩
    unfold freeO
    rw [Bool.not_eq_true', List.any_eq_false]
    intro y hy
    unfold beatsO beats
    intro hc
    rw [Bool.and_eq_true, decide_eq_true_eq, decide_eq_true_eq] at hc
    have h2 := hc.2
    rw [cmpBy_vals (x' := y) (y' := t) rfl hv] at h2
    exact hb y (List.mem_filter.2 ⟨hy, by simpa using hc.1⟩) h2
theorem change_pos {l : List GItem} {e : List GNode} {p : GItem} {id : Int} (hB : areBoth l e = true) (hid : 0 ≤ id ∧ id ≤ 99) : 0 ≤ (chTo l e p id 1000).2 := by
  obtain ⟨m, hm, hf⟩ := free_exists (areBoth_expr hB) (fun x hx => areItems_mem (areBoth_items hB) hx) hid
  exact chTo_found hf hm
theorem chTo_len (l : List GItem) (e : List GNode) (p : GItem) (id : Int) : ∀ n, (chTo l e p id n).1.vals.length ≤ 3
  | 0 => Nat.zero_le _
  | n + 1 => by
    rw [chTo, chStep]
    split
    · exact Nat.le_refl _
    · exact chTo_len l e p id n
theorem chTo_at (l : List GItem) (e : List GNode) (p : GItem) (id : Int) : ∀ n, 0 ≤ (chTo l e p id n).2 → ∃ m, m < n ∧ chTo l e p id n = (candI id m, costOf p (candI id m)) ∧ freeO l e id (candI id m) = true
  | 0, h => absurd h (by simp [chTo])
  | n + 1, h => by
    rw [chTo, chStep] at h ⊢
    split
    · rename_i hc
      exact ⟨n, by omega, rfl, (by simpa using hc : _ ∧ _).2⟩
    · rename_i hc
      rw [if_neg hc] at h
      obtain ⟨m, hm, h1⟩ := chTo_at l e p id n h
      exact ⟨m, by omega, h1⟩
theorem chTo_ge (l : List GItem) (e : List GNode) (p : GItem) (id : Int) (n : Nat) : -1 ≤ (chTo l e p id n).2 := by
  rcases chTo_sign l e p id n with h | h
  · rw [h]; omega
  · omega
theorem chTo_yes {l : List GItem} {e : List GNode} {p : GItem} {id : Int} {n : Nat} (h1 : (chTo l e p id n).2 < 0 ∨ costOf p (candI id n) < (chTo l e p id n).2) (h2 : freeO l e id (candI id n) = true) : chTo l e p id (n + 1) = (candI id n, costOf p (candI id n)) := by
  rw [chTo, chStep, h2, if_pos]
  simpa using h1
theorem chTo_no {l : List GItem} {e : List GNode} {p : GItem} {id : Int} {n : Nat} (h : ¬ ((chTo l e p id n).2 < 0 ∨ costOf p (candI id n) < (chTo l e p id n).2) ∨ freeO l e id (candI id n) = false) : chTo l e p id (n + 1) = chTo l e p id n := by
  rw [chTo, chStep, if_neg]
  intro hc
  simp only [Bool.and_eq_true, Bool.or_eq_true, decide_eq_true_eq] at hc
  rcases h with h | h
  · exact h hc.1
  · rw [h] at hc; exact absurd hc.2 (by simp)
/-- three numbers laid in a row -/
theorem fInts_three {w : World} {a b c : Int} : fInts (w.alloc (.cells #[.int .i64 a, .int .i64 b, .int .i64 c] 3)) [a, b, c] [.slice (some ⟨w.heap.size, 0, none⟩) 3 3] [w.heap.size] := by
  refine ⟨_, [[.int .i64 a], [.int .i64 b], [.int .i64 c]], [[], [], []], rfl, ⟨by simp, .inr ⟨w.heap.size, 3, _, rfl, Nat.zero_le _, heap_alloc_new w _, Nat.le_refl _, by unfold maxLen; omega, rfl, by simp⟩⟩, ?_, by simp [Value.ownBlock]⟩
  exact ⟨⟨⟨rfl, rfl⟩, rfl⟩, ⟨⟨rfl, rfl⟩, rfl⟩, ⟨⟨rfl, rfl⟩, rfl⟩, trivial⟩
theorem fInts_nil (w : World) : fInts w [] [.slice none 0 0] [] := ⟨_, [], [], rfl, World.ownsRow_nil _ _ _ _, trivial, by simp [Value.ownBlock]⟩
end Go.Proofs.YthlaabaffbffkaaGreat

namespace Go.Proofs.YthlaabaffbffkaaGreat
open Go.RowKit
set_option linter.unusedVariables false
set_option linter.unusedSimpArgs false
def idxI (x : Int) : List Int → Nat → Int
  | [], _ => -1
  | y :: l, i => if x = y then (i : Int) else idxI x l (i + 1)
theorem idxI_step {xs : List Int} {k : Nat} {x y : Int} (h : xs[k]? = some y) : idxI x (xs.drop k) k = if x = y then (k : Int) else idxI x (xs.drop (k + 1)) (k + 1) := by rw [drop_cons h, idxI]
theorem idxI_contains (x : Int) : ∀ (l : List Int) (i : Nat), decide (0 ≤ idxI x l i) = l.contains x
  | [], i => by simp [idxI]
  | y :: l, i => by
    rw [idxI, List.contains_cons]
    by_cases h : x = y
    · rw [if_pos h]; simp [h]
    · rw [if_neg h, idxI_contains x l (i + 1)]; simp [h]
theorem idxI_lt (x : Int) : ∀ (l : List Int) (i : Nat), -1 ≤ idxI x l i ∧ idxI x l i ≤ i + l.length
  | [], i => by simp [idxI]; try omega
  | y :: l, i => by
    have := idxI_lt x l (i + 1)
    rw [idxI]; split
    · simp; try omega
    · simp at this ⊢; omega
set_option maxHeartbeats 800000 in
theorem slices_Index_ints (w : World) (xs : List Int) (x : Int) (v : Value) (h : Rd rInts w xs [v]) : Calls Tryz.prog 106 #[v, .int .i64 x] w (Ret w (.int .i64 (idxI x xs 0))) := by
  obtain ⟨A, n, c, rfl, L0, Lc, Lm⟩ := rSl_open h
  unfold maxLen at Lm
  have L := Lib.hid L0
  clear L0
  go_enter Tryz.func106, Tryz.ntmps106
  go_wp2
  go_loopg [8] n (fun g i w' => ∃ k : Nat, k ≤ n ∧ g = n - k ∧ i = .int .i64 k ∧ Hid (idxI x xs 0 = idxI x (xs.drop k) k) ∧ Bw w w')
  case atStart => exact ⟨0, by omega, rfl, rfl, Lib.hid rfl, Bw.refl _⟩
  case round =>
    obtain ⟨k, hk, rfl, rfl, HE, hb⟩ := hrel
    by_cases hlt : k < n
    · obtain ⟨y, hy⟩ := get_of_lt (xs := xs) (k := k) (by have := L.out; omega)
      obtain ⟨ba, oa, rfl, _, hc0⟩ := rInts_at h hy
      have hc := hb.cell hc0
      have HS := Lib.hid (idxI_step (x := x) hy)
      have i1 : (0 : Int) ≤ (k : Int) := by omega
      have i2 : (k : Int) < (n : Int) := by omega
      clear hy h hc0
      by_cases he : x = y
      · have e1 : (x == y) = true := by simpa using he
        have HX := Lib.hid (show idxI x xs 0 = k by rw [HE.out, HS.out, if_pos he])
        clear he
        go_wp2
        go_ret
        exact Ret.int (HX.out.symm) (hb)
      · have e1 : (x == y) = false := by simpa using he
        have HX := Lib.hid (show idxI x xs 0 = idxI x (xs.drop (k + 1)) (k + 1) by rw [HE.out, HS.out, if_neg he])
        clear he
        go_wp2
        go_roundg (n - (k + 1))
        case measure => omega
        case rel => exact ⟨k + 1, by omega, rfl, by go_num, HX, hb⟩
    · have HX := Lib.hid (show idxI x xs 0 = -1 by rw [HE.out, List.drop_of_length_le (by have := L.out; omega)]; rfl)
      go_wp2
      go_ret
      exact Ret.int (HX.out.symm) (hb)
set_option maxHeartbeats 400000 in
theorem slices_Contains_ints (w : World) (xs : List Int) (x : Int) (v : Value) (h : Rd rInts w xs [v]) : Calls Tryz.prog 111 #[v, .int .i64 x] w (Ret w (.bool (xs.contains x))) := by
  have HC := Lib.hid (idxI_contains x xs 0)
  go_enter Tryz.func111, Tryz.ntmps111
  go_wp2_with fail
  refine (slices_Index_ints _ xs x _ h).mono ?_
  rintro e w2 ⟨rfl, hb2⟩
  go_wp2
  go_ret
  exact Ret.bool (HC.out) (hb2)
end Go.Proofs.YthlaabaffbffkaaGreat

namespace Go.Proofs.YthlaabaffbffkaaGreat
open Go.RowKit
set_option linter.unusedVariables false
set_option linter.unusedSimpArgs false
theorem max_intI (a b : Int) : max a b = if a ≤ b then b else a := by by_cases h : a ≤ b <;> simp [h] <;> omega
theorem rank_near (x : GWish) (v : Int) (k0 : ¬ x.kind = 0) (k1 : ¬ x.kind = 1) (k2 : x.kind = 2) : rankV x v = if v - x.value < x.value - v then x.value - v else v - x.value := by
  rw [rankV, if_neg k0, if_neg k1, if_pos k2, max_intI]
  by_cases h : v - x.value ≤ x.value - v
  · rw [if_pos h]; split <;> omega
  · rw [if_neg h, if_neg (by omega)]
def Same (w : World) (v : Value) (e : Ending) (w' : World) : Prop := e = .returned v ∧ w' = w
theorem Same.int {w : World} {a b : Int} (h : b = a) : Same w (.int .i64 b) (.returned (.int .i64 a)) w := ⟨by rw [h], rfl⟩
set_option maxRecDepth 100000 in
theorem I_combined_pareto (w : World) (a b : Int) (ha : -1 ≤ a ∧ a ≤ 2) (hb : -1 ≤ b ∧ b ≤ 2) : Calls Tryz.prog 159 #[.int .i64 1, .int .i64 a, .int .i64 b] w (Same w (.int .i64 (comb 1 a b))) := by
  have ea : a = -1 ∨ a = 0 ∨ a = 1 ∨ a = 2 := by omega
  have eb : b = -1 ∨ b = 0 ∨ b = 1 ∨ b = 2 := by omega
  clear ha hb
  rcases ea with rfl | rfl | rfl | rfl <;> rcases eb with rfl | rfl | rfl | rfl
  all_goals
    go_enter Tryz.func159, Tryz.ntmps159
    go_wp2
    go_ret
    exact Same.int rfl
set_option maxRecDepth 100000 in
theorem I_combined_same (w : World) (op a b : Int) (hop : op = 1 ∨ op = 2 ∨ op = 4) (ha : -1 ≤ a ∧ a ≤ 2) (hb : -1 ≤ b ∧ b ≤ 2) : Calls Tryz.prog 159 #[.int .i64 op, .int .i64 a, .int .i64 b] w (Same w (.int .i64 (comb op a b))) := by
  rcases hop with rfl | rfl | rfl
  · exact I_combined_pareto w a b ha hb
  · by_cases h : a = 0
    · have e1 : (a != 0) = false := by simpa using h
      have H := Lib.hid (show comb 2 a b = b by rw [comb, if_neg (by omega), if_pos rfl, if_pos h])
      clear h
      go_enter Tryz.func159, Tryz.ntmps159
      go_wp2
      go_ret
      exact Same.int H.out
    · have e1 : (a != 0) = true := by simpa using h
      have H := Lib.hid (show comb 2 a b = a by rw [comb, if_neg (by omega), if_pos rfl, if_neg h])
      clear h
      go_enter Tryz.func159, Tryz.ntmps159
      go_wp2
      go_ret
      exact Same.int H.out
  · by_cases h : a = b
    · have e1 : (a == b) = true := by simpa using h
      have H := Lib.hid (show comb 4 a b = a by rw [comb, if_neg (by omega), if_neg (by omega), if_pos h])
      clear h
      go_enter Tryz.func159, Tryz.ntmps159
      go_wp2
      go_ret
      exact Same.int H.out
    · have e1 : (a == b) = false := by simpa using h
      have H := Lib.hid (show comb 4 a b = 2 by rw [comb, if_neg (by omega), if_neg (by omega), if_neg h])
      clear h
      go_enter Tryz.func159, Tryz.ntmps159
      go_wp2
      go_ret
      exact Same.int H.out
theorem I_combined (w : World) (op a b : Int) (hop : op = 1 ∨ op = 2 ∨ op = 4) (ha : -1 ≤ a ∧ a ≤ 2) (hb : -1 ≤ b ∧ b ≤ 2) : Calls Tryz.prog 159 #[.int .i64 op, .int .i64 a, .int .i64 b] w (Ret w (.int .i64 (comb op a b))) :=
  (I_combined_same w op a b hop ha hb).mono fun _ _ h => ⟨h.1, by rw [h.2]; exact Bw.refl _⟩
theorem Ret.two {w w' : World} {a b : Int} {c : Value} (h : a = b) (hb : Bw w w') : Ret w (.tuple #[.int .i64 b, c]) (.returned (.tuple #[.int .i64 a, c])) w' := ⟨by rw [h], hb⟩
set_option maxRecDepth 100000 in
set_option maxHeartbeats 1600000 in
theorem I_RankOfValue (w : World) (x : GWish) (a u : Value) (v : Int) (h : Rd rInts w x.list [a]) (h' : Rd rPairs w x.pairs [u]) (hx : isWish x = true) (h4 : ¬ x.kind = 4) (hv : 0 ≤ v ∧ v ≤ 9) :
    Calls Tryz.prog 222 #[.agg #[.int .i64 x.kind, .int .i64 x.field, .int .i64 x.value, a, u], .int .i64 v] w (Ret w (.tuple #[.int .i64 (rankV x v), .bool true])) := by
  have B0 : Bw w (w.alloc (.cells #[.int .i64 x.kind, .int .i64 x.field, .int .i64 x.value, a, u] 129)) := (Bw.refl w).alloc _
  have HX := Lib.hid hx
  have HV := Lib.hid (inB_iff.2 hv)
  have hval := isWish_value hx
  have hk := isWish_kind hx
  clear hx
  go_enter Tryz.func222, Tryz.ntmps222
  go_wp2_with fail
  refine (I_IsWish _ x _ _ (h.bw rInts_good B0) (h'.bw rPairs_good B0)).mono ?_
  rintro e w1 ⟨rfl, hb1⟩
  rw [HX.out]
  have p0 : w1.cell? ⟨w.heap.size, 0, none⟩ = some (.int .i64 x.kind) := hb1.cell (by go_simp)
  have p1 : w1.cell? ⟨w.heap.size, 1, none⟩ = some (.int .i64 x.field) := hb1.cell (by go_simp)
  have p2 : w1.cell? ⟨w.heap.size, 2, none⟩ = some (.int .i64 x.value) := hb1.cell (by go_simp)
  have p3 : w1.cell? ⟨w.heap.size, 3, none⟩ = some (a) := hb1.cell (by go_simp)
  have p4 : w1.cell? ⟨w.heap.size, 4, none⟩ = some (u) := hb1.cell (by go_simp)
  have B1 := B0.then hb1
  go_wp2_with fail
  refine (I_within _ _ _ _).mono ?_
  rintro e w2 ⟨rfl, hb2⟩
  rw [HV.out]
  replace p0 := hb2.cell p0
  replace p2 := hb2.cell p2
  replace p3 := hb2.cell p3
  replace B1 := B1.then hb2
  clear p1 p4
  by_cases k0 : x.kind = 0
  · have q0 : (x.kind == 0) = true := by simpa using k0
    have E := Lib.hid (show v = rankV x v by rw [rankV, if_pos k0])
    clear k0 h4
    go_wp2
    refine bodyPost_ret (v := .tuple #[.int .i64 v, .bool true]) (by simp [results, Tryz.results222, go_sem]) rfl (Ret.two (E.out) (B1))
  have q0 : (x.kind == 0) = false := by simpa using k0
  by_cases k1 : x.kind = 1
  · have q1 : (x.kind == 1) = true := by simpa using k1
    have E := Lib.hid (show 9 - v = rankV x v by rw [rankV, if_neg k0, if_pos k1])
    clear k0 k1 h4
    go_wp2
    refine bodyPost_ret (v := .tuple #[.int .i64 (9 - v), .bool true]) (by simp [results, Tryz.results222, go_sem]) rfl (Ret.two (E.out) (B1))
  have q1 : (x.kind == 1) = false := by simpa using k1
  by_cases k2 : x.kind = 2
  · have q2 : (x.kind == 2) = true := by simpa using k2
    have K := rank_near x v k0 k1 k2
    by_cases hlt : v - x.value < x.value - v
    · rw [if_pos hlt] at K
      have E := Lib.hid K
      clear k0 k1 k2 h4 K
      go_wp2
      refine bodyPost_ret (v := .tuple #[.int .i64 (x.value - v), .bool true]) (by simp [results, Tryz.results222, go_sem]) rfl (Ret.two (E.out.symm) (B1))
    · rw [if_neg hlt] at K
      have E := Lib.hid K
      clear k0 k1 k2 h4 K
      go_wp2
      refine bodyPost_ret (v := .tuple #[.int .i64 (v - x.value), .bool true]) (by simp [results, Tryz.results222, go_sem]) rfl (Ret.two (E.out.symm) (B1))
  have q2 : (x.kind == 2) = false := by simpa using k2
  have k3 : x.kind = 3 := by omega
  have q3 : (x.kind == 3) = true := by simpa using k3
  have E := Lib.hid (show rankV x v = if x.list.contains v then 0 else 1 by rw [rankV, if_neg k0, if_neg k1, if_neg k2])
  clear k0 k1 k2 k3 h4 hk
  go_wp2_with fail
  refine (slices_Contains_ints _ x.list v _ (h.bw rInts_good B1)).mono ?_
  rintro e w3 ⟨rfl, hb3⟩
  rcases Bool.eq_false_or_eq_true (x.list.contains v) with e1 | e1
  · have R := Lib.hid e1
    rw [e1]
    clear e1
    go_wp2
    refine bodyPost_ret (v := .tuple #[.int .i64 0, .bool true]) (by simp [results, Tryz.results222, go_sem]) rfl (Ret.two ((by rw [E.out, R.out]; rfl)) ((B1.then hb3)))
  · have R := Lib.hid e1
    rw [e1]
    clear e1
    go_wp2
    refine bodyPost_ret (v := .tuple #[.int .i64 1, .bool true]) (by simp [results, Tryz.results222, go_sem]) rfl (Ret.two ((by rw [E.out, R.out]; rfl)) ((B1.then hb3)))
end Go.Proofs.YthlaabaffbffkaaGreat
