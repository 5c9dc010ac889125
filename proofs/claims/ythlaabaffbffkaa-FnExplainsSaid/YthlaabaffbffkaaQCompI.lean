/- Comparisons of values and items in the program. -/
import Derived.Test.YthlaabaffbffkaaQReach
import Derived.Test.YthlaabaffbffkaaQStack
namespace Go.Proofs.Ythlaabaffbffkaa
open Go.RowKit
set_option linter.unusedVariables false
set_option linter.unusedSimpArgs false
def idxI (x : Int) : List Int → Nat → Int
  | [], _ => -1
  | y :: l, i => if x = y then (i : Int) else idxI x l (i + 1)
theorem idxI_step {xs : List Int} {k : Nat} {x y : Int} (h : xs[k]? = some y) : idxI x (xs.drop k) k = if x = y then (k : Int) else idxI x (xs.drop (k + 1)) (k + 1) := by rw [drop_cons h, idxI]
theorem idxI_contains (x : Int) : ∀ (l : List Int) (i : Nat), decide (0 ≤ idxI x l i) = l.contains x
  | [], i => by simp [idxI]
  | y :: l, i => by
    rw [idxI, List.contains_cons]
    by_cases h : x = y
    · rw [if_pos h]; simp [h]
    · rw [if_neg h, idxI_contains x l (i + 1)]; simp [h]
theorem idxI_lt (x : Int) : ∀ (l : List Int) (i : Nat), -1 ≤ idxI x l i ∧ idxI x l i ≤ i + l.length
  | [], i => by simp [idxI]; try omega
  | y :: l, i => by
    have := idxI_lt x l (i + 1)
    rw [idxI]; split
    · simp; try omega
    · simp at this ⊢; omega
set_option maxHeartbeats 800000 in
theorem slices_Index_ints (w : World) (xs : List Int) (x : Int) (v : Value) (h : Rd rInts w xs [v]) : Calls Try.prog 80 #[v, .int .i64 x] w (Ret w (.int .i64 (idxI x xs 0))) := by
  obtain ⟨A, n, c, rfl, L0, Lc, Lm⟩ := rSl_open h
  unfold maxLen at Lm
  have L := Lib.hid L0
  clear L0
  go_enter Try.func80, Try.ntmps80
  go_wp2
  go_loopg [8] n (fun g i w' => ∃ k : Nat, k ≤ n ∧ g = n - k ∧ i = .int .i64 k ∧ Hid (idxI x xs 0 = idxI x (xs.drop k) k) ∧ Bw w w')
  case atStart => exact ⟨0, by omega, rfl, rfl, Lib.hid rfl, Bw.refl _⟩
  case round =>
    obtain ⟨k, hk, rfl, rfl, HE, hb⟩ := hrel
    by_cases hlt : k < n
    · obtain ⟨y, hy⟩ := get_of_lt (xs := xs) (k := k) (by have := L.out; omega)
      obtain ⟨ba, oa, rfl, _, hc0⟩ := rInts_at h hy
      have hc := hb.cell hc0
      have HS := Lib.hid (idxI_step (x := x) hy)
      have i1 : (0 : Int) ≤ (k : Int) := by omega
      have i2 : (k : Int) < (n : Int) := by omega
      clear hy h hc0
      by_cases he : x = y
      · have e1 : (x == y) = true := by simpa using he
        have HX := Lib.hid (show idxI x xs 0 = k by rw [HE.out, HS.out, if_pos he])
        clear he
        go_wp2
        go_ret
        exact Ret.int (HX.out.symm) (hb)
      · have e1 : (x == y) = false := by simpa using he
        have HX := Lib.hid (show idxI x xs 0 = idxI x (xs.drop (k + 1)) (k + 1) by rw [HE.out, HS.out, if_neg he])
        clear he
        go_wp2
        go_roundg (n - (k + 1))
        case measure => omega
        case rel => exact ⟨k + 1, by omega, rfl, by go_num, HX, hb⟩
    · have HX := Lib.hid (show idxI x xs 0 = -1 by rw [HE.out, List.drop_of_length_le (by have := L.out; omega)]; rfl)
      go_wp2
      go_ret
      exact Ret.int (HX.out.symm) (hb)
set_option maxHeartbeats 400000 in
theorem slices_Contains_ints (w : World) (xs : List Int) (x : Int) (v : Value) (h : Rd rInts w xs [v]) : Calls Try.prog 57 #[v, .int .i64 x] w (Ret w (.bool (xs.contains x))) := by
  have HC := Lib.hid (idxI_contains x xs 0)
  go_enter Try.func57, Try.ntmps57
  go_wp2_with fail
  refine (slices_Index_ints _ xs x _ h).mono ?_
  rintro e w2 ⟨rfl, hb2⟩
  go_wp2
  go_ret
  exact Ret.bool (HC.out) (hb2)
end Go.Proofs.Ythlaabaffbffkaa

namespace Go.Proofs.Ythlaabaffbffkaa
open Go.RowKit
set_option linter.unusedVariables false
set_option linter.unusedSimpArgs false
theorem max_intI (a b : Int) : max a b = if a ≤ b then b else a := by by_cases h : a ≤ b <;> simp [h] <;> omega
theorem rank_near (x : GWish) (v : Int) (k0 : ¬ x.kind = 0) (k1 : ¬ x.kind = 1) (k2 : x.kind = 2) : rankV x v = if v - x.value < x.value - v then x.value - v else v - x.value := by
  rw [rankV, if_neg k0, if_neg k1, if_pos k2, max_intI]
  by_cases h : v - x.value ≤ x.value - v
  · rw [if_pos h]; split <;> omega
  · rw [if_neg h, if_neg (by omega)]
def Same (w : World) (v : Value) (e : Ending) (w' : World) : Prop := e = .returned v ∧ w' = w
theorem Same.int {w : World} {a b : Int} (h : b = a) : Same w (.int .i64 b) (.returned (.int .i64 a)) w := ⟨by rw [h], rfl⟩
set_option maxRecDepth 100000 in
theorem I_combined_pareto (w : World) (a b : Int) (ha : -1 ≤ a ∧ a ≤ 2) (hb : -1 ≤ b ∧ b ≤ 2) : Calls Try.prog 53 #[.int .i64 1, .int .i64 a, .int .i64 b] w (Same w (.int .i64 (comb 1 a b))) := by
  have ea : a = -1 ∨ a = 0 ∨ a = 1 ∨ a = 2 := by omega
  have eb : b = -1 ∨ b = 0 ∨ b = 1 ∨ b = 2 := by omega
  clear ha hb
  rcases ea with rfl | rfl | rfl | rfl <;> rcases eb with rfl | rfl | rfl | rfl
  all_goals
    go_enter Try.func53, Try.ntmps53
    go_wp2
    go_ret
    exact Same.int rfl
set_option maxRecDepth 100000 in
theorem I_combined_same (w : World) (op a b : Int) (hop : op = 1 ∨ op = 2 ∨ op = 4) (ha : -1 ≤ a ∧ a ≤ 2) (hb : -1 ≤ b ∧ b ≤ 2) : Calls Try.prog 53 #[.int .i64 op, .int .i64 a, .int .i64 b] w (Same w (.int .i64 (comb op a b))) := by
  rcases hop with rfl | rfl | rfl
  · exact I_combined_pareto w a b ha hb
  · by_cases h : a = 0
    · have e1 : (a != 0) = false := by simpa using h
      have H := Lib.hid (show comb 2 a b = b by rw [comb, if_neg (by omega), if_pos rfl, if_pos h])
      clear h
      go_enter Try.func53, Try.ntmps53
      go_wp2
      go_ret
      exact Same.int H.out
    · have e1 : (a != 0) = true := by simpa using h
      have H := Lib.hid (show comb 2 a b = a by rw [comb, if_neg (by omega), if_pos rfl, if_neg h])
      clear h
      go_enter Try.func53, Try.ntmps53
      go_wp2
      go_ret
      exact Same.int H.out
  · by_cases h : a = b
    · have e1 : (a == b) = true := by simpa using h
      have H := Lib.hid (show comb 4 a b = a by rw [comb, if_neg (by omega), if_neg (by omega), if_pos h])
      clear h
      go_enter Try.func53, Try.ntmps53
      go_wp2
      go_ret
      exact Same.int H.out
    · have e1 : (a == b) = false := by simpa using h
      have H := Lib.hid (show comb 4 a b = 2 by rw [comb, if_neg (by omega), if_neg (by omega), if_neg h])
      clear h
      go_enter Try.func53, Try.ntmps53
      go_wp2
      go_ret
      exact Same.int H.out
theorem I_combined (w : World) (op a b : Int) (hop : op = 1 ∨ op = 2 ∨ op = 4) (ha : -1 ≤ a ∧ a ≤ 2) (hb : -1 ≤ b ∧ b ≤ 2) : Calls Try.prog 53 #[.int .i64 op, .int .i64 a, .int .i64 b] w (Ret w (.int .i64 (comb op a b))) :=
  (I_combined_same w op a b hop ha hb).mono fun _ _ h => ⟨h.1, by rw [h.2]; exact Bw.refl _⟩
theorem Ret.two {w w' : World} {a b : Int} {c : Value} (h : a = b) (hb : Bw w w') : Ret w (.tuple #[.int .i64 b, c]) (.returned (.tuple #[.int .i64 a, c])) w' := ⟨by rw [h], hb⟩
set_option maxRecDepth 100000 in
set_option maxHeartbeats 1600000 in
theorem I_RankOfValue (w : World) (x : GWish) (a u : Value) (v : Int) (h : Rd rInts w x.list [a]) (h' : Rd rPairs w x.pairs [u]) (hx : isWish x = true) (h4 : ¬ x.kind = 4) (hv : 0 ≤ v ∧ v ≤ 9) :
    Calls Try.prog 89 #[.agg #[.int .i64 x.kind, .int .i64 x.field, .int .i64 x.value, a, u], .int .i64 v] w (Ret w (.tuple #[.int .i64 (rankV x v), .bool true])) := by
  have B0 : Bw w (w.alloc (.cells #[.int .i64 x.kind, .int .i64 x.field, .int .i64 x.value, a, u] 71)) := (Bw.refl w).alloc _
  have HX := Lib.hid hx
  have HV := Lib.hid (inB_iff.2 hv)
  have hval := isWish_value hx
  have hk := isWish_kind hx
  clear hx
  go_enter Try.func89, Try.ntmps89
  go_wp2_with fail
  refine (I_IsWish _ x _ _ (h.bw rInts_good B0) (h'.bw rPairs_good B0)).mono ?_
  rintro e w1 ⟨rfl, hb1⟩
  rw [HX.out]
  have p0 : w1.cell? ⟨w.heap.size, 0, none⟩ = some (.int .i64 x.kind) := hb1.cell (by go_simp)
  have p1 : w1.cell? ⟨w.heap.size, 1, none⟩ = some (.int .i64 x.field) := hb1.cell (by go_simp)
  have p2 : w1.cell? ⟨w.heap.size, 2, none⟩ = some (.int .i64 x.value) := hb1.cell (by go_simp)
  have p3 : w1.cell? ⟨w.heap.size, 3, none⟩ = some (a) := hb1.cell (by go_simp)
  have p4 : w1.cell? ⟨w.heap.size, 4, none⟩ = some (u) := hb1.cell (by go_simp)
  have B1 := B0.then hb1
  go_wp2_with fail
  refine (I_within _ _ _ _).mono ?_
  rintro e w2 ⟨rfl, hb2⟩
  rw [HV.out]
  replace p0 := hb2.cell p0
  replace p2 := hb2.cell p2
  replace p3 := hb2.cell p3
  replace B1 := B1.then hb2
  clear p1 p4
  by_cases k0 : x.kind = 0
  · have q0 : (x.kind == 0) = true := by simpa using k0
    have E := Lib.hid (show v = rankV x v by rw [rankV, if_pos k0])
    clear k0 h4
    go_wp2
    refine bodyPost_ret (v := .tuple #[.int .i64 v, .bool true]) (by simp [results, Try.results89, go_sem]) rfl (Ret.two (E.out) (B1))
  have q0 : (x.kind == 0) = false := by simpa using k0
  by_cases k1 : x.kind = 1
  · have q1 : (x.kind == 1) = true := by simpa using k1
    have E := Lib.hid (show 9 - v = rankV x v by rw [rankV, if_neg k0, if_pos k1])
    clear k0 k1 h4
    go_wp2
    refine bodyPost_ret (v := .tuple #[.int .i64 (9 - v), .bool true]) (by simp [results, Try.results89, go_sem]) rfl (Ret.two (E.out) (B1))
  have q1 : (x.kind == 1) = false := by simpa using k1
  by_cases k2 : x.kind = 2
  · have q2 : (x.kind == 2) = true := by simpa using k2
    have K := rank_near x v k0 k1 k2
    by_cases hlt : v - x.value < x.value - v
    · rw [if_pos hlt] at K
      have E := Lib.hid K
      clear k0 k1 k2 h4 K
      go_wp2
      refine bodyPost_ret (v := .tuple #[.int .i64 (x.value - v), .bool true]) (by simp [results, Try.results89, go_sem]) rfl (Ret.two (E.out.symm) (B1))
    · rw [if_neg hlt] at K
      have E := Lib.hid K
      clear k0 k1 k2 h4 K
      go_wp2
      refine bodyPost_ret (v := .tuple #[.int .i64 (v - x.value), .bool true]) (by simp [results, Try.results89, go_sem]) rfl (Ret.two (E.out.symm) (B1))
  have q2 : (x.kind == 2) = false := by simpa using k2
  have k3 : x.kind = 3 := by omega
  have q3 : (x.kind == 3) = true := by simpa using k3
  have E := Lib.hid (show rankV x v = if x.list.contains v then 0 else 1 by rw [rankV, if_neg k0, if_neg k1, if_neg k2])
  clear k0 k1 k2 k3 h4 hk
  go_wp2_with fail
  refine (slices_Contains_ints _ x.list v _ (h.bw rInts_good B1)).mono ?_
  rintro e w3 ⟨rfl, hb3⟩
  rcases Bool.eq_false_or_eq_true (x.list.contains v) with e1 | e1
  · have R := Lib.hid e1
    rw [e1]
    clear e1
    go_wp2
    refine bodyPost_ret (v := .tuple #[.int .i64 0, .bool true]) (by simp [results, Try.results89, go_sem]) rfl (Ret.two ((by rw [E.out, R.out]; rfl)) ((B1.then hb3)))
  · have R := Lib.hid e1
    rw [e1]
    clear e1
    go_wp2
    refine bodyPost_ret (v := .tuple #[.int .i64 1, .bool true]) (by simp [results, Try.results89, go_sem]) rfl (Ret.two ((by rw [E.out, R.out]; rfl)) ((B1.then hb3)))
end Go.Proofs.Ythlaabaffbffkaa
