/- Comparisons of values and items in the program. -/
import Derived.Test.YtfffklkiikmieaaGreatQArePairs
import Derived.Test.YtfffklkiikmieaaGreatQWishS
import Derived.Test.YtfffklkiikmieaaGreatQReach
import Derived.Test.YtfffklkiikmieaaGreatQModel3
namespace Go.Proofs.YtfffklkiikmieaaGreat
open Go.RowKit
set_option linter.unusedVariables false
set_option linter.unusedSimpArgs false
set_option maxRecDepth 100000 in
set_option maxHeartbeats 3200000 in
theorem I_IsWish (w : World) (x : GWish) (v u : Value) (h : Rd rInts w x.list [v]) (h' : Rd rPairs w x.pairs [u]) :
    Calls Tryz.prog 125 #[.agg #[.int .i64 x.kind, .int .i64 x.field, .int .i64 x.value, v, u]] w (Ret w (.bool (isWish x))) := by
  obtain ⟨A, n, c, rfl, L0, Lc, Lm⟩ := rSl_open h
  unfold maxLen at Lm
  have L := Lib.hid L0
  clear L0
  obtain ⟨B, m, c', rfl, M0, Mc, Mm⟩ := rSl_open h'
  unfold maxLen at Mm
  have M := Lib.hid M0
  clear M0
  have B0 : Bw w (w.alloc (.cells #[.int .i64 x.kind, .int .i64 x.field, .int .i64 x.value, .slice A n c, .slice B m c'] 100)) := (Bw.refl w).alloc _
  go_enter Tryz.func125, Tryz.ntmps125
  go_wp2_with fail
  refine (I_within _ _ _ _).mono ?_
  rintro e w1 ⟨rfl, hb1⟩
  have p0 : w1.cell? ⟨w.heap.size, 0, none⟩ = some (.int .i64 x.kind) := hb1.cell (by go_simp)
  have p1 : w1.cell? ⟨w.heap.size, 1, none⟩ = some (.int .i64 x.field) := hb1.cell (by go_simp)
  have p2 : w1.cell? ⟨w.heap.size, 2, none⟩ = some (.int .i64 x.value) := hb1.cell (by go_simp)
  have p3 : w1.cell? ⟨w.heap.size, 3, none⟩ = some (.slice A n c) := hb1.cell (by go_simp)
  have p4 : w1.cell? ⟨w.heap.size, 4, none⟩ = some (.slice B m c') := hb1.cell (by go_simp)
  have B1 := B0.then hb1
  rcases Bool.eq_false_or_eq_true (inB x.field 0 2) with e1 | e1
  · have E1 := Lib.hid e1
    rw [e1]
    clear e1
    go_wp2_with fail
    refine (I_within _ _ _ _).mono ?_
    rintro e w2 ⟨rfl, hb2⟩
    replace p0 := hb2.cell p0
    replace p1 := hb2.cell p1
    replace p2 := hb2.cell p2
    replace p3 := hb2.cell p3
    replace p4 := hb2.cell p4
    replace B1 := B1.then hb2
    rcases Bool.eq_false_or_eq_true (inB x.kind 0 4) with e2 | e2
    · have E2 := Lib.hid e2
      rw [e2]
      clear e2
      go_wp2_with fail
      refine (I_within _ _ _ _).mono ?_
      rintro e w3 ⟨rfl, hb3⟩
      replace p0 := hb3.cell p0
      replace p1 := hb3.cell p1
      replace p2 := hb3.cell p2
      replace p3 := hb3.cell p3
      replace p4 := hb3.cell p4
      replace B1 := B1.then hb3
      rcases Bool.eq_false_or_eq_true (inB x.value 0 9) with e3 | e3
      · have E3 := Lib.hid e3
        rw [e3]
        clear e3
        go_wp2
        go_loopg [24] n (fun g i w' => ∃ k : Nat, k ≤ n ∧ g = n - k ∧ i = .int .i64 k ∧ Hid (ascFrom none x.list = ascFrom (prevI x.list k) (x.list.drop k)) ∧ Bw w3 w')
        case atStart => exact ⟨0, by omega, rfl, rfl, Lib.hid rfl, Bw.refl _⟩
        case round =>
          obtain ⟨k, hk, rfl, rfl, HE, hb⟩ := hrel
          replace p0 := hb.cell p0
          replace p1 := hb.cell p1
          replace p2 := hb.cell p2
          replace p3 := hb.cell p3
          replace p4 := hb.cell p4
          by_cases hlt : k < n
          · obtain ⟨y, hy⟩ := get_of_lt (xs := x.list) (k := k) (by have := L.out; omega)
            obtain ⟨ba, oa, rfl, _, hc0⟩ := rInts_at h hy
            have hcx := (B1.then hb).cell hc0
            have i1 : (0 : Int) ≤ (k : Int) := by omega
            have i2 : (k : Int) < (n : Int) := by omega
            by_cases hk0 : 0 < k
            · obtain ⟨z, hz⟩ := get_of_lt (xs := x.list) (k := k - 1) (by have := L.out; omega)
              obtain ⟨_, _, e, _, hz0⟩ := rInts_at h hz
              injection e with e
              injection e with e1 e2
              subst e1 e2
              have hcz := (B1.then hb).cell hz0
              have HP := Lib.hid (asc_next' hk0 hz hy)
              clear hy hz h hc0 hz0
              go_wp2_with fail
              refine (I_within _ _ _ _).mono ?_
              rintro e w4 ⟨rfl, hb4⟩
              replace p3 := hb4.cell p3
              replace hcz := hb4.cell hcz
              have hbb := hb.then hb4
              rcases Bool.eq_false_or_eq_true (inB y 0 9) with e4 | e4
              · have E4 := Lib.hid e4
                rw [e4]
                clear e4
                by_cases hle : z < y
                · have ht : decide (y ≤ z) = false := by simp; omega
                  have HD := Lib.hid hle
                  go_wp2
                  go_roundg (n - (k + 1))
                  case measure => omega
                  case rel => exact ⟨k + 1, by omega, rfl, by go_num, Lib.hid (by rw [HE.out, HP.out]; simp [E4.out, HD.out]), hbb⟩
                · have ht : decide (y ≤ z) = true := by simp; omega
                  have HD : Hid (decide (z < y) = false) := by show _ = _; simp; omega
                  go_wp2
                  go_ret
                  exact Ret.bool (by rw [isWish, HE.out, HP.out, HD.out]; simp) (B1.then hbb)
              · have E4 := Lib.hid e4
                rw [e4]
                clear e4
                go_wp2
                go_ret
                exact Ret.bool (by rw [isWish, HE.out, HP.out]; simp [E4.out]) (B1.then hbb)
            · have HP := Lib.hid (show ascFrom (prevI x.list k) (x.list.drop k) = (inB y 0 9 && ascFrom (prevI x.list (k + 1)) (x.list.drop (k + 1))) by
                obtain rfl : k = 0 := by omega
                exact asc_first hy)
              clear hy h hc0
              go_wp2_with fail
              refine (I_within _ _ _ _).mono ?_
              rintro e w4 ⟨rfl, hb4⟩
              have hbb := hb.then hb4
              rcases Bool.eq_false_or_eq_true (inB y 0 9) with e4 | e4
              · have E4 := Lib.hid e4
                rw [e4]
                clear e4
                go_wp2
                go_roundg (n - (k + 1))
                case measure => omega
                case rel => exact ⟨k + 1, by omega, rfl, by go_num, Lib.hid (by rw [HE.out, HP.out]; simp [E4.out]), hbb⟩
              · have E4 := Lib.hid e4
                rw [e4]
                clear e4
                go_wp2
                go_ret
                exact Ret.bool (by rw [isWish, HE.out, HP.out]; simp [E4.out]) (B1.then hbb)
          · obtain rfl : k = n := by omega
            have HT := Lib.hid (show ascFrom none x.list = true by rw [HE.out, List.drop_of_length_le (by rw [← L.out]; exact Nat.le_refl _)]; cases prevI x.list k <;> rfl)
            have HW := Lib.hid (show isWish x = ((decide (x.kind = 2) || decide (x.value = 0)) && ((decide (x.kind = 3) == decide (0 < k)) && (if x.kind = 4 then arePairs x.pairs else decide (m = 0)))) by
              rw [isWish, E1.out, E2.out, E3.out, HT.out, ← L.out, ← M.out]; simp)
            have B2 := B1.then hb
            clear HE hlt
            by_cases k2 : x.kind = 2 ∨ x.value = 0
            · have K2 := Lib.hid (show (decide (x.kind = 2) || decide (x.value = 0)) = true by simpa using k2)
              have c2 : (x.kind != 2 && x.value != 0) = false := by simp; omega
              by_cases k3 : x.kind = 3 ↔ 0 < k
              · have K3 := Lib.hid (show (decide (x.kind = 3) == decide (0 < k)) = true by simpa using k3)
                by_cases q2 : x.kind = 2
                · have r2 : (x.kind != 2) = false := by simpa using q2
                  by_cases q3 : x.kind = 3
                  · have r3 : (x.kind == 3) = true := by simpa using q3
                    omega
                  · have r3 : (x.kind == 3) = false := by simpa using q3
                    obtain rfl : k = 0 := by simp [q3] at k3; omega
                    by_cases q4 : x.kind = 4
                    · have r4 : (x.kind == 4) = true := by simpa using q4
                      omega
                    · have r4 : (x.kind == 4) = false := by simpa using q4
                      have Q4 := Lib.hid q4
                      clear k2 k3 q2 q3 q4 c2
                      by_cases m0 : m = 0
                      · subst m0
                        go_wp2
                        go_ret
                        exact Ret.bool (by rw [HW.out, K2.out, K3.out, if_neg Q4.out]; simp) (B2)
                      · have m1 : ((m : Int) == 0) = false := by simp; omega
                        have m2 : decide (m = 0) = false := by simpa using m0
                        go_wp2
                        go_ret
                        exact Ret.bool (by rw [HW.out, K2.out, K3.out, if_neg Q4.out]; simp [m0]) (B2)
                · have r2 : (x.kind != 2) = true := by simpa using q2
                  have rv : (x.value != 0) = false := by simp; omega
                  by_cases q3 : x.kind = 3
                  · have r3 : (x.kind == 3) = true := by simpa using q3
                    have hk0 : 0 < k := by simp [q3] at k3; omega
                    by_cases q4 : x.kind = 4
                    · have r4 : (x.kind == 4) = true := by simpa using q4
                      omega
                    · have r4 : (x.kind == 4) = false := by simpa using q4
                      have Q4 := Lib.hid q4
                      clear k2 k3 q2 q3 q4 c2
                      by_cases m0 : m = 0
                      · subst m0
                        go_wp2
                        go_ret
                        exact Ret.bool (by rw [HW.out, K2.out, K3.out, if_neg Q4.out]; simp) (B2)
                      · have m1 : ((m : Int) == 0) = false := by simp; omega
                        have m2 : decide (m = 0) = false := by simpa using m0
                        go_wp2
                        go_ret
                        exact Ret.bool (by rw [HW.out, K2.out, K3.out, if_neg Q4.out]; simp [m0]) (B2)
                  · have r3 : (x.kind == 3) = false := by simpa using q3
                    obtain rfl : k = 0 := by simp [q3] at k3; omega
                    by_cases q4 : x.kind = 4
                    · have r4 : (x.kind == 4) = true := by simpa using q4
                      have Q4 := Lib.hid q4
                      clear k2 k3 q2 q3 q4 c2
                      go_wp2_with fail
                      refine (I_ArePairs _ x.pairs _ (h'.bw rPairs_good B2)).mono ?_
                      rintro e w5 ⟨rfl, hb5⟩
                      go_wp2
                      go_ret
                      exact Ret.bool (by rw [HW.out, K2.out, K3.out, if_pos Q4.out]; simp) (B2.then hb5)
                    · have r4 : (x.kind == 4) = false := by simpa using q4
                      have Q4 := Lib.hid q4
                      clear k2 k3 q2 q3 q4 c2
                      by_cases m0 : m = 0
                      · subst m0
                        go_wp2
                        go_ret
                        exact Ret.bool (by rw [HW.out, K2.out, K3.out, if_neg Q4.out]; simp) (B2)
                      · have m1 : ((m : Int) == 0) = false := by simp; omega
                        have m2 : decide (m = 0) = false := by simpa using m0
                        go_wp2
                        go_ret
                        exact Ret.bool (by rw [HW.out, K2.out, K3.out, if_neg Q4.out]; simp [m0]) (B2)
              · have K3 := Lib.hid (show (decide (x.kind = 3) == decide (0 < k)) = false by simpa using k3)
                by_cases q2 : x.kind = 2
                · have r2 : (x.kind != 2) = false := by simpa using q2
                  by_cases q3 : x.kind = 3
                  · have r3 : (x.kind == 3) = true := by simpa using q3
                    obtain rfl : k = 0 := by simp [q3] at k3; omega
                    clear k2 k3 q2 q3 c2
                    go_wp2
                    go_ret
                    exact Ret.bool (by rw [HW.out, K3.out]; simp) (B2)
                  · have r3 : (x.kind == 3) = false := by simpa using q3
                    have hk0 : 0 < k := by simp [q3] at k3; omega
                    clear k2 k3 q2 q3 c2
                    go_wp2
                    go_ret
                    exact Ret.bool (by rw [HW.out, K3.out]; simp) (B2)
                · have r2 : (x.kind != 2) = true := by simpa using q2
                  have rv : (x.value != 0) = false := by simp; omega
                  by_cases q3 : x.kind = 3
                  · have r3 : (x.kind == 3) = true := by simpa using q3
                    obtain rfl : k = 0 := by simp [q3] at k3; omega
                    clear k2 k3 q2 q3 c2
                    go_wp2
                    go_ret
                    exact Ret.bool (by rw [HW.out, K3.out]; simp) (B2)
                  · have r3 : (x.kind == 3) = false := by simpa using q3
                    have hk0 : 0 < k := by simp [q3] at k3; omega
                    clear k2 k3 q2 q3 c2
                    go_wp2
                    go_ret
                    exact Ret.bool (by rw [HW.out, K3.out]; simp) (B2)
            · have K2 := Lib.hid (show (decide (x.kind = 2) || decide (x.value = 0)) = false by simpa using k2)
              have r2 : (x.kind != 2) = true := by simp; omega
              have rv : (x.value != 0) = true := by simp; omega
              clear k2
              go_wp2
              go_ret
              exact Ret.bool (by rw [HW.out, K2.out]; simp) (B2)
      · have E3 := Lib.hid e3
        rw [e3]
        clear e3
        go_wp2
        go_ret
        exact Ret.bool (by simp [isWish, E3.out]) (B1)
    · have E2 := Lib.hid e2
      rw [e2]
      clear e2
      go_wp2
      go_ret
      exact Ret.bool (by simp [isWish, E2.out]) (B1)
  · have E1 := Lib.hid e1
    rw [e1]
    clear e1
    go_wp2
    go_ret
    exact Ret.bool (by simp [isWish, E1.out]) (B1)
end Go.Proofs.YtfffklkiikmieaaGreat

namespace Go.Proofs.YtfffklkiikmieaaGreat
open Go.RowKit
set_option linter.unusedVariables false
set_option linter.unusedSimpArgs false
def idxI (x : Int) : List Int → Nat → Int
  | [], _ => -1
  | y :: l, i => if x = y then (i : Int) else idxI x l (i + 1)
theorem idxI_step {xs : List Int} {k : Nat} {x y : Int} (h : xs[k]? = some y) : idxI x (xs.drop k) k = if x = y then (k : Int) else idxI x (xs.drop (k + 1)) (k + 1) := by rw [drop_cons h, idxI]
theorem idxI_contains (x : Int) : ∀ (l : List Int) (i : Nat), decide (0 ≤ idxI x l i) = l.contains x
  | [], i => by simp [idxI]
  | y :: l, i => by
    rw [idxI, List.contains_cons]
    by_cases h : x = y
    · rw [if_pos h]; simp [h]
    · rw [if_neg h, idxI_contains x l (i + 1)]; simp [h]
theorem idxI_lt (x : Int) : ∀ (l : List Int) (i : Nat), -1 ≤ idxI x l i ∧ idxI x l i ≤ i + l.length
  | [], i => by simp [idxI]; try omega
  | y :: l, i => by
    have := idxI_lt x l (i + 1)
    rw [idxI]; split
    · simp; try omega
    · simp at this ⊢; omega
set_option maxHeartbeats 800000 in
theorem slices_Index_ints (w : World) (xs : List Int) (x : Int) (v : Value) (h : Rd rInts w xs [v]) : Calls Tryz.prog 64 #[v, .int .i64 x] w (Ret w (.int .i64 (idxI x xs 0))) := by
  obtain ⟨A, n, c, rfl, L0, Lc, Lm⟩ := rSl_open h
  unfold maxLen at Lm
  have L := Lib.hid L0
  clear L0
  go_enter Tryz.func64, Tryz.ntmps64
  go_wp2
  go_loopg [8] n (fun g i w' => ∃ k : Nat, k ≤ n ∧ g = n - k ∧ i = .int .i64 k ∧ Hid (idxI x xs 0 = idxI x (xs.drop k) k) ∧ Bw w w')
  case atStart => exact ⟨0, by omega, rfl, rfl, Lib.hid rfl, Bw.refl _⟩
  case round =>
    obtain ⟨k, hk, rfl, rfl, HE, hb⟩ := hrel
    by_cases hlt : k < n
    · obtain ⟨y, hy⟩ := get_of_lt (xs := xs) (k := k) (by have := L.out; omega)
      obtain ⟨ba, oa, rfl, _, hc0⟩ := rInts_at h hy
      have hc := hb.cell hc0
      have HS := Lib.hid (idxI_step (x := x) hy)
      have i1 : (0 : Int) ≤ (k : Int) := by omega
      have i2 : (k : Int) < (n : Int) := by omega
      clear hy h hc0
      by_cases he : x = y
      · have e1 : (x == y) = true := by simpa using he
        have HX := Lib.hid (show idxI x xs 0 = k by rw [HE.out, HS.out, if_pos he])
        clear he
        go_wp2
        go_ret
        exact Ret.int (HX.out.symm) (hb)
      · have e1 : (x == y) = false := by simpa using he
        have HX := Lib.hid (show idxI x xs 0 = idxI x (xs.drop (k + 1)) (k + 1) by rw [HE.out, HS.out, if_neg he])
        clear he
        go_wp2
        go_roundg (n - (k + 1))
        case measure => omega
        case rel => exact ⟨k + 1, by omega, rfl, by go_num, HX, hb⟩
    · have HX := Lib.hid (show idxI x xs 0 = -1 by rw [HE.out, List.drop_of_length_le (by have := L.out; omega)]; rfl)
      go_wp2
      go_ret
      exact Ret.int (HX.out.symm) (hb)
set_option maxHeartbeats 400000 in
theorem slices_Contains_ints (w : World) (xs : List Int) (x : Int) (v : Value) (h : Rd rInts w xs [v]) : Calls Tryz.prog 107 #[v, .int .i64 x] w (Ret w (.bool (xs.contains x))) := by
  have HC := Lib.hid (idxI_contains x xs 0)
  go_enter Tryz.func107, Tryz.ntmps107
  go_wp2_with fail
  refine (slices_Index_ints _ xs x _ h).mono ?_
  rintro e w2 ⟨rfl, hb2⟩
  go_wp2
  go_ret
  exact Ret.bool (HC.out) (hb2)
end Go.Proofs.YtfffklkiikmieaaGreat

namespace Go.Proofs.YtfffklkiikmieaaGreat
open Go.RowKit
set_option linter.unusedVariables false
set_option linter.unusedSimpArgs false
theorem max_intI (a b : Int) : max a b = if a ≤ b then b else a := by by_cases h : a ≤ b <;> simp [h] <;> omega
theorem rank_near (x : GWish) (v : Int) (k0 : ¬ x.kind = 0) (k1 : ¬ x.kind = 1) (k2 : x.kind = 2) : rankV x v = if v - x.value < x.value - v then x.value - v else v - x.value := by
  rw [rankV, if_neg k0, if_neg k1, if_pos k2, max_intI]
  by_cases h : v - x.value ≤ x.value - v
  · rw [if_pos h]; split <;> omega
  · rw [if_neg h, if_neg (by omega)]
def Same (w : World) (v : Value) (e : Ending) (w' : World) : Prop := e = .returned v ∧ w' = w
theorem Same.int {w : World} {a b : Int} (h : b = a) : Same w (.int .i64 b) (.returned (.int .i64 a)) w := ⟨by rw [h], rfl⟩
set_option maxRecDepth 100000 in
theorem I_combined_pareto (w : World) (a b : Int) (ha : -1 ≤ a ∧ a ≤ 2) (hb : -1 ≤ b ∧ b ≤ 2) : Calls Tryz.prog 116 #[.int .i64 1, .int .i64 a, .int .i64 b] w (Same w (.int .i64 (comb 1 a b))) := by
  have ea : a = -1 ∨ a = 0 ∨ a = 1 ∨ a = 2 := by omega
  have eb : b = -1 ∨ b = 0 ∨ b = 1 ∨ b = 2 := by omega
  clear ha hb
  rcases ea with rfl | rfl | rfl | rfl <;> rcases eb with rfl | rfl | rfl | rfl
  all_goals
    go_enter Tryz.func116, Tryz.ntmps116
    go_wp2
    go_ret
    exact Same.int rfl
set_option maxRecDepth 100000 in
theorem I_combined_same (w : World) (op a b : Int) (hop : op = 1 ∨ op = 2 ∨ op = 4) (ha : -1 ≤ a ∧ a ≤ 2) (hb : -1 ≤ b ∧ b ≤ 2) : Calls Tryz.prog 116 #[.int .i64 op, .int .i64 a, .int .i64 b] w (Same w (.int .i64 (comb op a b))) := by
  rcases hop with rfl | rfl | rfl
  · exact I_combined_pareto w a b ha hb
  · by_cases h : a = 0
    · have e1 : (a != 0) = false := by simpa using h
      have H := Lib.hid (show comb 2 a b = b by rw [comb, if_neg (by omega), if_pos rfl, if_pos h])
      clear h
      go_enter Tryz.func116, Tryz.ntmps116
      go_wp2
      go_ret
      exact Same.int H.out
    · have e1 : (a != 0) = true := by simpa using h
      have H := Lib.hid (show comb 2 a b = a by rw [comb, if_neg (by omega), if_pos rfl, if_neg h])
      clear h
      go_enter Tryz.func116, Tryz.ntmps116
      go_wp2
      go_ret
      exact Same.int H.out
  · by_cases h : a = b
    · have e1 : (a == b) = true := by simpa using h
      have H := Lib.hid (show comb 4 a b = a by rw [comb, if_neg (by omega), if_neg (by omega), if_pos h])
      clear h
      go_enter Tryz.func116, Tryz.ntmps116
      go_wp2
      go_ret
      exact Same.int H.out
    · have e1 : (a == b) = false := by simpa using h
      have H := Lib.hid (show comb 4 a b = 2 by rw [comb, if_neg (by omega), if_neg (by omega), if_neg h])
      clear h
      go_enter Tryz.func116, Tryz.ntmps116
      go_wp2
      go_ret
      exact Same.int H.out
theorem I_combined (w : World) (op a b : Int) (hop : op = 1 ∨ op = 2 ∨ op = 4) (ha : -1 ≤ a ∧ a ≤ 2) (hb : -1 ≤ b ∧ b ≤ 2) : Calls Tryz.prog 116 #[.int .i64 op, .int .i64 a, .int .i64 b] w (Ret w (.int .i64 (comb op a b))) :=
  (I_combined_same w op a b hop ha hb).mono fun _ _ h => ⟨h.1, by rw [h.2]; exact Bw.refl _⟩
theorem Ret.two {w w' : World} {a b : Int} {c : Value} (h : a = b) (hb : Bw w w') : Ret w (.tuple #[.int .i64 b, c]) (.returned (.tuple #[.int .i64 a, c])) w' := ⟨by rw [h], hb⟩
set_option maxRecDepth 100000 in
set_option maxHeartbeats 1600000 in
theorem I_RankOfValue (w : World) (x : GWish) (a u : Value) (v : Int) (h : Rd rInts w x.list [a]) (h' : Rd rPairs w x.pairs [u]) (hx : isWish x = true) (h4 : ¬ x.kind = 4) (hv : 0 ≤ v ∧ v ≤ 9) :
    Calls Tryz.prog 174 #[.agg #[.int .i64 x.kind, .int .i64 x.field, .int .i64 x.value, a, u], .int .i64 v] w (Ret w (.tuple #[.int .i64 (rankV x v), .bool true])) := by
  have B0 : Bw w (w.alloc (.cells #[.int .i64 x.kind, .int .i64 x.field, .int .i64 x.value, a, u] 100)) := (Bw.refl w).alloc _
  have HX := Lib.hid hx
  have HV := Lib.hid (inB_iff.2 hv)
  have hval := isWish_value hx
  have hk := isWish_kind hx
  clear hx
  go_enter Tryz.func174, Tryz.ntmps174
  go_wp2_with fail
  refine (I_IsWish _ x _ _ (h.bw rInts_good B0) (h'.bw rPairs_good B0)).mono ?_
  rintro e w1 ⟨rfl, hb1⟩
  rw [HX.out]
  have p0 : w1.cell? ⟨w.heap.size, 0, none⟩ = some (.int .i64 x.kind) := hb1.cell (by go_simp)
  have p1 : w1.cell? ⟨w.heap.size, 1, none⟩ = some (.int .i64 x.field) := hb1.cell (by go_simp)
  have p2 : w1.cell? ⟨w.heap.size, 2, none⟩ = some (.int .i64 x.value) := hb1.cell (by go_simp)
  have p3 : w1.cell? ⟨w.heap.size, 3, none⟩ = some (a) := hb1.cell (by go_simp)
  have p4 : w1.cell? ⟨w.heap.size, 4, none⟩ = some (u) := hb1.cell (by go_simp)
  have B1 := B0.then hb1
  go_wp2_with fail
  refine (I_within _ _ _ _).mono ?_
  rintro e w2 ⟨rfl, hb2⟩
  rw [HV.out]
  replace p0 := hb2.cell p0
  replace p2 := hb2.cell p2
  replace p3 := hb2.cell p3
  replace B1 := B1.then hb2
  clear p1 p4
  by_cases k0 : x.kind = 0
  · have q0 : (x.kind == 0) = true := by simpa using k0
    have E := Lib.hid (show v = rankV x v by rw [rankV, if_pos k0])
    clear k0 h4
    go_wp2
    refine bodyPost_ret (v := .tuple #[.int .i64 v, .bool true]) (by simp [results, Tryz.results174, go_sem]) rfl (Ret.two (E.out) (B1))
  have q0 : (x.kind == 0) = false := by simpa using k0
  by_cases k1 : x.kind = 1
  · have q1 : (x.kind == 1) = true := by simpa using k1
    have E := Lib.hid (show 9 - v = rankV x v by rw [rankV, if_neg k0, if_pos k1])
    clear k0 k1 h4
    go_wp2
    refine bodyPost_ret (v := .tuple #[.int .i64 (9 - v), .bool true]) (by simp [results, Tryz.results174, go_sem]) rfl (Ret.two (E.out) (B1))
  have q1 : (x.kind == 1) = false := by simpa using k1
  by_cases k2 : x.kind = 2
  · have q2 : (x.kind == 2) = true := by simpa using k2
    have K := rank_near x v k0 k1 k2
    by_cases hlt : v - x.value < x.value - v
    · rw [if_pos hlt] at K
      have E := Lib.hid K
      clear k0 k1 k2 h4 K
      go_wp2
      refine bodyPost_ret (v := .tuple #[.int .i64 (x.value - v), .bool true]) (by simp [results, Tryz.results174, go_sem]) rfl (Ret.two (E.out.symm) (B1))
    · rw [if_neg hlt] at K
      have E := Lib.hid K
      clear k0 k1 k2 h4 K
      go_wp2
      refine bodyPost_ret (v := .tuple #[.int .i64 (v - x.value), .bool true]) (by simp [results, Tryz.results174, go_sem]) rfl (Ret.two (E.out.symm) (B1))
  have q2 : (x.kind == 2) = false := by simpa using k2
  have k3 : x.kind = 3 := by omega
  have q3 : (x.kind == 3) = true := by simpa using k3
  have E := Lib.hid (show rankV x v = if x.list.contains v then 0 else 1 by rw [rankV, if_neg k0, if_neg k1, if_neg k2])
  clear k0 k1 k2 k3 h4 hk
  go_wp2_with fail
  refine (slices_Contains_ints _ x.list v _ (h.bw rInts_good B1)).mono ?_
  rintro e w3 ⟨rfl, hb3⟩
  rcases Bool.eq_false_or_eq_true (x.list.contains v) with e1 | e1
  · have R := Lib.hid e1
    rw [e1]
    clear e1
    go_wp2
    refine bodyPost_ret (v := .tuple #[.int .i64 0, .bool true]) (by simp [results, Tryz.results174, go_sem]) rfl (Ret.two ((by rw [E.out, R.out]; rfl)) ((B1.then hb3)))
  · have R := Lib.hid e1
    rw [e1]
    clear e1
    go_wp2
    refine bodyPost_ret (v := .tuple #[.int .i64 1, .bool true]) (by simp [results, Tryz.results174, go_sem]) rfl (Ret.two ((by rw [E.out, R.out]; rfl)) ((B1.then hb3)))
end Go.Proofs.YtfffklkiikmieaaGreat
