/- Valid wishes in the program. -/
import Derived.Test.YtpihighajaeabaaGreatQWishes
import Derived.Test.YtpihighajaeabaaGreatQWishS
namespace Go.Proofs.YtpihighajaeabaaGreat
open Go.RowKit
set_option linter.unusedVariables false
set_option linter.unusedSimpArgs false
set_option maxRecDepth 100000 in
set_option maxHeartbeats 3200000 in
theorem I_IsWish (w : World) (x : GWish) (v u : Value) (h : Rd rInts w x.list [v]) (h' : Rd rPairs w x.pairs [u]) :
    Calls Tryz.prog 185 #[.agg #[.int .i64 x.kind, .int .i64 x.field, .int .i64 x.value, v, u]] w (Ret w (.bool (isWish x))) := by
  obtain ⟨A, n, c, rfl, L0, Lc, Lm⟩ := rSl_open h
  unfold maxLen at Lm
  have L := Lib.hid L0
  clear L0
  obtain ⟨B, m, c', rfl, M0, Mc, Mm⟩ := rSl_open h'
  unfold maxLen at Mm
  have M := Lib.hid M0
  clear M0
  have B0 : Bw w (w.alloc (.cells #[.int .i64 x.kind, .int .i64 x.field, .int .i64 x.value, .slice A n c, .slice B m c'] 109)) := (Bw.refl w).alloc _
  go_enter Tryz.func185, Tryz.ntmps185
  go_wp2_with fail
  refine (I_within _ _ _ _).mono ?_
  rintro e w1 ⟨rfl, hb1⟩
  have p0 : w1.cell? ⟨w.heap.size, 0, none⟩ = some (.int .i64 x.kind) := hb1.cell (by go_simp)
  have p1 : w1.cell? ⟨w.heap.size, 1, none⟩ = some (.int .i64 x.field) := hb1.cell (by go_simp)
  have p2 : w1.cell? ⟨w.heap.size, 2, none⟩ = some (.int .i64 x.value) := hb1.cell (by go_simp)
  have p3 : w1.cell? ⟨w.heap.size, 3, none⟩ = some (.slice A n c) := hb1.cell (by go_simp)
  have p4 : w1.cell? ⟨w.heap.size, 4, none⟩ = some (.slice B m c') := hb1.cell (by go_simp)
  have B1 := B0.then hb1
  rcases Bool.eq_false_or_eq_true (inB x.field 0 2) with e1 | e1
  · have E1 := Lib.hid e1
    rw [e1]
    clear e1
    go_wp2_with fail
    refine (I_within _ _ _ _).mono ?_
    rintro e w2 ⟨rfl, hb2⟩
    replace p0 := hb2.cell p0
    replace p1 := hb2.cell p1
    replace p2 := hb2.cell p2
    replace p3 := hb2.cell p3
    replace p4 := hb2.cell p4
    replace B1 := B1.then hb2
    rcases Bool.eq_false_or_eq_true (inB x.kind 0 4) with e2 | e2
    · have E2 := Lib.hid e2
      rw [e2]
      clear e2
      go_wp2_with fail
      refine (I_within _ _ _ _).mono ?_
      rintro e w3 ⟨rfl, hb3⟩
      replace p0 := hb3.cell p0
      replace p1 := hb3.cell p1
      replace p2 := hb3.cell p2
      replace p3 := hb3.cell p3
      replace p4 := hb3.cell p4
      replace B1 := B1.then hb3
      rcases Bool.eq_false_or_eq_true (inB x.value 0 9) with e3 | e3
      · have E3 := Lib.hid e3
        rw [e3]
        clear e3
        go_wp2
        go_loopg [24] n (fun g i w' => ∃ k : Nat, k ≤ n ∧ g = n - k ∧ i = .int .i64 k ∧ Hid (ascFrom none x.list = ascFrom (prevI x.list k) (x.list.drop k)) ∧ Bw w3 w')
        case atStart => exact ⟨0, by omega, rfl, rfl, Lib.hid rfl, Bw.refl _⟩
        case round =>
          obtain ⟨k, hk, rfl, rfl, HE, hb⟩ := hrel
          replace p0 := hb.cell p0
          replace p1 := hb.cell p1
          replace p2 := hb.cell p2
          replace p3 := hb.cell p3
          replace p4 := hb.cell p4
          by_cases hlt : k < n
          · obtain ⟨y, hy⟩ := get_of_lt (xs := x.list) (k := k) (by have := L.out; omega)
            obtain ⟨ba, oa, rfl, _, hc0⟩ := rInts_at h hy
            have hcx := (B1.then hb).cell hc0
            have i1 : (0 : Int) ≤ (k : Int) := by omega
            have i2 : (k : Int) < (n : Int) := by omega
            by_cases hk0 : 0 < k
            · obtain ⟨z, hz⟩ := get_of_lt (xs := x.list) (k := k - 1) (by have := L.out; omega)
              obtain ⟨_, _, e, _, hz0⟩ := rInts_at h hz
              injection e with e
              injection e with e1 e2
              subst e1 e2
              have hcz := (B1.then hb).cell hz0
              have HP := Lib.hid (asc_next' hk0 hz hy)
              clear hy hz h hc0 hz0
              go_wp2_with fail
              refine (I_within _ _ _ _).mono ?_
              rintro e w4 ⟨rfl, hb4⟩
              replace p3 := hb4.cell p3
              replace hcz := hb4.cell hcz
              have hbb := hb.then hb4
              rcases Bool.eq_false_or_eq_true (inB y 0 9) with e4 | e4
              · have E4 := Lib.hid e4
                rw [e4]
                clear e4
                by_cases hle : z < y
                · have ht : decide (y ≤ z) = false := by simp; omega
                  have HD := Lib.hid hle
                  go_wp2
                  go_roundg (n - (k + 1))
                  case measure => omega
                  case rel => exact ⟨k + 1, by omega, rfl, by go_num, Lib.hid (by rw [HE.out, HP.out]; simp [E4.out, HD.out]), hbb⟩
                · have ht : decide (y ≤ z) = true := by simp; omega
                  have HD : Hid (decide (z < y) = false) := by show _ = _; simp; omega
                  go_wp2
                  go_ret
                  exact Ret.bool (by rw [isWish, HE.out, HP.out, HD.out]; simp) (B1.then hbb)
              · have E4 := Lib.hid e4
                rw [e4]
                clear e4
                go_wp2
                go_ret
                exact Ret.bool (by rw [isWish, HE.out, HP.out]; simp [E4.out]) (B1.then hbb)
            · have HP := Lib.hid (show ascFrom (prevI x.list k) (x.list.drop k) = (inB y 0 9 && ascFrom (prevI x.list (k + 1)) (x.list.drop (k + 1))) by
                obtain rfl : k = 0 := by omega
                exact asc_first hy)
              clear hy h hc0
              go_wp2_with fail
              refine (I_within _ _ _ _).mono ?_
              rintro e w4 ⟨rfl, hb4⟩
              have hbb := hb.then hb4
              rcases Bool.eq_false_or_eq_true (inB y 0 9) with e4 | e4
              · have E4 := Lib.hid e4
                rw [e4]
                clear e4
                go_wp2
                go_roundg (n - (k + 1))
                case measure => omega
                case rel => exact ⟨k + 1, by omega, rfl, by go_num, Lib.hid (by rw [HE.out, HP.out]; simp [E4.out]), hbb⟩
              · have E4 := Lib.hid e4
                rw [e4]
                clear e4
                go_wp2
                go_ret
                exact Ret.bool (by rw [isWish, HE.out, HP.out]; simp [E4.out]) (B1.then hbb)
          · obtain rfl : k = n := by omega
            have HT := Lib.hid (show ascFrom none x.list = true by rw [HE.out, List.drop_of_length_le (by rw [← L.out]; exact Nat.le_refl _)]; cases prevI x.list k <;> rfl)
            have HW := Lib.hid (show isWish x = ((decide (x.kind = 2) || decide (x.value = 0)) && ((decide (x.kind = 3) == decide (0 < k)) && (if x.kind = 4 then arePairs x.pairs else decide (m = 0)))) by
              rw [isWish, E1.out, E2.out, E3.out, HT.out, ← L.out, ← M.out]; simp)
            have B2 := B1.then hb
            clear HE hlt
            by_cases k2 : x.kind = 2 ∨ x.value = 0
            · have K2 := Lib.hid (show (decide (x.kind = 2) || decide (x.value = 0)) = true by simpa using k2)
              have c2 : (x.kind != 2 && x.value != 0) = false := by simp; omega
              by_cases k3 : x.kind = 3 ↔ 0 < k
              · have K3 := Lib.hid (show (decide (x.kind = 3) == decide (0 < k)) = true by simpa using k3)
                by_cases q2 : x.kind = 2
                · have r2 : (x.kind != 2) = false := by simpa using q2
                  by_cases q3 : x.kind = 3
                  · have r3 : (x.kind == 3) = true := by simpa using q3
                    omega
                  · have r3 : (x.kind == 3) = false := by simpa using q3
                    obtain rfl : k = 0 := by simp [q3] at k3; omega
                    by_cases q4 : x.kind = 4
                    · have r4 : (x.kind == 4) = true := by simpa using q4
                      omega
                    · have r4 : (x.kind == 4) = false := by simpa using q4
                      have Q4 := Lib.hid q4
                      clear k2 k3 q2 q3 q4 c2
                      by_cases m0 : m = 0
                      · subst m0
                        go_wp2
                        go_ret
                        exact Ret.bool (by rw [HW.out, K2.out, K3.out, if_neg Q4.out]; simp) (B2)
                      · have m1 : ((m : Int) == 0) = false := by simp; omega
                        have m2 : decide (m = 0) = false := by simpa using m0
                        go_wp2
                        go_ret
                        exact Ret.bool (by rw [HW.out, K2.out, K3.out, if_neg Q4.out]; simp [m0]) (B2)
                · have r2 : (x.kind != 2) = true := by simpa using q2
                  have rv : (x.value != 0) = false := by simp; omega
                  by_cases q3 : x.kind = 3
                  · have r3 : (x.kind == 3) = true := by simpa using q3
                    have hk0 : 0 < k := by simp [q3] at k3; omega
                    by_cases q4 : x.kind = 4
                    · have r4 : (x.kind == 4) = true := by simpa using q4
                      omega
                    · have r4 : (x.kind == 4) = false := by simpa using q4
                      have Q4 := Lib.hid q4
                      clear k2 k3 q2 q3 q4 c2
                      by_cases m0 : m = 0
                      · subst m0
                        go_wp2
                        go_ret
                        exact Ret.bool (by rw [HW.out, K2.out, K3.out, if_neg Q4.out]; simp) (B2)
                      · have m1 : ((m : Int) == 0) = false := by simp; omega
                        have m2 : decide (m = 0) = false := by simpa using m0
                        go_wp2
                        go_ret
                        exact Ret.bool (by rw [HW.out, K2.out, K3.out, if_neg Q4.out]; simp [m0]) (B2)
                  · have r3 : (x.kind == 3) = false := by simpa using q3
                    obtain rfl : k = 0 := by simp [q3] at k3; omega
                    by_cases q4 : x.kind = 4
                    · have r4 : (x.kind == 4) = true := by simpa using q4
                      have Q4 := Lib.hid q4
                      clear k2 k3 q2 q3 q4 c2
                      go_wp2_with fail
                      refine (I_ArePairs _ x.pairs _ (h'.bw rPairs_good B2)).mono ?_
                      rintro e w5 ⟨rfl, hb5⟩
                      go_wp2
                      go_ret
                      exact Ret.bool (by rw [HW.out, K2.out, K3.out, if_pos Q4.out]; simp) (B2.then hb5)
                    · have r4 : (x.kind == 4) = false := by simpa using q4
                      have Q4 := Lib.hid q4
                      clear k2 k3 q2 q3 q4 c2
                      by_cases m0 : m = 0
                      · subst m0
                        go_wp2
                        go_ret
                        exact Ret.bool (by rw [HW.out, K2.out, K3.out, if_neg Q4.out]; simp) (B2)
                      · have m1 : ((m : Int) == 0) = false := by simp; omega
                        have m2 : decide (m = 0) = false := by simpa using m0
                        go_wp2
                        go_ret
                        exact Ret.bool (by rw [HW.out, K2.out, K3.out, if_neg Q4.out]; simp [m0]) (B2)
              · have K3 := Lib.hid (show (decide (x.kind = 3) == decide (0 < k)) = false by simpa using k3)
                by_cases q2 : x.kind = 2
                · have r2 : (x.kind != 2) = false := by simpa using q2
                  by_cases q3 : x.kind = 3
                  · have r3 : (x.kind == 3) = true := by simpa using q3
                    obtain rfl : k = 0 := by simp [q3] at k3; omega
                    clear k2 k3 q2 q3 c2
                    go_wp2
                    go_ret
                    exact Ret.bool (by rw [HW.out, K3.out]; simp) (B2)
                  · have r3 : (x.kind == 3) = false := by simpa using q3
                    have hk0 : 0 < k := by simp [q3] at k3; omega
                    clear k2 k3 q2 q3 c2
                    go_wp2
                    go_ret
                    exact Ret.bool (by rw [HW.out, K3.out]; simp) (B2)
                · have r2 : (x.kind != 2) = true := by simpa using q2
                  have rv : (x.value != 0) = false := by simp; omega
                  by_cases q3 : x.kind = 3
                  · have r3 : (x.kind == 3) = true := by simpa using q3
                    obtain rfl : k = 0 := by simp [q3] at k3; omega
                    clear k2 k3 q2 q3 c2
                    go_wp2
                    go_ret
                    exact Ret.bool (by rw [HW.out, K3.out]; simp) (B2)
                  · have r3 : (x.kind == 3) = false := by simpa using q3
                    have hk0 : 0 < k := by simp [q3] at k3; omega
                    clear k2 k3 q2 q3 c2
                    go_wp2
                    go_ret
                    exact Ret.bool (by rw [HW.out, K3.out]; simp) (B2)
            · have K2 := Lib.hid (show (decide (x.kind = 2) || decide (x.value = 0)) = false by simpa using k2)
              have r2 : (x.kind != 2) = true := by simp; omega
              have rv : (x.value != 0) = true := by simp; omega
              clear k2
              go_wp2
              go_ret
              exact Ret.bool (by rw [HW.out, K2.out]; simp) (B2)
      · have E3 := Lib.hid e3
        rw [e3]
        clear e3
        go_wp2
        go_ret
        exact Ret.bool (by simp [isWish, E3.out]) (B1)
    · have E2 := Lib.hid e2
      rw [e2]
      clear e2
      go_wp2
      go_ret
      exact Ret.bool (by simp [isWish, E2.out]) (B1)
  · have E1 := Lib.hid e1
    rw [e1]
    clear e1
    go_wp2
    go_ret
    exact Ret.bool (by simp [isWish, E1.out]) (B1)
end Go.Proofs.YtpihighajaeabaaGreat
