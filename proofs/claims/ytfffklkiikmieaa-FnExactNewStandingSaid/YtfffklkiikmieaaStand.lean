/- Standings: the laws' conversions, counts and comparisons; EqualStandings in both programs. -/
import Derived.Test.YtfffklkiikmieaaWishes3
import Derived.Test.YtfffklkiikmieaaEqLists
namespace Go.Proofs.Ytfffklkiikmieaa
open Go.RowKit
set_option linter.unusedVariables false
set_option linter.unusedSimpArgs false
theorem eqStanding_dec (x y : GStanding) : decide (x = y) = (decide (x.items = y.items) && (decide (x.wanted = y.wanted) && (decide (x.best = y.best) && decide (x.tests = y.tests)))) := by rw [Bool.eq_iff_iff]; simp [GStanding.eq_iff]
set_option maxRecDepth 100000 in
set_option maxHeartbeats 1600000 in
theorem L_eqStanding (w : World) (x y : GStanding) (va vb vc ua ub uc : Value) (ha : Rd rItems w x.items [va]) (hb : Rd rNodes w x.wanted [vb]) (hc : Rd rInts w x.best [vc]) (ka : Rd rItems w y.items [ua]) (kb : Rd rNodes w y.wanted [ub]) (kc : Rd rInts w y.best [uc]) :
    Calls Try.prog 28 #[.agg #[va, vb, vc, .int .i64 x.tests], .agg #[ua, ub, uc, .int .i64 y.tests]] w (Ret w (.bool (decide (x = y)))) := by
  have B0 : Bw w ((w.alloc (.cells #[va, vb, vc, .int .i64 x.tests] 44)).alloc (.cells #[ua, ub, uc, .int .i64 y.tests] 44)) := ((Bw.refl w).alloc _).alloc _
  rw [eqStanding_dec]
  have H1 := Lib.hid (show x.items = y.items ∨ x.items ≠ y.items from Decidable.em _)
  go_enter Try.func28, Try.ntmps28
  go_wp2_with fail
  refine (L_eqItemS _ x.items y.items _ _ (ha.bw rItems_good B0) (ka.bw rItems_good B0)).mono ?_
  rintro e w1 ⟨rfl, hb1⟩
  have p0 : w1.cell? ⟨w.heap.size, 0, none⟩ = some (va) := hb1.cell (by go_simp)
  have p1 : w1.cell? ⟨w.heap.size, 1, none⟩ = some (vb) := hb1.cell (by go_simp)
  have p2 : w1.cell? ⟨w.heap.size, 2, none⟩ = some (vc) := hb1.cell (by go_simp)
  have p3 : w1.cell? ⟨w.heap.size, 3, none⟩ = some (.int .i64 x.tests) := hb1.cell (by go_simp)
  have q0 : w1.cell? ⟨w.heap.size + 1, 0, none⟩ = some (ua) := hb1.cell (by go_simp)
  have q1 : w1.cell? ⟨w.heap.size + 1, 1, none⟩ = some (ub) := hb1.cell (by go_simp)
  have q2 : w1.cell? ⟨w.heap.size + 1, 2, none⟩ = some (uc) := hb1.cell (by go_simp)
  have q3 : w1.cell? ⟨w.heap.size + 1, 3, none⟩ = some (.int .i64 y.tests) := hb1.cell (by go_simp)
  have B1 := B0.then hb1
  rcases Bool.eq_false_or_eq_true (decide (x.items = y.items)) with e1 | e1
  · have E1 := Lib.hid e1
    rw [show decide (x.items = y.items) = true from E1.out]
    clear e1
    go_wp2_with fail
    refine (L_eqNodeS _ x.wanted y.wanted _ _ (hb.bw rNodes_good B1) (kb.bw rNodes_good B1)).mono ?_
    rintro e w2 ⟨rfl, hb2⟩
    replace p2 := hb2.cell p2
    replace p3 := hb2.cell p3
    replace q2 := hb2.cell q2
    replace q3 := hb2.cell q3
    replace B1 := B1.then hb2
    rcases Bool.eq_false_or_eq_true (decide (x.wanted = y.wanted)) with e2 | e2
    · have E2 := Lib.hid e2
      rw [show decide (x.wanted = y.wanted) = true from E2.out]
      clear e2
      go_wp2_with fail
      refine (L_eqIntS _ x.best y.best _ _ (hc.bw rInts_good B1) (kc.bw rInts_good B1)).mono ?_
      rintro e w3 ⟨rfl, hb3⟩
      replace p3 := hb3.cell p3
      replace q3 := hb3.cell q3
      replace B1 := B1.then hb3
      rcases Bool.eq_false_or_eq_true (decide (x.best = y.best)) with e3 | e3
      · have E3 := Lib.hid e3
        rw [show decide (x.best = y.best) = true from E3.out]
        clear e3
        by_cases e4 : x.tests = y.tests
        · have a4 : (x.tests == y.tests) = true := by simpa using e4
          have b4 : (x.tests != y.tests) = false := by simpa using e4
          have E4 := Lib.hid e4
          clear e4
          go_wp2
          go_ret
          exact Ret.bool (by simp [E1.out, E2.out, E3.out, E4.out]) (B1)
        · have a4 : (x.tests == y.tests) = false := by simpa using e4
          have b4 : (x.tests != y.tests) = true := by simpa using e4
          have E4 := Lib.hid e4
          clear e4
          go_wp2
          go_ret
          exact Ret.bool (by simp [E4.out]) (B1)
      · have E3 := Lib.hid e3
        rw [show decide (x.best = y.best) = false from E3.out]
        clear e3
        go_wp2
        go_ret
        exact Ret.bool (by simp [E3.out]) (B1)
    · have E2 := Lib.hid e2
      rw [show decide (x.wanted = y.wanted) = false from E2.out]
      clear e2
      go_wp2
      go_ret
      exact Ret.bool (by simp [E2.out]) (B1)
  · have E1 := Lib.hid e1
    rw [show decide (x.items = y.items) = false from E1.out]
    clear e1
    go_wp2
    go_ret
    exact Ret.bool (by simp [E1.out]) (B1)
end Go.Proofs.Ytfffklkiikmieaa
