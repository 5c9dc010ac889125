/- Valid pairs in the reference. -/
import Derived.Test.YtfffklkiikmieaaReach
namespace Go.Proofs.Ytfffklkiikmieaa
open Go.RowKit
set_option linter.unusedVariables false
theorem all_range_drop (f : Nat → Bool) {k n : Nat} (h : k < n) : (List.range' k (n - k)).all f = (f k && (List.range' (k + 1) (n - (k + 1))).all f) := by
  rw [show n - k = (n - (k + 1)) + 1 by omega, List.range'_succ, List.all_cons]
set_option maxHeartbeats 800000 in
theorem S_ArePairs (w : World) (l : List GPair) (v : Value) (h : Rd rPairs w l [v]) : Calls Try.prog 205 #[v] w (Ret w (.bool (arePairs l))) := by
  go_enter Try.func205, Try.ntmps205
  go_wp2_with fail
  refine (S_l3Valid _ l _ h).mono ?_
  rintro e w2 ⟨rfl, hb2⟩
  have h2 := h.bw rPairs_good hb2
  rcases Bool.eq_false_or_eq_true (pairsIn l && decide (l.length ≤ 8)) with e1 | e1
  · have E1 := Lib.hid e1
    rw [e1]
    have hl : pairsIn l = true := by simp at e1; exact e1.1
    have h8 : l.length ≤ 8 := by simp at e1; exact e1.2
    have HL := Lib.hid hl
    have H8 := Lib.hid h8
    have HM := Lib.hid (show arePairs l = (List.range' 0 (10 - 0)).all (fun v => !reachB l (v : Int) (v : Int)) by
      unfold arePairs; rw [hl, List.range_eq_range']; simp [h8])
    clear e1 hl h8
    go_wp2
    go_loopg [3] 10 (fun g i w' => ∃ k : Nat, k ≤ 10 ∧ g = 10 - k ∧ i = .int .i64 k ∧ Hid (arePairs l = (List.range' k (10 - k)).all (fun v => !reachB l (v : Int) (v : Int))) ∧ Bw w w')
    case atStart => exact ⟨0, by omega, rfl, rfl, HM, hb2⟩
    case round =>
      obtain ⟨k, hk, rfl, rfl, HE, hb⟩ := hrel
      by_cases hlt : k < 10
      · have HS := Lib.hid (all_range_drop (fun v => !reachB l (v : Int) (v : Int)) hlt)
        have k9 : (k : Int) ≤ 9 := by omega
        go_wp2_with fail
        refine (S_l3Reach _ l (k : Int) (k : Int) _ (h.bw rPairs_good hb) HL.out H8.out (by omega) (by omega)).mono ?_
        rintro e w3 ⟨rfl, hb3⟩
        rcases Bool.eq_false_or_eq_true (reachB l (k : Int) (k : Int)) with e2 | e2
        · have E2 := Lib.hid e2
          rw [show reachB l (k : Int) (k : Int) = true from E2.out]
          clear e2
          go_wp2
          go_ret
          exact Ret.bool (by rw [HE.out, HS.out, E2.out]; simp) (hb.then hb3)
        · have E2 := Lib.hid e2
          rw [show reachB l (k : Int) (k : Int) = false from E2.out]
          clear e2
          go_wp2
          go_roundg (10 - (k + 1))
          case measure => omega
          case rel => exact ⟨k + 1, by omega, rfl, by go_num, Lib.hid (by rw [HE.out, HS.out, E2.out]; simp), hb.then hb3⟩
      · obtain rfl : k = 10 := by omega
        go_wp2
        go_ret
        exact Ret.bool (by rw [HE.out]; simp) hb
  · have HM := Lib.hid (show arePairs l = false by
      unfold arePairs
      simp at e1
      by_cases hl : pairsIn l = true
      · have := e1 hl; simp; intro _ h; omega
      · simp at hl; simp [hl])
    rw [e1]
    clear e1
    go_wp2
    go_ret
    exact Ret.bool (by rw [HM.out]) (hb2)
end Go.Proofs.Ytfffklkiikmieaa
