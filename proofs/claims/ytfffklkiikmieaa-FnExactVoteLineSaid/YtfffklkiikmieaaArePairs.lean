/- Valid pairs in the program. -/
import Derived.Test.YtfffklkiikmieaaAbove
import Derived.Deep.WholeRow
namespace Go.Proofs.Ytfffklkiikmieaa
open Go.RowKit
set_option linter.unusedVariables false
set_option maxRecDepth 100000 in
set_option maxHeartbeats 3200000 in
theorem I_ArePairs (w : World) (l : List GPair) (v : Value) (h : Rd rPairs w l [v]) : Calls Try.prog 210 #[v] w (Ret w (.bool (arePairs l))) := by
  obtain ⟨A, n, c, rfl, L0, Lc, Lm⟩ := rSl_open h
  unfold maxLen at Lm
  have L := Lib.hid L0
  clear L0
  go_enter Try.func210, Try.ntmps210
  go_wp2
  go_loopg [9] n (fun g i w' => ∃ k : Nat, k ≤ n ∧ g = n - k ∧ i = .int .i64 k ∧ Hid (pairsIn l = pairsIn (l.drop k)) ∧ Bw w w')
  case atStart => exact ⟨0, by omega, rfl, rfl, Lib.hid rfl, Bw.refl _⟩
  case round =>
    obtain ⟨k, hk, rfl, rfl, HE, hb⟩ := hrel
    by_cases hlt : k < n
    · obtain ⟨y, hy⟩ := get_of_lt (xs := l) (k := k) (by have := L.out; omega)
      obtain ⟨ba, oa, rfl, _, hc0, hc1⟩ := rPairs_at h hy
      have hx0 := hb.cell hc0
      have hx1 := hb.cell hc1
      have HS := Lib.hid (pairsIn_drop hy)
      have A1 : Bw wr (wr.alloc (.cells #[.int .i64 y.fst, .int .i64 y.snd] 161)) := (Bw.refl wr).alloc _
      clear hy h
      go_wp2_with fail
      refine (I_within _ _ _ _).mono ?_
      rintro e w2 ⟨rfl, hb2⟩
      have q1 : w2.cell? ⟨wr.heap.size, 1, none⟩ = some (.int .i64 y.snd) := hb2.cell (by go_simp)
      have hbb := hb.then (A1.then hb2)
      rcases Bool.eq_false_or_eq_true (inB y.fst 0 9) with e1 | e1
      · have E1 := Lib.hid e1
        rw [show inB y.fst 0 9 = true from E1.out]
        clear e1
        go_wp2_with fail
        refine (I_within _ _ _ _).mono ?_
        rintro e w3 ⟨rfl, hb3⟩
        have hbc := hbb.then hb3
        rcases Bool.eq_false_or_eq_true (inB y.snd 0 9) with e2 | e2
        · have E2 := Lib.hid e2
          rw [show inB y.snd 0 9 = true from E2.out]
          clear e2
          go_wp2
          go_roundg (n - (k + 1))
          case measure => omega
          case rel => exact ⟨k + 1, by omega, rfl, by go_num, Lib.hid (by rw [HE.out, HS.out, E1.out, E2.out]; simp), hbc⟩
        · have E2 := Lib.hid e2
          rw [show inB y.snd 0 9 = false from E2.out]
          clear e2
          go_wp2
          go_ret
          exact Ret.bool (by rw [arePairs, HE.out, HS.out, E1.out, E2.out]; simp) hbc
      · have E1 := Lib.hid e1
        rw [show inB y.fst 0 9 = false from E1.out]
        clear e1
        go_wp2
        go_ret
        exact Ret.bool (by rw [arePairs, HE.out, HS.out, E1.out]; simp) hbb
    · obtain rfl : k = n := by omega
      have HT := Lib.hid (show pairsIn l = true by rw [HE.out, List.drop_of_length_le (by rw [← L.out]; exact Nat.le_refl _)]; rfl)
      have HM := Lib.hid (show arePairs l = (decide (k ≤ 8) && (List.range' 0 (10 - 0)).all (fun v => !reachB l (v : Int) (v : Int))) by
        unfold arePairs; rw [HT.out, List.range_eq_range', ← L.out]; simp)
      go_wp2_with fail
      refine (I_above _ l _ (h.bw rPairs_good hb) HT.out).mono ?_
      rintro e w2 ⟨rfl, hb2⟩
      have hbb := hb.then hb2
      obtain ⟨B, hB⟩ : ∃ B, B = warsh (baseB l) 10 := ⟨_, rfl⟩
      rw [← hB]
      have HB := Lib.hid (show ∀ v : Nat, reachB l (v : Int) (v : Int) = B v v from fun v => by rw [hB]; rfl)
      have hmi := mat_info
      rw [← matOf_size B] at hmi
      have hzz : Try.zeroCells196.size = (matOf B).size := by rw [matOf_size]; kernel_rfl
      have RR : Row (w2.alloc (.cells (matOf B) 196)) w2.heap.size 196 (matOf B) := heap_alloc_new _ _
      have hbW := hbb.alloc (.cells (matOf B) 196)
      have hg0 : (w2.alloc (.cells Try.zeroCells196 196)).heap[w2.heap.size]? = some (.cells Try.zeroCells196 196 (0, 0)) := heap_alloc_new _ _
      have hset : (w2.alloc (.cells Try.zeroCells196 196)).setRow w2.heap.size (matOf B) = w2.alloc (.cells (matOf B) 196) := World.setRow_alloc_new w2 _ _ _
      clear hB HE
      go_wp2_with (first | (refine wpList_store_row rfl 196 (.tmp 5) (.tmp 25) rfl w2.heap.size (matOf B) rfl rfl 196 Try.zeroCells196 hg0 hmi hzz (matOf_one _) ?_; rw [hset]))
      clear hmi hzz hg0 hset
      go_loopg [26] 10 (fun g i w' => ∃ v : Nat, v ≤ 10 ∧ g = 10 - v ∧ i = .int .i64 v ∧ Hid (arePairs l = (decide (k ≤ 8) && (List.range' v (10 - v)).all (fun v => !reachB l (v : Int) (v : Int)))) ∧ Row w' w2.heap.size 196 (matOf B) ∧ Bw w w')
      case atStart => exact ⟨0, by omega, rfl, rfl, HM, RR, hbW⟩
      case round =>
        clear HM RR hbW
        obtain ⟨v, hv, rfl, rfl, HE, R, hbw⟩ := hrel
        by_cases hlt1 : v < 10
        · have v1 : (v : Int) < 10 := by omega
          have hc := R.cell (v * 10 + v)
          rw [matOf_at hlt1 hlt1] at hc
          have HS := Lib.hid (all_range_drop (fun v => !reachB l (v : Int) (v : Int)) hlt1)
          have HBv := Lib.hid (HB.out v)
          rcases Bool.eq_false_or_eq_true (B v v) with e2 | e2
          · rw [e2] at hc
            have E2 := Lib.hid e2
            clear e2
            go_wp2
            go_ret
            exact Ret.bool (by rw [HE.out, HS.out, HBv.out, E2.out]; simp) hbw
          · rw [e2] at hc
            have E2 := Lib.hid e2
            clear e2
            go_wp2
            go_roundg (10 - (v + 1))
            case measure => omega
            case rel => exact ⟨v + 1, by omega, rfl, by go_num, Lib.hid (by rw [HE.out, HS.out, HBv.out, E2.out]; simp), R, hbw⟩
        · obtain rfl : v = 10 := by omega
          have HF := Lib.hid (show arePairs l = decide (k ≤ 8) by rw [HE.out]; simp)
          clear HE
          go_wp2
          go_ret
          exact Ret.bool (by rw [HF.out]; simp; omega) hbw
end Go.Proofs.Ytfffklkiikmieaa
