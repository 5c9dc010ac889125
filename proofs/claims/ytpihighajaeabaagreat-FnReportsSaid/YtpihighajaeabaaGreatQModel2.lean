/- The program's answers in plain words: wishes and expressions. No program in sight. -/
import Derived.Test.YtpihighajaeabaaGreatQAboveA
import Derived.Deep.WholeRow
import Derived.Test.YtpihighajaeabaaGreatQOwn3
namespace Go.Proofs.YtpihighajaeabaaGreat
open Go.RowKit
set_option linter.unusedVariables false
set_option maxRecDepth 100000 in
set_option maxHeartbeats 16000000 in
theorem I_above (w : World) (l : List GPair) (v : Value) (h : Rd rPairs w l [v]) (hl : pairsIn l = true) : Calls Tryz.prog 259 #[v] w (Ret w (.agg (matOf (warsh (baseB l) 10)))) := by
  obtain ⟨A, n, c, rfl, L0, Lc, Lm⟩ := rSl_open h
  unfold maxLen at Lm
  have L := Lib.hid L0
  clear L0
  have HL := Lib.hid hl
  clear hl
  go_enter Tryz.func259, Tryz.ntmps259
  go_wp2
  go_loopg [11] n (fun g i w' => ∃ k : Nat, k ≤ n ∧ g = n - k ∧ i = .int .i64 k ∧ Row w' (w.heap.size + 1) 228 (matOf (baseB (l.take k))) ∧ (∃ cs, Row w' w.heap.size 228 cs ∧ cs.size = 100) ∧ Bw w w')
  case atStart =>
    refine ⟨0, by omega, rfl, rfl, ?_, ⟨_, (Below.heap_alloc _ _ _ (by simp)).trans (heap_alloc_new w _), by kernel_rfl⟩, (((Bw.refl w).alloc _).alloc _)⟩
    have e := heap_alloc_new (w.alloc (.cells Tryz.zeroCells228 228)) (.cells Tryz.zeroCells228 228)
    rw [show (w.alloc (.cells Tryz.zeroCells228 228)).heap.size = w.heap.size + 1 by simp] at e
    refine e.trans ?_
    exact congrArg (fun c => some (Obj.cells c 228 (0, 0))) (show _ = matOf (baseB []) by kernel_rfl)
  case round =>
    obtain ⟨k, hk, rfl, rfl, R0, ⟨cs, R1, hcs⟩, hb⟩ := hrel
    by_cases hlt : k < n
    · obtain ⟨p, hp⟩ := get_of_lt (xs := l) (k := k) (by have := L.out; omega)
      obtain ⟨ba, oa, rfl, _, hc0, hc1⟩ := rPairs_at h hp
      obtain ⟨⟨p1, p2⟩, p3, p4⟩ := pairsIn_mem HL.out (List.mem_of_getElem? hp)
      obtain ⟨a, hae⟩ : ∃ a : Nat, p.fst = a := ⟨p.fst.toNat, by omega⟩
      obtain ⟨b, hbe⟩ : ∃ b : Nat, p.snd = b := ⟨p.snd.toNat, by omega⟩
      have ha : a < 10 := by omega
      have hbb : b < 10 := by omega
      have ha' : (a : Int) < 10 := by omega
      have hb' : (b : Int) < 10 := by omega
      have HS := Lib.hid (baseB_snoc hp hae hbe)
      rw [hae] at hc0
      rw [hbe] at hc1
      have hx0 := hb.cell hc0
      have hx1 := hb.cell hc1
      have kx0 : (wr.alloc (.cells #[.int .i64 a, .int .i64 b] 214)).cell? ⟨wr.heap.size, 0, none⟩ = some (.int .i64 a) := by go_simp
      have kx1 : (wr.alloc (.cells #[.int .i64 a, .int .i64 b] 214)).cell? ⟨wr.heap.size, 1, none⟩ = some (.int .i64 b) := by go_simp
      obtain ⟨W, hW⟩ : ∃ W, W = wr.alloc (.cells #[.int .i64 a, .int .i64 b] 214) := ⟨_, rfl⟩
      have hAl : Bw wr W := by rw [hW]; exact (Bw.refl wr).alloc _
      rw [← hW] at kx0 kx1
      have hz : w.heap.size + 1 < wr.heap.size := R0.lt
      have R0' := R0.bw hAl
      have R1' := R1.bw hAl
      have hcell := R0'.cell (a * 10 + b)
      rw [matOf_at ha hbb] at hcell
      have hfr := R0'.frozen (a * 10 + b)
      have R0d : Row W.drew (w.heap.size + 1) 228 (matOf (baseB (l.take k))) := R0'
      have R1d : Row W.drew w.heap.size 228 cs := R1'
      have R2 := R0d.put (a * 10 + b) (.bool true)
      rw [matOf_set ha hbb, ← HS.out] at R2
      have R3 := R1d.far (p := ⟨w.heap.size + 1, a * 10 + b, none⟩) (by dsimp only; omega) (.bool true)
      have hb2 := (hb.then hAl.drew).set (p := ⟨w.heap.size + 1, a * 10 + b, none⟩) (by dsimp only; omega) (.bool true)
      clear hp hae hbe R0 R1 R0' R1' R0d R1d
      go_wp2_with fail
      rw [← hW]
      obtain ⟨q, hq⟩ : ∃ q, q = wr.heap.size := ⟨_, rfl⟩
      rw [← hq] at kx0 kx1 ⊢
      clear hW hq
      refine wp_region_still_tail 6 (by kernel_rfl) (by kernel_rfl) ?_
      simp only [List.take_succ_cons, List.take_zero, List.drop_succ_cons, List.drop_zero]
      refine wpStill_of_quiet (w := W.drew) ?_
      repeat (first | go_big_quiet_skip | (go_big_quiet_want; go_big_quiet_op; go_big_quiet_on))
      refine wpQuiet_nil ?_
      change wpList _ _ _ _ _ W.drew
      go_wp2
      go_roundg (n - (k + 1))
      case measure => omega
      case rel => exact ⟨k + 1, by omega, rfl, by go_num, R2, ⟨cs, R3, hcs⟩, hb2⟩
    · obtain rfl : k = n := by omega
      rw [List.take_of_length_le (by rw [← L.out]; exact Nat.le_refl _)] at R0
      obtain ⟨B, hB⟩ : ∃ B, B = baseB l := ⟨_, rfl⟩
      rw [← hB] at R0
      have HB := Lib.hid hB
      have hgz : w.heap.size + 1 < wr.heap.size := R0.lt
      clear hB hgz
      go_wp2
      go_loopg [22] 10 (fun g i w' => ∃ k : Nat, k ≤ 10 ∧ g = 10 - k ∧ i = .int .i64 k ∧ Row w' (w.heap.size + 1) 228 (matOf (warsh B k)) ∧ (∃ cs, Row w' w.heap.size 228 cs ∧ cs.size = 100) ∧ Bw w w')
      case atStart => exact ⟨0, by omega, rfl, rfl, R0, ⟨cs, R1, hcs⟩, hb⟩
      case round =>
        clear R0 R1 hcs hb
        obtain ⟨k, hk, rfl, rfl, R0, ⟨cs, R1, hcs⟩, hb⟩ := hrel
        by_cases hlt1 : k < 10
        · have k1 : (k : Int) < 10 := by omega
          rw [← partM_zero] at R0
          go_wp2
          go_loopg [25] 10 (fun g i w' => ∃ i' : Nat, i' ≤ 10 ∧ g = 10 - i' ∧ i = .int .i64 i' ∧ Row w' (w.heap.size + 1) 228 (matOf (partM B k i' 0)) ∧ (∃ cs, Row w' w.heap.size 228 cs ∧ cs.size = 100) ∧ Bw w w')
          case atStart => exact ⟨0, by omega, rfl, rfl, R0, ⟨cs, R1, hcs⟩, hb⟩
          case round =>
            clear R0 R1 hcs hb
            obtain ⟨i, hi, rfl, rfl, R0, ⟨cs, R1, hcs⟩, hb⟩ := hrel
            by_cases hlt2 : i < 10
            · have i1 : (i : Int) < 10 := by omega
              go_wp2
              go_loopg [28] 10 (fun g i2 w' => ∃ j : Nat, j ≤ 10 ∧ g = 10 - j ∧ i2 = .int .i64 j ∧ Row w' (w.heap.size + 1) 228 (matOf (partM B k i j)) ∧ (∃ cs, Row w' w.heap.size 228 cs ∧ cs.size = 100) ∧ Bw w w')
              case atStart => exact ⟨0, by omega, rfl, rfl, R0, ⟨cs, R1, hcs⟩, hb⟩
              case round =>
                clear R0 R1 hcs hb
                obtain ⟨j, hj, rfl, rfl, R0, ⟨cs, R1, hcs⟩, hb⟩ := hrel
                by_cases hlt3 : j < 10
                · have j1 : (j : Int) < 10 := by omega
                  have hcij := R0.cell (i * 10 + j)
                  rw [matOf_at hlt2 hlt3, partM_ij] at hcij
                  have hcik := R0.cell (i * 10 + k)
                  rw [matOf_at hlt2 hlt1, partM_ik] at hcik
                  have hckj := R0.cell (k * 10 + j)
                  rw [matOf_at hlt1 hlt3, partM_kj] at hckj
                  have hfr := R0.frozen (i * 10 + j)
                  have R0d : Row wr.drew (w.heap.size + 1) 228 (matOf (partM B k i j)) := R0
                  have R1d : Row wr.drew w.heap.size 228 cs := R1
                  have R2 := R0d.put (i * 10 + j) (.bool (warsh B k i j || (warsh B k i k && warsh B k k j)))
                  rw [matOf_set hlt2 hlt3, partM_step] at R2
                  have R3 := fun u => R1d.far (p := ⟨w.heap.size + 1, i * 10 + j, none⟩) (by dsimp only; omega) u
                  have hb2 := fun u => hb.drew.set (p := ⟨w.heap.size + 1, i * 10 + j, none⟩) (by dsimp only; omega) u
                  clear R0 R1 R0d R1d
                  rcases Bool.eq_false_or_eq_true (warsh B k i j) with x | x <;> rcases Bool.eq_false_or_eq_true (warsh B k i k) with y | y <;> rcases Bool.eq_false_or_eq_true (warsh B k k j) with z | z
                  all_goals
                    rw [x] at hcij
                    rw [y] at hcik
                    rw [z] at hckj
                    rw [x, y, z] at R2
                    simp only [Bool.or_true, Bool.true_or, Bool.or_false, Bool.false_or, Bool.and_true, Bool.and_false, Bool.true_and, Bool.false_and, Bool.and_self, Bool.or_self] at R2
                    have R3' := R3 (.bool true)
                    have R3'' := R3 (.bool false)
                    have hb2' := hb2 (.bool true)
                    have hb2'' := hb2 (.bool false)
                    clear x y z R3 hb2
                    go_wp2_with fail
                    refine wp_region_still_tail 23 (by kernel_rfl) (by kernel_rfl) ?_
                    simp only [List.take_succ_cons, List.take_zero, List.drop_succ_cons, List.drop_zero]
                    refine wpStill_of_quiet (w := wr.drew) ?_
                    repeat (first | go_big_quiet_skip | (go_big_quiet_want; go_big_quiet_op; go_big_quiet_on))
                    refine wpQuiet_nil ?_
                    change wpList _ _ _ _ _ wr.drew
                    go_wp2
                    go_roundg (10 - (j + 1))
                    case measure => omega
                    case rel => first | exact ⟨j + 1, by omega, rfl, by go_num, R2, ⟨cs, R3', hcs⟩, hb2'⟩ | exact ⟨j + 1, by omega, rfl, by go_num, R2, ⟨cs, R3'', hcs⟩, hb2''⟩
                · obtain rfl : j = 10 := by omega
                  rw [partM_row] at R0
                  go_wp2
                  go_roundg (10 - (i + 1))
                  case measure => omega
                  case rel => exact ⟨i + 1, by omega, rfl, by go_num, R0, ⟨cs, R1, hcs⟩, hb⟩
            · obtain rfl : i = 10 := by omega
              rw [partM_end] at R0
              go_wp2
              go_roundg (10 - (k + 1))
              case measure => omega
              case rel => exact ⟨k + 1, by omega, rfl, by go_num, R0, ⟨cs, R1, hcs⟩, hb⟩
        · obtain rfl : k = 10 := by omega
          have RR := setRow_row R1 (matOf (warsh B 10))
          have hB2 := hb.setRow (g := w.heap.size) (Nat.le_refl _) (matOf (warsh B 10))
          have hcs2 : cs.size = (matOf (warsh B 10)).size := hcs.trans (matOf_size _).symm
          have hmi := mat_info
          rw [← matOf_size (warsh B 10)] at hmi
          clear hlt1
          go_wp2_with (first | (refine wpList_load_row rfl 228 (.tmp 3) rfl (w.heap.size + 1) rfl 228 (matOf (warsh B 10)) (0, 0) _ R0 Tryz.underlying228 rfl hmi ?_) | (refine wpList_store_row rfl 228 (.tmp 2) (.tmp 57) rfl w.heap.size (matOf (warsh B 10)) rfl rfl 228 cs R1 hmi hcs2 (matOf_one _) ?_))
          refine bodyPost_ret (v := .agg (matOf (warsh B 10))) (results_cell_row rfl _ _ w.heap.size 228 (matOf (warsh B 10)) (0, 0) _ rfl RR Tryz.underlying228 rfl hmi) rfl ⟨?_, hB2⟩
          rw [HB.out]
end Go.Proofs.YtpihighajaeabaaGreat

namespace Go.Proofs.YtpihighajaeabaaGreat
open Go.RowKit
set_option linter.unusedVariables false
set_option maxRecDepth 100000 in
set_option maxHeartbeats 3200000 in
theorem I_ArePairs (w : World) (l : List GPair) (v : Value) (h : Rd rPairs w l [v]) : Calls Tryz.prog 237 #[v] w (Ret w (.bool (arePairs l))) := by
  obtain ⟨A, n, c, rfl, L0, Lc, Lm⟩ := rSl_open h
  unfold maxLen at Lm
  have L := Lib.hid L0
  clear L0
  go_enter Tryz.func237, Tryz.ntmps237
  go_wp2
  go_loopg [9] n (fun g i w' => ∃ k : Nat, k ≤ n ∧ g = n - k ∧ i = .int .i64 k ∧ Hid (pairsIn l = pairsIn (l.drop k)) ∧ Bw w w')
  case atStart => exact ⟨0, by omega, rfl, rfl, Lib.hid rfl, Bw.refl _⟩
  case round =>
    obtain ⟨k, hk, rfl, rfl, HE, hb⟩ := hrel
    by_cases hlt : k < n
    · obtain ⟨y, hy⟩ := get_of_lt (xs := l) (k := k) (by have := L.out; omega)
      obtain ⟨ba, oa, rfl, _, hc0, hc1⟩ := rPairs_at h hy
      have hx0 := hb.cell hc0
      have hx1 := hb.cell hc1
      have HS := Lib.hid (pairsIn_drop hy)
      have A1 : Bw wr (wr.alloc (.cells #[.int .i64 y.fst, .int .i64 y.snd] 214)) := (Bw.refl wr).alloc _
      clear hy h
      go_wp2_with fail
      refine (I_within _ _ _ _).mono ?_
      rintro e w2 ⟨rfl, hb2⟩
      have q1 : w2.cell? ⟨wr.heap.size, 1, none⟩ = some (.int .i64 y.snd) := hb2.cell (by go_simp)
      have hbb := hb.then (A1.then hb2)
      rcases Bool.eq_false_or_eq_true (inB y.fst 0 9) with e1 | e1
      · have E1 := Lib.hid e1
        rw [show inB y.fst 0 9 = true from E1.out]
        clear e1
        go_wp2_with fail
        refine (I_within _ _ _ _).mono ?_
        rintro e w3 ⟨rfl, hb3⟩
        have hbc := hbb.then hb3
        rcases Bool.eq_false_or_eq_true (inB y.snd 0 9) with e2 | e2
        · have E2 := Lib.hid e2
          rw [show inB y.snd 0 9 = true from E2.out]
          clear e2
          go_wp2
          go_roundg (n - (k + 1))
          case measure => omega
          case rel => exact ⟨k + 1, by omega, rfl, by go_num, Lib.hid (by rw [HE.out, HS.out, E1.out, E2.out]; simp), hbc⟩
        · have E2 := Lib.hid e2
          rw [show inB y.snd 0 9 = false from E2.out]
          clear e2
          go_wp2
          go_ret
          exact Ret.bool (by rw [arePairs, HE.out, HS.out, E1.out, E2.out]; simp) hbc
      · have E1 := Lib.hid e1
        rw [show inB y.fst 0 9 = false from E1.out]
        clear e1
        go_wp2
        go_ret
        exact Ret.bool (by rw [arePairs, HE.out, HS.out, E1.out]; simp) hbb
    · obtain rfl : k = n := by omega
      have HT := Lib.hid (show pairsIn l = true by rw [HE.out, List.drop_of_length_le (by rw [← L.out]; exact Nat.le_refl _)]; rfl)
      have HM := Lib.hid (show arePairs l = (decide (k ≤ 8) && (List.range' 0 (10 - 0)).all (fun v => !reachB l (v : Int) (v : Int))) by
        unfold arePairs; rw [HT.out, List.range_eq_range', ← L.out]; simp)
      go_wp2_with fail
      refine (I_above _ l _ (h.bw rPairs_good hb) HT.out).mono ?_
      rintro e w2 ⟨rfl, hb2⟩
      have hbb := hb.then hb2
      obtain ⟨B, hB⟩ : ∃ B, B = warsh (baseB l) 10 := ⟨_, rfl⟩
      rw [← hB]
      have HB := Lib.hid (show ∀ v : Nat, reachB l (v : Int) (v : Int) = B v v from fun v => by rw [hB]; rfl)
      have hmi := mat_info
      rw [← matOf_size B] at hmi
      have hzz : Tryz.zeroCells228.size = (matOf B).size := by rw [matOf_size]; kernel_rfl
      have RR : Row (w2.alloc (.cells (matOf B) 228)) w2.heap.size 228 (matOf B) := heap_alloc_new _ _
      have hbW := hbb.alloc (.cells (matOf B) 228)
      have hg0 : (w2.alloc (.cells Tryz.zeroCells228 228)).heap[w2.heap.size]? = some (.cells Tryz.zeroCells228 228 (0, 0)) := heap_alloc_new _ _
      have hset : (w2.alloc (.cells Tryz.zeroCells228 228)).setRow w2.heap.size (matOf B) = w2.alloc (.cells (matOf B) 228) := World.setRow_alloc_new w2 _ _ _
      clear hB HE
      go_wp2_with (first | (refine wpList_store_row rfl 228 (.tmp 5) (.tmp 25) rfl w2.heap.size (matOf B) rfl rfl 228 Tryz.zeroCells228 hg0 hmi hzz (matOf_one _) ?_; rw [hset]))
      clear hmi hzz hg0 hset
      go_loopg [26] 10 (fun g i w' => ∃ v : Nat, v ≤ 10 ∧ g = 10 - v ∧ i = .int .i64 v ∧ Hid (arePairs l = (decide (k ≤ 8) && (List.range' v (10 - v)).all (fun v => !reachB l (v : Int) (v : Int)))) ∧ Row w' w2.heap.size 228 (matOf B) ∧ Bw w w')
      case atStart => exact ⟨0, by omega, rfl, rfl, HM, RR, hbW⟩
      case round =>
        clear HM RR hbW
        obtain ⟨v, hv, rfl, rfl, HE, R, hbw⟩ := hrel
        by_cases hlt1 : v < 10
        · have v1 : (v : Int) < 10 := by omega
          have hc := R.cell (v * 10 + v)
          rw [matOf_at hlt1 hlt1] at hc
          have HS := Lib.hid (all_range_drop (fun v => !reachB l (v : Int) (v : Int)) hlt1)
          have HBv := Lib.hid (HB.out v)
          rcases Bool.eq_false_or_eq_true (B v v) with e2 | e2
          · rw [e2] at hc
            have E2 := Lib.hid e2
            clear e2
            go_wp2
            go_ret
            exact Ret.bool (by rw [HE.out, HS.out, HBv.out, E2.out]; simp) hbw
          · rw [e2] at hc
            have E2 := Lib.hid e2
            clear e2
            go_wp2
            go_roundg (10 - (v + 1))
            case measure => omega
            case rel => exact ⟨v + 1, by omega, rfl, by go_num, Lib.hid (by rw [HE.out, HS.out, HBv.out, E2.out]; simp), R, hbw⟩
        · obtain rfl : v = 10 := by omega
          have HF := Lib.hid (show arePairs l = decide (k ≤ 8) by rw [HE.out]; simp)
          clear HE
          go_wp2
          go_ret
          exact Ret.bool (by rw [HF.out]; simp; omega) hbw
end Go.Proofs.YtpihighajaeabaaGreat

namespace Go.Proofs.YtpihighajaeabaaGreat
open Go.RowKit
set_option linter.unusedVariables false

/-! ### wishes -/
def ascFrom : Option Int → List Int → Bool
  | _, [] => true
  | none, v :: l => inB v 0 9 && ascFrom (some v) l
  | some p, v :: l => (inB v 0 9 && decide (p < v)) && ascFrom (some v) l
def prevI (l : List Int) (k : Nat) : Option Int := match k with | 0 => none | k + 1 => l[k]?
theorem prevI_succ {l : List Int} {k : Nat} {x : Int} (h : l[k]? = some x) : prevI l (k + 1) = some x := h
theorem asc_first {l : List Int} {x : Int} (h : l[0]? = some x) : ascFrom (prevI l 0) (l.drop 0) = (inB x 0 9 && ascFrom (prevI l 1) (l.drop 1)) := by
  rw [prevI_succ h, drop_cons h]; rfl
theorem asc_next {l : List Int} {k : Nat} {x y : Int} (hy : l[k]? = some y) (h : l[k + 1]? = some x) : ascFrom (prevI l (k + 1)) (l.drop (k + 1)) = ((inB x 0 9 && decide (y < x)) && ascFrom (prevI l (k + 1 + 1)) (l.drop (k + 1 + 1))) := by
  rw [prevI_succ hy, prevI_succ h, drop_cons h]; rfl
theorem ascFrom_mem : ∀ {l : List Int} {p : Option Int} {v : Int}, ascFrom p l = true → v ∈ l → 0 ≤ v ∧ v ≤ 9
  | u :: l, none, v, h, hv => by
    simp only [ascFrom, Bool.and_eq_true] at h
    rcases List.mem_cons.1 hv with rfl | hv
    · exact inB_iff.1 h.1
    · exact ascFrom_mem h.2 hv
  | u :: l, some p, v, h, hv => by
    simp only [ascFrom, Bool.and_eq_true] at h
    rcases List.mem_cons.1 hv with rfl | hv
    · exact inB_iff.1 h.1.1
    · exact ascFrom_mem h.2 hv
def isWish (w : GWish) : Bool :=
  inB w.field 0 2 && (inB w.kind 0 4 && (inB w.value 0 9 && (ascFrom none w.list && ((decide (w.kind = 2) || decide (w.value = 0)) && ((decide (w.kind = 3) == decide (0 < w.list.length)) &&
    (if w.kind = 4 then arePairs w.pairs else decide (w.pairs.length = 0)))))))
def rankV (w : GWish) (v : Int) : Int :=
  if w.kind = 0 then v else if w.kind = 1 then 9 - v else if w.kind = 2 then max (v - w.value) (w.value - v) else if w.list.contains v then 0 else 1
def cmpV (w : GWish) (a b : Int) : Int :=
  if w.kind = 4 then (if a = b then 0 else if reachB w.pairs a b then 1 else if reachB w.pairs b a then -1 else 2)
  else if rankV w a < rankV w b then 1 else if rankV w b < rankV w a then -1 else 0
def cmpItem (w : GWish) (x y : GItem) : Int := cmpV w (valAt x w.field) (valAt y w.field)
theorem cmpV_code (w : GWish) (a b : Int) : -1 ≤ cmpV w a b ∧ cmpV w a b ≤ 2 := by
  unfold cmpV; repeat' split
  all_goals omega

/-! ### expressions -/
def noWish : GWish := ⟨0, 0, 0, [], []⟩
def opnds (op : Int) : Int := if op = 0 then 0 else if op = 3 then 1 else 2
def nodeOk (n : GNode) (d : Int) : Bool := inB n.op 0 4 && (decide (opnds n.op ≤ d) && if n.op = 0 then isWish n.wish else decide (n.wish = noWish))
/-- the depth behind a list of nodes, or none -/
def depthOf : List GNode → Int → Option Int
  | [], d => some d
  | n :: l, d => if nodeOk n d then depthOf l (d - opnds n.op + 1) else none
def isExpr (e : List GNode) : Bool := decide (depthOf e 0 = some 1) && decide (e.length ≤ 9)
def comb (op a b : Int) : Int :=
  if op = 1 then (if a = 2 ∨ b = 2 ∨ a * b < 0 then 2 else if a = 0 then b else a) else if op = 2 then (if a = 0 then b else a) else if a = b then a else 2
def neg2 (a : Int) : Int := if a = 2 then 2 else -a
/-- one node on a stack whose top stands last -/
def stackStep (x y : GItem) (st : List Int) (n : GNode) : List Int :=
  if n.op = 0 then st ++ [cmpItem n.wish x y]
  else if n.op = 3 then st.take (st.length - 1) ++ [neg2 (st.getD (st.length - 1) 0)]
  else st.take (st.length - 2) ++ [comb n.op (st.getD (st.length - 2) 0) (st.getD (st.length - 1) 0)]
def cmpBy (e : List GNode) (x y : GItem) : Int := (e.foldl (stackStep x y) []).getD 0 0
theorem comb_code {op a b : Int} (ha : -1 ≤ a ∧ a ≤ 2) (hb : -1 ≤ b ∧ b ≤ 2) : -1 ≤ comb op a b ∧ comb op a b ≤ 2 := by
  unfold comb; repeat' split
  all_goals omega
theorem neg2_code {a : Int} (ha : -1 ≤ a ∧ a ≤ 2) : -1 ≤ neg2 a ∧ neg2 a ≤ 2 := by
  unfold neg2; split <;> omega
end Go.Proofs.YtpihighajaeabaaGreat
