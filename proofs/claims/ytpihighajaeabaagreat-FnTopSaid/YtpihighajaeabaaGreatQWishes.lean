/- Wishes and nodes: readings, copies, counts, comparisons. -/
import Derived.Test.YtpihighajaeabaaGreatQAbove
import Derived.Deep.WholeRow
import Derived.Test.YtpihighajaeabaaGreatQItems
namespace Go.Proofs.YtpihighajaeabaaGreat
open Go.RowKit
set_option linter.unusedVariables false
set_option maxRecDepth 100000 in
set_option maxHeartbeats 3200000 in
theorem I_ArePairs (w : World) (l : List GPair) (v : Value) (h : Rd rPairs w l [v]) : Calls Tryz.prog 237 #[v] w (Ret w (.bool (arePairs l))) := by
  obtain ⟨A, n, c, rfl, L0, Lc, Lm⟩ := rSl_open h
  unfold maxLen at Lm
  have L := Lib.hid L0
  clear L0
  go_enter Tryz.func237, Tryz.ntmps237
  go_wp2
  go_loopg [9] n (fun g i w' => ∃ k : Nat, k ≤ n ∧ g = n - k ∧ i = .int .i64 k ∧ Hid (pairsIn l = pairsIn (l.drop k)) ∧ Bw w w')
  case atStart => exact ⟨0, by omega, rfl, rfl, Lib.hid rfl, Bw.refl _⟩
  case round =>
    obtain ⟨k, hk, rfl, rfl, HE, hb⟩ := hrel
    by_cases hlt : k < n
    · obtain ⟨y, hy⟩ := get_of_lt (xs := l) (k := k) (by have := L.out; omega)
      obtain ⟨ba, oa, rfl, _, hc0, hc1⟩ := rPairs_at h hy
      have hx0 := hb.cell hc0
      have hx1 := hb.cell hc1
      have HS := Lib.hid (pairsIn_drop hy)
      have A1 : Bw wr (wr.alloc (.cells #[.int .i64 y.fst, .int .i64 y.snd] 214)) := (Bw.refl wr).alloc _
      clear hy h
      go_wp2_with fail
      refine (I_within _ _ _ _).mono ?_
      rintro e w2 ⟨rfl, hb2⟩
      have q1 : w2.cell? ⟨wr.heap.size, 1, none⟩ = some (.int .i64 y.snd) := hb2.cell (by go_simp)
      have hbb := hb.then (A1.then hb2)
      rcases Bool.eq_false_or_eq_true (inB y.fst 0 9) with e1 | e1
      · have E1 := Lib.hid e1
        rw [show inB y.fst 0 9 = true from E1.out]
        clear e1
        go_wp2_with fail
        refine (I_within _ _ _ _).mono ?_
        rintro e w3 ⟨rfl, hb3⟩
        have hbc := hbb.then hb3
        rcases Bool.eq_false_or_eq_true (inB y.snd 0 9) with e2 | e2
        · have E2 := Lib.hid e2
          rw [show inB y.snd 0 9 = true from E2.out]
          clear e2
          go_wp2
          go_roundg (n - (k + 1))
          case measure => omega
          case rel => exact ⟨k + 1, by omega, rfl, by go_num, Lib.hid (by rw [HE.out, HS.out, E1.out, E2.out]; simp), hbc⟩
        · have E2 := Lib.hid e2
          rw [show inB y.snd 0 9 = false from E2.out]
          clear e2
          go_wp2
          go_ret
          exact Ret.bool (by rw [arePairs, HE.out, HS.out, E1.out, E2.out]; simp) hbc
      · have E1 := Lib.hid e1
        rw [show inB y.fst 0 9 = false from E1.out]
        clear e1
        go_wp2
        go_ret
        exact Ret.bool (by rw [arePairs, HE.out, HS.out, E1.out]; simp) hbb
    · obtain rfl : k = n := by omega
      have HT := Lib.hid (show pairsIn l = true by rw [HE.out, List.drop_of_length_le (by rw [← L.out]; exact Nat.le_refl _)]; rfl)
      have HM := Lib.hid (show arePairs l = (decide (k ≤ 8) && (List.range' 0 (10 - 0)).all (fun v => !reachB l (v : Int) (v : Int))) by
        unfold arePairs; rw [HT.out, List.range_eq_range', ← L.out]; simp)
      go_wp2_with fail
      refine (I_above _ l _ (h.bw rPairs_good hb) HT.out).mono ?_
      rintro e w2 ⟨rfl, hb2⟩
      have hbb := hb.then hb2
      obtain ⟨B, hB⟩ : ∃ B, B = warsh (baseB l) 10 := ⟨_, rfl⟩
      rw [← hB]
      have HB := Lib.hid (show ∀ v : Nat, reachB l (v : Int) (v : Int) = B v v from fun v => by rw [hB]; rfl)
      have hmi := mat_info
      rw [← matOf_size B] at hmi
      have hzz : Tryz.zeroCells228.size = (matOf B).size := by rw [matOf_size]; kernel_rfl
      have RR : Row (w2.alloc (.cells (matOf B) 228)) w2.heap.size 228 (matOf B) := heap_alloc_new _ _
      have hbW := hbb.alloc (.cells (matOf B) 228)
      have hg0 : (w2.alloc (.cells Tryz.zeroCells228 228)).heap[w2.heap.size]? = some (.cells Tryz.zeroCells228 228 (0, 0)) := heap_alloc_new _ _
      have hset : (w2.alloc (.cells Tryz.zeroCells228 228)).setRow w2.heap.size (matOf B) = w2.alloc (.cells (matOf B) 228) := World.setRow_alloc_new w2 _ _ _
      clear hB HE
      go_wp2_with (first | (refine wpList_store_row rfl 228 (.tmp 5) (.tmp 25) rfl w2.heap.size (matOf B) rfl rfl 228 Tryz.zeroCells228 hg0 hmi hzz (matOf_one _) ?_; rw [hset]))
      clear hmi hzz hg0 hset
      go_loopg [26] 10 (fun g i w' => ∃ v : Nat, v ≤ 10 ∧ g = 10 - v ∧ i = .int .i64 v ∧ Hid (arePairs l = (decide (k ≤ 8) && (List.range' v (10 - v)).all (fun v => !reachB l (v : Int) (v : Int)))) ∧ Row w' w2.heap.size 228 (matOf B) ∧ Bw w w')
      case atStart => exact ⟨0, by omega, rfl, rfl, HM, RR, hbW⟩
      case round =>
        clear HM RR hbW
        obtain ⟨v, hv, rfl, rfl, HE, R, hbw⟩ := hrel
        by_cases hlt1 : v < 10
        · have v1 : (v : Int) < 10 := by omega
          have hc := R.cell (v * 10 + v)
          rw [matOf_at hlt1 hlt1] at hc
          have HS := Lib.hid (all_range_drop (fun v => !reachB l (v : Int) (v : Int)) hlt1)
          have HBv := Lib.hid (HB.out v)
          rcases Bool.eq_false_or_eq_true (B v v) with e2 | e2
          · rw [e2] at hc
            have E2 := Lib.hid e2
            clear e2
            go_wp2
            go_ret
            exact Ret.bool (by rw [HE.out, HS.out, HBv.out, E2.out]; simp) hbw
          · rw [e2] at hc
            have E2 := Lib.hid e2
            clear e2
            go_wp2
            go_roundg (10 - (v + 1))
            case measure => omega
            case rel => exact ⟨v + 1, by omega, rfl, by go_num, Lib.hid (by rw [HE.out, HS.out, HBv.out, E2.out]; simp), R, hbw⟩
        · obtain rfl : v = 10 := by omega
          have HF := Lib.hid (show arePairs l = decide (k ≤ 8) by rw [HE.out]; simp)
          clear HE
          go_wp2
          go_ret
          exact Ret.bool (by rw [HF.out]; simp; omega) hbw
end Go.Proofs.YtpihighajaeabaaGreat

namespace Go.Proofs.YtpihighajaeabaaGreat
open Go.RowKit
set_option linter.unusedVariables false
def totWish (x : GWish) : Nat := x.list.length + x.pairs.length
def totNode (x : GNode) : Nat := totWish x.wish
def totNodes (xs : List GNode) : Nat := xs.length + sumL totNode xs
section
variable {w : World} {S : Blocks} {A : Option Addr} {n c k : Nat}
theorem rNodes_at {xs : List GNode} (h : rNodes w S xs [.slice A n c]) {x : GNode} (hx : xs[k]? = some x) : ∃ b o Al cl Ap cp, A = some ⟨b, o, none⟩ ∧ S b ∧
    w.cell? ⟨b, o + k * 6, none⟩ = some (.int .i64 x.op) ∧ w.cell? ⟨b, o + k * 6 + 1, none⟩ = some (.int .i64 x.wish.kind) ∧ w.cell? ⟨b, o + k * 6 + 2, none⟩ = some (.int .i64 x.wish.field) ∧ w.cell? ⟨b, o + k * 6 + 3, none⟩ = some (.int .i64 x.wish.value) ∧
    w.cell? ⟨b, o + k * 6 + 4, none⟩ = some (.slice Al x.wish.list.length cl) ∧ w.cell? ⟨b, o + k * 6 + 5, none⟩ = some (.slice Ap x.wish.pairs.length cp) ∧ rInts w S x.wish.list [.slice Al x.wish.list.length cl] ∧ rPairs w S x.wish.pairs [.slice Ap x.wish.pairs.length cp] := by
  obtain ⟨b, o, us, e, hS, _, hc, us', rfl, v, u, rfl, hv, hu⟩ := rSl_at h hx
  obtain ⟨Al, cl, rfl, _⟩ := rSl_shape hv
  obtain ⟨Ap, cp, rfl, _⟩ := rSl_shape hu
  exact ⟨b, o, Al, cl, Ap, cp, e, hS, hc 0 _ rfl, hc 1 _ rfl, hc 2 _ rfl, hc 3 _ rfl, hc 4 _ rfl, hc 5 _ rfl, hv, hu⟩
end
theorem eqWish_dec (x y : GWish) : decide (x = y) = (decide (x.kind = y.kind) && (decide (x.field = y.field) && (decide (x.value = y.value) && (decide (x.list = y.list) && decide (x.pairs = y.pairs))))) := by rw [Bool.eq_iff_iff]; simp [GWish.eq_iff]
theorem eqNode_dec (x y : GNode) : decide (x = y) = (decide (x.op = y.op) && decide (x.wish = y.wish)) := by rw [Bool.eq_iff_iff]; simp [GNode.eq_iff]

set_option maxRecDepth 100000 in
set_option maxHeartbeats 1600000 in
theorem I_equalWish (w : World) (x y : GWish) (v1 v2 u1 u2 : Value) (h1 : Rd rInts w x.list [v1]) (h2 : Rd rInts w y.list [v2]) (k1 : Rd rPairs w x.pairs [u1]) (k2 : Rd rPairs w y.pairs [u2]) :
    Calls Tryz.prog 186 #[.agg #[.int .i64 x.kind, .int .i64 x.field, .int .i64 x.value, v1, u1], .agg #[.int .i64 y.kind, .int .i64 y.field, .int .i64 y.value, v2, u2]] w (Ret w (.bool (decide (x = y)))) := by
  have B0 : Bw w ((w.alloc (.cells #[.int .i64 x.kind, .int .i64 x.field, .int .i64 x.value, v1, u1] 109)).alloc (.cells #[.int .i64 y.kind, .int .i64 y.field, .int .i64 y.value, v2, u2] 109)) := ((Bw.refl w).alloc _).alloc _
  rw [eqWish_dec]
  by_cases e1 : x.kind = y.kind
  · by_cases e2 : x.field = y.field
    · by_cases e3 : x.value = y.value
      · have H := Lib.hid (show decide (x.kind = y.kind) = true ∧ decide (x.field = y.field) = true ∧ decide (x.value = y.value) = true by simp [e1, e2, e3])
        have a1 : (x.kind == y.kind) = true := by simpa using e1
        have b1 : (x.kind != y.kind) = false := by simpa using e1
        have a2 : (x.field == y.field) = true := by simpa using e2
        have b2 : (x.field != y.field) = false := by simpa using e2
        have a3 : (x.value == y.value) = true := by simpa using e3
        have b3 : (x.value != y.value) = false := by simpa using e3
        clear e1 e2 e3
        go_enter Tryz.func186, Tryz.ntmps186
        go_wp2_with fail
        refine (slices_Equal_ints _ x.list y.list _ _ (h1.bw rInts_good B0) (h2.bw rInts_good B0)).mono ?_
        rintro e w2 ⟨rfl, hb2⟩
        have hc := bw_cell hb2
        have B2 := B0.then hb2
        by_cases e4 : x.list = y.list
        · have H4 := Lib.hid (show decide (x.list = y.list) = true by simpa using e4)
          rw [show decide (x.list = y.list) = true from H4.out]
          clear e4
          go_wp2_with fail
          refine (slices_Equal_pairs _ x.pairs y.pairs _ _ (k1.bw rPairs_good B2) (k2.bw rPairs_good B2)).mono ?_
          rintro e w3 ⟨rfl, hb3⟩
          by_cases e5 : x.pairs = y.pairs
          · have H5 := Lib.hid (show decide (x.pairs = y.pairs) = true by simpa using e5)
            rw [show decide (x.pairs = y.pairs) = true from H5.out]
            clear e5
            go_wp2
            go_ret
            exact Ret.bool (by simp [H.out.1, H.out.2.1, H.out.2.2, H4.out, H5.out]) (B2.then hb3)
          · have H5 := Lib.hid (show decide (x.pairs = y.pairs) = false by simpa using e5)
            rw [show decide (x.pairs = y.pairs) = false from H5.out]
            clear e5
            go_wp2
            go_ret
            exact Ret.bool (by simp [H5.out]) (B2.then hb3)
        · have H4 := Lib.hid (show decide (x.list = y.list) = false by simpa using e4)
          rw [show decide (x.list = y.list) = false from H4.out]
          clear e4
          go_wp2
          go_ret
          exact Ret.bool (by simp [H4.out]) (B2)
      · have H := Lib.hid (show decide (x.value = y.value) = false by simpa using e3)
        have a1 : (x.kind == y.kind) = true := by simpa using e1
        have b1 : (x.kind != y.kind) = false := by simpa using e1
        have a2 : (x.field == y.field) = true := by simpa using e2
        have b2 : (x.field != y.field) = false := by simpa using e2
        have a3 : (x.value == y.value) = false := by simpa using e3
        have b3 : (x.value != y.value) = true := by simpa using e3
        clear e1 e2 e3
        go_enter Tryz.func186, Tryz.ntmps186
        go_wp2
        go_ret
        exact Ret.bool (by rw [H.out]; simp) (B0)
    · have H := Lib.hid (show decide (x.field = y.field) = false by simpa using e2)
      have a1 : (x.kind == y.kind) = true := by simpa using e1
      have b1 : (x.kind != y.kind) = false := by simpa using e1
      have a2 : (x.field == y.field) = false := by simpa using e2
      have b2 : (x.field != y.field) = true := by simpa using e2
      clear e1 e2
      go_enter Tryz.func186, Tryz.ntmps186
      go_wp2
      go_ret
      exact Ret.bool (by rw [H.out]; simp) (B0)
  · have H := Lib.hid (show decide (x.kind = y.kind) = false by simpa using e1)
    have a1 : (x.kind == y.kind) = false := by simpa using e1
    have b1 : (x.kind != y.kind) = true := by simpa using e1
    clear e1
    go_enter Tryz.func186, Tryz.ntmps186
    go_wp2
    go_ret
    exact Ret.bool (by rw [H.out]; simp) (B0)
set_option maxRecDepth 100000 in
set_option maxHeartbeats 1600000 in
theorem I_EqExpr1 (w : World) (x y : GNode) (v1 v2 u1 u2 : Value) (h1 : Rd rInts w x.wish.list [v1]) (h2 : Rd rInts w y.wish.list [v2]) (k1 : Rd rPairs w x.wish.pairs [u1]) (k2 : Rd rPairs w y.wish.pairs [u2]) :
    Calls Tryz.prog 272 #[.agg #[.int .i64 x.op, .int .i64 x.wish.kind, .int .i64 x.wish.field, .int .i64 x.wish.value, v1, u1], .agg #[.int .i64 y.op, .int .i64 y.wish.kind, .int .i64 y.wish.field, .int .i64 y.wish.value, v2, u2]] w (Ret w (.bool (decide (x = y)))) := by
  have B0 : Bw w ((w.alloc (.cells #[.int .i64 x.op, .int .i64 x.wish.kind, .int .i64 x.wish.field, .int .i64 x.wish.value, v1, u1] 111)).alloc (.cells #[.int .i64 y.op, .int .i64 y.wish.kind, .int .i64 y.wish.field, .int .i64 y.wish.value, v2, u2] 111)) := ((Bw.refl w).alloc _).alloc _
  rw [eqNode_dec]
  by_cases e1 : x.op = y.op
  · have H := Lib.hid (show decide (x.op = y.op) = true by simpa using e1)
    have a1 : (x.op == y.op) = true := by simpa using e1
    have b1 : (x.op != y.op) = false := by simpa using e1
    clear e1
    go_enter Tryz.func272, Tryz.ntmps272
    go_wp2_with fail
    refine (I_equalWish _ x.wish y.wish _ _ _ _ (h1.bw rInts_good B0) (h2.bw rInts_good B0) (k1.bw rPairs_good B0) (k2.bw rPairs_good B0)).mono ?_
    rintro e w2 ⟨rfl, hb2⟩
    rcases Bool.eq_false_or_eq_true (decide (x.wish = y.wish)) with e4 | e4
    · have H4 := Lib.hid e4
      rw [e4]
      clear e4
      go_wp2
      go_ret
      exact Ret.bool (by simp [H.out, H4.out]) (B0.then hb2)
    · have H4 := Lib.hid e4
      rw [e4]
      clear e4
      go_wp2
      go_ret
      exact Ret.bool (by simp [H4.out]) (B0.then hb2)
  · have H := Lib.hid (show decide (x.op = y.op) = false by simpa using e1)
    have a1 : (x.op == y.op) = false := by simpa using e1
    have b1 : (x.op != y.op) = true := by simpa using e1
    clear e1
    go_enter Tryz.func272, Tryz.ntmps272
    go_wp2
    go_ret
    exact Ret.bool (by rw [H.out]; simp) (B0)
end Go.Proofs.YtpihighajaeabaaGreat
