/- CostOf in both programs. -/
import Derived.Test.YtfffklkiikmieaaFacts
namespace Go.Proofs.Ytfffklkiikmieaa
open Go.RowKit
set_option linter.unusedVariables false

def dist (a b : Int) : Int := if a - b < b - a then b - a else a - b
def costL : List Int → List Int → Int
  | a :: p, b :: q => dist a b + costL p q
  | _, _ => 0
def costOf (x y : GItem) : Int := if isItem x && isItem y then costL x.vals y.vals else 0
theorem costL_step {xs ys : List Int} {k : Nat} {x y : Int} (hx : xs[k]? = some x) (hy : ys[k]? = some y) : costL (xs.drop k) (ys.drop k) = dist x y + costL (xs.drop (k + 1)) (ys.drop (k + 1)) := by
  rw [drop_cons hx, drop_cons hy, costL]
set_option maxHeartbeats 800000 in
theorem S_CostOf (w : World) (x y : GItem) (v1 v2 : Value) (h1 : Rd rInts w x.vals [v1]) (h2 : Rd rInts w y.vals [v2]) :
    Calls Try.prog 171 #[.agg #[.int .i64 x.id, v1], .agg #[.int .i64 y.id, v2]] w (Ret w (.int .i64 (costOf x y))) := by
  have B0 : Bw w ((w.alloc (.cells #[.int .i64 x.id, v1] 110)).alloc (.cells #[.int .i64 y.id, v2] 110)) := ((Bw.refl w).alloc _).alloc _
  obtain ⟨A1, n1, c1, rfl, a1, a2, a3⟩ := rSl_open h1
  obtain ⟨A2, n2, c2, rfl, b1, b2, b3⟩ := rSl_open h2
  have L1 := Lib.hid a1
  have L2 := Lib.hid b1
  clear a1 b1
  unfold maxLen at a3 b3
  go_enter Try.func171, Try.ntmps171
  go_wp2_with fail
  refine (S_IsItem _ x _ (h1.bw rInts_good B0)).mono ?_
  rintro e w2 ⟨rfl, hb2⟩
  have hc2 := bw_cell hb2
  by_cases i1 : isItem x = true
  · go_wp2_with fail
    refine (S_IsItem _ y _ (h2.bw rInts_good (B0.then hb2))).mono ?_
    rintro e w3 ⟨rfl, hb3⟩
    have B3 := hb2.then hb3
    have hc3 := bw_cell B3
    clear hc2
    by_cases i2 : isItem y = true
    · have hn1 : n1 = 3 := L1.out.trans (isItem_len i1)
      have hn2 : n2 = 3 := L2.out.trans (isItem_len i2)
      subst hn1 hn2
      have fin : costOf x y = costL x.vals y.vals := by simp [costOf, i1, i2]
      have FIN := Lib.hid fin
      clear fin
      go_wp2
      go_loopw [5, 6] (fun s i w' => ∃ (k : Nat) (n : Int), k ≤ 3 ∧ i = .int .i64 k ∧ s = .int .i64 n ∧ 0 ≤ n ∧ n ≤ 9 * k ∧ Hid (costOf x y = n + costL (x.vals.drop k) (y.vals.drop k)) ∧ Bw ((w.alloc (.cells #[.int .i64 x.id, .slice A1 3 c1] 110)).alloc (.cells #[.int .i64 y.id, .slice A2 3 c2] 110)) w') (fun s i _ => 3 - (intOf i).toNat)
      case atStart => exact ⟨0, 0, by omega, rfl, rfl, by omega, by omega, by show _ = _; rw [FIN.out]; simp, B3⟩
      case round =>
        obtain ⟨k, n, hk, rfl, rfl, g1, g2, HE, hb⟩ := hrel
        have hc := bw_cell hb
        clear hc3
        by_cases hlt : k < 3
        · obtain ⟨p, hp⟩ := get_of_lt (xs := x.vals) (k := k) (by rw [← L1.out]; exact hlt)
          obtain ⟨q, hq⟩ := get_of_lt (xs := y.vals) (k := k) (by rw [← L2.out]; exact hlt)
          obtain ⟨ba, oa, rfl, _, hcx⟩ := rInts_at (h1.bw rInts_good (B0.then hb)) hp
          obtain ⟨bb, ob, rfl, _, hcy⟩ := rInts_at (h2.bw rInts_good (B0.then hb)) hq
          have ⟨p1, p2⟩ := isItem_val i1 (List.mem_of_getElem? hp)
          have ⟨q1, q2⟩ := isItem_val i2 (List.mem_of_getElem? hq)
          have HS := Lib.hid (costL_step hp hq)
          clear hp hq h1 h2
          go_wp2
          go_quiet (fail)
          go_wp2
          have hd : 0 ≤ dist p q ∧ dist p q ≤ 9 := by unfold dist; split <;> omega
          go_roundw
          case rel => exact ⟨k + 1, n + dist p q, by omega, by go_num, rfl, by omega, by omega, by show _ = _; rw [HE.out, HS.out]; omega, hb.drewN _⟩
          case measure => simp [intOf]; omega
        · obtain rfl : k = 3 := by omega
          go_wp2
          go_ret
          exact Ret.int (by rw [HE.out, List.drop_of_length_le (by rw [← L1.out]; omega)]; simp [costL]) (B0.then hb)
    · have i2' : isItem y = false := by simpa using i2
      clear i2
      go_wp2
      go_ret
      exact Ret.int (by simp [costOf, i2']) (B0.then B3)
  · have i1' : isItem x = false := by simpa using i1
    clear i1
    go_wp2
    go_ret
    exact Ret.int (by simp [costOf, i1']) (B0.then hb2)
set_option maxHeartbeats 800000 in
theorem I_CostOf (w : World) (x y : GItem) (v1 v2 : Value) (h1 : Rd rInts w x.vals [v1]) (h2 : Rd rInts w y.vals [v2]) :
    Calls Try.prog 174 #[.agg #[.int .i64 x.id, v1], .agg #[.int .i64 y.id, v2]] w (Ret w (.int .i64 (costOf x y))) := by
  have B0 : Bw w ((w.alloc (.cells #[.int .i64 x.id, v1] 110)).alloc (.cells #[.int .i64 y.id, v2] 110)) := ((Bw.refl w).alloc _).alloc _
  obtain ⟨A1, n1, c1, rfl, a1, a2, a3⟩ := rSl_open h1
  obtain ⟨A2, n2, c2, rfl, b1, b2, b3⟩ := rSl_open h2
  have L1 := Lib.hid a1
  have L2 := Lib.hid b1
  clear a1 b1
  unfold maxLen at a3 b3
  go_enter Try.func174, Try.ntmps174
  go_wp2_with fail
  refine (I_IsItem _ x _ (h1.bw rInts_good B0)).mono ?_
  rintro e w2 ⟨rfl, hb2⟩
  have hc2 := bw_cell hb2
  by_cases i1 : isItem x = true
  · go_wp2_with fail
    refine (I_IsItem _ y _ (h2.bw rInts_good (B0.then hb2))).mono ?_
    rintro e w3 ⟨rfl, hb3⟩
    have B3 := hb2.then hb3
    have hc3 := bw_cell B3
    clear hc2
    by_cases i2 : isItem y = true
    · have hn1 : n1 = 3 := L1.out.trans (isItem_len i1)
      have hn2 : n2 = 3 := L2.out.trans (isItem_len i2)
      subst hn1 hn2
      have fin : costOf x y = costL x.vals y.vals := by simp [costOf, i1, i2]
      have FIN := Lib.hid fin
      clear fin
      go_wp2
      go_loopw [5, 19] (fun s i w' => ∃ (k : Nat) (n : Int), k ≤ 3 ∧ i = .int .i64 k ∧ s = .int .i64 n ∧ 0 ≤ n ∧ n ≤ 9 * k ∧ Hid (costOf x y = n + costL (x.vals.drop k) (y.vals.drop k)) ∧ Bw ((w.alloc (.cells #[.int .i64 x.id, .slice A1 3 c1] 110)).alloc (.cells #[.int .i64 y.id, .slice A2 3 c2] 110)) w') (fun s i _ => 3 - (intOf i).toNat)
      case atStart => exact ⟨0, 0, by omega, rfl, rfl, by omega, by omega, by show _ = _; rw [FIN.out]; simp, B3⟩
      case round =>
        obtain ⟨k, n, hk, rfl, rfl, g1, g2, HE, hb⟩ := hrel
        have hc := bw_cell hb
        clear hc3
        by_cases hlt : k < 3
        · obtain ⟨p, hp⟩ := get_of_lt (xs := x.vals) (k := k) (by rw [← L1.out]; exact hlt)
          obtain ⟨q, hq⟩ := get_of_lt (xs := y.vals) (k := k) (by rw [← L2.out]; exact hlt)
          obtain ⟨ba, oa, rfl, _, hcx⟩ := rInts_at (h1.bw rInts_good (B0.then hb)) hp
          obtain ⟨bb, ob, rfl, _, hcy⟩ := rInts_at (h2.bw rInts_good (B0.then hb)) hq
          have ⟨p1, p2⟩ := isItem_val i1 (List.mem_of_getElem? hp)
          have ⟨q1, q2⟩ := isItem_val i2 (List.mem_of_getElem? hq)
          have HS := Lib.hid (costL_step hp hq)
          clear hp hq h1 h2
          go_wp2
          go_quiet (fail)
          go_wp2
          have hd : 0 ≤ dist p q ∧ dist p q ≤ 9 := by unfold dist; split <;> omega
          go_roundw
          case rel => exact ⟨k + 1, n + dist p q, by omega, by go_num, rfl, by omega, by omega, by show _ = _; rw [HE.out, HS.out]; omega, hb.drewN _⟩
          case measure => simp [intOf]; omega
        · obtain rfl : k = 3 := by omega
          go_wp2
          go_ret
          exact Ret.int (by rw [HE.out, List.drop_of_length_le (by rw [← L1.out]; omega)]; simp [costL]) (B0.then hb)
    · have i2' : isItem y = false := by simpa using i2
      clear i2
      go_wp2
      go_ret
      exact Ret.int (by simp [costOf, i2']) (B0.then B3)
  · have i1' : isItem x = false := by simpa using i1
    clear i1
    go_wp2
    go_ret
    exact Ret.int (by simp [costOf, i1']) (B0.then hb2)
end Go.Proofs.Ytfffklkiikmieaa
