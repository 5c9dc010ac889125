/- Counts and comparisons of lists of wishes, nodes and items; standings. -/
import Derived.Test.YtfffklkiikmieaaQWishes
namespace Go.Proofs.Ytfffklkiikmieaa
open Go.RowKit
set_option linter.unusedVariables false
set_option maxHeartbeats 800000 in
theorem L_szWish (w : World) (x : GWish) (v u : Value) (h : Rd rInts w x.list [v]) (h' : Rd rPairs w x.pairs [u]) (left : Int) (h0 : 0 ≤ left) (h1 : left ≤ 1048576) :
    Calls Try.prog 160 #[.agg #[.int .i64 x.kind, .int .i64 x.field, .int .i64 x.value, v, u], .int .i64 left] w (Ret w (.int .i64 (szM left (totWish x)))) := by
  have B0 : Bw w (w.alloc (.cells #[.int .i64 x.kind, .int .i64 x.field, .int .i64 x.value, v, u] 106)) := (Bw.refl w).alloc _
  go_enter Try.func160, Try.ntmps160
  go_wp2_with fail
  refine (L_szIntS _ x.list _ (h.bw rInts_good B0) left h0 h1).mono ?_
  rintro e w2 ⟨rfl, hb2⟩
  have hc := bw_cell hb2
  have B2 := B0.then hb2
  by_cases hs : left < x.list.length
  · rw [show szM left x.list.length = -1 from if_pos hs]
    go_wp2
    go_ret
    exact Ret.int ((szM_neg _ _ _ hs).symm) (B2)
  · have HS := Lib.hid (szM_step left x.list.length x.pairs.length hs)
    rw [show szM left x.list.length = left - x.list.length from if_neg hs]
    go_wp2_with fail
    refine (L_szPairS _ x.pairs _ (h'.bw rPairs_good B2) (left - x.list.length) (by omega) (by omega)).mono ?_
    rintro e w3 ⟨rfl, hb3⟩
    by_cases ht : left - x.list.length < x.pairs.length
    · have HT := Lib.hid (show szM (left - x.list.length) x.pairs.length = -1 from if_pos ht)
      rw [HT.out]
      go_wp2
      go_ret
      exact Ret.int (by rw [totWish, ← HS.out, HT.out]) (B2.then hb3)
    · have HT := Lib.hid (show szM (left - x.list.length) x.pairs.length = left - x.list.length - x.pairs.length from if_neg ht)
      rw [HT.out]
      go_wp2
      go_ret
      exact Ret.int (by rw [totWish, ← HS.out, HT.out]) (B2.then hb3)
set_option maxHeartbeats 800000 in
theorem L_szNode (w : World) (x : GNode) (v u : Value) (h : Rd rInts w x.wish.list [v]) (h' : Rd rPairs w x.wish.pairs [u]) (left : Int) (h0 : 0 ≤ left) (h1 : left ≤ 1048576) :
    Calls Try.prog 83 #[.agg #[.int .i64 x.op, .int .i64 x.wish.kind, .int .i64 x.wish.field, .int .i64 x.wish.value, v, u], .int .i64 left] w (Ret w (.int .i64 (szM left (totNode x)))) := by
  have B0 : Bw w (w.alloc (.cells #[.int .i64 x.op, .int .i64 x.wish.kind, .int .i64 x.wish.field, .int .i64 x.wish.value, v, u] 108)) := (Bw.refl w).alloc _
  go_enter Try.func83, Try.ntmps83
  go_wp2_with fail
  refine (L_szWish _ x.wish _ _ (h.bw rInts_good B0) (h'.bw rPairs_good B0) left h0 h1).mono ?_
  rintro e w2 ⟨rfl, hb2⟩
  have B2 := B0.then hb2
  by_cases hs : left < totWish x.wish
  · have HT := Lib.hid (show szM left (totWish x.wish) = -1 from if_pos hs)
    rw [HT.out]
    go_wp2
    go_ret
    exact Ret.int (by rw [totNode, HT.out]) (B2)
  · have HT := Lib.hid (show szM left (totWish x.wish) = left - totWish x.wish from if_neg hs)
    rw [HT.out]
    go_wp2
    go_ret
    exact Ret.int (by rw [totNode, HT.out]) (B2)
set_option maxHeartbeats 1600000 in
theorem L_szNodeS0 (w : World) (xs : List GNode) (v : Value) (h : Rd rNodes w xs [v]) (left : Int) (h0 : 0 ≤ left) (h1 : left ≤ 1048576) :
    Calls Try.prog 12 #[v, .int .i64 left] w (Ret w (.int .i64 (szM left (xs.length + sumL totNode xs)))) := by
  obtain ⟨A, n, c, rfl, a1, a2, a3⟩ := rSl_open h
  have L1 := Lib.hid a1
  rw [← a1]
  clear a1
  unfold maxLen at a3
  by_cases hs : left < n
  · go_enter Try.func12, Try.ntmps12
    go_wp2
    go_ret
    exact Ret.int (szM_neg _ _ _ hs).symm (Bw.refl _)
  · have FIN := Lib.hid (szM_step left n (sumL totNode xs) hs)
    go_enter Try.func12, Try.ntmps12
    go_wp2
    go_loopw [1, 5] (fun l i w' => ∃ (k : Nat) (m : Int), k ≤ n ∧ i = .int .i64 k ∧ l = .int .i64 m ∧ 0 ≤ m ∧ m ≤ 1048576 ∧ Hid (szM left (n + sumL totNode xs) = szM m (sumL totNode (xs.drop k))) ∧ Bw w w') (fun l i _ => n - (intOf i).toNat)
    case atStart => exact ⟨0, left - n, by omega, rfl, rfl, by omega, by omega, FIN.out.symm, Bw.refl _⟩
    case round =>
      obtain ⟨k, m, hk, rfl, rfl, g1, g2, HE, hb⟩ := hrel
      by_cases hlt : k < n
      · obtain ⟨x, hx⟩ := get_of_lt (xs := xs) (k := k) (by rw [← L1.out]; exact hlt)
        obtain ⟨ba, oa, Al, cl, Ap, cp, rfl, _, c0, c1, c2, c3, c4, c5, hi, hj⟩ := rNodes_at (h.bw rNodes_good hb) hx
        have HS := Lib.hid (sumL_drop totNode hx)
        clear hx h
        go_wp2_with fail
        refine (L_szNode _ x _ _ hi hj m g1 g2).mono ?_
        rintro e w2 ⟨rfl, hb2⟩
        have hbb := hb.then hb2
        by_cases hm : m < (totNode x : Nat)
        · rw [show szM m (totNode x) = -1 from if_pos hm]
          go_wp2
          go_ret
          exact Ret.int (by rw [HE.out, HS.out, szM_neg _ _ _ hm]) hbb
        · rw [show szM m (totNode x) = m - totNode x from if_neg hm]
          go_wp2
          go_roundw
          case rel => exact ⟨k + 1, m - totNode x, by omega, by go_num, rfl, by omega, by omega, by show _ = _; rw [HE.out, HS.out, szM_step _ _ _ (by omega)], hbb⟩
          case measure => simp [intOf]; omega
      · go_wp2
        go_ret
        exact Ret.int (by rw [HE.out, List.drop_of_length_le (by rw [← L1.out]; omega)]; rw [sumL, szM_zero _ g1]) hb
theorem L_szNodeS (w : World) (xs : List GNode) (v : Value) (h : Rd rNodes w xs [v]) (left : Int) (h0 : 0 ≤ left) (h1 : left ≤ 1048576) :
    Calls Try.prog 12 #[v, .int .i64 left] w (Ret w (.int .i64 (szM left (totNodes xs)))) := L_szNodeS0 w xs v h left h0 h1
set_option maxHeartbeats 1600000 in
theorem L_szNodeSS0 (w : World) (xs : List (List GNode)) (v : Value) (h : Rd rNodess w xs [v]) (left : Int) (h0 : 0 ≤ left) (h1 : left ≤ 1048576) :
    Calls Try.prog 36 #[v, .int .i64 left] w (Ret w (.int .i64 (szM left (xs.length + sumL totNodes xs)))) := by
  obtain ⟨A, n, c, rfl, a1, a2, a3⟩ := rSl_open h
  have L1 := Lib.hid a1
  rw [← a1]
  clear a1
  unfold maxLen at a3
  by_cases hs : left < n
  · go_enter Try.func36, Try.ntmps36
    go_wp2
    go_ret
    exact Ret.int (szM_neg _ _ _ hs).symm (Bw.refl _)
  · have FIN := Lib.hid (szM_step left n (sumL totNodes xs) hs)
    go_enter Try.func36, Try.ntmps36
    go_wp2
    go_loopw [1, 5] (fun l i w' => ∃ (k : Nat) (m : Int), k ≤ n ∧ i = .int .i64 k ∧ l = .int .i64 m ∧ 0 ≤ m ∧ m ≤ 1048576 ∧ Hid (szM left (n + sumL totNodes xs) = szM m (sumL totNodes (xs.drop k))) ∧ Bw w w') (fun l i _ => n - (intOf i).toNat)
    case atStart => exact ⟨0, left - n, by omega, rfl, rfl, by omega, by omega, FIN.out.symm, Bw.refl _⟩
    case round =>
      obtain ⟨k, m, hk, rfl, rfl, g1, g2, HE, hb⟩ := hrel
      by_cases hlt : k < n
      · obtain ⟨x, hx⟩ := get_of_lt (xs := xs) (k := k) (by rw [← L1.out]; exact hlt)
        obtain ⟨ba, oa, A', c', rfl, _, c0, hi⟩ := rNodess_at (h.bw rNodess_good hb) hx
        have HS := Lib.hid (sumL_drop totNodes hx)
        clear hx h
        go_wp2_with fail
        refine (L_szNodeS _ x _ hi m g1 g2).mono ?_
        rintro e w2 ⟨rfl, hb2⟩
        have hbb := hb.then hb2
        by_cases hm : m < (totNodes x : Nat)
        · rw [show szM m (totNodes x) = -1 from if_pos hm]
          go_wp2
          go_ret
          exact Ret.int (by rw [HE.out, HS.out, szM_neg _ _ _ hm]) hbb
        · rw [show szM m (totNodes x) = m - totNodes x from if_neg hm]
          go_wp2
          go_roundw
          case rel => exact ⟨k + 1, m - totNodes x, by omega, by go_num, rfl, by omega, by omega, by show _ = _; rw [HE.out, HS.out, szM_step _ _ _ (by omega)], hbb⟩
          case measure => simp [intOf]; omega
      · go_wp2
        go_ret
        exact Ret.int (by rw [HE.out, List.drop_of_length_le (by rw [← L1.out]; omega)]; rw [sumL, szM_zero _ g1]) hb
theorem L_szNodeSS (w : World) (xs : List (List GNode)) (v : Value) (h : Rd rNodess w xs [v]) (left : Int) (h0 : 0 ≤ left) (h1 : left ≤ 1048576) :
    Calls Try.prog 36 #[v, .int .i64 left] w (Ret w (.int .i64 (szM left (totNodess xs)))) := L_szNodeSS0 w xs v h left h0 h1
set_option maxRecDepth 100000 in
set_option maxHeartbeats 1600000 in
theorem L_eqNodeS (w : World) (xs ys : List GNode) (v1 v2 : Value) (h1 : Rd rNodes w xs [v1]) (h2 : Rd rNodes w ys [v2]) :
    Calls Try.prog 19 #[v1, v2] w (Ret w (.bool (decide (xs = ys)))) := by
  obtain ⟨A1, n1, c1, rfl, a1, a2, a3⟩ := rSl_open h1
  obtain ⟨A2, n2, c2, rfl, b1, b2, b3⟩ := rSl_open h2
  unfold maxLen at a3 b3
  have L1 := Lib.hid a1
  have L2 := Lib.hid b1
  clear a1 b1
  by_cases hl : n1 = n2
  · subst hl
    go_enter Try.func19, Try.ntmps19
    go_wp2
    go_loopw [5] (fun i w' => ∃ k : Nat, k ≤ n1 ∧ i = .int .i64 k ∧ xs.take k = ys.take k ∧ Bw w w') (fun i _ => n1 - (intOf i).toNat)
    case atStart => exact ⟨0, by omega, rfl, by simp, Bw.refl _⟩
    case round =>
      obtain ⟨k, hk, rfl, he, hb⟩ := hrel
      have HE := Lib.hid he
      clear he
      by_cases hlt : k < n1
      · obtain ⟨x, hx⟩ := get_of_lt (xs := xs) (k := k) (by rw [← L1.out]; exact hlt)
        obtain ⟨y, hy⟩ := get_of_lt (xs := ys) (k := k) (by rw [← L2.out]; exact hlt)
        obtain ⟨ba, oa, Alx, clx, Apx, cpx, rfl, _, p0, p1, p2, p3, p4, p5, hix, hjx⟩ := rNodes_at (h1.bw rNodes_good hb) hx
        obtain ⟨bb, ob, Aly, cly, Apy, cpy, rfl, _, q0, q1, q2, q3, q4, q5, hiy, hjy⟩ := rNodes_at (h2.bw rNodes_good hb) hy
        have HX := Lib.hid hx
        have HY := Lib.hid hy
        clear hx hy h1 h2
        have D := (Bw.refl wr).drew
        go_wp2_with fail
        go_still_tail 8, (by kernel_rfl)
        change wpList _ _ _ _ _ wr.drew
        go_wp2_with fail
        refine (L_eqNode _ x y _ _ _ _ (Rd.bw rInts_good hix D) (Rd.bw rInts_good hiy D) (Rd.bw rPairs_good hjx D) (Rd.bw rPairs_good hjy D)).mono ?_
        rintro e w2 ⟨rfl, hb2⟩
        have hbb : Bw w w2 := hb.drew.then hb2
        by_cases hxy : x = y
        · have HD : decide (x = y) = true := by simpa using hxy
          go_wp2
          go_roundw
          case rel => exact ⟨k + 1, by omega, by go_num, take_step HE.out HX.out HY.out hxy, hbb⟩
          case measure => simp [intOf]; omega
        · have HD : decide (x = y) = false := by simpa using hxy
          go_wp2
          go_ret
          exact Ret.bool (by simpa using ne_of_at HX.out HY.out hxy) hbb
      · go_wp2
        go_ret
        exact Ret.bool (by simpa using eq_of_take HE.out (by rw [← L1.out]; omega) (by rw [← L2.out]; omega)) hb
  · go_enter Try.func19, Try.ntmps19
    go_wp2
    go_ret
    exact Ret.bool (by simp; intro e; exact hl (by rw [L1.out, L2.out, e])) (Bw.refl _)
set_option maxRecDepth 100000 in
set_option maxHeartbeats 1600000 in
theorem L_eqNodeSS (w : World) (xs ys : List (List GNode)) (v1 v2 : Value) (h1 : Rd rNodess w xs [v1]) (h2 : Rd rNodess w ys [v2]) :
    Calls Try.prog 40 #[v1, v2] w (Ret w (.bool (decide (xs = ys)))) := by
  obtain ⟨A1, n1, c1, rfl, a1, a2, a3⟩ := rSl_open h1
  obtain ⟨A2, n2, c2, rfl, b1, b2, b3⟩ := rSl_open h2
  unfold maxLen at a3 b3
  have L1 := Lib.hid a1
  have L2 := Lib.hid b1
  clear a1 b1
  by_cases hl : n1 = n2
  · subst hl
    go_enter Try.func40, Try.ntmps40
    go_wp2
    go_loopw [5] (fun i w' => ∃ k : Nat, k ≤ n1 ∧ i = .int .i64 k ∧ xs.take k = ys.take k ∧ Bw w w') (fun i _ => n1 - (intOf i).toNat)
    case atStart => exact ⟨0, by omega, rfl, by simp, Bw.refl _⟩
    case round =>
      obtain ⟨k, hk, rfl, he, hb⟩ := hrel
      have HE := Lib.hid he
      clear he
      by_cases hlt : k < n1
      · obtain ⟨x, hx⟩ := get_of_lt (xs := xs) (k := k) (by rw [← L1.out]; exact hlt)
        obtain ⟨y, hy⟩ := get_of_lt (xs := ys) (k := k) (by rw [← L2.out]; exact hlt)
        obtain ⟨ba, oa, Ax, cx, rfl, _, p0, hix⟩ := rNodess_at (h1.bw rNodess_good hb) hx
        obtain ⟨bb, ob, Ay, cy, rfl, _, q0, hiy⟩ := rNodess_at (h2.bw rNodess_good hb) hy
        have HX := Lib.hid hx
        have HY := Lib.hid hy
        clear hx hy h1 h2
        have D := (Bw.refl wr).drew
        go_wp2_with fail
        go_still_tail 8, (by kernel_rfl)
        change wpList _ _ _ _ _ wr.drew
        go_wp2_with fail
        refine (L_eqNodeS _ x y _ _ (Rd.bw rNodes_good hix D) (Rd.bw rNodes_good hiy D)).mono ?_
        rintro e w2 ⟨rfl, hb2⟩
        have hbb : Bw w w2 := hb.drew.then hb2
        by_cases hxy : x = y
        · have HD : decide (x = y) = true := by simpa using hxy
          go_wp2
          go_roundw
          case rel => exact ⟨k + 1, by omega, by go_num, take_step HE.out HX.out HY.out hxy, hbb⟩
          case measure => simp [intOf]; omega
        · have HD : decide (x = y) = false := by simpa using hxy
          go_wp2
          go_ret
          exact Ret.bool (by simpa using ne_of_at HX.out HY.out hxy) hbb
      · go_wp2
        go_ret
        exact Ret.bool (by simpa using eq_of_take HE.out (by rw [← L1.out]; omega) (by rw [← L2.out]; omega)) hb
  · go_enter Try.func40, Try.ntmps40
    go_wp2
    go_ret
    exact Ret.bool (by simp; intro e; exact hl (by rw [L1.out, L2.out, e])) (Bw.refl _)
end Go.Proofs.Ytfffklkiikmieaa
