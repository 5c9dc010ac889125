/- Comparisons of lists of items and of expressions, and of standings, in both programs. -/
import Derived.Test.YtfffklkiikmieaaGreatQWishes2
namespace Go.Proofs.YtfffklkiikmieaaGreat
open Go.RowKit
set_option linter.unusedVariables false
set_option maxRecDepth 100000 in
set_option maxHeartbeats 3200000 in
theorem slices_EqualFunc_nodes (w : World) (xs ys : List GNode) (v1 v2 : Value) (h1 : Rd rNodes w xs [v1]) (h2 : Rd rNodes w ys [v2]) :
    Calls Tryz.prog 127 #[v1, v2, .func (.func 128) #[] #[]] w (Ret w (.bool (decide (xs = ys)))) := by
  obtain ⟨A1, n1, c1, rfl, a1, a2, a3⟩ := rSl_open h1
  obtain ⟨A2, n2, c2, rfl, b1, b2, b3⟩ := rSl_open h2
  unfold maxLen at a3 b3
  have L1 := Lib.hid a1
  have L2 := Lib.hid b1
  clear a1 b1
  by_cases hl : n1 = n2
  · subst hl
    go_enter Tryz.func127, Tryz.ntmps127
    go_wp2
    go_loopw [17] (fun i w' => ∃ k : Nat, k ≤ n1 ∧ i = .int .i64 k ∧ xs.take k = ys.take k ∧ Bw w w') (fun i _ => n1 - (intOf i).toNat)
    case atStart => exact ⟨0, by omega, rfl, by simp, Bw.refl _⟩
    case round =>
      obtain ⟨k, hk, rfl, he, hb⟩ := hrel
      have HE := Lib.hid he
      clear he
      by_cases hlt : k < n1
      · obtain ⟨x, hx⟩ := get_of_lt (xs := xs) (k := k) (by rw [← L1.out]; exact hlt)
        obtain ⟨y, hy⟩ := get_of_lt (xs := ys) (k := k) (by rw [← L2.out]; exact hlt)
        obtain ⟨ba, oa, Alx, clx, Apx, cpx, rfl, _, p0, p1, p2, p3, p4, p5, hix, hjx⟩ := rNodes_at (h1.bw rNodes_good hb) hx
        obtain ⟨bb, ob, Aly, cly, Apy, cpy, rfl, _, q0, q1, q2, q3, q4, q5, hiy, hjy⟩ := rNodes_at (h2.bw rNodes_good hb) hy
        have HX := Lib.hid hx
        have HY := Lib.hid hy
        have D : Bw wr ((wr.alloc (.cells #[.int .i64 x.op, .int .i64 x.wish.kind, .int .i64 x.wish.field, .int .i64 x.wish.value, .slice Alx x.wish.list.length clx, .slice Apx x.wish.pairs.length cpx] 102)).alloc (.cells #[.int .i64 y.op, .int .i64 y.wish.kind, .int .i64 y.wish.field, .int .i64 y.wish.value, .slice Aly y.wish.list.length cly, .slice Apy y.wish.pairs.length cpy] 102)) := ((Bw.refl wr).alloc _).alloc _
        have hbx := World.block_lt_of_cell? _ _ p0
        have hby := World.block_lt_of_cell? _ _ q0
        clear hx hy h1 h2
        go_wp2_with fail
        refine (I_EqExpr1 _ x y _ _ _ _ (Rd.bw rInts_good hix D) (Rd.bw rInts_good hiy D) (Rd.bw rPairs_good hjx D) (Rd.bw rPairs_good hjy D)).mono ?_
        rintro e w2 ⟨rfl, hb2⟩
        have hbb : Bw w w2 := hb.then (D.then hb2)
        by_cases hxy : x = y
        · have HD : decide (x = y) = true := by simpa using hxy
          have HXY := Lib.hid hxy
          clear hxy
          go_wp2
          go_roundw
          case rel => exact ⟨k + 1, by omega, by go_num, take_step HE.out HX.out HY.out HXY.out, hbb⟩
          case measure => simp [intOf]; omega
        · have HD : decide (x = y) = false := by simpa using hxy
          go_wp2
          go_ret
          exact Ret.bool (by simpa using ne_of_at HX.out HY.out hxy) hbb
      · go_wp2
        go_ret
        exact Ret.bool (by simpa using eq_of_take HE.out (by rw [← L1.out]; omega) (by rw [← L2.out]; omega)) hb
  · go_enter Tryz.func127, Tryz.ntmps127
    go_wp2
    go_ret
    exact Ret.bool (by simp; intro e; exact hl (by rw [L1.out, L2.out, e])) (Bw.refl _)
set_option maxHeartbeats 400000 in
theorem I_EqualExpressions (w : World) (xs ys : List GNode) (v1 v2 : Value) (h1 : Rd rNodes w xs [v1]) (h2 : Rd rNodes w ys [v2]) :
    Calls Tryz.prog 90 #[v1, v2] w (Ret w (.bool (decide (xs = ys)))) := by
  go_enter Tryz.func90, Tryz.ntmps90
  go_wp2_with fail
  refine (slices_EqualFunc_nodes _ xs ys _ _ h1 h2).mono ?_
  rintro e w2 ⟨rfl, hb2⟩
  go_wp2
  go_ret
  exact Ret.bool (rfl) (hb2)
set_option maxRecDepth 100000 in
set_option maxHeartbeats 3200000 in
theorem S_EqualExpressions (w : World) (xs ys : List GNode) (v1 v2 : Value) (h1 : Rd rNodes w xs [v1]) (h2 : Rd rNodes w ys [v2]) :
    Calls Tryz.prog 121 #[v1, v2] w (Ret w (.bool (decide (xs = ys)))) := by
  obtain ⟨A1, n1, c1, rfl, a1, a2, a3⟩ := rSl_open h1
  obtain ⟨A2, n2, c2, rfl, b1, b2, b3⟩ := rSl_open h2
  unfold maxLen at a3 b3
  have L1 := Lib.hid a1
  have L2 := Lib.hid b1
  clear a1 b1
  by_cases hl : n1 = n2
  · subst hl
    go_enter Tryz.func121, Tryz.ntmps121
    go_wp2
    go_loopw [5] (fun i w' => ∃ k : Nat, k ≤ n1 ∧ i = .int .i64 k ∧ xs.take k = ys.take k ∧ Bw w w') (fun i _ => n1 - (intOf i).toNat)
    case atStart => exact ⟨0, by omega, rfl, by simp, Bw.refl _⟩
    case round =>
      obtain ⟨k, hk, rfl, he, hb⟩ := hrel
      have HE := Lib.hid he
      clear he
      by_cases hlt : k < n1
      · obtain ⟨x, hx⟩ := get_of_lt (xs := xs) (k := k) (by rw [← L1.out]; exact hlt)
        obtain ⟨y, hy⟩ := get_of_lt (xs := ys) (k := k) (by rw [← L2.out]; exact hlt)
        obtain ⟨ba, oa, Alx, clx, Apx, cpx, rfl, _, p0, p1, p2, p3, p4, p5, hix, hjx⟩ := rNodes_at (h1.bw rNodes_good hb) hx
        obtain ⟨bb, ob, Aly, cly, Apy, cpy, rfl, _, q0, q1, q2, q3, q4, q5, hiy, hjy⟩ := rNodes_at (h2.bw rNodes_good hb) hy
        have HX := Lib.hid hx
        have HY := Lib.hid hy
        have i1 : (0 : Int) ≤ (k : Int) := by omega
        have i2 : (k : Int) < (n1 : Int) := by omega
        have hbA := hb
        have hix' : Rd rInts wr _ _ := hix; have hiy' : Rd rInts wr _ _ := hiy; have hjx' : Rd rPairs wr _ _ := hjx; have hjy' : Rd rPairs wr _ _ := hjy; have s0 := since_cell p0; have s1 := since_cell p1; have s2 := since_cell p2; have s3 := since_cell p3; have s4 := since_cell p4; have s5 := since_cell p5; have r0 := since_cell q0; have r1 := since_cell q1; have r2 := since_cell q2; have r3 := since_cell q3; have r4 := since_cell q4; have r5 := since_cell q5; clear p0 p1 p2 p3 p4 p5 q0 q1 q2 q3 q4 q5
        clear hx hy h1 h2
        by_cases e1 : x.op = y.op
        · have a1 : (x.op == y.op) = true := by simpa using e1
          have b1 : (x.op != y.op) = false := by simpa using e1
          have E1 := Lib.hid e1
          clear e1
          rcases Bool.eq_false_or_eq_true (decide (x.wish = y.wish)) with hd | hd
          · have HD := Lib.hid hd
            have HXY := Lib.hid (show x = y by have := E1.out; have h2 := HD.out; cases x; cases y; simp_all)
            clear HD
            go_wp2
            refine wp_region_since (by kernel_rfl) (by kernel_rfl) ?_
            repeat (first | go_big_quiet_skip | (go_big_quiet_want; go_big_quiet_op; first | go_big_quiet_on | (apply Exists.intro; refine ⟨fun _ => ?_, ?_⟩; (· (((first | (go_at_call 161; exact Calls_since (Calls_weak (S_l5SameWish _ x.wish y.wish _ _ _ _ (Rd.bw rInts_good hix' (Since.bw _)) (Rd.bw rInts_good hiy' (Since.bw _)) (Rd.bw rPairs_good hjx' (Since.bw _)) (Rd.bw rPairs_good hjy' (Since.bw _))) (congrArg Value.bool hd))))))); go_big_quiet_on)))
            refine wpQuiet_nil ?_
            rintro ⟨wq, hbq⟩
            dsimp only at *
            go_wp2
            go_roundw
            case rel => exact ⟨k + 1, by omega, by go_num, take_step HE.out HX.out HY.out HXY.out, hbA.then hbq⟩
            case measure => simp [intOf]; omega
          · have HD := Lib.hid hd
            have HXY := Lib.hid (show x ≠ y by rintro rfl; have h2 := HD.out; simp at h2)
            clear HD
            go_wp2
            refine wp_region_since (by kernel_rfl) (by kernel_rfl) ?_
            repeat (first | go_big_quiet_skip | (go_big_quiet_want; go_big_quiet_op; first | go_big_quiet_on | (apply Exists.intro; refine ⟨fun _ => ?_, ?_⟩; (· (((first | (go_at_call 161; exact Calls_since (Calls_weak (S_l5SameWish _ x.wish y.wish _ _ _ _ (Rd.bw rInts_good hix' (Since.bw _)) (Rd.bw rInts_good hiy' (Since.bw _)) (Rd.bw rPairs_good hjx' (Since.bw _)) (Rd.bw rPairs_good hjy' (Since.bw _))) (congrArg Value.bool hd))))))); go_big_quiet_on)))
            refine wpQuiet_nil ?_
            rintro ⟨wq, hbq⟩
            dsimp only at *
            go_wp2
            go_ret
            exact Ret.bool (by simpa using ne_of_at HX.out HY.out HXY.out) (hbA.then hbq)
        · have a1 : (x.op == y.op) = false := by simpa using e1
          have b1 : (x.op != y.op) = true := by simpa using e1
          have HXY := Lib.hid (show x ≠ y by rintro rfl; exact e1 rfl)
          clear e1
          go_wp2
          refine wp_region_since (by kernel_rfl) (by kernel_rfl) ?_
          repeat (first | go_big_quiet_skip | (go_big_quiet_want; go_big_quiet_op; first | go_big_quiet_on | (apply Exists.intro; refine ⟨fun _ => ?_, ?_⟩; (· (((first | (go_at_call 161; exact Calls_since (S_l5SameWish _ x.wish y.wish _ _ _ _ (Rd.bw rInts_good hix' (Since.bw _)) (Rd.bw rInts_good hiy' (Since.bw _)) (Rd.bw rPairs_good hjx' (Since.bw _)) (Rd.bw rPairs_good hjy' (Since.bw _)))))))); go_big_quiet_on)))
          refine wpQuiet_nil ?_
          rintro ⟨wq, hbq⟩
          dsimp only at *
          go_wp2
          go_ret
          exact Ret.bool (by simpa using ne_of_at HX.out HY.out HXY.out) (hbA.then hbq)
      · go_wp2
        go_ret
        exact Ret.bool (by simpa using eq_of_take HE.out (by rw [← L1.out]; omega) (by rw [← L2.out]; omega)) hb
  · go_enter Tryz.func121, Tryz.ntmps121
    go_wp2
    go_ret
    exact Ret.bool (by simp; intro e; exact hl (by rw [L1.out, L2.out, e])) (Bw.refl _)
end Go.Proofs.YtfffklkiikmieaaGreat
