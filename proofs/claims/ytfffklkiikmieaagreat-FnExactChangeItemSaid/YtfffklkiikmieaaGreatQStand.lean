/- Standings: the laws' conversions, counts and comparisons; EqualStandings in both programs. -/
import Derived.Test.YtfffklkiikmieaaGreatQWishes2
import Derived.Test.YtfffklkiikmieaaGreatQWishes3
namespace Go.Proofs.YtfffklkiikmieaaGreat
open Go.RowKit
set_option linter.unusedVariables false
set_option maxRecDepth 100000 in
set_option maxHeartbeats 3200000 in
theorem slices_EqualFunc_nodes (w : World) (xs ys : List GNode) (v1 v2 : Value) (h1 : Rd rNodes w xs [v1]) (h2 : Rd rNodes w ys [v2]) :
    Calls Tryz.prog 127 #[v1, v2, .func (.func 128) #[] #[]] w (Ret w (.bool (decide (xs = ys)))) := by
  obtain ⟨A1, n1, c1, rfl, a1, a2, a3⟩ := rSl_open h1
  obtain ⟨A2, n2, c2, rfl, b1, b2, b3⟩ := rSl_open h2
  unfold maxLen at a3 b3
  have L1 := Lib.hid a1
  have L2 := Lib.hid b1
  clear a1 b1
  by_cases hl : n1 = n2
  · subst hl
    go_enter Tryz.func127, Tryz.ntmps127
    go_wp2
    go_loopw [17] (fun i w' => ∃ k : Nat, k ≤ n1 ∧ i = .int .i64 k ∧ xs.take k = ys.take k ∧ Bw w w') (fun i _ => n1 - (intOf i).toNat)
    case atStart => exact ⟨0, by omega, rfl, by simp, Bw.refl _⟩
    case round =>
      obtain ⟨k, hk, rfl, he, hb⟩ := hrel
      have HE := Lib.hid he
      clear he
      by_cases hlt : k < n1
      · obtain ⟨x, hx⟩ := get_of_lt (xs := xs) (k := k) (by rw [← L1.out]; exact hlt)
        obtain ⟨y, hy⟩ := get_of_lt (xs := ys) (k := k) (by rw [← L2.out]; exact hlt)
        obtain ⟨ba, oa, Alx, clx, Apx, cpx, rfl, _, p0, p1, p2, p3, p4, p5, hix, hjx⟩ := rNodes_at (h1.bw rNodes_good hb) hx
        obtain ⟨bb, ob, Aly, cly, Apy, cpy, rfl, _, q0, q1, q2, q3, q4, q5, hiy, hjy⟩ := rNodes_at (h2.bw rNodes_good hb) hy
        have HX := Lib.hid hx
        have HY := Lib.hid hy
        have D : Bw wr ((wr.alloc (.cells #[.int .i64 x.op, .int .i64 x.wish.kind, .int .i64 x.wish.field, .int .i64 x.wish.value, .slice Alx x.wish.list.length clx, .slice Apx x.wish.pairs.length cpx] 102)).alloc (.cells #[.int .i64 y.op, .int .i64 y.wish.kind, .int .i64 y.wish.field, .int .i64 y.wish.value, .slice Aly y.wish.list.length cly, .slice Apy y.wish.pairs.length cpy] 102)) := ((Bw.refl wr).alloc _).alloc _
        have hbx := World.block_lt_of_cell? _ _ p0
        have hby := World.block_lt_of_cell? _ _ q0
        clear hx hy h1 h2
        go_wp2_with fail
        refine (I_EqExpr1 _ x y _ _ _ _ (Rd.bw rInts_good hix D) (Rd.bw rInts_good hiy D) (Rd.bw rPairs_good hjx D) (Rd.bw rPairs_good hjy D)).mono ?_
        rintro e w2 ⟨rfl, hb2⟩
        have hbb : Bw w w2 := hb.then (D.then hb2)
        by_cases hxy : x = y
        · have HD : decide (x = y) = true := by simpa using hxy
          have HXY := Lib.hid hxy
          clear hxy
          go_wp2
          go_roundw
          case rel => exact ⟨k + 1, by omega, by go_num, take_step HE.out HX.out HY.out HXY.out, hbb⟩
          case measure => simp [intOf]; omega
        · have HD : decide (x = y) = false := by simpa using hxy
          go_wp2
          go_ret
          exact Ret.bool (by simpa using ne_of_at HX.out HY.out hxy) hbb
      · go_wp2
        go_ret
        exact Ret.bool (by simpa using eq_of_take HE.out (by rw [← L1.out]; omega) (by rw [← L2.out]; omega)) hb
  · go_enter Tryz.func127, Tryz.ntmps127
    go_wp2
    go_ret
    exact Ret.bool (by simp; intro e; exact hl (by rw [L1.out, L2.out, e])) (Bw.refl _)
set_option maxHeartbeats 400000 in
theorem I_EqualExpressions (w : World) (xs ys : List GNode) (v1 v2 : Value) (h1 : Rd rNodes w xs [v1]) (h2 : Rd rNodes w ys [v2]) :
    Calls Tryz.prog 90 #[v1, v2] w (Ret w (.bool (decide (xs = ys)))) := by
  go_enter Tryz.func90, Tryz.ntmps90
  go_wp2_with fail
  refine (slices_EqualFunc_nodes _ xs ys _ _ h1 h2).mono ?_
  rintro e w2 ⟨rfl, hb2⟩
  go_wp2
  go_ret
  exact Ret.bool (rfl) (hb2)
set_option maxRecDepth 100000 in
set_option maxHeartbeats 3200000 in
theorem S_EqualExpressions (w : World) (xs ys : List GNode) (v1 v2 : Value) (h1 : Rd rNodes w xs [v1]) (h2 : Rd rNodes w ys [v2]) :
    Calls Tryz.prog 121 #[v1, v2] w (Ret w (.bool (decide (xs = ys)))) := by
  obtain ⟨A1, n1, c1, rfl, a1, a2, a3⟩ := rSl_open h1
  obtain ⟨A2, n2, c2, rfl, b1, b2, b3⟩ := rSl_open h2
  unfold maxLen at a3 b3
  have L1 := Lib.hid a1
  have L2 := Lib.hid b1
  clear a1 b1
  by_cases hl : n1 = n2
  · subst hl
    go_enter Tryz.func121, Tryz.ntmps121
    go_wp2
    go_loopw [5] (fun i w' => ∃ k : Nat, k ≤ n1 ∧ i = .int .i64 k ∧ xs.take k = ys.take k ∧ Bw w w') (fun i _ => n1 - (intOf i).toNat)
    case atStart => exact ⟨0, by omega, rfl, by simp, Bw.refl _⟩
    case round =>
      obtain ⟨k, hk, rfl, he, hb⟩ := hrel
      have HE := Lib.hid he
      clear he
      by_cases hlt : k < n1
      · obtain ⟨x, hx⟩ := get_of_lt (xs := xs) (k := k) (by rw [← L1.out]; exact hlt)
        obtain ⟨y, hy⟩ := get_of_lt (xs := ys) (k := k) (by rw [← L2.out]; exact hlt)
        obtain ⟨ba, oa, Alx, clx, Apx, cpx, rfl, _, p0, p1, p2, p3, p4, p5, hix, hjx⟩ := rNodes_at (h1.bw rNodes_good hb) hx
        obtain ⟨bb, ob, Aly, cly, Apy, cpy, rfl, _, q0, q1, q2, q3, q4, q5, hiy, hjy⟩ := rNodes_at (h2.bw rNodes_good hb) hy
        have HX := Lib.hid hx
        have HY := Lib.hid hy
        have i1 : (0 : Int) ≤ (k : Int) := by omega
        have i2 : (k : Int) < (n1 : Int) := by omega
        have hbA := hb
        have hix' : Rd rInts wr _ _ := hix; have hiy' : Rd rInts wr _ _ := hiy; have hjx' : Rd rPairs wr _ _ := hjx; have hjy' : Rd rPairs wr _ _ := hjy; have s0 := since_cell p0; have s1 := since_cell p1; have s2 := since_cell p2; have s3 := since_cell p3; have s4 := since_cell p4; have s5 := since_cell p5; have r0 := since_cell q0; have r1 := since_cell q1; have r2 := since_cell q2; have r3 := since_cell q3; have r4 := since_cell q4; have r5 := since_cell q5; clear p0 p1 p2 p3 p4 p5 q0 q1 q2 q3 q4 q5
        clear hx hy h1 h2
        by_cases e1 : x.op = y.op
        · have a1 : (x.op == y.op) = true := by simpa using e1
          have b1 : (x.op != y.op) = false := by simpa using e1
          have E1 := Lib.hid e1
          clear e1
          rcases Bool.eq_false_or_eq_true (decide (x.wish = y.wish)) with hd | hd
          · have HD := Lib.hid hd
            have HXY := Lib.hid (show x = y by have := E1.out; have h2 := HD.out; cases x; cases y; simp_all)
            clear HD
            go_wp2
            refine wp_region_since (by kernel_rfl) (by kernel_rfl) ?_
            repeat (first | go_big_quiet_skip | (go_big_quiet_want; go_big_quiet_op; first | go_big_quiet_on | (apply Exists.intro; refine ⟨fun _ => ?_, ?_⟩; (· (((first | (go_at_call 161; exact Calls_since (Calls_weak (S_l5SameWish _ x.wish y.wish _ _ _ _ (Rd.bw rInts_good hix' (Since.bw _)) (Rd.bw rInts_good hiy' (Since.bw _)) (Rd.bw rPairs_good hjx' (Since.bw _)) (Rd.bw rPairs_good hjy' (Since.bw _))) (congrArg Value.bool hd))))))); go_big_quiet_on)))
            refine wpQuiet_nil ?_
            rintro ⟨wq, hbq⟩
            dsimp only at *
            go_wp2
            go_roundw
            case rel => exact ⟨k + 1, by omega, by go_num, take_step HE.out HX.out HY.out HXY.out, hbA.then hbq⟩
            case measure => simp [intOf]; omega
          · have HD := Lib.hid hd
            have HXY := Lib.hid (show x ≠ y by rintro rfl; have h2 := HD.out; simp at h2)
            clear HD
            go_wp2
            refine wp_region_since (by kernel_rfl) (by kernel_rfl) ?_
            repeat (first | go_big_quiet_skip | (go_big_quiet_want; go_big_quiet_op; first | go_big_quiet_on | (apply Exists.intro; refine ⟨fun _ => ?_, ?_⟩; (· (((first | (go_at_call 161; exact Calls_since (Calls_weak (S_l5SameWish _ x.wish y.wish _ _ _ _ (Rd.bw rInts_good hix' (Since.bw _)) (Rd.bw rInts_good hiy' (Since.bw _)) (Rd.bw rPairs_good hjx' (Since.bw _)) (Rd.bw rPairs_good hjy' (Since.bw _))) (congrArg Value.bool hd))))))); go_big_quiet_on)))
            refine wpQuiet_nil ?_
            rintro ⟨wq, hbq⟩
            dsimp only at *
            go_wp2
            go_ret
            exact Ret.bool (by simpa using ne_of_at HX.out HY.out HXY.out) (hbA.then hbq)
        · have a1 : (x.op == y.op) = false := by simpa using e1
          have b1 : (x.op != y.op) = true := by simpa using e1
          have HXY := Lib.hid (show x ≠ y by rintro rfl; exact e1 rfl)
          clear e1
          go_wp2
          refine wp_region_since (by kernel_rfl) (by kernel_rfl) ?_
          repeat (first | go_big_quiet_skip | (go_big_quiet_want; go_big_quiet_op; first | go_big_quiet_on | (apply Exists.intro; refine ⟨fun _ => ?_, ?_⟩; (· (((first | (go_at_call 161; exact Calls_since (S_l5SameWish _ x.wish y.wish _ _ _ _ (Rd.bw rInts_good hix' (Since.bw _)) (Rd.bw rInts_good hiy' (Since.bw _)) (Rd.bw rPairs_good hjx' (Since.bw _)) (Rd.bw rPairs_good hjy' (Since.bw _)))))))); go_big_quiet_on)))
          refine wpQuiet_nil ?_
          rintro ⟨wq, hbq⟩
          dsimp only at *
          go_wp2
          go_ret
          exact Ret.bool (by simpa using ne_of_at HX.out HY.out HXY.out) (hbA.then hbq)
      · go_wp2
        go_ret
        exact Ret.bool (by simpa using eq_of_take HE.out (by rw [← L1.out]; omega) (by rw [← L2.out]; omega)) hb
  · go_enter Tryz.func121, Tryz.ntmps121
    go_wp2
    go_ret
    exact Ret.bool (by simp; intro e; exact hl (by rw [L1.out, L2.out, e])) (Bw.refl _)
end Go.Proofs.YtfffklkiikmieaaGreat

namespace Go.Proofs.YtfffklkiikmieaaGreat
open Go.RowKit
set_option linter.unusedVariables false
set_option linter.unusedSimpArgs false
def fStanding : Fp GStanding := fun w x cs F => ∃ va vb vc Fa Fb Fc, cs = [va, vb, vc, .int .i64 x.tests] ∧ fItems w x.items [va] Fa ∧ fNodes w x.wanted [vb] Fb ∧ fInts w x.best [vc] Fc ∧ F = Fa ++ (Fb ++ Fc)
theorem eqStanding_dec (x y : GStanding) : decide (x = y) = (decide (x.items = y.items) && (decide (x.wanted = y.wanted) && (decide (x.best = y.best) && decide (x.tests = y.tests)))) := by rw [Bool.eq_iff_iff]; simp [GStanding.eq_iff]
set_option maxRecDepth 100000 in
set_option maxHeartbeats 1600000 in
theorem L_eqStanding (w : World) (x y : GStanding) (va vb vc ua ub uc : Value) (ha : Rd rItems w x.items [va]) (hb : Rd rNodes w x.wanted [vb]) (hc : Rd rInts w x.best [vc]) (ka : Rd rItems w y.items [ua]) (kb : Rd rNodes w y.wanted [ub]) (kc : Rd rInts w y.best [uc]) :
    Calls Tryz.prog 24 #[.agg #[va, vb, vc, .int .i64 x.tests], .agg #[ua, ub, uc, .int .i64 y.tests]] w (Ret w (.bool (decide (x = y)))) := by
  have B0 : Bw w ((w.alloc (.cells #[va, vb, vc, .int .i64 x.tests] 47)).alloc (.cells #[ua, ub, uc, .int .i64 y.tests] 47)) := ((Bw.refl w).alloc _).alloc _
  rw [eqStanding_dec]
  have H1 := Lib.hid (show x.items = y.items ∨ x.items ≠ y.items from Decidable.em _)
  go_enter Tryz.func24, Tryz.ntmps24
  go_wp2_with fail
  refine (L_eqItemS _ x.items y.items _ _ (ha.bw rItems_good B0) (ka.bw rItems_good B0)).mono ?_
  rintro e w1 ⟨rfl, hb1⟩
  have p0 : w1.cell? ⟨w.heap.size, 0, none⟩ = some (va) := hb1.cell (by go_simp)
  have p1 : w1.cell? ⟨w.heap.size, 1, none⟩ = some (vb) := hb1.cell (by go_simp)
  have p2 : w1.cell? ⟨w.heap.size, 2, none⟩ = some (vc) := hb1.cell (by go_simp)
  have p3 : w1.cell? ⟨w.heap.size, 3, none⟩ = some (.int .i64 x.tests) := hb1.cell (by go_simp)
  have q0 : w1.cell? ⟨w.heap.size + 1, 0, none⟩ = some (ua) := hb1.cell (by go_simp)
  have q1 : w1.cell? ⟨w.heap.size + 1, 1, none⟩ = some (ub) := hb1.cell (by go_simp)
  have q2 : w1.cell? ⟨w.heap.size + 1, 2, none⟩ = some (uc) := hb1.cell (by go_simp)
  have q3 : w1.cell? ⟨w.heap.size + 1, 3, none⟩ = some (.int .i64 y.tests) := hb1.cell (by go_simp)
  have B1 := B0.then hb1
  rcases Bool.eq_false_or_eq_true (decide (x.items = y.items)) with e1 | e1
  · have E1 := Lib.hid e1
    rw [show decide (x.items = y.items) = true from E1.out]
    clear e1
    go_wp2_with fail
    refine (L_eqNodeS _ x.wanted y.wanted _ _ (hb.bw rNodes_good B1) (kb.bw rNodes_good B1)).mono ?_
    rintro e w2 ⟨rfl, hb2⟩
    replace p2 := hb2.cell p2
    replace p3 := hb2.cell p3
    replace q2 := hb2.cell q2
    replace q3 := hb2.cell q3
    replace B1 := B1.then hb2
    rcases Bool.eq_false_or_eq_true (decide (x.wanted = y.wanted)) with e2 | e2
    · have E2 := Lib.hid e2
      rw [show decide (x.wanted = y.wanted) = true from E2.out]
      clear e2
      go_wp2_with fail
      refine (L_eqIntS _ x.best y.best _ _ (hc.bw rInts_good B1) (kc.bw rInts_good B1)).mono ?_
      rintro e w3 ⟨rfl, hb3⟩
      replace p3 := hb3.cell p3
      replace q3 := hb3.cell q3
      replace B1 := B1.then hb3
      rcases Bool.eq_false_or_eq_true (decide (x.best = y.best)) with e3 | e3
      · have E3 := Lib.hid e3
        rw [show decide (x.best = y.best) = true from E3.out]
        clear e3
        by_cases e4 : x.tests = y.tests
        · have a4 : (x.tests == y.tests) = true := by simpa using e4
          have b4 : (x.tests != y.tests) = false := by simpa using e4
          have E4 := Lib.hid e4
          clear e4
          go_wp2
          go_ret
          exact Ret.bool (by simp [E1.out, E2.out, E3.out, E4.out]) (B1)
        · have a4 : (x.tests == y.tests) = false := by simpa using e4
          have b4 : (x.tests != y.tests) = true := by simpa using e4
          have E4 := Lib.hid e4
          clear e4
          go_wp2
          go_ret
          exact Ret.bool (by simp [E4.out]) (B1)
      · have E3 := Lib.hid e3
        rw [show decide (x.best = y.best) = false from E3.out]
        clear e3
        go_wp2
        go_ret
        exact Ret.bool (by simp [E3.out]) (B1)
    · have E2 := Lib.hid e2
      rw [show decide (x.wanted = y.wanted) = false from E2.out]
      clear e2
      go_wp2
      go_ret
      exact Ret.bool (by simp [E2.out]) (B1)
  · have E1 := Lib.hid e1
    rw [show decide (x.items = y.items) = false from E1.out]
    clear e1
    go_wp2
    go_ret
    exact Ret.bool (by simp [E1.out]) (B1)
theorem szM_pos {m : Int} {a : Nat} (h : ¬ m < a) : szM m a = m - a := if_neg h
theorem szM_min {m : Int} {a : Nat} (h : m < a) : szM m a = -1 := if_pos h
set_option maxRecDepth 100000 in
set_option maxHeartbeats 800000 in
theorem L_szStanding (w : World) (x : GStanding) (va vb vc : Value) (ha : Rd rItems w x.items [va]) (hb : Rd rNodes w x.wanted [vb]) (hc : Rd rInts w x.best [vc]) (left : Int) (h0 : 0 ≤ left) (h1 : left ≤ 1048576) :
    Calls Tryz.prog 20 #[.agg #[va, vb, vc, .int .i64 x.tests], .int .i64 left] w (Ret w (.int .i64 (szM left (totStanding x)))) := by
  have B0 : Bw w (w.alloc (.cells #[va, vb, vc, .int .i64 x.tests] 43)) := (Bw.refl w).alloc _
  have HT := Lib.hid (show totStanding x = totItems x.items + (totNodes x.wanted + x.best.length) by unfold totStanding; omega)
  go_enter Tryz.func20, Tryz.ntmps20
  go_wp2_with fail
  refine (L_szItemS _ x.items _ (ha.bw rItems_good B0) left h0 h1).mono ?_
  rintro e w1 ⟨rfl, hb1⟩
  have p0 : w1.cell? ⟨w.heap.size, 0, none⟩ = some (va) := hb1.cell (by go_simp)
  have p1 : w1.cell? ⟨w.heap.size, 1, none⟩ = some (vb) := hb1.cell (by go_simp)
  have p2 : w1.cell? ⟨w.heap.size, 2, none⟩ = some (vc) := hb1.cell (by go_simp)
  have p3 : w1.cell? ⟨w.heap.size, 3, none⟩ = some (.int .i64 x.tests) := hb1.cell (by go_simp)
  have B1 := B0.then hb1
  by_cases s1 : left < totItems x.items
  · rw [szM_min s1]
    go_wp2
    go_ret
    exact Ret.int (by rw [HT.out, szM_neg _ _ _ s1]) (B1)
  · have S1 := Lib.hid (szM_step left (totItems x.items) (totNodes x.wanted + x.best.length) s1)
    rw [szM_pos s1]
    go_wp2_with fail
    refine (L_szNodeS _ x.wanted _ (hb.bw rNodes_good B1) (left - totItems x.items) (by omega) (by omega)).mono ?_
    rintro e w2 ⟨rfl, hb2⟩
    replace p2 := hb2.cell p2
    replace B1 := B1.then hb2
    by_cases s2 : left - totItems x.items < totNodes x.wanted
    · rw [szM_min s2]
      go_wp2
      go_ret
      exact Ret.int (by rw [HT.out, ← S1.out, szM_neg _ _ _ s2]) (B1)
    · have S2 := Lib.hid (szM_step (left - totItems x.items) (totNodes x.wanted) x.best.length s2)
      rw [szM_pos s2]
      go_wp2_with fail
      refine (L_szIntS _ x.best _ (hc.bw rInts_good B1) (left - totItems x.items - totNodes x.wanted) (by omega) (by omega)).mono ?_
      rintro e w3 ⟨rfl, hb3⟩
      by_cases s3 : left - totItems x.items - totNodes x.wanted < x.best.length
      · rw [szM_min s3]
        go_wp2
        go_ret
        exact Ret.int (by rw [HT.out, ← S1.out, ← S2.out, szM_min s3]) (B1.then hb3)
      · rw [szM_pos s3]
        go_wp2
        go_ret
        exact Ret.int (by rw [HT.out, ← S1.out, ← S2.out, szM_pos (by omega)]) (B1.then hb3)
set_option maxRecDepth 100000 in
set_option maxHeartbeats 3200000 in
theorem L_toStanding (w : World) (x : GStanding) (va vb vc : Value) (ha : Rd rItems w x.items [va]) (hb : Rd rNodes w x.wanted [vb]) (hc : Rd rInts w x.best [vc]) (ht : totStanding x ≤ 1048576) :
    Calls Tryz.prog 22 #[.agg #[va, vb, vc, .int .i64 x.tests]] w (RetA fStanding w x) := by
  have t1 : totItems x.items ≤ 1048576 := by unfold totStanding at ht; omega
  have t2 : totNodes x.wanted ≤ 1048576 := by unfold totStanding at ht; omega
  have t3 : x.best.length ≤ 1048576 := by unfold totStanding at ht; omega
  clear ht
  have A0 : Bw w (((w.alloc (.cells #[va, vb, vc, .int .i64 x.tests] 43)).alloc (.cells #[.slice none 0 0, .slice none 0 0, .slice none 0 0, .int .i64 0] 47)).alloc (.cells #[.slice none 0 0, .slice none 0 0, .slice none 0 0, .int .i64 0] 47)) := (((Bw.refl w).alloc _).alloc _).alloc _
  go_enter Tryz.func22, Tryz.ntmps22
  go_wp2_with fail
  refine (L_toItemS _ x.items _ (ha.bw rItems_good A0) t1).mono ?_
  rintro e w1 ⟨v1, rfl, ⟨F1, o1, f1⟩, hb1⟩
  obtain ⟨A1, c1, rfl, _⟩ := rSl_shape (fItems_Rd o1)
  have hz1 : w.heap.size + 3 ≤ w1.heap.size := by have := hb1.size; simp at this; omega
  have B1 := A0.then hb1
  have f1z : ∀ b ∈ F1, w.heap.size + 3 ≤ b := fun b hb => by have := f1.ge b hb; simpa using this
  have f1l := (fItems_good (B := 0)).lt o1
  have hf1 : ∀ o, w1.frozen? ⟨w.heap.size + 1 + 1, o, none⟩ = false := fun o => by rw [bw_frozen hb1 _ _ (by first | (simp; done) | (simp; omega))]; go_simp
  have hg1 : ∀ o, w1.frozen? ⟨w.heap.size + 1, o, none⟩ = false := fun o => by rw [bw_frozen hb1 _ _ (by first | (simp; done) | (simp; omega))]; go_simp
  have p0 : w1.cell? ⟨w.heap.size, 0, none⟩ = some (va) := hb1.cell (by go_simp)
  have p1 : w1.cell? ⟨w.heap.size, 1, none⟩ = some (vb) := hb1.cell (by go_simp)
  have p2 : w1.cell? ⟨w.heap.size, 2, none⟩ = some (vc) := hb1.cell (by go_simp)
  have p3 : w1.cell? ⟨w.heap.size, 3, none⟩ = some (.int .i64 x.tests) := hb1.cell (by go_simp)
  have q0 : w1.cell? ⟨w.heap.size + 1 + 1, 0, none⟩ = some (.slice none 0 0) := hb1.cell (by go_simp)
  have q1 : w1.cell? ⟨w.heap.size + 1 + 1, 1, none⟩ = some (.slice none 0 0) := hb1.cell (by go_simp)
  have q2 : w1.cell? ⟨w.heap.size + 1 + 1, 2, none⟩ = some (.slice none 0 0) := hb1.cell (by go_simp)
  have q3 : w1.cell? ⟨w.heap.size + 1 + 1, 3, none⟩ = some (.int .i64 0) := hb1.cell (by go_simp)
  have r0 : w1.cell? ⟨w.heap.size + 1, 0, none⟩ = some (.slice none 0 0) := hb1.cell (by go_simp)
  have r1 : w1.cell? ⟨w.heap.size + 1, 1, none⟩ = some (.slice none 0 0) := hb1.cell (by go_simp)
  have r2 : w1.cell? ⟨w.heap.size + 1, 2, none⟩ = some (.slice none 0 0) := hb1.cell (by go_simp)
  have r3 : w1.cell? ⟨w.heap.size + 1, 3, none⟩ = some (.int .i64 0) := hb1.cell (by go_simp)
  go_wp2_with fail
  have C1 := B1.set (p := ⟨w.heap.size + 1 + 1, 0, none⟩) (by dsimp only; omega) (.slice A1 x.items.length c1)
  refine (L_toNodeS _ x.wanted _ (hb.bw rNodes_good C1) t2).mono ?_
  rintro e w2 ⟨v2, rfl, ⟨F2, o2, f2⟩, hb2⟩
  obtain ⟨A2, c2, rfl, _⟩ := rSl_shape (fNodes_Rd o2)
  have p'0 : w2.cell? ⟨w.heap.size, 0, none⟩ = some (va) := hb2.cell (by go_simp)
  have p'1 : w2.cell? ⟨w.heap.size, 1, none⟩ = some (vb) := hb2.cell (by go_simp)
  have p'2 : w2.cell? ⟨w.heap.size, 2, none⟩ = some (vc) := hb2.cell (by go_simp)
  have p'3 : w2.cell? ⟨w.heap.size, 3, none⟩ = some (.int .i64 x.tests) := hb2.cell (by go_simp)
  have q'0 : w2.cell? ⟨w.heap.size + 1 + 1, 0, none⟩ = some (.slice A1 x.items.length c1) := hb2.cell (by go_simp)
  have q'1 : w2.cell? ⟨w.heap.size + 1 + 1, 1, none⟩ = some (.slice none 0 0) := hb2.cell (by go_simp)
  have q'2 : w2.cell? ⟨w.heap.size + 1 + 1, 2, none⟩ = some (.slice none 0 0) := hb2.cell (by go_simp)
  have q'3 : w2.cell? ⟨w.heap.size + 1 + 1, 3, none⟩ = some (.int .i64 0) := hb2.cell (by go_simp)
  have r'0 : w2.cell? ⟨w.heap.size + 1, 0, none⟩ = some (.slice none 0 0) := hb2.cell (by go_simp)
  have r'1 : w2.cell? ⟨w.heap.size + 1, 1, none⟩ = some (.slice none 0 0) := hb2.cell (by go_simp)
  have r'2 : w2.cell? ⟨w.heap.size + 1, 2, none⟩ = some (.slice none 0 0) := hb2.cell (by go_simp)
  have r'3 : w2.cell? ⟨w.heap.size + 1, 3, none⟩ = some (.int .i64 0) := hb2.cell (by go_simp)
  have hf2 : ∀ o, w2.frozen? ⟨w.heap.size + 1 + 1, o, none⟩ = false := fun o => by rw [bw_frozen hb2 _ _ (by first | (simp; done) | (simp; omega))]; go_simp
  have hg2 : ∀ o, w2.frozen? ⟨w.heap.size + 1, o, none⟩ = false := fun o => by rw [bw_frozen hb2 _ _ (by first | (simp; done) | (simp; omega))]; go_simp
  have hz2 : w1.heap.size ≤ w2.heap.size := by have := hb2.size; simpa using this
  have B2 := C1.then hb2
  have f2l := (fNodes_good (B := 0)).lt o2
  have f2z : ∀ b ∈ F2, w1.heap.size ≤ b := fun b hb => by have := f2.ge b hb; simpa using this
  have o1' : fItems w2 x.items [.slice A1 x.items.length c1] F1 := (fItems_good (B := 0)).step (fun b hb => by
    rcases hb with hb | hb
    · have h1 := f1z b hb
      have h2 := f1l b hb
      rw [Below.block hb2 b (by simpa using h2)]
      repeat rw [Below.heap_setCell _ _ _ _ (by dsimp only; omega)]
    · omega) o1
  clear p0 p1 p2 p3 q0 q1 q2 q3 r0 r1 r2 r3
  go_wp2_with fail
  have C2 := B2.set (p := ⟨w.heap.size + 1 + 1, 1, none⟩) (by dsimp only; omega) (.slice A2 x.wanted.length c2)
  refine (L_toIntS _ x.best _ (hc.bw rInts_good C2) t3).mono ?_
  rintro e w3 ⟨v3, rfl, ⟨F3, o3, f3⟩, hb3⟩
  obtain ⟨A3, c3, rfl, _⟩ := rSl_shape (fInts_Rd o3)
  have p0 : w3.cell? ⟨w.heap.size, 0, none⟩ = some (va) := hb3.cell (by go_simp)
  have p1 : w3.cell? ⟨w.heap.size, 1, none⟩ = some (vb) := hb3.cell (by go_simp)
  have p2 : w3.cell? ⟨w.heap.size, 2, none⟩ = some (vc) := hb3.cell (by go_simp)
  have p3 : w3.cell? ⟨w.heap.size, 3, none⟩ = some (.int .i64 x.tests) := hb3.cell (by go_simp)
  have q0 : w3.cell? ⟨w.heap.size + 1 + 1, 0, none⟩ = some (.slice A1 x.items.length c1) := hb3.cell (by go_simp)
  have q1 : w3.cell? ⟨w.heap.size + 1 + 1, 1, none⟩ = some (.slice A2 x.wanted.length c2) := hb3.cell (by go_simp)
  have q2 : w3.cell? ⟨w.heap.size + 1 + 1, 2, none⟩ = some (.slice none 0 0) := hb3.cell (by go_simp)
  have q3 : w3.cell? ⟨w.heap.size + 1 + 1, 3, none⟩ = some (.int .i64 0) := hb3.cell (by go_simp)
  have r0 : w3.cell? ⟨w.heap.size + 1, 0, none⟩ = some (.slice none 0 0) := hb3.cell (by go_simp)
  have r1 : w3.cell? ⟨w.heap.size + 1, 1, none⟩ = some (.slice none 0 0) := hb3.cell (by go_simp)
  have r2 : w3.cell? ⟨w.heap.size + 1, 2, none⟩ = some (.slice none 0 0) := hb3.cell (by go_simp)
  have r3 : w3.cell? ⟨w.heap.size + 1, 3, none⟩ = some (.int .i64 0) := hb3.cell (by go_simp)
  have hf3 : ∀ o, w3.frozen? ⟨w.heap.size + 1 + 1, o, none⟩ = false := fun o => by rw [bw_frozen hb3 _ _ (by first | (simp; done) | (simp; omega))]; go_simp
  have hg3 : ∀ o, w3.frozen? ⟨w.heap.size + 1, o, none⟩ = false := fun o => by rw [bw_frozen hb3 _ _ (by first | (simp; done) | (simp; omega))]; go_simp
  have hz3 : w2.heap.size ≤ w3.heap.size := by have := hb3.size; simpa using this
  have B3 := C2.then hb3
  have f3z : ∀ b ∈ F3, w2.heap.size ≤ b := fun b hb => by have := f3.ge b hb; simpa using this
  have o1'' : fItems w3 x.items [.slice A1 x.items.length c1] F1 := (fItems_good (B := 0)).step (fun b hb => by
    rcases hb with hb | hb
    · have h1 := f1z b hb
      have h2 := f1l b hb
      rw [Below.block hb3 b (by simp; omega)]
      repeat rw [Below.heap_setCell _ _ _ _ (by dsimp only; omega)]
    · omega) o1'
  have o2' : fNodes w3 x.wanted [.slice A2 x.wanted.length c2] F2 := (fNodes_good (B := 0)).step (fun b hb => by
    rcases hb with hb | hb
    · have h1 := f2z b hb
      have h2 := f2l b hb
      rw [Below.block hb3 b (by simpa using h2)]
      repeat rw [Below.heap_setCell _ _ _ _ (by dsimp only; omega)]
    · omega) o2
  have FF : Fresh w.heap.size (F1 ++ (F2 ++ F3)) := by
    have h23 : Fresh w1.heap.size (F2 ++ F3) := Fresh.append (m := w2.heap.size) ⟨f2.nodup, f2z⟩ f2l ⟨f3.nodup, f3z⟩ hz2
    exact Fresh.append (m := w1.heap.size) ⟨f1.nodup, fun b hb => by have := f1z b hb; omega⟩ f1l h23 (by omega)
  have f2z' : ∀ b ∈ F2, w.heap.size + 3 ≤ b := fun b hb => by have := f2z b hb; omega
  have f3z' : ∀ b ∈ F3, w.heap.size + 3 ≤ b := fun b hb => by have := f3z b hb; omega
  clear p'0 p'1 p'2 p'3 q'0 q'1 q'2 q'3 r'0 r'1 r'2 r'3
  go_wp2
  refine bodyPost_ret (v := .agg #[.slice A1 x.items.length c1, .slice A2 x.wanted.length c2, .slice A3 x.best.length c3, .int .i64 x.tests]) (by simp [results, Tryz.results22, go_sem, p3, q0, q1, q2, q3, r0, r1, r2, r3]) rfl ⟨_, F1 ++ (F2 ++ F3), rfl, ⟨_, _, _, F1, F2, F3, rfl, ?_, ?_, ?_, rfl⟩, FF, ?_⟩
  · refine (fItems_good (B := 0)).step (fun b hb => ?_) o1''
    rcases hb with hb | hb
    · have := f1z b hb
      repeat rw [Below.heap_setCell _ _ _ _ (by dsimp only; omega)]
    · omega
  · refine (fNodes_good (B := 0)).step (fun b hb => ?_) o2'
    rcases hb with hb | hb
    · have := f2z' b hb
      repeat rw [Below.heap_setCell _ _ _ _ (by dsimp only; omega)]
    · omega
  · refine (fInts_good (B := 0)).step (fun b hb => ?_) o3
    rcases hb with hb | hb
    · have := f3z' b hb
      repeat rw [Below.heap_setCell _ _ _ _ (by dsimp only; omega)]
    · omega
  · repeat (first | with_reducible exact B3 | with_reducible refine Bw.set ?_ ?_ _)
    all_goals (dsimp only; omega)
end Go.Proofs.YtfffklkiikmieaaGreat
