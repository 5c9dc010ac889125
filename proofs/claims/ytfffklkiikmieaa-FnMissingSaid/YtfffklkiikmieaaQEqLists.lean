/- Comparisons of lists of items and of expressions, and of standings, in both programs. -/
import Derived.Test.YtfffklkiikmieaaQMissS
import Derived.Test.YtfffklkiikmieaaQWishes2
namespace Go.Proofs.Ytfffklkiikmieaa
open Go.RowKit
set_option linter.unusedVariables false
set_option linter.unusedSimpArgs false
theorem possF_none {l : List GItem} (h : isPartial l = false) (e : List GNode) : l.filter (possF l e) = [] := by
  rw [List.filter_eq_nil_iff]
  intro x _
  unfold possF cntN
  rw [h]; simp
set_option maxHeartbeats 1600000 in
theorem S_PossibleBest_no (w : World) (l : List GItem) (e : List GNode) (v u : Value) (h : Rd rItems w l [v]) (h' : Rd rNodes w e [u]) (hc : isExpr e = false) : Calls Try.prog 66 #[v, u] w (RetV w (Made fInts w.heap.size [])) := by
  have hv0 := fSl_empty (e := 3) (sz := 1) (R := fInt) w
  obtain ⟨A, n, c, rfl, L0, Lc, Lm⟩ := rSl_open h
  unfold maxLen at Lm
  have L := Lib.hid L0
  clear L0
  have HC := Lib.hid hc
  clear hc
  go_enter Try.func66, Try.ntmps66
  go_wp2
  go_loopg [5, 6] 0 (fun g s i w' => ∃ (F : List Nat), g = 0 ∧ i = .int .i64 0 ∧ fInts w' [] [s] F ∧ Fresh w.heap.size F ∧ Bw w w')
  case atStart => exact ⟨_, rfl, rfl, hv0, ⟨by simp, by simp⟩, (Bw.refl w).alloc _⟩
  case round =>
    clear hv0
    obtain ⟨F, rfl, rfl, hv, hF, hb⟩ := hrel
    by_cases hlt : 0 < n
    · go_wp2_with fail
      refine (S_IsExpression _ e _ (h'.bw rNodes_good hb)).mono ?_
      rintro e w1 ⟨rfl, hb1⟩
      rw [HC.out]
      have hv1 := (fInts_good (B := w.heap.size)).bw hb1 hb.size hv
      go_wp2
      go_ret
      exact ⟨_, rfl, ⟨_, hv1, hF⟩, hb.then hb1⟩
    · obtain rfl : n = 0 := by omega
      go_wp2
      go_ret
      exact ⟨_, rfl, ⟨_, hv, hF⟩, hb⟩
theorem S_PossibleBest (w : World) (l : List GItem) (e : List GNode) (v u : Value) (h : Rd rItems w l [v]) (h' : Rd rNodes w e [u]) (ht : totItems l ≤ 1048576) : Calls Try.prog 66 #[v, u] w (RetV w (Made fInts w.heap.size (possM l e))) := by
  rcases Bool.eq_false_or_eq_true (isExpr e) with hE | hE
  · have := S_PossibleBest_yes w l e v u h h' ht hE
    rcases Bool.eq_false_or_eq_true (isPartial l) with hP | hP
    · rw [possM, hP, hE]; exact this
    · rw [possM, hP]; rw [possF_none hP] at this; exact this
  · rw [show possM l e = [] by unfold possM; rw [hE]; simp]
    exact S_PossibleBest_no w l e v u h h' hE
set_option maxHeartbeats 1600000 in
theorem S_CertainBest_no (w : World) (l : List GItem) (e : List GNode) (v u : Value) (h : Rd rItems w l [v]) (h' : Rd rNodes w e [u]) (ht : totItems l ≤ 1048576) (hc : (isPartial l && isExpr e) = false) : Calls Try.prog 67 #[v, u] w (RetV w (Made fInts w.heap.size [])) := by
  have hv0 := fSl_empty (e := 3) (sz := 1) (R := fInt) w
  obtain ⟨A, n, c, rfl, L0, Lc, Lm⟩ := rSl_open h
  unfold maxLen at Lm
  have L := Lib.hid L0
  clear L0
  have HC := Lib.hid hc
  clear hc
  go_enter Try.func67, Try.ntmps67
  go_wp2
  go_loopg [5, 6] 0 (fun g s i w' => ∃ (F : List Nat), g = 0 ∧ i = .int .i64 0 ∧ fInts w' [] [s] F ∧ Fresh w.heap.size F ∧ Bw w w')
  case atStart => exact ⟨_, rfl, rfl, hv0, ⟨by simp, by simp⟩, (Bw.refl w).alloc _⟩
  case round =>
    clear hv0
    obtain ⟨F, rfl, rfl, hv, hF, hb⟩ := hrel
    by_cases hlt : 0 < n
    · go_wp2_with fail
      refine (S_IsExpression _ e _ (h'.bw rNodes_good hb)).mono ?_
      rintro e w1 ⟨rfl, hb1⟩
      have hv1 := (fInts_good (B := w.heap.size)).bw hb1 hb.size hv
      have B1 := hb.then hb1
      rcases Bool.eq_false_or_eq_true (isExpr e) with e1 | e1
      · have HC2 := Lib.hid (show isPartial l = false by have := HC.out; rw [e1] at this; simpa using this)
        rw [e1]
        clear e1
        go_wp2_with fail
        refine (S_IsPartial _ l _ (h.bw rItems_good B1) ht).mono ?_
        rintro e w2 ⟨rfl, hb2⟩
        rw [HC2.out]
        have hv2 := (fInts_good (B := w.heap.size)).bw hb2 B1.size hv1
        go_wp2
        go_ret
        exact ⟨_, rfl, ⟨_, hv2, hF⟩, B1.then hb2⟩
      · rw [e1]
        clear e1
        go_wp2
        go_ret
        exact ⟨_, rfl, ⟨_, hv1, hF⟩, B1⟩
    · obtain rfl : n = 0 := by omega
      go_wp2
      go_ret
      exact ⟨_, rfl, ⟨_, hv, hF⟩, hb⟩
theorem S_CertainBest (w : World) (l : List GItem) (e : List GNode) (v u : Value) (h : Rd rItems w l [v]) (h' : Rd rNodes w e [u]) (ht : totItems l ≤ 1048576) : Calls Try.prog 67 #[v, u] w (RetV w (Made fInts w.heap.size (certM l e))) := by
  rcases Bool.eq_false_or_eq_true (isPartial l && isExpr e) with hc | hc
  · have hc2 := hc
    simp only [Bool.and_eq_true] at hc2
    rw [certM, if_pos hc]
    exact S_CertainBest_yes w l e v u h h' ht hc2.2 hc2.1
  · rw [show certM l e = [] by unfold certM; rw [hc]; rfl]
    exact S_CertainBest_no w l e v u h h' ht hc
end Go.Proofs.Ytfffklkiikmieaa

namespace Go.Proofs.Ytfffklkiikmieaa
open Go.RowKit
set_option linter.unusedVariables false
set_option maxRecDepth 100000 in
set_option maxHeartbeats 3200000 in
theorem S_EqualItems (w : World) (xs ys : List GItem) (v1 v2 : Value) (h1 : Rd rItems w xs [v1]) (h2 : Rd rItems w ys [v2]) :
    Calls Try.prog 78 #[v1, v2] w (Ret w (.bool (decide (xs = ys)))) := by
  obtain ⟨A1, n1, c1, rfl, a1, a2, a3⟩ := rSl_open h1
  obtain ⟨A2, n2, c2, rfl, b1, b2, b3⟩ := rSl_open h2
  unfold maxLen at a3 b3
  have L1 := Lib.hid a1
  have L2 := Lib.hid b1
  clear a1 b1
  by_cases hl : n1 = n2
  · subst hl
    go_enter Try.func78, Try.ntmps78
    go_wp2
    go_loopw [5] (fun i w' => ∃ k : Nat, k ≤ n1 ∧ i = .int .i64 k ∧ xs.take k = ys.take k ∧ Bw w w') (fun i _ => n1 - (intOf i).toNat)
    case atStart => exact ⟨0, by omega, rfl, by simp, Bw.refl _⟩
    case round =>
      obtain ⟨k, hk, rfl, he, hb⟩ := hrel
      have HE := Lib.hid he
      clear he
      by_cases hlt : k < n1
      · obtain ⟨x, hx⟩ := get_of_lt (xs := xs) (k := k) (by rw [← L1.out]; exact hlt)
        obtain ⟨y, hy⟩ := get_of_lt (xs := ys) (k := k) (by rw [← L2.out]; exact hlt)
        obtain ⟨ba, oa, Ax, cx, rfl, _, p0, p1, hix⟩ := rItems_at (h1.bw rItems_good hb) hx
        obtain ⟨bb, ob, Ay, cy, rfl, _, q0, q1, hiy⟩ := rItems_at (h2.bw rItems_good hb) hy
        have HX := Lib.hid hx
        have HY := Lib.hid hy
        have i1 : (0 : Int) ≤ (k : Int) := by omega
        have i2 : (k : Int) < (n1 : Int) := by omega
        have hbA := hb
        have hix' : Rd rInts wr _ _ := hix; have hiy' : Rd rInts wr _ _ := hiy; have s0 := since_cell p0; have s1 := since_cell p1; have s2 := since_cell q0; have s3 := since_cell q1; clear p0 p1 q0 q1
        clear hx hy h1 h2
        by_cases e1 : x.id = y.id
        · have a1 : (x.id == y.id) = true := by simpa using e1
          have b1 : (x.id != y.id) = false := by simpa using e1
          have E1 := Lib.hid e1
          clear e1
          rcases Bool.eq_false_or_eq_true (decide (x.vals = y.vals)) with hd | hd
          · have HD := Lib.hid hd
            have HXY := Lib.hid (show x = y by have := E1.out; have h2 := HD.out; cases x; cases y; simp_all)
            clear HD
            go_wp2
            refine wp_region_since (by kernel_rfl) (by kernel_rfl) ?_
            repeat (first | go_big_quiet_skip | (go_big_quiet_want; go_big_quiet_op; first | go_big_quiet_on | (apply Exists.intro; refine ⟨fun _ => ?_, ?_⟩; (· (((first | (go_at_call 157; exact Calls_since (Calls_weak (S_l2Ints _ x.vals y.vals _ _ (Rd.bw rInts_good hix' (Since.bw _)) (Rd.bw rInts_good hiy' (Since.bw _))) (congrArg Value.bool hd))))))); go_big_quiet_on)))
            refine wpQuiet_nil ?_
            rintro ⟨wq, hbq⟩
            dsimp only at *
            go_wp2
            go_roundw
            case rel => exact ⟨k + 1, by omega, by go_num, take_step HE.out HX.out HY.out HXY.out, hbA.then hbq⟩
            case measure => simp [intOf]; omega
          · have HD := Lib.hid hd
            have HXY := Lib.hid (show x ≠ y by rintro rfl; have h2 := HD.out; simp at h2)
            clear HD
            go_wp2
            refine wp_region_since (by kernel_rfl) (by kernel_rfl) ?_
            repeat (first | go_big_quiet_skip | (go_big_quiet_want; go_big_quiet_op; first | go_big_quiet_on | (apply Exists.intro; refine ⟨fun _ => ?_, ?_⟩; (· (((first | (go_at_call 157; exact Calls_since (Calls_weak (S_l2Ints _ x.vals y.vals _ _ (Rd.bw rInts_good hix' (Since.bw _)) (Rd.bw rInts_good hiy' (Since.bw _))) (congrArg Value.bool hd))))))); go_big_quiet_on)))
            refine wpQuiet_nil ?_
            rintro ⟨wq, hbq⟩
            dsimp only at *
            go_wp2
            go_ret
            exact Ret.bool (by simpa using ne_of_at HX.out HY.out HXY.out) (hbA.then hbq)
        · have a1 : (x.id == y.id) = false := by simpa using e1
          have b1 : (x.id != y.id) = true := by simpa using e1
          have HXY := Lib.hid (show x ≠ y by rintro rfl; exact e1 rfl)
          clear e1
          go_wp2
          refine wp_region_since (by kernel_rfl) (by kernel_rfl) ?_
          repeat (first | go_big_quiet_skip | (go_big_quiet_want; go_big_quiet_op; first | go_big_quiet_on | (apply Exists.intro; refine ⟨fun _ => ?_, ?_⟩; (· (((first | (go_at_call 157; exact Calls_since (S_l2Ints _ x.vals y.vals _ _ (Rd.bw rInts_good hix' (Since.bw _)) (Rd.bw rInts_good hiy' (Since.bw _)))))))); go_big_quiet_on)))
          refine wpQuiet_nil ?_
          rintro ⟨wq, hbq⟩
          dsimp only at *
          go_wp2
          go_ret
          exact Ret.bool (by simpa using ne_of_at HX.out HY.out HXY.out) (hbA.then hbq)
      · go_wp2
        go_ret
        exact Ret.bool (by simpa using eq_of_take HE.out (by rw [← L1.out]; omega) (by rw [← L2.out]; omega)) hb
  · go_enter Try.func78, Try.ntmps78
    go_wp2
    go_ret
    exact Ret.bool (by simp; intro e; exact hl (by rw [L1.out, L2.out, e])) (Bw.refl _)
set_option maxRecDepth 100000 in
set_option maxHeartbeats 3200000 in
theorem S_EqualExpressions (w : World) (xs ys : List GNode) (v1 v2 : Value) (h1 : Rd rNodes w xs [v1]) (h2 : Rd rNodes w ys [v2]) :
    Calls Try.prog 49 #[v1, v2] w (Ret w (.bool (decide (xs = ys)))) := by
  obtain ⟨A1, n1, c1, rfl, a1, a2, a3⟩ := rSl_open h1
  obtain ⟨A2, n2, c2, rfl, b1, b2, b3⟩ := rSl_open h2
  unfold maxLen at a3 b3
  have L1 := Lib.hid a1
  have L2 := Lib.hid b1
  clear a1 b1
  by_cases hl : n1 = n2
  · subst hl
    go_enter Try.func49, Try.ntmps49
    go_wp2
    go_loopw [5] (fun i w' => ∃ k : Nat, k ≤ n1 ∧ i = .int .i64 k ∧ xs.take k = ys.take k ∧ Bw w w') (fun i _ => n1 - (intOf i).toNat)
    case atStart => exact ⟨0, by omega, rfl, by simp, Bw.refl _⟩
    case round =>
      obtain ⟨k, hk, rfl, he, hb⟩ := hrel
      have HE := Lib.hid he
      clear he
      by_cases hlt : k < n1
      · obtain ⟨x, hx⟩ := get_of_lt (xs := xs) (k := k) (by rw [← L1.out]; exact hlt)
        obtain ⟨y, hy⟩ := get_of_lt (xs := ys) (k := k) (by rw [← L2.out]; exact hlt)
        obtain ⟨ba, oa, Alx, clx, Apx, cpx, rfl, _, p0, p1, p2, p3, p4, p5, hix, hjx⟩ := rNodes_at (h1.bw rNodes_good hb) hx
        obtain ⟨bb, ob, Aly, cly, Apy, cpy, rfl, _, q0, q1, q2, q3, q4, q5, hiy, hjy⟩ := rNodes_at (h2.bw rNodes_good hb) hy
        have HX := Lib.hid hx
        have HY := Lib.hid hy
        have i1 : (0 : Int) ≤ (k : Int) := by omega
        have i2 : (k : Int) < (n1 : Int) := by omega
        have hbA := hb
        have hix' : Rd rInts wr _ _ := hix; have hiy' : Rd rInts wr _ _ := hiy; have hjx' : Rd rPairs wr _ _ := hjx; have hjy' : Rd rPairs wr _ _ := hjy; have s0 := since_cell p0; have s1 := since_cell p1; have s2 := since_cell p2; have s3 := since_cell p3; have s4 := since_cell p4; have s5 := since_cell p5; have r0 := since_cell q0; have r1 := since_cell q1; have r2 := since_cell q2; have r3 := since_cell q3; have r4 := since_cell q4; have r5 := since_cell q5; clear p0 p1 p2 p3 p4 p5 q0 q1 q2 q3 q4 q5
        clear hx hy h1 h2
        by_cases e1 : x.op = y.op
        · have a1 : (x.op == y.op) = true := by simpa using e1
          have b1 : (x.op != y.op) = false := by simpa using e1
          have E1 := Lib.hid e1
          clear e1
          rcases Bool.eq_false_or_eq_true (decide (x.wish = y.wish)) with hd | hd
          · have HD := Lib.hid hd
            have HXY := Lib.hid (show x = y by have := E1.out; have h2 := HD.out; cases x; cases y; simp_all)
            clear HD
            go_wp2
            refine wp_region_since (by kernel_rfl) (by kernel_rfl) ?_
            repeat (first | go_big_quiet_skip | (go_big_quiet_want; go_big_quiet_op; first | go_big_quiet_on | (apply Exists.intro; refine ⟨fun _ => ?_, ?_⟩; (· (((first | (go_at_call 141; exact Calls_since (Calls_weak (S_l5SameWish _ x.wish y.wish _ _ _ _ (Rd.bw rInts_good hix' (Since.bw _)) (Rd.bw rInts_good hiy' (Since.bw _)) (Rd.bw rPairs_good hjx' (Since.bw _)) (Rd.bw rPairs_good hjy' (Since.bw _))) (congrArg Value.bool hd))))))); go_big_quiet_on)))
            refine wpQuiet_nil ?_
            rintro ⟨wq, hbq⟩
            dsimp only at *
            go_wp2
            go_roundw
            case rel => exact ⟨k + 1, by omega, by go_num, take_step HE.out HX.out HY.out HXY.out, hbA.then hbq⟩
            case measure => simp [intOf]; omega
          · have HD := Lib.hid hd
            have HXY := Lib.hid (show x ≠ y by rintro rfl; have h2 := HD.out; simp at h2)
            clear HD
            go_wp2
            refine wp_region_since (by kernel_rfl) (by kernel_rfl) ?_
            repeat (first | go_big_quiet_skip | (go_big_quiet_want; go_big_quiet_op; first | go_big_quiet_on | (apply Exists.intro; refine ⟨fun _ => ?_, ?_⟩; (· (((first | (go_at_call 141; exact Calls_since (Calls_weak (S_l5SameWish _ x.wish y.wish _ _ _ _ (Rd.bw rInts_good hix' (Since.bw _)) (Rd.bw rInts_good hiy' (Since.bw _)) (Rd.bw rPairs_good hjx' (Since.bw _)) (Rd.bw rPairs_good hjy' (Since.bw _))) (congrArg Value.bool hd))))))); go_big_quiet_on)))
            refine wpQuiet_nil ?_
            rintro ⟨wq, hbq⟩
            dsimp only at *
            go_wp2
            go_ret
            exact Ret.bool (by simpa using ne_of_at HX.out HY.out HXY.out) (hbA.then hbq)
        · have a1 : (x.op == y.op) = false := by simpa using e1
          have b1 : (x.op != y.op) = true := by simpa using e1
          have HXY := Lib.hid (show x ≠ y by rintro rfl; exact e1 rfl)
          clear e1
          go_wp2
          refine wp_region_since (by kernel_rfl) (by kernel_rfl) ?_
          repeat (first | go_big_quiet_skip | (go_big_quiet_want; go_big_quiet_op; first | go_big_quiet_on | (apply Exists.intro; refine ⟨fun _ => ?_, ?_⟩; (· (((first | (go_at_call 141; exact Calls_since (S_l5SameWish _ x.wish y.wish _ _ _ _ (Rd.bw rInts_good hix' (Since.bw _)) (Rd.bw rInts_good hiy' (Since.bw _)) (Rd.bw rPairs_good hjx' (Since.bw _)) (Rd.bw rPairs_good hjy' (Since.bw _)))))))); go_big_quiet_on)))
          refine wpQuiet_nil ?_
          rintro ⟨wq, hbq⟩
          dsimp only at *
          go_wp2
          go_ret
          exact Ret.bool (by simpa using ne_of_at HX.out HY.out HXY.out) (hbA.then hbq)
      · go_wp2
        go_ret
        exact Ret.bool (by simpa using eq_of_take HE.out (by rw [← L1.out]; omega) (by rw [← L2.out]; omega)) hb
  · go_enter Try.func49, Try.ntmps49
    go_wp2
    go_ret
    exact Ret.bool (by simp; intro e; exact hl (by rw [L1.out, L2.out, e])) (Bw.refl _)
end Go.Proofs.Ytfffklkiikmieaa
