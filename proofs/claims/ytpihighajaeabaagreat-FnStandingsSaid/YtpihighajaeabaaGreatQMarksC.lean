/- What the laws write into couples (or pairs), and what they find again. -/
import Derived.Test.YtpihighajaeabaaGreatQDrawN
import Derived.Test.YtpihighajaeabaaGreatQWishes3
import Derived.Test.YtpihighajaeabaaGreatQOwn3
import Derived.Test.YtpihighajaeabaaGreatQItems
namespace Go.Proofs.YtpihighajaeabaaGreat
open Go.RowKit
set_option linter.unusedVariables false
set_option linter.unusedSimpArgs false
theorem rd_keep {α : Type} {R : Rep α} (hR : Good R) {S : Blocks} {W W' : World} {x : α} {cs : List Value} (h : R W S x cs) (hS : ∀ b, S b → b < W.heap.size) (hk : ∀ b, b < W.heap.size → W'.heap[b]? = W.heap[b]?) : R W' S x cs :=
  hR.step ⟨fun _ hb => hb, fun q hq => World.cell?_of_block (hk _ (hS _ hq))⟩ h
theorem rd_only {α : Type} {R : Rep α} (hR : Good R) {S : Blocks} {W W' : World} {x : α} {cs : List Value} {F : List Nat} (h : R W S x cs) (hO : Only F W W') (hS : ∀ b, S b → b < W.heap.size ∧ b ∉ F) : R W' S x cs :=
  hR.step ⟨fun _ hb => hb, fun q hq => World.cell?_of_block (hO.2 _ (hS _ hq).1 (hS _ hq).2)⟩ h
theorem rd_wide {α : Type} {R : Rep α} (hR : Good R) {S S' : Blocks} {W : World} {x : α} {cs : List Value} (h : R W S x cs) (hS : ∀ b, S b → S' b) : R W S' x cs := hR.step ⟨hS, fun _ _ => rfl⟩ h
theorem gNodes_tot {n : Nat} {xs : List GNode} (hn : n ≤ 16) (h : gNodes n xs) : totNodes xs ≤ 1048576 := by
  have h2 := sum_le totNode 18 (l := xs) (fun x hx => by
    have h3 := (h.2 x hx).2.2.2.2
    have := h3.1.1
    have := h3.2.1
    unfold totNode totWish; omega)
  have h1 := h.1
  unfold totNodes; omega
/-- two expressions of the call's own -/
def D16 (B : Nat) (W : World) (v : Value) : Prop := ∃ vp vq a b c d, v = .tuple #[vp, vq] ∧ DB rNodes a b (gNodes 9) W vp ∧ DB rNodes c d (gNodes 9) W vq ∧ (B ≤ a ∧ B ≤ c) ∧ (b ≤ W.heap.size ∧ d ≤ W.heap.size) ∧ (b ≤ c ∨ d ≤ a)

end Go.Proofs.YtpihighajaeabaaGreat

namespace Go.Proofs.YtpihighajaeabaaGreat
open Go.RowKit
set_option linter.unusedVariables false

set_option maxRecDepth 100000 in
set_option maxHeartbeats 3200000 in
theorem slices_EqualFunc_nodes (w : World) (xs ys : List GNode) (v1 v2 : Value) (h1 : Rd rNodes w xs [v1]) (h2 : Rd rNodes w ys [v2]) :
    Calls Tryz.prog 271 #[v1, v2, .func (.func 272) #[] #[]] w (Ret w (.bool (decide (xs = ys)))) := by
  obtain ⟨A1, n1, c1, rfl, a1, a2, a3⟩ := rSl_open h1
  obtain ⟨A2, n2, c2, rfl, b1, b2, b3⟩ := rSl_open h2
  unfold maxLen at a3 b3
  have L1 := Lib.hid a1
  have L2 := Lib.hid b1
  clear a1 b1
  by_cases hl : n1 = n2
  · subst hl
    go_enter Tryz.func271, Tryz.ntmps271
    go_wp2
    go_loopw [17] (fun i w' => ∃ k : Nat, k ≤ n1 ∧ i = .int .i64 k ∧ xs.take k = ys.take k ∧ Bw w w') (fun i _ => n1 - (intOf i).toNat)
    case atStart => exact ⟨0, by omega, rfl, by simp, Bw.refl _⟩
    case round =>
      obtain ⟨k, hk, rfl, he, hb⟩ := hrel
      have HE := Lib.hid he
      clear he
      by_cases hlt : k < n1
      · obtain ⟨x, hx⟩ := get_of_lt (xs := xs) (k := k) (by rw [← L1.out]; exact hlt)
        obtain ⟨y, hy⟩ := get_of_lt (xs := ys) (k := k) (by rw [← L2.out]; exact hlt)
        obtain ⟨ba, oa, Alx, clx, Apx, cpx, rfl, _, p0, p1, p2, p3, p4, p5, hix, hjx⟩ := rNodes_at (h1.bw rNodes_good hb) hx
        obtain ⟨bb, ob, Aly, cly, Apy, cpy, rfl, _, q0, q1, q2, q3, q4, q5, hiy, hjy⟩ := rNodes_at (h2.bw rNodes_good hb) hy
        have HX := Lib.hid hx
        have HY := Lib.hid hy
        have D : Bw wr ((wr.alloc (.cells #[.int .i64 x.op, .int .i64 x.wish.kind, .int .i64 x.wish.field, .int .i64 x.wish.value, .slice Alx x.wish.list.length clx, .slice Apx x.wish.pairs.length cpx] 111)).alloc (.cells #[.int .i64 y.op, .int .i64 y.wish.kind, .int .i64 y.wish.field, .int .i64 y.wish.value, .slice Aly y.wish.list.length cly, .slice Apy y.wish.pairs.length cpy] 111)) := ((Bw.refl wr).alloc _).alloc _
        have hbx := World.block_lt_of_cell? _ _ p0
        have hby := World.block_lt_of_cell? _ _ q0
        clear hx hy h1 h2
        go_wp2_with fail
        refine (I_EqExpr1 _ x y _ _ _ _ (Rd.bw rInts_good hix D) (Rd.bw rInts_good hiy D) (Rd.bw rPairs_good hjx D) (Rd.bw rPairs_good hjy D)).mono ?_
        rintro e w2 ⟨rfl, hb2⟩
        have hbb : Bw w w2 := hb.then (D.then hb2)
        by_cases hxy : x = y
        · have HD : decide (x = y) = true := by simpa using hxy
          have HXY := Lib.hid hxy
          clear hxy
          go_wp2
          go_roundw
          case rel => exact ⟨k + 1, by omega, by go_num, take_step HE.out HX.out HY.out HXY.out, hbb⟩
          case measure => simp [intOf]; omega
        · have HD : decide (x = y) = false := by simpa using hxy
          go_wp2
          go_ret
          exact Ret.bool (by simpa using ne_of_at HX.out HY.out hxy) hbb
      · go_wp2
        go_ret
        exact Ret.bool (by simpa using eq_of_take HE.out (by rw [← L1.out]; omega) (by rw [← L2.out]; omega)) hb
  · go_enter Tryz.func271, Tryz.ntmps271
    go_wp2
    go_ret
    exact Ret.bool (by simp; intro e; exact hl (by rw [L1.out, L2.out, e])) (Bw.refl _)

set_option maxHeartbeats 400000 in
theorem I_EqualExpressions (w : World) (xs ys : List GNode) (v1 v2 : Value) (h1 : Rd rNodes w xs [v1]) (h2 : Rd rNodes w ys [v2]) :
    Calls Tryz.prog 236 #[v1, v2] w (Ret w (.bool (decide (xs = ys)))) := by
  go_enter Tryz.func236, Tryz.ntmps236
  go_wp2_with fail
  refine (slices_EqualFunc_nodes _ xs ys _ _ h1 h2).mono ?_
  rintro e w2 ⟨rfl, hb2⟩
  go_wp2
  go_ret
  exact Ret.bool (rfl) (hb2)
set_option maxRecDepth 100000 in
set_option maxHeartbeats 3200000 in
theorem S_EqualItems (w : World) (xs ys : List GItem) (v1 v2 : Value) (h1 : Rd rItems w xs [v1]) (h2 : Rd rItems w ys [v2]) :
    Calls Tryz.prog 89 #[v1, v2] w (Ret w (.bool (decide (xs = ys)))) := by
  obtain ⟨A1, n1, c1, rfl, a1, a2, a3⟩ := rSl_open h1
  obtain ⟨A2, n2, c2, rfl, b1, b2, b3⟩ := rSl_open h2
  unfold maxLen at a3 b3
  have L1 := Lib.hid a1
  have L2 := Lib.hid b1
  clear a1 b1
  by_cases hl : n1 = n2
  · subst hl
    go_enter Tryz.func89, Tryz.ntmps89
    go_wp2
    go_loopw [5] (fun i w' => ∃ k : Nat, k ≤ n1 ∧ i = .int .i64 k ∧ xs.take k = ys.take k ∧ Bw w w') (fun i _ => n1 - (intOf i).toNat)
    case atStart => exact ⟨0, by omega, rfl, by simp, Bw.refl _⟩
    case round =>
      obtain ⟨k, hk, rfl, he, hb⟩ := hrel
      have HE := Lib.hid he
      clear he
      by_cases hlt : k < n1
      · obtain ⟨x, hx⟩ := get_of_lt (xs := xs) (k := k) (by rw [← L1.out]; exact hlt)
        obtain ⟨y, hy⟩ := get_of_lt (xs := ys) (k := k) (by rw [← L2.out]; exact hlt)
        obtain ⟨ba, oa, Ax, cx, rfl, _, p0, p1, hix⟩ := rItems_at (h1.bw rItems_good hb) hx
        obtain ⟨bb, ob, Ay, cy, rfl, _, q0, q1, hiy⟩ := rItems_at (h2.bw rItems_good hb) hy
        have HX := Lib.hid hx
        have HY := Lib.hid hy
        have i1 : (0 : Int) ≤ (k : Int) := by omega
        have i2 : (k : Int) < (n1 : Int) := by omega
        have hbA := hb
        have hix' : Rd rInts wr _ _ := hix; have hiy' : Rd rInts wr _ _ := hiy; have s0 := since_cell p0; have s1 := since_cell p1; have s2 := since_cell q0; have s3 := since_cell q1; clear p0 p1 q0 q1
        clear hx hy h1 h2
        by_cases e1 : x.id = y.id
        · have a1 : (x.id == y.id) = true := by simpa using e1
          have b1 : (x.id != y.id) = false := by simpa using e1
          have E1 := Lib.hid e1
          clear e1
          rcases Bool.eq_false_or_eq_true (decide (x.vals = y.vals)) with hd | hd
          · have HD := Lib.hid hd
            have HXY := Lib.hid (show x = y by have := E1.out; have h2 := HD.out; cases x; cases y; simp_all)
            clear HD
            go_wp2
            refine wp_region_since (by kernel_rfl) (by kernel_rfl) ?_
            repeat (first | go_big_quiet_skip | (go_big_quiet_want; go_big_quiet_op; first | go_big_quiet_on | (apply Exists.intro; refine ⟨fun _ => ?_, ?_⟩; (· (((first | (go_at_call 91; exact Calls_since (Calls_weak (S_l2Ints _ x.vals y.vals _ _ (Rd.bw rInts_good hix' (Since.bw _)) (Rd.bw rInts_good hiy' (Since.bw _))) (congrArg Value.bool hd))))))); go_big_quiet_on)))
            refine wpQuiet_nil ?_
            rintro ⟨wq, hbq⟩
            dsimp only at *
            go_wp2
            go_roundw
            case rel => exact ⟨k + 1, by omega, by go_num, take_step HE.out HX.out HY.out HXY.out, hbA.then hbq⟩
            case measure => simp [intOf]; omega
          · have HD := Lib.hid hd
            have HXY := Lib.hid (show x ≠ y by rintro rfl; have h2 := HD.out; simp at h2)
            clear HD
            go_wp2
            refine wp_region_since (by kernel_rfl) (by kernel_rfl) ?_
            repeat (first | go_big_quiet_skip | (go_big_quiet_want; go_big_quiet_op; first | go_big_quiet_on | (apply Exists.intro; refine ⟨fun _ => ?_, ?_⟩; (· (((first | (go_at_call 91; exact Calls_since (Calls_weak (S_l2Ints _ x.vals y.vals _ _ (Rd.bw rInts_good hix' (Since.bw _)) (Rd.bw rInts_good hiy' (Since.bw _))) (congrArg Value.bool hd))))))); go_big_quiet_on)))
            refine wpQuiet_nil ?_
            rintro ⟨wq, hbq⟩
            dsimp only at *
            go_wp2
            go_ret
            exact Ret.bool (by simpa using ne_of_at HX.out HY.out HXY.out) (hbA.then hbq)
        · have a1 : (x.id == y.id) = false := by simpa using e1
          have b1 : (x.id != y.id) = true := by simpa using e1
          have HXY := Lib.hid (show x ≠ y by rintro rfl; exact e1 rfl)
          clear e1
          go_wp2
          refine wp_region_since (by kernel_rfl) (by kernel_rfl) ?_
          repeat (first | go_big_quiet_skip | (go_big_quiet_want; go_big_quiet_op; first | go_big_quiet_on | (apply Exists.intro; refine ⟨fun _ => ?_, ?_⟩; (· (((first | (go_at_call 91; exact Calls_since (S_l2Ints _ x.vals y.vals _ _ (Rd.bw rInts_good hix' (Since.bw _)) (Rd.bw rInts_good hiy' (Since.bw _)))))))); go_big_quiet_on)))
          refine wpQuiet_nil ?_
          rintro ⟨wq, hbq⟩
          dsimp only at *
          go_wp2
          go_ret
          exact Ret.bool (by simpa using ne_of_at HX.out HY.out HXY.out) (hbA.then hbq)
      · go_wp2
        go_ret
        exact Ret.bool (by simpa using eq_of_take HE.out (by rw [← L1.out]; omega) (by rw [← L2.out]; omega)) hb
  · go_enter Tryz.func89, Tryz.ntmps89
    go_wp2
    go_ret
    exact Ret.bool (by simp; intro e; exact hl (by rw [L1.out, L2.out, e])) (Bw.refl _)
set_option maxRecDepth 100000 in
set_option maxHeartbeats 3200000 in
theorem S_EqualExpressions (w : World) (xs ys : List GNode) (v1 v2 : Value) (h1 : Rd rNodes w xs [v1]) (h2 : Rd rNodes w ys [v2]) :
    Calls Tryz.prog 90 #[v1, v2] w (Ret w (.bool (decide (xs = ys)))) := by
  obtain ⟨A1, n1, c1, rfl, a1, a2, a3⟩ := rSl_open h1
  obtain ⟨A2, n2, c2, rfl, b1, b2, b3⟩ := rSl_open h2
  unfold maxLen at a3 b3
  have L1 := Lib.hid a1
  have L2 := Lib.hid b1
  clear a1 b1
  by_cases hl : n1 = n2
  · subst hl
    go_enter Tryz.func90, Tryz.ntmps90
    go_wp2
    go_loopw [5] (fun i w' => ∃ k : Nat, k ≤ n1 ∧ i = .int .i64 k ∧ xs.take k = ys.take k ∧ Bw w w') (fun i _ => n1 - (intOf i).toNat)
    case atStart => exact ⟨0, by omega, rfl, by simp, Bw.refl _⟩
    case round =>
      obtain ⟨k, hk, rfl, he, hb⟩ := hrel
      have HE := Lib.hid he
      clear he
      by_cases hlt : k < n1
      · obtain ⟨x, hx⟩ := get_of_lt (xs := xs) (k := k) (by rw [← L1.out]; exact hlt)
        obtain ⟨y, hy⟩ := get_of_lt (xs := ys) (k := k) (by rw [← L2.out]; exact hlt)
        obtain ⟨ba, oa, Alx, clx, Apx, cpx, rfl, _, p0, p1, p2, p3, p4, p5, hix, hjx⟩ := rNodes_at (h1.bw rNodes_good hb) hx
        obtain ⟨bb, ob, Aly, cly, Apy, cpy, rfl, _, q0, q1, q2, q3, q4, q5, hiy, hjy⟩ := rNodes_at (h2.bw rNodes_good hb) hy
        have HX := Lib.hid hx
        have HY := Lib.hid hy
        have i1 : (0 : Int) ≤ (k : Int) := by omega
        have i2 : (k : Int) < (n1 : Int) := by omega
        have hbA := hb
        have hix' : Rd rInts wr _ _ := hix; have hiy' : Rd rInts wr _ _ := hiy; have hjx' : Rd rPairs wr _ _ := hjx; have hjy' : Rd rPairs wr _ _ := hjy; have s0 := since_cell p0; have s1 := since_cell p1; have s2 := since_cell p2; have s3 := since_cell p3; have s4 := since_cell p4; have s5 := since_cell p5; have r0 := since_cell q0; have r1 := since_cell q1; have r2 := since_cell q2; have r3 := since_cell q3; have r4 := since_cell q4; have r5 := since_cell q5; clear p0 p1 p2 p3 p4 p5 q0 q1 q2 q3 q4 q5
        clear hx hy h1 h2
        by_cases e1 : x.op = y.op
        · have a1 : (x.op == y.op) = true := by simpa using e1
          have b1 : (x.op != y.op) = false := by simpa using e1
          have E1 := Lib.hid e1
          clear e1
          rcases Bool.eq_false_or_eq_true (decide (x.wish = y.wish)) with hd | hd
          · have HD := Lib.hid hd
            have HXY := Lib.hid (show x = y by have := E1.out; have h2 := HD.out; cases x; cases y; simp_all)
            clear HD
            go_wp2
            refine wp_region_since (by kernel_rfl) (by kernel_rfl) ?_
            repeat (first | go_big_quiet_skip | (go_big_quiet_want; go_big_quiet_op; first | go_big_quiet_on | (apply Exists.intro; refine ⟨fun _ => ?_, ?_⟩; (· (((first | (go_at_call 167; exact Calls_since (Calls_weak (S_l5SameWish _ x.wish y.wish _ _ _ _ (Rd.bw rInts_good hix' (Since.bw _)) (Rd.bw rInts_good hiy' (Since.bw _)) (Rd.bw rPairs_good hjx' (Since.bw _)) (Rd.bw rPairs_good hjy' (Since.bw _))) (congrArg Value.bool hd))))))); go_big_quiet_on)))
            refine wpQuiet_nil ?_
            rintro ⟨wq, hbq⟩
            dsimp only at *
            go_wp2
            go_roundw
            case rel => exact ⟨k + 1, by omega, by go_num, take_step HE.out HX.out HY.out HXY.out, hbA.then hbq⟩
            case measure => simp [intOf]; omega
          · have HD := Lib.hid hd
            have HXY := Lib.hid (show x ≠ y by rintro rfl; have h2 := HD.out; simp at h2)
            clear HD
            go_wp2
            refine wp_region_since (by kernel_rfl) (by kernel_rfl) ?_
            repeat (first | go_big_quiet_skip | (go_big_quiet_want; go_big_quiet_op; first | go_big_quiet_on | (apply Exists.intro; refine ⟨fun _ => ?_, ?_⟩; (· (((first | (go_at_call 167; exact Calls_since (Calls_weak (S_l5SameWish _ x.wish y.wish _ _ _ _ (Rd.bw rInts_good hix' (Since.bw _)) (Rd.bw rInts_good hiy' (Since.bw _)) (Rd.bw rPairs_good hjx' (Since.bw _)) (Rd.bw rPairs_good hjy' (Since.bw _))) (congrArg Value.bool hd))))))); go_big_quiet_on)))
            refine wpQuiet_nil ?_
            rintro ⟨wq, hbq⟩
            dsimp only at *
            go_wp2
            go_ret
            exact Ret.bool (by simpa using ne_of_at HX.out HY.out HXY.out) (hbA.then hbq)
        · have a1 : (x.op == y.op) = false := by simpa using e1
          have b1 : (x.op != y.op) = true := by simpa using e1
          have HXY := Lib.hid (show x ≠ y by rintro rfl; exact e1 rfl)
          clear e1
          go_wp2
          refine wp_region_since (by kernel_rfl) (by kernel_rfl) ?_
          repeat (first | go_big_quiet_skip | (go_big_quiet_want; go_big_quiet_op; first | go_big_quiet_on | (apply Exists.intro; refine ⟨fun _ => ?_, ?_⟩; (· (((first | (go_at_call 167; exact Calls_since (S_l5SameWish _ x.wish y.wish _ _ _ _ (Rd.bw rInts_good hix' (Since.bw _)) (Rd.bw rInts_good hiy' (Since.bw _)) (Rd.bw rPairs_good hjx' (Since.bw _)) (Rd.bw rPairs_good hjy' (Since.bw _)))))))); go_big_quiet_on)))
          refine wpQuiet_nil ?_
          rintro ⟨wq, hbq⟩
          dsimp only at *
          go_wp2
          go_ret
          exact Ret.bool (by simpa using ne_of_at HX.out HY.out HXY.out) (hbA.then hbq)
      · go_wp2
        go_ret
        exact Ret.bool (by simpa using eq_of_take HE.out (by rw [← L1.out]; omega) (by rw [← L2.out]; omega)) hb
  · go_enter Tryz.func90, Tryz.ntmps90
    go_wp2
    go_ret
    exact Ret.bool (by simp; intro e; exact hl (by rw [L1.out, L2.out, e])) (Bw.refl _)
end Go.Proofs.YtpihighajaeabaaGreat

namespace Go.Proofs.YtpihighajaeabaaGreat
open Go.RowKit
set_option linter.unusedVariables false
set_option linter.unusedSimpArgs false
def fStanding : Fp GStanding := fun w x cs F => ∃ va vb vc Fa Fb Fc, cs = [va, vb, vc, .int .i64 x.tests] ∧ fItems w x.items [va] Fa ∧ fNodes w x.wanted [vb] Fb ∧ fInts w x.best [vc] Fc ∧ F = Fa ++ (Fb ++ Fc)
theorem eqStanding_dec (x y : GStanding) : decide (x = y) = (decide (x.items = y.items) && (decide (x.wanted = y.wanted) && (decide (x.best = y.best) && decide (x.tests = y.tests)))) := by rw [Bool.eq_iff_iff]; simp [GStanding.eq_iff]


set_option maxRecDepth 100000 in
set_option maxHeartbeats 1600000 in
theorem S_EqualStandings (w : World) (x y : GStanding) (va vb vc ua ub uc : Value) (ha : Rd rItems w x.items [va]) (hb : Rd rNodes w x.wanted [vb]) (hc : Rd rInts w x.best [vc]) (ka : Rd rItems w y.items [ua]) (kb : Rd rNodes w y.wanted [ub]) (kc : Rd rInts w y.best [uc]) :
    Calls Tryz.prog 15 #[.agg #[va, vb, vc, .int .i64 x.tests], .agg #[ua, ub, uc, .int .i64 y.tests]] w (Ret w (.bool (decide (x = y)))) := by
  have B0 : Bw w ((w.alloc (.cells #[va, vb, vc, .int .i64 x.tests] 28)).alloc (.cells #[ua, ub, uc, .int .i64 y.tests] 28)) := ((Bw.refl w).alloc _).alloc _
  rw [eqStanding_dec]
  have H1 := Lib.hid (show x.items = y.items ∨ x.items ≠ y.items from Decidable.em _)
  go_enter Tryz.func15, Tryz.ntmps15
  go_wp2_with fail
  refine (S_EqualItems _ x.items y.items _ _ (ha.bw rItems_good B0) (ka.bw rItems_good B0)).mono ?_
  rintro e w1 ⟨rfl, hb1⟩
  have p0 : w1.cell? ⟨w.heap.size, 0, none⟩ = some (va) := hb1.cell (by go_simp)
  have p1 : w1.cell? ⟨w.heap.size, 1, none⟩ = some (vb) := hb1.cell (by go_simp)
  have p2 : w1.cell? ⟨w.heap.size, 2, none⟩ = some (vc) := hb1.cell (by go_simp)
  have p3 : w1.cell? ⟨w.heap.size, 3, none⟩ = some (.int .i64 x.tests) := hb1.cell (by go_simp)
  have q0 : w1.cell? ⟨w.heap.size + 1, 0, none⟩ = some (ua) := hb1.cell (by go_simp)
  have q1 : w1.cell? ⟨w.heap.size + 1, 1, none⟩ = some (ub) := hb1.cell (by go_simp)
  have q2 : w1.cell? ⟨w.heap.size + 1, 2, none⟩ = some (uc) := hb1.cell (by go_simp)
  have q3 : w1.cell? ⟨w.heap.size + 1, 3, none⟩ = some (.int .i64 y.tests) := hb1.cell (by go_simp)
  have B1 := B0.then hb1
  rcases Bool.eq_false_or_eq_true (decide (x.items = y.items)) with e1 | e1
  · have E1 := Lib.hid e1
    rw [show decide (x.items = y.items) = true from E1.out]
    clear e1
    go_wp2_with fail
    refine (S_EqualExpressions _ x.wanted y.wanted _ _ (hb.bw rNodes_good B1) (kb.bw rNodes_good B1)).mono ?_
    rintro e w2 ⟨rfl, hb2⟩
    replace p2 := hb2.cell p2
    replace p3 := hb2.cell p3
    replace q2 := hb2.cell q2
    replace q3 := hb2.cell q3
    replace B1 := B1.then hb2
    rcases Bool.eq_false_or_eq_true (decide (x.wanted = y.wanted)) with e2 | e2
    · have E2 := Lib.hid e2
      rw [show decide (x.wanted = y.wanted) = true from E2.out]
      clear e2
      go_wp2_with fail
      refine (S_l2Ints _ x.best y.best _ _ (hc.bw rInts_good B1) (kc.bw rInts_good B1)).mono ?_
      rintro e w3 ⟨rfl, hb3⟩
      replace p3 := hb3.cell p3
      replace q3 := hb3.cell q3
      replace B1 := B1.then hb3
      rcases Bool.eq_false_or_eq_true (decide (x.best = y.best)) with e3 | e3
      · have E3 := Lib.hid e3
        rw [show decide (x.best = y.best) = true from E3.out]
        clear e3
        by_cases e4 : x.tests = y.tests
        · have a4 : (x.tests == y.tests) = true := by simpa using e4
          have b4 : (x.tests != y.tests) = false := by simpa using e4
          have E4 := Lib.hid e4
          clear e4
          go_wp2
          go_ret
          exact Ret.bool (by simp [E1.out, E2.out, E3.out, E4.out]) (B1)
        · have a4 : (x.tests == y.tests) = false := by simpa using e4
          have b4 : (x.tests != y.tests) = true := by simpa using e4
          have E4 := Lib.hid e4
          clear e4
          go_wp2
          go_ret
          exact Ret.bool (by simp [E4.out]) (B1)
      · have E3 := Lib.hid e3
        rw [show decide (x.best = y.best) = false from E3.out]
        clear e3
        go_wp2
        go_ret
        exact Ret.bool (by simp [E3.out]) (B1)
    · have E2 := Lib.hid e2
      rw [show decide (x.wanted = y.wanted) = false from E2.out]
      clear e2
      go_wp2
      go_ret
      exact Ret.bool (by simp [E2.out]) (B1)
  · have E1 := Lib.hid e1
    rw [show decide (x.items = y.items) = false from E1.out]
    clear e1
    go_wp2
    go_ret
    exact Ret.bool (by simp [E1.out]) (B1)
theorem szM_pos {m : Int} {a : Nat} (h : ¬ m < a) : szM m a = m - a := if_neg h
theorem szM_min {m : Int} {a : Nat} (h : m < a) : szM m a = -1 := if_pos h

end Go.Proofs.YtpihighajaeabaaGreat

namespace Go.Proofs.YtpihighajaeabaaGreat
open Go.RowKit
set_option linter.unusedVariables false
theorem all3_upd2 {α : Type} {R R' : α → List Value → List Nat → Prop} {x' : α} {u u' : List Value} {f : List Nat} (hR' : R' x' u' f) (hi : ∀ x u f', (∀ a ∈ f', a ∉ f) → R x u f' → R' x u f') :
    ∀ {xs : List α} {us : List (List Value)} {Fs : List (List Nat)} {i : Nat}, all3 R xs us Fs → us[i]? = some u → Fs[i]? = some f → Fs.flatten.Nodup → all3 R' (xs.set i x') (us.set i u') Fs
  | x :: xs, v :: us, g :: Fs, 0, h, hu, hf, hn => by
    simp at hu hf
    subst hu hf
    rw [List.flatten_cons, List.nodup_append] at hn
    exact ⟨hR', all3_imp (fun x u f' hf' hx => hi x u f' (fun a ha hb => hn.2.2 a hb a (List.mem_flatten.2 ⟨_, hf', ha⟩) rfl) hx) h.2⟩
  | x :: xs, v :: us, g :: Fs, i + 1, h, hu, hf, hn => by
    simp at hu hf
    rw [List.flatten_cons, List.nodup_append] at hn
    refine ⟨hi _ _ _ (fun a ha hb => hn.2.2 a ha a (List.mem_flatten.2 ⟨f, List.mem_iff_getElem?.2 ⟨i, hf⟩, hb⟩) rfl) h.1, all3_upd2 hR' hi (xs := xs) h.2 hu hf hn.2.1⟩
  | [], [], [], _, _, hu, _, _ => by simp at hu
  | [], _ :: _, _, _, h, _, _, _ | [], [], _ :: _, _, h, _, _, _ | _ :: _, [], _, _, h, _, _, _ | _ :: _, _ :: _, [], _, h, _, _, _ => h.elim
theorem nodup_part {f : List Nat} : ∀ {Fs : List (List Nat)}, Fs.flatten.Nodup → f ∈ Fs → f.Nodup
  | g :: Fs, h, hm => by
    rw [List.flatten_cons, List.nodup_append] at h
    rcases List.mem_cons.1 hm with rfl | hm
    · exact h.1
    · exact nodup_part h.2.1 hm
theorem set_same {α : Type} {l : List α} {i : Nat} {x : α} (h : l[i]? = some x) : l.set i x = l := by
  apply List.ext_getElem?
  intro j
  rw [List.getElem?_set]
  by_cases hj : i = j
  · subst hj; rw [if_pos rfl, if_pos (List.getElem?_eq_some_iff.1 h).1, h]
  · rw [if_neg hj]
/-- an item among owned ones: its cells, its values, and the way back -/
theorem fItems_focus {B g n c i : Nat} {w : World} {xs : List GItem} {F : List Nat} (hv : fItems w xs [.slice (some ⟨g, 0, none⟩) n c] F) (hF : Fresh B F) {x : GItem} (hx : xs[i]? = some x) :
    ∃ A' c' f, w.cell? ⟨g, i * 2, none⟩ = some (.int .i64 x.id) ∧ w.cell? ⟨g, i * 2 + 1, none⟩ = some (.slice A' x.vals.length c') ∧ fInts w x.vals [.slice A' x.vals.length c'] f ∧ Fresh B f ∧ (∀ b ∈ f, b ∈ F ∧ b ≠ g) ∧
      (∀ w' ys, Only f w w' → fInts w' ys [.slice A' x.vals.length c'] f → fItems w' (xs.set i ⟨x.id, ys⟩) [.slice (some ⟨g, 0, none⟩) n c] F) ∧
      (∀ z : Int, w.grownBy (w.setCell ⟨g, i * 2, none⟩ (.int .i64 z)) (some g) ∧ fItems (w.setCell ⟨g, i * 2, none⟩ (.int .i64 z)) (xs.set i ⟨z, x.vals⟩) [.slice (some ⟨g, 0, none⟩) n c] F) := by
  have hlt := (fItems_good (B := 0)).lt hv
  obtain ⟨v, us, Fs, hv0, hown, hall, hFe⟩ := hv
  injection hv0 with hv0
  subst hv0
  obtain ⟨u, f, hu, hf, ⟨vv, rfl, hin⟩, hul⟩ := all3_at hall hx
  obtain ⟨A', c', rfl, _⟩ := rSl_shape (fInts_Rd hin)
  have hfF : ∀ a ∈ f, a ∈ F := fun a ha => by rw [hFe]; exact List.mem_append_right _ (List.mem_flatten.2 ⟨f, List.mem_iff_getElem?.2 ⟨i, hf⟩, ha⟩)
  have hnd := hF.nodup
  rw [hFe, List.nodup_append] at hnd
  have hFg : ∀ b ∈ Fs.flatten, b ≠ g := fun b hb e => hnd.2.2 g (by simp [Value.ownBlock]) b hb e.symm
  have hgF : g ∈ F := by rw [hFe]; simp [Value.ownBlock]
  have hfn : ∀ a ∈ f, a ∈ Fs.flatten := fun a ha => List.mem_flatten.2 ⟨f, List.mem_iff_getElem?.2 ⟨i, hf⟩, ha⟩
  have hfd : f.Nodup := nodup_part hnd.2.1 (List.mem_iff_getElem?.2 ⟨i, hf⟩)
  have hus : ∀ u ∈ us, u.length = 2 := fun u hu => by obtain ⟨x, f, hr⟩ := all3_mem_us hall hu; exact hr.2
  have hl := all3_len hall
  have hil : i < us.length := (List.getElem?_eq_some_iff.1 hu).1
  obtain ⟨A, cc, eA, _, _, hcells⟩ := ownsRow_rSl hown hl.1 hus
  injection eA with eA _ _
  subst eA
  obtain ⟨b1, eb, _, hc⟩ := hcells i _ hu
  injection eb with eb
  injection eb with eb _ _
  subst eb
  have hc0 := hc 0 _ rfl
  have hc1 := hc 1 _ rfl
  rw [Nat.zero_add] at hc0 hc1
  have hn : n = xs.length := by
    rcases hown.2 with ⟨h, _⟩ | ⟨g', cap, cur, h, _⟩
    · cases h
    · injection h
  subst hn
  have hallb : all3 (fun x u f => (fItem w x u f ∧ u.length = 2) ∧ ∀ a ∈ f, a ∈ Fs.flatten) xs us Fs := all3_imp (fun x u f' hf' hx => ⟨hx, fun a ha => List.mem_flatten.2 ⟨f', hf', ha⟩⟩) hall
  have hFlt : ∀ a ∈ Fs.flatten, a < w.heap.size := fun a ha => hlt a (by rw [hFe]; exact List.mem_append_right _ ha)
  refine ⟨A', c', f, by simpa using hc0, hc1, hin, ⟨hfd, fun a ha => hF.ge a (hfF a ha)⟩, fun b hb => ⟨hfF b hb, hFg b (hfn b hb)⟩, ?_, ?_⟩
  · intro w' ys hO hys
    refine ⟨_, us, Fs, rfl, ?_, ?_, hFe⟩
    · rw [List.length_set]
      exact ownsRow_heap hown fun a ha => by
        have : a = g := by simpa [Value.ownBlock] using ha.symm
        subst this
        exact hO.2 _ (hlt _ hgF) (fun hm => hFg _ (hfn _ hm) rfl)
    · have hset : us.set i [.int .i64 x.id, .slice A' x.vals.length c'] = us := set_same hu
      rw [← hset]
      refine all3_upd2 (R := fun x u f => (fItem w x u f ∧ u.length = 2) ∧ ∀ a ∈ f, a ∈ Fs.flatten) (f := f) (u := [.int .i64 x.id, .slice A' x.vals.length c']) ⟨⟨_, rfl, hys⟩, rfl⟩ (fun x u f' hd hx => ⟨hO.keeps (fItem_good (B := 0)) hx.1.1 (fun b hb => hd b hb), hx.1.2⟩) hallb hu hf hnd.2.1
  · intro z
    obtain ⟨hs1, hgr⟩ := hown.stored (i * 2) (.int .i64 z)
    have e2 : us.flatten.set (i * 2) (.int .i64 z) = (us.set i [.int .i64 z, .slice A' x.vals.length c']).flatten := by
      rw [← setMany_flatten hus rfl hil]
      simp only [setMany]
      refine (set_same ?_).symm
      rw [List.getElem?_set, if_neg (by omega)]
      exact flatten_at (j := 1) hus hu (by omega)
    rw [e2] at hs1
    refine ⟨hgr, ⟨_, us.set i [.int .i64 z, .slice A' x.vals.length c'], Fs, rfl, by rw [List.length_set]; exact hs1, ?_, hFe⟩⟩
    have hkeep : ∀ {x : GItem} {u : List Value} {f' : List Nat}, (∀ a ∈ f', a ∈ Fs.flatten) → fItem w x u f' → fItem (w.setCell ⟨g, i * 2, none⟩ (.int .i64 z)) x u f' := fun ha hx => (fItem_good (B := 0)).step (fun b hb => by
      rcases hb with hb | hb
      · exact hgr.block _ (hFlt _ (ha b hb)) (fun e => by injection e with e; exact hFg b (ha b hb) e)
      · omega) hx
    have hin2 : fInts (w.setCell ⟨g, i * 2, none⟩ (.int .i64 z)) x.vals [.slice A' x.vals.length c'] f := (fInts_good (B := 0)).step (fun b hb => by
      rcases hb with hb | hb
      · exact hgr.block _ (hFlt _ (hfn b hb)) (fun e => by injection e with e; exact hFg b (hfn b hb) e)
      · omega) hin
    exact all3_upd2 (R := fun x u f => (fItem w x u f ∧ u.length = 2) ∧ ∀ a ∈ f, a ∈ Fs.flatten) (f := f) (u := [.int .i64 x.id, .slice A' x.vals.length c']) ⟨⟨_, rfl, hin2⟩, rfl⟩ (fun x u f' hd hx => ⟨hkeep hx.2 hx.1.1, hx.1.2⟩) hallb hu hf hnd.2.1
def mkItems : List GItem → Nat → List GItem
  | [], _ => []
  | x :: xs, k => ⟨k, mkInts x.vals (k + 1)⟩ :: mkItems xs (k + 1 + x.vals.length)
theorem mkItems_length : ∀ (xs : List GItem) (k : Nat), (mkItems xs k).length = xs.length
  | [], _ => rfl
  | _ :: xs, k => by rw [mkItems, List.length_cons, mkItems_length xs, List.length_cons]
theorem mkItems_at : ∀ {xs : List GItem} {k j : Nat} {x : GItem}, xs[j]? = some x → (mkItems xs k)[j]? = some ⟨((k + totItems (xs.take j) : Nat) : Int), mkInts x.vals (k + totItems (xs.take j) + 1)⟩
  | y :: xs, k, 0, x, h => by simp at h; subst h; simp [mkItems, totItems, sumL]
  | y :: xs, k, j + 1, x, h => by
    simp only [mkItems, List.getElem?_cons_succ]
    rw [mkItems_at (by simpa using h)]
    have e : k + 1 + y.vals.length + totItems (xs.take j) = k + totItems ((y :: xs).take (j + 1)) := by
      simp only [totItems, List.take_succ_cons, List.length_cons, sumL]; omega
    rw [e]
  | [], _, _, _, h => by simp at h
theorem tot_take_succ {xs : List GItem} {j : Nat} {x : GItem} (h : xs[j]? = some x) : totItems (xs.take (j + 1)) = totItems (xs.take j) + (1 + x.vals.length) := by
  have hs : ∀ (l : List GItem) (y : GItem), sumL (fun x => x.vals.length) (l ++ [y]) = sumL (fun x => x.vals.length) l + y.vals.length := fun l y => by
    induction l with
    | nil => simp [sumL]
    | cons a l ih => simp only [List.cons_append, sumL, ih]; omega
  rw [List.take_add_one, h]
  simp only [totItems, Option.toList_some, List.length_append, List.length_singleton, hs]; omega
theorem tot_take_le (xs : List GItem) (j : Nat) : totItems (xs.take j) ≤ totItems xs := by
  have : ∀ (l m : List GItem), sumL (fun x => x.vals.length) l ≤ sumL (fun x => x.vals.length) (l ++ m) := fun l m => by
    induction l with
    | nil => simp [sumL]
    | cons a l ih => simp only [List.cons_append, sumL]; omega
  have h1 := this (xs.take j) (xs.drop j)
  rw [List.take_append_drop] at h1
  unfold totItems
  have : (xs.take j).length ≤ xs.length := by rw [List.length_take]; omega
  omega


end Go.Proofs.YtpihighajaeabaaGreat

namespace Go.Proofs.YtpihighajaeabaaGreat
open Go.RowKit
set_option linter.unusedVariables false
def mkPairs : List GPair → Nat → List GPair
  | [], _ => []
  | _ :: xs, k => ⟨(k : Int), ((k + 1 : Nat) : Int)⟩ :: mkPairs xs (k + 2)
theorem mkPairs_length : ∀ (xs : List GPair) (k : Nat), (mkPairs xs k).length = xs.length
  | [], _ => rfl
  | _ :: xs, k => by rw [mkPairs, List.length_cons, mkPairs_length xs, List.length_cons]
theorem mkPairs_at : ∀ {xs : List GPair} {k j : Nat}, j < xs.length → (mkPairs xs k)[j]? = some ⟨((k + 2 * j : Nat) : Int), ((k + 2 * j + 1 : Nat) : Int)⟩
  | [], _, _, h => by simp at h
  | _ :: xs, k, 0, _ => rfl
  | _ :: xs, k, j + 1, h => by
    simp only [mkPairs, List.getElem?_cons_succ]; rw [mkPairs_at (by simpa using h)]
    rw [show k + 2 + 2 * j = k + 2 * (j + 1) by omega]
theorem all3_nilsP {w : World} : ∀ {xs : List GPair} {us : List (List Value)} {Fs : List (List Nat)}, all3 (fun x u f => fPair w x u f ∧ u.length = 2) xs us Fs → Fs.flatten = []
  | [], [], [], _ => rfl
  | _ :: xs, _ :: us, f :: Fs, h => by rw [List.flatten_cons, h.1.1.2, all3_nilsP (xs := xs) h.2]; rfl
  | [], _ :: _, _, h | [], [], _ :: _, h | _ :: _, [], _, h | _ :: _, _ :: _, [], h => h.elim
theorem fPairs_foot {e : TypeId} {w : World} {xs : List GPair} {v : Value} {f : List Nat} (h : fSl e 2 fPair w xs [v] f) : f = v.ownBlock.toList := by
  obtain ⟨v', us, Fs, hv, _, hall, hF⟩ := h
  injection hv with hv
  subst hv
  rw [hF, all3_nilsP hall, List.append_nil]
end Go.Proofs.YtpihighajaeabaaGreat
