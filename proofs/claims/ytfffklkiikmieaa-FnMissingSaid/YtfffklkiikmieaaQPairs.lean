/- Slices of structs of two integers (couples, pairs). -/
import Derived.Test.YtfffklkiikmieaaQInts
import Derived.StillTailTactics
namespace Go.Proofs.Ytfffklkiikmieaa
open Go.RowKit
set_option linter.unusedVariables false
theorem info_Pair : (Try.prog.info? 161).map (fun i => (i.zero, i.size, i.bytes)) = some (some (.agg #[.int .i64 0, .int .i64 0]), 2, 16) := by kernel_rfl
abbrev fPairs : Fp (List GPair) := fSl 161 2 fPair
theorem fPairs_good {B : Nat} : GoodF B fPairs := fSl_good fPair_good
theorem fPairs_rd {B : Nat} {w : World} {xs : List GPair} {cs : List Value} {F : List Nat} (h : fPairs w xs cs F) : rPairs w (fun b => b ∈ F ∨ b < B) xs cs := fSl_rd rPair_good (fun _ _ _ h => fPair_rd h) h
theorem fPairs_Rd {w : World} {xs : List GPair} {cs : List Value} {F : List Nat} (h : fPairs w xs cs F) : Rd rPairs w xs cs := Rd.of rPairs_good (B := 0) (fPairs_rd h) ((fPairs_good (B := 0)).lt h) (Nat.zero_le _)
set_option maxHeartbeats 400000 in
theorem L_toPair (w : World) (a b : Int) : Calls Try.prog 225 #[.agg #[.int .i64 a, .int .i64 b]] w (Ret w (.agg #[.int .i64 a, .int .i64 b])) := by
  go_enter Try.func225, Try.ntmps225
  go_wp2
  exact bodyPost_ret (v := .agg #[.int .i64 a, .int .i64 b]) (by simp [results, Try.results225, go_sem]) rfl ⟨rfl, (((Bw.refl _).alloc _).alloc _).alloc _⟩
set_option maxHeartbeats 400000 in
theorem L_toPairS (w : World) (xs : List GPair) (v : Value) (h : Rd rPairs w xs [v]) (hn : xs.length ≤ 1048576) :
    Calls Try.prog 209 #[v] w (RetV w (Made fPairs w.heap.size xs)) := by
  obtain ⟨i0, hi, hz0, hz1, hz2⟩ := info_parts info_Pair
  obtain ⟨A, n, c, rfl, a1, a2, a3⟩ := rSl_open h
  rw [← a1] at hn
  have L1 := Lib.hid a1
  clear a1
  go_enter Try.func209, Try.ntmps209
  go_wp2_with (at_make; refine wpList_make_full _ rfl _ _ 73 rfl w.heap.size 161 i0 _ 2 Try.underlying73 hi hz0 hz1 .i64 .i64 _ _ n rfl rfl rfl rfl (by rw [hz2]; omega) (by simp only [maxLen]; omega) (Nat.le_refl _) ?_; intro w1 hown hgrow)
  have hb1 : Bw w w1 := (Bw.refl w).grown hgrow (fun k hk => by cases hk)
  have hv1 := fSl_made (R := fPair) (⟨0, 0⟩ : GPair) hown rfl ⟨rfl, rfl⟩
  clear hown hgrow
  go_loopw [4] (fun i w' => ∃ k : Nat, k ≤ n ∧ i = .int .i64 k ∧ Bw w w' ∧ ∃ F, fPairs w' (xs.take k ++ List.replicate (n - k) ⟨0, 0⟩) [.slice (some ⟨w.heap.size, 0, none⟩) n n] F ∧ Fresh w.heap.size F) (fun i _ => n - (intOf i).toNat)
  case atStart => exact ⟨0, by omega, rfl, hb1, _, by simpa using hv1, by simp, by simp⟩
  case round =>
    obtain ⟨k, hk, rfl, hb, F, hv, hF⟩ := hrel
    by_cases hlt : k < n
    · obtain ⟨x, hx⟩ := get_of_lt (xs := xs) (k := k) (by rw [← L1.out]; exact hlt)
      obtain ⟨ba, oa, rfl, _, hcx, hcx1⟩ := rPairs_at (h.bw rPairs_good hb) hx
      go_wp2_with fail
      refine (L_toPair _ x.fst x.snd).mono ?_
      rintro e w2 ⟨rfl, hb2⟩
      have hv2 := (fPairs_good (B := w.heap.size)).step (fun b hbF => Below.block hb2 b (hbF.elim ((fPairs_good (B := 0)).lt hv b) (fun h => Nat.lt_of_lt_of_le h hb.size))) hv
      clear hcx hcx1
      have hbb := hb.then hb2
      obtain ⟨F', hv', hF', hg, _, _⟩ := fSl_put (fPair_good (B := w.heap.size)) hv2 hF (k := k) (y := x) (u := [.int .i64 x.fst, .int .i64 x.snd]) ⟨rfl, rfl⟩ rfl (m := w2.heap.size) (fun b hb => (fPairs_good (B := 0)).lt hv2 b hb) Fresh.nil hbb.size
        (by rw [List.length_append, List.length_take, List.length_replicate]; have := L1.out; omega)
      obtain ⟨y0, hy0⟩ := get_of_lt (xs := xs.take k ++ List.replicate (n - k) ⟨0, 0⟩) (k := k) (by rw [List.length_append, List.length_take, List.length_replicate]; have := L1.out; omega)
      obtain ⟨_, _, e, _, hcell, hcell1⟩ := rPairs_at (fPairs_rd (B := 0) hv2) hy0
      injection e with e
      injection e with e1 e2
      subst e1 e2
      have hfr := fSl_frozen hv2 (k * 2)
      have hfr1 := fSl_frozen hv2 (k * 2 + 1)
      rw [take_rep_set L1.out hx] at hv'
      simp only [putCells] at hv' hg
      simp only [Nat.zero_add] at hcell hcell1
      have HX := Lib.hid hx
      clear hx h hv hF hy0 hv2 hb hb2
      have hb' : Bw w ((w2.setCell ⟨w.heap.size, k * 2, none⟩ (.int .i64 x.fst)).setCell ⟨w.heap.size, k * 2 + 1, none⟩ (.int .i64 x.snd)) := (hbb.set (Nat.le_refl _) _).set (Nat.le_refl _) _
      go_wp2
      go_roundw
      case rel => exact ⟨k + 1, by omega, by go_num, hb', F', hv', hF'⟩
      case measure => simp [intOf]; omega
    · obtain rfl : k = n := by omega
      rw [Nat.sub_self, List.replicate_zero, List.append_nil, List.take_of_length_le (by rw [← L1.out]; exact Nat.le_refl _)] at hv
      go_wp2
      go_ret
      exact ⟨_, rfl, ⟨F, hv, hF⟩, hb⟩
set_option maxHeartbeats 400000 in
theorem L_eqPair (w : World) (x y : GPair) : Calls Try.prog 227 #[.agg #[.int .i64 x.fst, .int .i64 x.snd], .agg #[.int .i64 y.fst, .int .i64 y.snd]] w (Ret w (.bool (decide (x = y)))) := by
  by_cases h1 : x.fst = y.fst <;> by_cases h2 : x.snd = y.snd
  all_goals
    have H : decide (x = y) = (decide (x.fst = y.fst) && decide (x.snd = y.snd)) := by rw [Bool.eq_iff_iff]; simp [GPair.eq_iff]
    rw [H]
    go_enter Try.func227, Try.ntmps227
    go_wp2
    go_ret
    exact Ret.bool (by simp [h1, h2]) (((Bw.refl _).alloc _).alloc _)
set_option maxRecDepth 100000 in
set_option maxHeartbeats 400000 in
theorem L_eqPairS (w : World) (xs ys : List GPair) (v1 v2 : Value) (h1 : Rd rPairs w xs [v1]) (h2 : Rd rPairs w ys [v2]) :
    Calls Try.prog 213 #[v1, v2] w (Ret w (.bool (decide (xs = ys)))) := by
  obtain ⟨A1, n1, c1, rfl, a1, a2, a3⟩ := rSl_open h1
  obtain ⟨A2, n2, c2, rfl, b1, b2, b3⟩ := rSl_open h2
  unfold maxLen at a3 b3
  have L1 := Lib.hid a1
  have L2 := Lib.hid b1
  clear a1 b1
  by_cases hl : n1 = n2
  · subst hl
    go_enter Try.func213, Try.ntmps213
    go_wp2
    go_loopw [5] (fun i w' => ∃ k : Nat, k ≤ n1 ∧ i = .int .i64 k ∧ xs.take k = ys.take k ∧ Bw w w') (fun i _ => n1 - (intOf i).toNat)
    case atStart => exact ⟨0, by omega, rfl, by simp, Bw.refl _⟩
    case round =>
      obtain ⟨k, hk, rfl, he, hb⟩ := hrel
      have HE := Lib.hid he
      clear he
      by_cases hlt : k < n1
      · obtain ⟨x, hx⟩ := get_of_lt (xs := xs) (k := k) (by rw [← L1.out]; exact hlt)
        obtain ⟨y, hy⟩ := get_of_lt (xs := ys) (k := k) (by rw [← L2.out]; exact hlt)
        obtain ⟨ba, oa, rfl, _, hcx, hcx'⟩ := rPairs_at (h1.bw rPairs_good hb) hx
        obtain ⟨bb, ob, rfl, _, hcy, hcy'⟩ := rPairs_at (h2.bw rPairs_good hb) hy
        have HX := Lib.hid hx
        have HY := Lib.hid hy
        clear hx hy h1 h2
        go_wp2_with fail
        go_still_tail 8, (by kernel_rfl)
        change wpList _ _ _ _ _ wr.drew
        go_wp2_with fail
        refine (L_eqPair _ x y).mono ?_
        rintro e w2 ⟨rfl, hb2⟩
        have hbb : Bw w w2 := hb.drew.then hb2
        by_cases hxy : x = y
        · have HD : decide (x = y) = true := by simpa using hxy
          go_wp2
          go_roundw
          case rel => exact ⟨k + 1, by omega, by go_num, take_step HE.out HX.out HY.out hxy, hbb⟩
          case measure => simp [intOf]; omega
        · have HD : decide (x = y) = false := by simpa using hxy
          go_wp2
          go_ret
          exact Ret.bool (by simpa using ne_of_at HX.out HY.out hxy) hbb
      · go_wp2
        go_ret
        exact Ret.bool (by simpa using eq_of_take HE.out (by rw [← L1.out]; omega) (by rw [← L2.out]; omega)) hb
  · go_enter Try.func213, Try.ntmps213
    go_wp2
    go_ret
    exact Ret.bool (by simp; intro e; exact hl (by rw [L1.out, L2.out, e])) (Bw.refl _)
set_option maxHeartbeats 400000 in
theorem S_EqualCouples (w : World) (xs ys : List GPair) (v1 v2 : Value) (h1 : Rd rPairs w xs [v1]) (h2 : Rd rPairs w ys [v2]) :
    Calls Try.prog 55 #[v1, v2] w (Ret w (.bool (decide (xs = ys)))) := by
  obtain ⟨A1, n1, c1, rfl, a1, a2, a3⟩ := rSl_open h1
  obtain ⟨A2, n2, c2, rfl, b1, b2, b3⟩ := rSl_open h2
  unfold maxLen at a3 b3
  have L1 := Lib.hid a1
  have L2 := Lib.hid b1
  clear a1 b1
  by_cases hl : n1 = n2
  · subst hl
    go_enter Try.func55, Try.ntmps55
    go_wp2
    go_loopw [5] (fun i w' => ∃ k : Nat, k ≤ n1 ∧ i = .int .i64 k ∧ xs.take k = ys.take k ∧ Bw w w') (fun i _ => n1 - (intOf i).toNat)
    case atStart => exact ⟨0, by omega, rfl, by simp, Bw.refl _⟩
    case round =>
      obtain ⟨k, hk, rfl, he, hb⟩ := hrel
      have HE := Lib.hid he
      clear he
      by_cases hlt : k < n1
      · obtain ⟨x, hx⟩ := get_of_lt (xs := xs) (k := k) (by rw [← L1.out]; exact hlt)
        obtain ⟨y, hy⟩ := get_of_lt (xs := ys) (k := k) (by rw [← L2.out]; exact hlt)
        obtain ⟨ba, oa, rfl, _, hcx, hcx'⟩ := rPairs_at (h1.bw rPairs_good hb) hx
        obtain ⟨bb, ob, rfl, _, hcy, hcy'⟩ := rPairs_at (h2.bw rPairs_good hb) hy
        have HX := Lib.hid hx
        have HY := Lib.hid hy
        clear hx hy h1 h2
        by_cases hxy : x = y
        · subst hxy
          go_wp2
          go_quiet (fail)
          go_wp2
          go_roundw
          case rel => exact ⟨k + 1, by omega, by go_num, take_step HE.out HX.out HY.out rfl, hb.drewN _⟩
          case measure => simp [intOf]; omega
        · have HN := Lib.hid hxy
          have hxy' : ¬ (x.fst = y.fst ∧ x.snd = y.snd) := fun h => hxy ((GPair.eq_iff x y).2 h)
          have fin : ∀ W, Bw w W → Ret w (.bool (decide (xs = ys))) (.returned (.bool false)) W := fun W hW => Ret.bool (by simpa using ne_of_at HX.out HY.out hxy) hW
          clear hxy
          by_cases h1 : x.fst = y.fst
          · have h2 : ¬ x.snd = y.snd := fun h => hxy' ⟨h1, h⟩
            clear hxy'
            go_wp2
            go_quiet (fail)
            go_wp2
            go_ret
            exact fin _ (hb.drewN _)
          · clear hxy'
            go_wp2
            go_quiet (fail)
            go_wp2
            go_ret
            exact fin _ (hb.drewN _)
      · go_wp2
        go_ret
        exact Ret.bool (by simpa using eq_of_take HE.out (by rw [← L1.out]; omega) (by rw [← L2.out]; omega)) hb
  · go_enter Try.func55, Try.ntmps55
    go_wp2
    go_ret
    exact Ret.bool (by simp; intro e; exact hl (by rw [L1.out, L2.out, e])) (Bw.refl _)
set_option maxHeartbeats 400000 in
theorem S_l5SamePairs (w : World) (xs ys : List GPair) (v1 v2 : Value) (h1 : Rd rPairs w xs [v1]) (h2 : Rd rPairs w ys [v2]) :
    Calls Try.prog 198 #[v1, v2] w (Ret w (.bool (decide (xs = ys)))) := by
  obtain ⟨A1, n1, c1, rfl, a1, a2, a3⟩ := rSl_open h1
  obtain ⟨A2, n2, c2, rfl, b1, b2, b3⟩ := rSl_open h2
  unfold maxLen at a3 b3
  have L1 := Lib.hid a1
  have L2 := Lib.hid b1
  clear a1 b1
  by_cases hl : n1 = n2
  · subst hl
    go_enter Try.func198, Try.ntmps198
    go_wp2
    go_loopw [5] (fun i w' => ∃ k : Nat, k ≤ n1 ∧ i = .int .i64 k ∧ xs.take k = ys.take k ∧ Bw w w') (fun i _ => n1 - (intOf i).toNat)
    case atStart => exact ⟨0, by omega, rfl, by simp, Bw.refl _⟩
    case round =>
      obtain ⟨k, hk, rfl, he, hb⟩ := hrel
      have HE := Lib.hid he
      clear he
      by_cases hlt : k < n1
      · obtain ⟨x, hx⟩ := get_of_lt (xs := xs) (k := k) (by rw [← L1.out]; exact hlt)
        obtain ⟨y, hy⟩ := get_of_lt (xs := ys) (k := k) (by rw [← L2.out]; exact hlt)
        obtain ⟨ba, oa, rfl, _, hcx, hcx'⟩ := rPairs_at (h1.bw rPairs_good hb) hx
        obtain ⟨bb, ob, rfl, _, hcy, hcy'⟩ := rPairs_at (h2.bw rPairs_good hb) hy
        have HX := Lib.hid hx
        have HY := Lib.hid hy
        clear hx hy h1 h2
        by_cases hxy : x = y
        · subst hxy
          go_wp2
          go_quiet (fail)
          go_wp2
          go_roundw
          case rel => exact ⟨k + 1, by omega, by go_num, take_step HE.out HX.out HY.out rfl, hb.drewN _⟩
          case measure => simp [intOf]; omega
        · have HN := Lib.hid hxy
          have hxy' : ¬ (x.fst = y.fst ∧ x.snd = y.snd) := fun h => hxy ((GPair.eq_iff x y).2 h)
          have fin : ∀ W, Bw w W → Ret w (.bool (decide (xs = ys))) (.returned (.bool false)) W := fun W hW => Ret.bool (by simpa using ne_of_at HX.out HY.out hxy) hW
          clear hxy
          by_cases h1 : x.fst = y.fst
          · have h2 : ¬ x.snd = y.snd := fun h => hxy' ⟨h1, h⟩
            clear hxy'
            go_wp2
            go_quiet (fail)
            go_wp2
            go_ret
            exact fin _ (hb.drewN _)
          · clear hxy'
            go_wp2
            go_quiet (fail)
            go_wp2
            go_ret
            exact fin _ (hb.drewN _)
      · go_wp2
        go_ret
        exact Ret.bool (by simpa using eq_of_take HE.out (by rw [← L1.out]; omega) (by rw [← L2.out]; omega)) hb
  · go_enter Try.func198, Try.ntmps198
    go_wp2
    go_ret
    exact Ret.bool (by simp; intro e; exact hl (by rw [L1.out, L2.out, e])) (Bw.refl _)
set_option maxHeartbeats 400000 in
theorem slices_Equal_pairs (w : World) (xs ys : List GPair) (v1 v2 : Value) (h1 : Rd rPairs w xs [v1]) (h2 : Rd rPairs w ys [v2]) :
    Calls Try.prog 212 #[v1, v2] w (Ret w (.bool (decide (xs = ys)))) := by
  obtain ⟨A1, n1, c1, rfl, a1, a2, a3⟩ := rSl_open h1
  obtain ⟨A2, n2, c2, rfl, b1, b2, b3⟩ := rSl_open h2
  unfold maxLen at a3 b3
  have L1 := Lib.hid a1
  have L2 := Lib.hid b1
  clear a1 b1
  by_cases hl : n1 = n2
  · subst hl
    go_enter Try.func212, Try.ntmps212
    go_wp2
    go_loopw [13] (fun i w' => ∃ k : Nat, k ≤ n1 ∧ i = .int .i64 k ∧ xs.take k = ys.take k ∧ Bw w w') (fun i _ => n1 - (intOf i).toNat)
    case atStart => exact ⟨0, by omega, rfl, by simp, Bw.refl _⟩
    case round =>
      obtain ⟨k, hk, rfl, he, hb⟩ := hrel
      have HE := Lib.hid he
      clear he
      by_cases hlt : k < n1
      · obtain ⟨x, hx⟩ := get_of_lt (xs := xs) (k := k) (by rw [← L1.out]; exact hlt)
        obtain ⟨y, hy⟩ := get_of_lt (xs := ys) (k := k) (by rw [← L2.out]; exact hlt)
        obtain ⟨ba, oa, rfl, _, hcx, hcx'⟩ := rPairs_at (h1.bw rPairs_good hb) hx
        obtain ⟨bb, ob, rfl, _, hcy, hcy'⟩ := rPairs_at (h2.bw rPairs_good hb) hy
        have HX := Lib.hid hx
        have HY := Lib.hid hy
        clear hx hy h1 h2
        by_cases hxy : x = y
        · subst hxy
          go_wp2
          go_quiet (fail)
          go_wp2
          go_roundw
          case rel => exact ⟨k + 1, by omega, by go_num, take_step HE.out HX.out HY.out rfl, hb.drewN _⟩
          case measure => simp [intOf]; omega
        · have HN := Lib.hid hxy
          have hxy' : ¬ (x.fst = y.fst ∧ x.snd = y.snd) := fun h => hxy ((GPair.eq_iff x y).2 h)
          have fin : ∀ W, Bw w W → Ret w (.bool (decide (xs = ys))) (.returned (.bool false)) W := fun W hW => Ret.bool (by simpa using ne_of_at HX.out HY.out hxy) hW
          clear hxy
          by_cases h1 : x.fst = y.fst
          · have h2 : ¬ x.snd = y.snd := fun h => hxy' ⟨h1, h⟩
            clear hxy'
            go_wp2
            go_quiet (fail)
            go_wp2
            go_ret
            exact fin _ (hb.drewN _)
          · clear hxy'
            go_wp2
            go_quiet (fail)
            go_wp2
            go_ret
            exact fin _ (hb.drewN _)
      · go_wp2
        go_ret
        exact Ret.bool (by simpa using eq_of_take HE.out (by rw [← L1.out]; omega) (by rw [← L2.out]; omega)) hb
  · go_enter Try.func212, Try.ntmps212
    go_wp2
    go_ret
    exact Ret.bool (by simp; intro e; exact hl (by rw [L1.out, L2.out, e])) (Bw.refl _)
set_option maxHeartbeats 400000 in
theorem slices_Equal_couples (w : World) (xs ys : List GPair) (v1 v2 : Value) (h1 : Rd rPairs w xs [v1]) (h2 : Rd rPairs w ys [v2]) :
    Calls Try.prog 148 #[v1, v2] w (Ret w (.bool (decide (xs = ys)))) := by
  obtain ⟨A1, n1, c1, rfl, a1, a2, a3⟩ := rSl_open h1
  obtain ⟨A2, n2, c2, rfl, b1, b2, b3⟩ := rSl_open h2
  unfold maxLen at a3 b3
  have L1 := Lib.hid a1
  have L2 := Lib.hid b1
  clear a1 b1
  by_cases hl : n1 = n2
  · subst hl
    go_enter Try.func148, Try.ntmps148
    go_wp2
    go_loopw [13] (fun i w' => ∃ k : Nat, k ≤ n1 ∧ i = .int .i64 k ∧ xs.take k = ys.take k ∧ Bw w w') (fun i _ => n1 - (intOf i).toNat)
    case atStart => exact ⟨0, by omega, rfl, by simp, Bw.refl _⟩
    case round =>
      obtain ⟨k, hk, rfl, he, hb⟩ := hrel
      have HE := Lib.hid he
      clear he
      by_cases hlt : k < n1
      · obtain ⟨x, hx⟩ := get_of_lt (xs := xs) (k := k) (by rw [← L1.out]; exact hlt)
        obtain ⟨y, hy⟩ := get_of_lt (xs := ys) (k := k) (by rw [← L2.out]; exact hlt)
        obtain ⟨ba, oa, rfl, _, hcx, hcx'⟩ := rPairs_at (h1.bw rPairs_good hb) hx
        obtain ⟨bb, ob, rfl, _, hcy, hcy'⟩ := rPairs_at (h2.bw rPairs_good hb) hy
        have HX := Lib.hid hx
        have HY := Lib.hid hy
        clear hx hy h1 h2
        by_cases hxy : x = y
        · subst hxy
          go_wp2
          go_quiet (fail)
          go_wp2
          go_roundw
          case rel => exact ⟨k + 1, by omega, by go_num, take_step HE.out HX.out HY.out rfl, hb.drewN _⟩
          case measure => simp [intOf]; omega
        · have HN := Lib.hid hxy
          have hxy' : ¬ (x.fst = y.fst ∧ x.snd = y.snd) := fun h => hxy ((GPair.eq_iff x y).2 h)
          have fin : ∀ W, Bw w W → Ret w (.bool (decide (xs = ys))) (.returned (.bool false)) W := fun W hW => Ret.bool (by simpa using ne_of_at HX.out HY.out hxy) hW
          clear hxy
          by_cases h1 : x.fst = y.fst
          · have h2 : ¬ x.snd = y.snd := fun h => hxy' ⟨h1, h⟩
            clear hxy'
            go_wp2
            go_quiet (fail)
            go_wp2
            go_ret
            exact fin _ (hb.drewN _)
          · clear hxy'
            go_wp2
            go_quiet (fail)
            go_wp2
            go_ret
            exact fin _ (hb.drewN _)
      · go_wp2
        go_ret
        exact Ret.bool (by simpa using eq_of_take HE.out (by rw [← L1.out]; omega) (by rw [← L2.out]; omega)) hb
  · go_enter Try.func148, Try.ntmps148
    go_wp2
    go_ret
    exact Ret.bool (by simp; intro e; exact hl (by rw [L1.out, L2.out, e])) (Bw.refl _)
set_option maxHeartbeats 400000 in
theorem I_EqualCouples (w : World) (xs ys : List GPair) (v1 v2 : Value) (h1 : Rd rPairs w xs [v1]) (h2 : Rd rPairs w ys [v2]) :
    Calls Try.prog 61 #[v1, v2] w (Ret w (.bool (decide (xs = ys)))) := by
  go_enter Try.func61, Try.ntmps61
  go_wp2_with fail
  refine (slices_Equal_couples w xs ys _ _ h1 h2).mono ?_
  rintro e w2 ⟨rfl, hb⟩
  go_wp2
  go_ret
  exact Ret.bool rfl hb
end Go.Proofs.Ytfffklkiikmieaa
