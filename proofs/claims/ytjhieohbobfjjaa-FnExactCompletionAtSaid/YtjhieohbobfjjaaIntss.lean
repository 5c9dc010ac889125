/- Lists of lists of integers: the laws' helpers, SameAnswers. -/
import Derived.Test.YtjhieohbobfjjaaItems
namespace Go.Proofs.Ytjhieohbobfjjaa
open Go.RowKit
set_option linter.unusedVariables false
theorem info_ints : (Try.prog.info? 28).map (fun i => (i.zero, i.size, i.bytes)) = some (some (.slice none 0 0), 1, 24) := by kernel_rfl
abbrev fIntss : Fp (List (List Int)) := fSl 28 1 fInts
theorem fIntss_good {B : Nat} : GoodF B fIntss := fSl_good fInts_good
theorem fIntss_rd {B : Nat} {w : World} {xs : List (List Int)} {cs : List Value} {F : List Nat} (h : fIntss w xs cs F) : rIntss w (fun b => b ∈ F ∨ b < B) xs cs := fSl_rd rInts_good (fun _ _ _ h => fInts_rd h) h
theorem fIntss_Rd {w : World} {xs : List (List Int)} {cs : List Value} {F : List Nat} (h : fIntss w xs cs F) : Rd rIntss w xs cs := Rd.of rIntss_good (B := 0) (fIntss_rd h) ((fIntss_good (B := 0)).lt h) (Nat.zero_le _)
def totIntss (xs : List (List Int)) : Nat := xs.length + sumL (fun x => x.length) xs
set_option maxHeartbeats 800000 in
theorem L_toIntSS (w : World) (xs : List (List Int)) (v : Value) (h : Rd rIntss w xs [v]) (ht : totIntss xs ≤ 1048576) :
    Calls Try.prog 31 #[v] w (RetV w (Made fIntss w.heap.size xs)) := by
  have hn : xs.length ≤ 1048576 := by unfold totIntss at ht; omega
  have hnn : ∀ x ∈ xs, x.length ≤ 1048576 := fun x hx => by have := le_sum (fun x : List Int => x.length) hx; unfold totIntss at ht; omega
  clear ht
  obtain ⟨i0, hi, hz0, hz1, hz2⟩ := info_parts info_ints
  obtain ⟨A, n, c, rfl, a1, a2, a3⟩ := rSl_open h
  rw [← a1] at hn
  have L1 := Lib.hid a1
  clear a1
  go_enter Try.func31, Try.ntmps31
  go_wp2_with (at_make; refine wpList_make_full _ rfl _ _ 41 rfl w.heap.size 28 i0 _ 1 Try.underlying41 hi hz0 hz1 .i64 .i64 _ _ n rfl rfl rfl rfl (by rw [hz2]; omega) (by simp only [maxLen]; omega) (Nat.le_refl _) ?_; intro w1 hown hgrow)
  have hb1 : Bw w w1 := (Bw.refl w).grown hgrow (fun k hk => by cases hk)
  have hv1 := fSl_made (R := fInts) ([] : List Int) hown rfl (fSl_nil _)
  clear hown hgrow
  go_loopw [4] (fun i w' => ∃ k : Nat, k ≤ n ∧ i = .int .i64 k ∧ Bw w w' ∧ ∃ F, fIntss w' (xs.take k ++ List.replicate (n - k) []) [.slice (some ⟨w.heap.size, 0, none⟩) n n] F ∧ Fresh w.heap.size F) (fun i _ => n - (intOf i).toNat)
  case atStart => exact ⟨0, by omega, rfl, hb1, _, by simpa using hv1, by simp, by simp⟩
  case round =>
    obtain ⟨k, hk, rfl, hb, F, hv, hF⟩ := hrel
    by_cases hlt : k < n
    · obtain ⟨x, hx⟩ := get_of_lt (xs := xs) (k := k) (by rw [← L1.out]; exact hlt)
      have hxm := List.mem_of_getElem? hx
      obtain ⟨ba, oa, A', c', rfl, _, hcx, hin⟩ := rIntss_at (h.bw rIntss_good hb) hx
      go_wp2_with fail
      refine (L_toIntS _ x _ hin (hnn x hxm)).mono ?_
      rintro e w2 ⟨v2, rfl, ⟨F2, o2, f2⟩, hb2⟩
      have hv2 := (fIntss_good (B := w.heap.size)).bw hb2 hb.size hv
      have hFm := (fIntss_good (B := 0)).lt hv
      clear hcx
      have hbb := hb.then hb2
      obtain ⟨F', hv', hF', hg, _, _⟩ := fSl_put (fInts_good (B := w.heap.size)) hv2 hF (k := k) (y := x) (u := [v2]) o2 rfl (m := wr.heap.size) hFm f2 hb.size (take_rep_len L1.out hlt)
      obtain ⟨y0, hy0⟩ := get_of_lt (take_rep_len (z := ([] : List Int)) L1.out hlt)
      obtain ⟨_, _, _, _, e, _, hcell, _⟩ := rIntss_at (fIntss_rd (B := 0) hv2) hy0
      injection e with e
      injection e with e1 e2
      subst e1 e2
      have hfr := fSl_frozen hv2 k
      rw [take_rep_set L1.out hx] at hv'
      simp only [putCells, Nat.mul_one] at hv' hg
      simp only [Nat.zero_add] at hcell
      obtain ⟨A2, c2, rfl, _⟩ := rSl_shape (fInts_Rd o2)
      have HX := Lib.hid hx
      clear hx h hv hF hy0 hv2 hb hb2 hFm o2 f2 hnn hin
      have hb' : Bw w (w2.setCell ⟨w.heap.size, k, none⟩ (.slice A2 x.length c2)) := hbb.set (Nat.le_refl _) _
      go_wp2
      go_roundw
      case rel => exact ⟨k + 1, by omega, by go_num, hb', F', hv', hF'⟩
      case measure => simp [intOf]; omega
    · obtain rfl : k = n := by omega
      rw [Nat.sub_self, List.replicate_zero, List.append_nil, List.take_of_length_le (by rw [← L1.out]; exact Nat.le_refl _)] at hv
      go_wp2
      go_ret
      exact ⟨_, rfl, ⟨F, hv, hF⟩, hb⟩
set_option maxHeartbeats 800000 in
theorem L_szIntSS (w : World) (xs : List (List Int)) (v : Value) (h : Rd rIntss w xs [v]) (left : Int) (h0 : 0 ≤ left) (h1 : left ≤ 1048576) :
    Calls Try.prog 29 #[v, .int .i64 left] w (Ret w (.int .i64 (szM left (totIntss xs)))) := by
  obtain ⟨A, n, c, rfl, a1, a2, a3⟩ := rSl_open h
  have L1 := Lib.hid a1
  unfold totIntss
  rw [← a1]
  clear a1
  unfold maxLen at a3
  by_cases hs : left < n
  · go_enter Try.func29, Try.ntmps29
    go_wp2
    go_ret
    exact Ret.int (szM_neg _ _ _ hs).symm (Bw.refl _)
  · have FIN := Lib.hid (szM_step left n (sumL (fun x : List Int => x.length) xs) hs)
    go_enter Try.func29, Try.ntmps29
    go_wp2
    go_loopw [1, 5] (fun l i w' => ∃ (k : Nat) (m : Int), k ≤ n ∧ i = .int .i64 k ∧ l = .int .i64 m ∧ 0 ≤ m ∧ m ≤ 1048576 ∧ Hid (szM left (n + sumL (fun x : List Int => x.length) xs) = szM m (sumL (fun x : List Int => x.length) (xs.drop k))) ∧ Bw w w') (fun l i _ => n - (intOf i).toNat)
    case atStart => exact ⟨0, left - n, by omega, rfl, rfl, by omega, by omega, FIN.out.symm, Bw.refl _⟩
    case round =>
      obtain ⟨k, m, hk, rfl, rfl, g1, g2, HE, hb⟩ := hrel
      by_cases hlt : k < n
      · obtain ⟨x, hx⟩ := get_of_lt (xs := xs) (k := k) (by rw [← L1.out]; exact hlt)
        obtain ⟨ba, oa, A', c', rfl, _, hcx, hin⟩ := rIntss_at (h.bw rIntss_good hb) hx
        have HS := Lib.hid (sumL_drop (fun x : List Int => x.length) hx)
        clear hx h
        go_wp2_with fail
        refine (L_szIntS _ x _ hin m g1 g2).mono ?_
        rintro e w2 ⟨rfl, hb2⟩
        have hbb := hb.then hb2
        clear hin
        by_cases hm : m < (x.length : Nat)
        · rw [show szM m x.length = -1 from if_pos hm]
          go_wp2
          go_ret
          exact Ret.int (by rw [HE.out, HS.out, szM_neg _ _ _ hm]) hbb
        · rw [show szM m x.length = m - x.length from if_neg hm]
          go_wp2
          go_roundw
          case rel => exact ⟨k + 1, m - x.length, by omega, by go_num, rfl, by omega, by omega, by show _ = _; rw [HE.out, HS.out, szM_step _ _ _ (by omega)], hbb⟩
          case measure => simp [intOf]; omega
      · go_wp2
        go_ret
        exact Ret.int (by rw [HE.out, List.drop_of_length_le (by rw [← L1.out]; omega), sumL, szM_zero _ g1]) hb
set_option maxRecDepth 100000 in
set_option maxHeartbeats 800000 in
theorem L_eqIntSS (w : World) (xs ys : List (List Int)) (v1 v2 : Value) (h1 : Rd rIntss w xs [v1]) (h2 : Rd rIntss w ys [v2]) :
    Calls Try.prog 33 #[v1, v2] w (Ret w (.bool (decide (xs = ys)))) := by
  obtain ⟨A1, n1, c1, rfl, a1, a2, a3⟩ := rSl_open h1
  obtain ⟨A2, n2, c2, rfl, b1, b2, b3⟩ := rSl_open h2
  unfold maxLen at a3 b3
  have L1 := Lib.hid a1
  have L2 := Lib.hid b1
  clear a1 b1
  by_cases hl : n1 = n2
  · subst hl
    go_enter Try.func33, Try.ntmps33
    go_wp2
    go_loopw [5] (fun i w' => ∃ k : Nat, k ≤ n1 ∧ i = .int .i64 k ∧ xs.take k = ys.take k ∧ Bw w w') (fun i _ => n1 - (intOf i).toNat)
    case atStart => exact ⟨0, by omega, rfl, by simp, Bw.refl _⟩
    case round =>
      obtain ⟨k, hk, rfl, he, hb⟩ := hrel
      have HE := Lib.hid he
      clear he
      by_cases hlt : k < n1
      · obtain ⟨x, hx⟩ := get_of_lt (xs := xs) (k := k) (by rw [← L1.out]; exact hlt)
        obtain ⟨y, hy⟩ := get_of_lt (xs := ys) (k := k) (by rw [← L2.out]; exact hlt)
        obtain ⟨ba, oa, Ax, cx, rfl, _, hcx, hix⟩ := rIntss_at (h1.bw rIntss_good hb) hx
        obtain ⟨bb, ob, Ay, cy, rfl, _, hcy, hiy⟩ := rIntss_at (h2.bw rIntss_good hb) hy
        have HX := Lib.hid hx
        have HY := Lib.hid hy
        clear hx hy h1 h2
        go_wp2_with fail
        go_still_tail 8, (by kernel_rfl)
        change wpList _ _ _ _ _ wr.drew
        have hix' : Rd rInts wr.drew x [.slice Ax x.length cx] := hix
        have hiy' : Rd rInts wr.drew y [.slice Ay y.length cy] := hiy
        clear hix hiy
        go_wp2_with fail
        refine (L_eqIntS _ x y _ _ hix' hiy').mono ?_
        rintro e w2 ⟨rfl, hb2⟩
        have hbb : Bw w w2 := hb.drew.then hb2
        by_cases hxy : x = y
        · have HD : decide (x = y) = true := by simpa using hxy
          have HXY := Lib.hid hxy
          clear hxy
          go_wp2
          go_roundw
          case rel => exact ⟨k + 1, by omega, by go_num, take_step HE.out HX.out HY.out HXY.out, hbb⟩
          case measure => simp [intOf]; omega
        · have HD : decide (x = y) = false := by simpa using hxy
          go_wp2
          go_ret
          exact Ret.bool (by simpa using ne_of_at HX.out HY.out hxy) hbb
      · go_wp2
        go_ret
        exact Ret.bool (by simpa using eq_of_take HE.out (by rw [← L1.out]; omega) (by rw [← L2.out]; omega)) hb
  · go_enter Try.func33, Try.ntmps33
    go_wp2
    go_ret
    exact Ret.bool (by simp; intro e; exact hl (by rw [L1.out, L2.out, e])) (Bw.refl _)
set_option maxRecDepth 100000 in
set_option maxHeartbeats 800000 in
theorem S_SameAnswers (w : World) (xs ys : List (List Int)) (v1 v2 : Value) (h1 : Rd rIntss w xs [v1]) (h2 : Rd rIntss w ys [v2]) :
    Calls Try.prog 30 #[v1, v2] w (Ret w (.bool (decide (xs = ys)))) := by
  obtain ⟨A1, n1, c1, rfl, a1, a2, a3⟩ := rSl_open h1
  obtain ⟨A2, n2, c2, rfl, b1, b2, b3⟩ := rSl_open h2
  unfold maxLen at a3 b3
  have L1 := Lib.hid a1
  have L2 := Lib.hid b1
  clear a1 b1
  by_cases hl : n1 = n2
  · subst hl
    go_enter Try.func30, Try.ntmps30
    go_wp2
    go_loopw [5] (fun i w' => ∃ k : Nat, k ≤ n1 ∧ i = .int .i64 k ∧ xs.take k = ys.take k ∧ Bw w w') (fun i _ => n1 - (intOf i).toNat)
    case atStart => exact ⟨0, by omega, rfl, by simp, Bw.refl _⟩
    case round =>
      obtain ⟨k, hk, rfl, he, hb⟩ := hrel
      have HE := Lib.hid he
      clear he
      by_cases hlt : k < n1
      · obtain ⟨x, hx⟩ := get_of_lt (xs := xs) (k := k) (by rw [← L1.out]; exact hlt)
        obtain ⟨y, hy⟩ := get_of_lt (xs := ys) (k := k) (by rw [← L2.out]; exact hlt)
        obtain ⟨ba, oa, Ax, cx, rfl, _, hcx, hix⟩ := rIntss_at (h1.bw rIntss_good hb) hx
        obtain ⟨bb, ob, Ay, cy, rfl, _, hcy, hiy⟩ := rIntss_at (h2.bw rIntss_good hb) hy
        have HX := Lib.hid hx
        have HY := Lib.hid hy
        clear hx hy h1 h2
        go_wp2_with fail
        go_still_tail 8, (by kernel_rfl)
        change wpList _ _ _ _ _ wr.drew
        have hix' : Rd rInts wr.drew x [.slice Ax x.length cx] := hix
        have hiy' : Rd rInts wr.drew y [.slice Ay y.length cy] := hiy
        clear hix hiy
        go_wp2_with fail
        refine (S_l2Ints _ x y _ _ hix' hiy').mono ?_
        rintro e w2 ⟨rfl, hb2⟩
        have hbb : Bw w w2 := hb.drew.then hb2
        by_cases hxy : x = y
        · have HD : decide (x = y) = true := by simpa using hxy
          have HXY := Lib.hid hxy
          clear hxy
          go_wp2
          go_roundw
          case rel => exact ⟨k + 1, by omega, by go_num, take_step HE.out HX.out HY.out HXY.out, hbb⟩
          case measure => simp [intOf]; omega
        · have HD : decide (x = y) = false := by simpa using hxy
          go_wp2
          go_ret
          exact Ret.bool (by simpa using ne_of_at HX.out HY.out hxy) hbb
      · go_wp2
        go_ret
        exact Ret.bool (by simpa using eq_of_take HE.out (by rw [← L1.out]; omega) (by rw [← L2.out]; omega)) hb
  · go_enter Try.func30, Try.ntmps30
    go_wp2
    go_ret
    exact Ret.bool (by simp; intro e; exact hl (by rw [L1.out, L2.out, e])) (Bw.refl _)
set_option maxHeartbeats 800000 in
theorem slices_EqualFunc_intss (w : World) (xs ys : List (List Int)) (v1 v2 : Value) (h1 : Rd rIntss w xs [v1]) (h2 : Rd rIntss w ys [v2]) :
    Calls Try.prog 79 #[v1, v2, .func (.func 80) #[] #[]] w (Ret w (.bool (decide (xs = ys)))) := by
  obtain ⟨A1, n1, c1, rfl, a1, a2, a3⟩ := rSl_open h1
  obtain ⟨A2, n2, c2, rfl, b1, b2, b3⟩ := rSl_open h2
  unfold maxLen at a3 b3
  have L1 := Lib.hid a1
  have L2 := Lib.hid b1
  clear a1 b1
  by_cases hl : n1 = n2
  · subst hl
    go_enter Try.func79, Try.ntmps79
    go_wp2
    go_loopw [17] (fun i w' => ∃ k : Nat, k ≤ n1 ∧ i = .int .i64 k ∧ xs.take k = ys.take k ∧ Bw w w') (fun i _ => n1 - (intOf i).toNat)
    case atStart => exact ⟨0, by omega, rfl, by simp, Bw.refl _⟩
    case round =>
      obtain ⟨k, hk, rfl, he, hb⟩ := hrel
      have HE := Lib.hid he
      clear he
      by_cases hlt : k < n1
      · obtain ⟨x, hx⟩ := get_of_lt (xs := xs) (k := k) (by rw [← L1.out]; exact hlt)
        obtain ⟨y, hy⟩ := get_of_lt (xs := ys) (k := k) (by rw [← L2.out]; exact hlt)
        obtain ⟨ba, oa, Ax, cx, rfl, _, hcx, hix⟩ := rIntss_at (h1.bw rIntss_good hb) hx
        obtain ⟨bb, ob, Ay, cy, rfl, _, hcy, hiy⟩ := rIntss_at (h2.bw rIntss_good hb) hy
        have HX := Lib.hid hx
        have HY := Lib.hid hy
        clear hx hy h1 h2
        go_wp2_with fail
        refine (slices_Equal_ints _ x y _ _ hix hiy).mono ?_
        rintro e w2 ⟨rfl, hb2⟩
        have hbb : Bw w w2 := hb.then hb2
        by_cases hxy : x = y
        · have HD : decide (x = y) = true := by simpa using hxy
          have HXY := Lib.hid hxy
          clear hxy
          go_wp2
          go_roundw
          case rel => exact ⟨k + 1, by omega, by go_num, take_step HE.out HX.out HY.out HXY.out, hbb⟩
          case measure => simp [intOf]; omega
        · have HD : decide (x = y) = false := by simpa using hxy
          go_wp2
          go_ret
          exact Ret.bool (by simpa using ne_of_at HX.out HY.out hxy) hbb
      · go_wp2
        go_ret
        exact Ret.bool (by simpa using eq_of_take HE.out (by rw [← L1.out]; omega) (by rw [← L2.out]; omega)) hb
  · go_enter Try.func79, Try.ntmps79
    go_wp2
    go_ret
    exact Ret.bool (by simp; intro e; exact hl (by rw [L1.out, L2.out, e])) (Bw.refl _)
theorem I_SameAnswers (w : World) (xs ys : List (List Int)) (v1 v2 : Value) (h1 : Rd rIntss w xs [v1]) (h2 : Rd rIntss w ys [v2]) :
    Calls Try.prog 32 #[v1, v2] w (Ret w (.bool (decide (xs = ys)))) := by
  go_enter Try.func32, Try.ntmps32
  go_wp2_with fail
  refine (slices_EqualFunc_intss _ xs ys _ _ h1 h2).mono ?_
  rintro e w2 ⟨rfl, hb2⟩
  go_wp2
  go_ret
  exact Ret.bool rfl hb2
end Go.Proofs.Ytjhieohbobfjjaa
