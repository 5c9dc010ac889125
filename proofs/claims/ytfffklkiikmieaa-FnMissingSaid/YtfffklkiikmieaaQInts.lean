/- Slices of integers: the laws' helpers, and the two programs' own comparisons. -/
import Derived.Test.YtfffklkiikmieaaProg
import Derived.Test.YtfffklkiikmieaaQOwn
namespace Go.Proofs.Ytfffklkiikmieaa
open Go.RowKit
set_option linter.unusedVariables false

/-! ### plain -/
theorem take_step {α : Type} {xs ys : List α} {k : Nat} {x y : α} (h : xs.take k = ys.take k) (hx : xs[k]? = some x) (hy : ys[k]? = some y) (e : x = y) : xs.take (k + 1) = ys.take (k + 1) := by
  rw [List.take_add_one, List.take_add_one, h, hx, hy, e]
theorem eq_of_take {α : Type} {xs ys : List α} {k : Nat} (h : xs.take k = ys.take k) (hx : xs.length ≤ k) (hy : ys.length ≤ k) : xs = ys := by
  rwa [List.take_of_length_le hx, List.take_of_length_le hy] at h
theorem ne_of_at {α : Type} {xs ys : List α} {k : Nat} {x y : α} (hx : xs[k]? = some x) (hy : ys[k]? = some y) (e : x ≠ y) : xs ≠ ys := by
  rintro rfl
  rw [hx] at hy
  injection hy with hy
  exact e hy
theorem get_of_lt {α : Type} {xs : List α} {k : Nat} (h : k < xs.length) : ∃ x, xs[k]? = some x := ⟨_, List.getElem?_eq_getElem h⟩
theorem drop_cons {α : Type} {xs : List α} {k : Nat} {x : α} (h : xs[k]? = some x) : xs.drop k = x :: xs.drop (k + 1) := by
  obtain ⟨hk, rfl⟩ := List.getElem?_eq_some_iff.1 h
  exact List.drop_eq_getElem_cons hk
theorem Calls_weak {P : Program} {f : FuncId} {args : Array Value} {w : World} {v v' : Value} (h : Calls P f args w (Ret w v)) (e : v = v') : Calls P f args w (Ret w v') := e ▸ h

/-- the count of what is left -/
def szM (left : Int) (n : Nat) : Int := if left < n then -1 else left - n
set_option maxHeartbeats 400000 in
theorem L_szIntS (w : World) (xs : List Int) (v : Value) (h : Rd rInts w xs [v]) (left : Int) (h0 : 0 ≤ left) (h1 : left ≤ 1048576) :
    Calls Try.prog 159 #[v, .int .i64 left] w (Ret w (.int .i64 (szM left xs.length))) := by
  obtain ⟨A, n, c, rfl, a1, a2, a3⟩ := rSl_open h
  have L1 := Lib.hid a1
  clear a1
  have hn : n ≤ maxLen := Nat.le_trans a2 a3
  unfold maxLen at hn
  have e1 : szM left xs.length = szM left n := by rw [L1.out]
  rw [e1]
  clear e1
  go_enter Try.func159, Try.ntmps159
  go_wp2
  · go_ret; exact Ret.int (by unfold szM; rw [if_pos (by omega)]) (Bw.refl _)
  · go_ret; exact Ret.int (by unfold szM; rw [if_neg (by omega)]) (Bw.refl _)
set_option maxHeartbeats 400000 in
theorem L_szPairS (w : World) (xs : List GPair) (v : Value) (h : Rd rPairs w xs [v]) (left : Int) (h0 : 0 ≤ left) (h1 : left ≤ 1048576) :
    Calls Try.prog 208 #[v, .int .i64 left] w (Ret w (.int .i64 (szM left xs.length))) := by
  obtain ⟨A, n, c, rfl, a1, a2, a3⟩ := rSl_open h
  have L1 := Lib.hid a1
  clear a1
  have hn : n ≤ maxLen := Nat.le_trans a2 a3
  unfold maxLen at hn
  have e1 : szM left xs.length = szM left n := by rw [L1.out]
  rw [e1]
  clear e1
  go_enter Try.func208, Try.ntmps208
  go_wp2
  · go_ret; exact Ret.int (by unfold szM; rw [if_pos (by omega)]) (Bw.refl _)
  · go_ret; exact Ret.int (by unfold szM; rw [if_neg (by omega)]) (Bw.refl _)
set_option maxHeartbeats 400000 in
theorem L_eqIntS (w : World) (xs ys : List Int) (v1 v2 : Value) (h1 : Rd rInts w xs [v1]) (h2 : Rd rInts w ys [v2]) :
    Calls Try.prog 115 #[v1, v2] w (Ret w (.bool (decide (xs = ys)))) := by
  obtain ⟨A1, n1, c1, rfl, a1, a2, a3⟩ := rSl_open h1
  obtain ⟨A2, n2, c2, rfl, b1, b2, b3⟩ := rSl_open h2
  unfold maxLen at a3 b3
  have L1 := Lib.hid a1
  have L2 := Lib.hid b1
  clear a1 b1
  by_cases hl : n1 = n2
  · subst hl
    go_enter Try.func115, Try.ntmps115
    go_wp2
    go_loopw [5] (fun i w' => ∃ k : Nat, k ≤ n1 ∧ i = .int .i64 k ∧ xs.take k = ys.take k ∧ Bw w w') (fun i _ => n1 - (intOf i).toNat)
    case atStart => exact ⟨0, by omega, rfl, by simp, Bw.refl _⟩
    case round =>
      obtain ⟨k, hk, rfl, he, hb⟩ := hrel
      have HE := Lib.hid he
      clear he
      by_cases hlt : k < n1
      · obtain ⟨x, hx⟩ := get_of_lt (xs := xs) (k := k) (by rw [← L1.out]; exact hlt)
        obtain ⟨y, hy⟩ := get_of_lt (xs := ys) (k := k) (by rw [← L2.out]; exact hlt)
        obtain ⟨ba, oa, rfl, _, hcx⟩ := rInts_at (h1.bw rInts_good hb) hx
        obtain ⟨bb, ob, rfl, _, hcy⟩ := rInts_at (h2.bw rInts_good hb) hy
        have HX := Lib.hid hx
        have HY := Lib.hid hy
        clear hx hy h1 h2
        go_wp2
        go_quiet (fail)
        go_wp2
        · have hne : (x != y) = true := by assumption
          go_ret
          exact Ret.bool (by simpa using ne_of_at HX.out HY.out (by simpa using hne)) (hb.drewN _)
        · have hne : x = y := by first | assumption | (have : (x != y) = false := by assumption
                                                       simpa using this)
          go_roundw
          case rel => exact ⟨k + 1, by omega, by go_num, take_step HE.out HX.out HY.out hne, hb.drewN _⟩
          case measure => simp [intOf]; omega
      · go_wp2
        go_ret
        exact Ret.bool (by simpa using eq_of_take HE.out (by rw [← L1.out]; omega) (by rw [← L2.out]; omega)) hb
  · go_enter Try.func115, Try.ntmps115
    go_wp2
    go_ret
    exact Ret.bool (by simp; intro e; exact hl (by rw [L1.out, L2.out, e])) (Bw.refl _)
set_option maxHeartbeats 400000 in
theorem S_l2Ints (w : World) (xs ys : List Int) (v1 v2 : Value) (h1 : Rd rInts w xs [v1]) (h2 : Rd rInts w ys [v2]) :
    Calls Try.prog 157 #[v1, v2] w (Ret w (.bool (decide (xs = ys)))) := by
  obtain ⟨A1, n1, c1, rfl, a1, a2, a3⟩ := rSl_open h1
  obtain ⟨A2, n2, c2, rfl, b1, b2, b3⟩ := rSl_open h2
  unfold maxLen at a3 b3
  have L1 := Lib.hid a1
  have L2 := Lib.hid b1
  clear a1 b1
  by_cases hl : n1 = n2
  · subst hl
    go_enter Try.func157, Try.ntmps157
    go_wp2
    go_loopw [5] (fun i w' => ∃ k : Nat, k ≤ n1 ∧ i = .int .i64 k ∧ xs.take k = ys.take k ∧ Bw w w') (fun i _ => n1 - (intOf i).toNat)
    case atStart => exact ⟨0, by omega, rfl, by simp, Bw.refl _⟩
    case round =>
      obtain ⟨k, hk, rfl, he, hb⟩ := hrel
      have HE := Lib.hid he
      clear he
      by_cases hlt : k < n1
      · obtain ⟨x, hx⟩ := get_of_lt (xs := xs) (k := k) (by rw [← L1.out]; exact hlt)
        obtain ⟨y, hy⟩ := get_of_lt (xs := ys) (k := k) (by rw [← L2.out]; exact hlt)
        obtain ⟨ba, oa, rfl, _, hcx⟩ := rInts_at (h1.bw rInts_good hb) hx
        obtain ⟨bb, ob, rfl, _, hcy⟩ := rInts_at (h2.bw rInts_good hb) hy
        have HX := Lib.hid hx
        have HY := Lib.hid hy
        clear hx hy h1 h2
        go_wp2
        go_quiet (fail)
        go_wp2
        · have hne : (x != y) = true := by assumption
          go_ret
          exact Ret.bool (by simpa using ne_of_at HX.out HY.out (by simpa using hne)) (hb.drewN _)
        · have hne : x = y := by first | assumption | (have : (x != y) = false := by assumption
                                                       simpa using this)
          go_roundw
          case rel => exact ⟨k + 1, by omega, by go_num, take_step HE.out HX.out HY.out hne, hb.drewN _⟩
          case measure => simp [intOf]; omega
      · go_wp2
        go_ret
        exact Ret.bool (by simpa using eq_of_take HE.out (by rw [← L1.out]; omega) (by rw [← L2.out]; omega)) hb
  · go_enter Try.func157, Try.ntmps157
    go_wp2
    go_ret
    exact Ret.bool (by simp; intro e; exact hl (by rw [L1.out, L2.out, e])) (Bw.refl _)
set_option maxHeartbeats 400000 in
theorem L_sameInts (w : World) (xs ys : List Int) (v1 v2 : Value) (h1 : Rd rInts w xs [v1]) (h2 : Rd rInts w ys [v2]) :
    Calls Try.prog 45 #[v1, v2] w (Ret w (.bool (decide (xs = ys)))) := by
  obtain ⟨A1, n1, c1, rfl, a1, a2, a3⟩ := rSl_open h1
  obtain ⟨A2, n2, c2, rfl, b1, b2, b3⟩ := rSl_open h2
  unfold maxLen at a3 b3
  have L1 := Lib.hid a1
  have L2 := Lib.hid b1
  clear a1 b1
  by_cases hl : n1 = n2
  · subst hl
    go_enter Try.func45, Try.ntmps45
    go_wp2
    go_loopw [5] (fun i w' => ∃ k : Nat, k ≤ n1 ∧ i = .int .i64 k ∧ xs.take k = ys.take k ∧ Bw w w') (fun i _ => n1 - (intOf i).toNat)
    case atStart => exact ⟨0, by omega, rfl, by simp, Bw.refl _⟩
    case round =>
      obtain ⟨k, hk, rfl, he, hb⟩ := hrel
      have HE := Lib.hid he
      clear he
      by_cases hlt : k < n1
      · obtain ⟨x, hx⟩ := get_of_lt (xs := xs) (k := k) (by rw [← L1.out]; exact hlt)
        obtain ⟨y, hy⟩ := get_of_lt (xs := ys) (k := k) (by rw [← L2.out]; exact hlt)
        obtain ⟨ba, oa, rfl, _, hcx⟩ := rInts_at (h1.bw rInts_good hb) hx
        obtain ⟨bb, ob, rfl, _, hcy⟩ := rInts_at (h2.bw rInts_good hb) hy
        have HX := Lib.hid hx
        have HY := Lib.hid hy
        clear hx hy h1 h2
        go_wp2
        go_quiet (fail)
        go_wp2
        · have hne : (x != y) = true := by assumption
          go_ret
          exact Ret.bool (by simpa using ne_of_at HX.out HY.out (by simpa using hne)) (hb.drewN _)
        · have hne : x = y := by first | assumption | (have : (x != y) = false := by assumption
                                                       simpa using this)
          go_roundw
          case rel => exact ⟨k + 1, by omega, by go_num, take_step HE.out HX.out HY.out hne, hb.drewN _⟩
          case measure => simp [intOf]; omega
      · go_wp2
        go_ret
        exact Ret.bool (by simpa using eq_of_take HE.out (by rw [← L1.out]; omega) (by rw [← L2.out]; omega)) hb
  · go_enter Try.func45, Try.ntmps45
    go_wp2
    go_ret
    exact Ret.bool (by simp; intro e; exact hl (by rw [L1.out, L2.out, e])) (Bw.refl _)
set_option maxHeartbeats 400000 in
theorem slices_Equal_ints (w : World) (xs ys : List Int) (v1 v2 : Value) (h1 : Rd rInts w xs [v1]) (h2 : Rd rInts w ys [v2]) :
    Calls Try.prog 211 #[v1, v2] w (Ret w (.bool (decide (xs = ys)))) := by
  obtain ⟨A1, n1, c1, rfl, a1, a2, a3⟩ := rSl_open h1
  obtain ⟨A2, n2, c2, rfl, b1, b2, b3⟩ := rSl_open h2
  unfold maxLen at a3 b3
  have L1 := Lib.hid a1
  have L2 := Lib.hid b1
  clear a1 b1
  by_cases hl : n1 = n2
  · subst hl
    go_enter Try.func211, Try.ntmps211
    go_wp2
    go_loopw [13] (fun i w' => ∃ k : Nat, k ≤ n1 ∧ i = .int .i64 k ∧ xs.take k = ys.take k ∧ Bw w w') (fun i _ => n1 - (intOf i).toNat)
    case atStart => exact ⟨0, by omega, rfl, by simp, Bw.refl _⟩
    case round =>
      obtain ⟨k, hk, rfl, he, hb⟩ := hrel
      have HE := Lib.hid he
      clear he
      by_cases hlt : k < n1
      · obtain ⟨x, hx⟩ := get_of_lt (xs := xs) (k := k) (by rw [← L1.out]; exact hlt)
        obtain ⟨y, hy⟩ := get_of_lt (xs := ys) (k := k) (by rw [← L2.out]; exact hlt)
        obtain ⟨ba, oa, rfl, _, hcx⟩ := rInts_at (h1.bw rInts_good hb) hx
        obtain ⟨bb, ob, rfl, _, hcy⟩ := rInts_at (h2.bw rInts_good hb) hy
        have HX := Lib.hid hx
        have HY := Lib.hid hy
        clear hx hy h1 h2
        go_wp2
        go_quiet (fail)
        go_wp2
        · have hne : (x != y) = true := by assumption
          go_ret
          exact Ret.bool (by simpa using ne_of_at HX.out HY.out (by simpa using hne)) (hb.drewN _)
        · have hne : x = y := by first | assumption | (have : (x != y) = false := by assumption
                                                       simpa using this)
          go_roundw
          case rel => exact ⟨k + 1, by omega, by go_num, take_step HE.out HX.out HY.out hne, hb.drewN _⟩
          case measure => simp [intOf]; omega
      · go_wp2
        go_ret
        exact Ret.bool (by simpa using eq_of_take HE.out (by rw [← L1.out]; omega) (by rw [← L2.out]; omega)) hb
  · go_enter Try.func211, Try.ntmps211
    go_wp2
    go_ret
    exact Ret.bool (by simp; intro e; exact hl (by rw [L1.out, L2.out, e])) (Bw.refl _)
theorem info_int : (Try.prog.info? 3).map (fun i => (i.zero, i.size, i.bytes)) = some (some (.int .i64 0), 1, 8) := by kernel_rfl
abbrev fInts : Fp (List Int) := fSl 3 1 fInt
theorem fInts_good {B : Nat} : GoodF B fInts := fSl_good fInt_good
theorem fInts_rd {B : Nat} {w : World} {xs : List Int} {cs : List Value} {F : List Nat} (h : fInts w xs cs F) : rInts w (fun b => b ∈ F ∨ b < B) xs cs := fSl_rd rInt_good (fun _ _ _ h => fInt_rd h) h
theorem fInts_Rd {w : World} {xs : List Int} {cs : List Value} {F : List Nat} (h : fInts w xs cs F) : Rd rInts w xs cs := Rd.of rInts_good (B := 0) (fInts_rd h) ((fInts_good (B := 0)).lt h) (Nat.zero_le _)
theorem take_rep_set {α : Type} {xs : List α} {z x : α} {k n : Nat} (hn : n = xs.length) (h : xs[k]? = some x) : (xs.take k ++ List.replicate (n - k) z).set k x = xs.take (k + 1) ++ List.replicate (n - (k + 1)) z := by
  obtain ⟨hk, rfl⟩ := List.getElem?_eq_some_iff.1 h
  subst hn
  have e : (xs.take k).length = k := by rw [List.length_take]; omega
  rw [List.set_append_right _ _ (by omega), e, Nat.sub_self, List.take_add_one, List.getElem?_eq_getElem hk, List.append_assoc]
  have : xs.length - k = (xs.length - (k + 1)) + 1 := by omega
  rw [this, List.replicate_succ, List.set_cons_zero]
  rfl
/-- what toIntS and its like leave: an owned copy in new memory -/
def Made {α : Type} (f : Fp α) (B : Nat) (x : α) (w : World) (v : Value) : Prop := ∃ F, f w x [v] F ∧ Fresh B F
set_option maxHeartbeats 400000 in
theorem L_toIntS (w : World) (xs : List Int) (v : Value) (h : Rd rInts w xs [v]) (hn : xs.length ≤ 1048576) :
    Calls Try.prog 163 #[v] w (RetV w (Made fInts w.heap.size xs)) := by
  obtain ⟨i0, hi, hz0, hz1, hz2⟩ := info_parts info_int
  obtain ⟨A, n, c, rfl, a1, a2, a3⟩ := rSl_open h
  rw [← a1] at hn
  have L1 := Lib.hid a1
  clear a1
  go_enter Try.func163, Try.ntmps163
  go_wp2_with (at_make; refine wpList_make_full _ rfl _ _ 42 rfl w.heap.size 3 i0 _ 1 Try.underlying42 hi hz0 hz1 .i64 .i64 _ _ n rfl rfl rfl rfl (by rw [hz2]; omega) (by simp only [maxLen]; omega) (Nat.le_refl _) ?_; intro w1 hown hgrow)
  have hb1 : Bw w w1 := (Bw.refl w).grown hgrow (fun k hk => by cases hk)
  have hv1 := fSl_made (R := fInt) (0 : Int) hown rfl ⟨rfl, rfl⟩
  clear hown hgrow
  go_loopw [4] (fun i w' => ∃ k : Nat, k ≤ n ∧ i = .int .i64 k ∧ Bw w w' ∧ ∃ F, fInts w' (xs.take k ++ List.replicate (n - k) 0) [.slice (some ⟨w.heap.size, 0, none⟩) n n] F ∧ Fresh w.heap.size F) (fun i _ => n - (intOf i).toNat)
  case atStart => exact ⟨0, by omega, rfl, hb1, _, by simpa using hv1, by simp, by simp⟩
  case round =>
    obtain ⟨k, hk, rfl, hb, F, hv, hF⟩ := hrel
    by_cases hlt : k < n
    · obtain ⟨x, hx⟩ := get_of_lt (xs := xs) (k := k) (by rw [← L1.out]; exact hlt)
      obtain ⟨ba, oa, rfl, _, hcx⟩ := rInts_at (h.bw rInts_good hb) hx
      obtain ⟨F', hv', hF', hg, _, _⟩ := fSl_put (fInt_good (B := w.heap.size)) hv hF (k := k) (y := x) (u := [.int .i64 x]) ⟨rfl, rfl⟩ rfl (m := wr.heap.size) (fun b hb => (fInts_good (B := 0)).lt hv b hb) Fresh.nil hb.size
        (by rw [List.length_append, List.length_take, List.length_replicate]; have := L1.out; omega)
      obtain ⟨y0, hy0⟩ := get_of_lt (xs := xs.take k ++ List.replicate (n - k) 0) (k := k) (by rw [List.length_append, List.length_take, List.length_replicate]; have := L1.out; omega)
      obtain ⟨_, _, e, _, hcell⟩ := rInts_at (fInts_rd (B := 0) hv) hy0
      injection e with e
      injection e with e1 e2
      subst e1 e2
      have hfr := fSl_frozen hv k
      rw [take_rep_set L1.out hx] at hv'
      simp only [putCells, Nat.mul_one] at hv' hg
      simp only [Nat.zero_add] at hcell
      have HX := Lib.hid hx
      clear hx h hv hF hy0
      have hb' : Bw w (wr.setCell ⟨w.heap.size, k, none⟩ (.int .i64 x)) := hb.set (Nat.le_refl _) _
      go_wp2
      go_roundw
      case rel => exact ⟨k + 1, by omega, by go_num, hb', F', hv', hF'⟩
      case measure => simp [intOf]; omega
    · obtain rfl : k = n := by omega
      rw [Nat.sub_self, List.replicate_zero, List.append_nil, List.take_of_length_le (by rw [← L1.out]; exact Nat.le_refl _)] at hv
      go_wp2
      go_ret
      exact ⟨_, rfl, ⟨F, hv, hF⟩, hb⟩
end Go.Proofs.Ytfffklkiikmieaa
