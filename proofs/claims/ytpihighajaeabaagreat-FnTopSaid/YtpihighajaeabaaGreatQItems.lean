/- Items: the laws' helpers, copies, tests, look-ups. -/
import Derived.Test.YtpihighajaeabaaGreatProg
import Derived.Test.YtpihighajaeabaaGreatQOwn
import Derived.StillTailTactics
namespace Go.Proofs.YtpihighajaeabaaGreat
open Go.RowKit
set_option linter.unusedVariables false

/-! ### plain -/
theorem take_step {α : Type} {xs ys : List α} {k : Nat} {x y : α} (h : xs.take k = ys.take k) (hx : xs[k]? = some x) (hy : ys[k]? = some y) (e : x = y) : xs.take (k + 1) = ys.take (k + 1) := by
  rw [List.take_add_one, List.take_add_one, h, hx, hy, e]
theorem eq_of_take {α : Type} {xs ys : List α} {k : Nat} (h : xs.take k = ys.take k) (hx : xs.length ≤ k) (hy : ys.length ≤ k) : xs = ys := by
  rwa [List.take_of_length_le hx, List.take_of_length_le hy] at h
theorem ne_of_at {α : Type} {xs ys : List α} {k : Nat} {x y : α} (hx : xs[k]? = some x) (hy : ys[k]? = some y) (e : x ≠ y) : xs ≠ ys := by
  rintro rfl
  rw [hx] at hy
  injection hy with hy
  exact e hy
theorem get_of_lt {α : Type} {xs : List α} {k : Nat} (h : k < xs.length) : ∃ x, xs[k]? = some x := ⟨_, List.getElem?_eq_getElem h⟩
theorem drop_cons {α : Type} {xs : List α} {k : Nat} {x : α} (h : xs[k]? = some x) : xs.drop k = x :: xs.drop (k + 1) := by
  obtain ⟨hk, rfl⟩ := List.getElem?_eq_some_iff.1 h
  exact List.drop_eq_getElem_cons hk
theorem Calls_weak {P : Program} {f : FuncId} {args : Array Value} {w : World} {v v' : Value} (h : Calls P f args w (Ret w v)) (e : v = v') : Calls P f args w (Ret w v') := e ▸ h

set_option maxHeartbeats 400000 in
theorem S_l2Ints (w : World) (xs ys : List Int) (v1 v2 : Value) (h1 : Rd rInts w xs [v1]) (h2 : Rd rInts w ys [v2]) :
    Calls Tryz.prog 91 #[v1, v2] w (Ret w (.bool (decide (xs = ys)))) := by
  obtain ⟨A1, n1, c1, rfl, a1, a2, a3⟩ := rSl_open h1
  obtain ⟨A2, n2, c2, rfl, b1, b2, b3⟩ := rSl_open h2
  unfold maxLen at a3 b3
  have L1 := Lib.hid a1
  have L2 := Lib.hid b1
  clear a1 b1
  by_cases hl : n1 = n2
  · subst hl
    go_enter Tryz.func91, Tryz.ntmps91
    go_wp2
    go_loopw [5] (fun i w' => ∃ k : Nat, k ≤ n1 ∧ i = .int .i64 k ∧ xs.take k = ys.take k ∧ Bw w w') (fun i _ => n1 - (intOf i).toNat)
    case atStart => exact ⟨0, by omega, rfl, by simp, Bw.refl _⟩
    case round =>
      obtain ⟨k, hk, rfl, he, hb⟩ := hrel
      have HE := Lib.hid he
      clear he
      by_cases hlt : k < n1
      · obtain ⟨x, hx⟩ := get_of_lt (xs := xs) (k := k) (by rw [← L1.out]; exact hlt)
        obtain ⟨y, hy⟩ := get_of_lt (xs := ys) (k := k) (by rw [← L2.out]; exact hlt)
        obtain ⟨ba, oa, rfl, _, hcx⟩ := rInts_at (h1.bw rInts_good hb) hx
        obtain ⟨bb, ob, rfl, _, hcy⟩ := rInts_at (h2.bw rInts_good hb) hy
        have HX := Lib.hid hx
        have HY := Lib.hid hy
        clear hx hy h1 h2
        go_wp2
        go_quiet (fail)
        go_wp2
        · have hne : (x != y) = true := by assumption
          go_ret
          exact Ret.bool (by simpa using ne_of_at HX.out HY.out (by simpa using hne)) (hb.drewN _)
        · have hne : x = y := by first | assumption | (have : (x != y) = false := by assumption
                                                       simpa using this)
          go_roundw
          case rel => exact ⟨k + 1, by omega, by go_num, take_step HE.out HX.out HY.out hne, hb.drewN _⟩
          case measure => simp [intOf]; omega
      · go_wp2
        go_ret
        exact Ret.bool (by simpa using eq_of_take HE.out (by rw [← L1.out]; omega) (by rw [← L2.out]; omega)) hb
  · go_enter Tryz.func91, Tryz.ntmps91
    go_wp2
    go_ret
    exact Ret.bool (by simp; intro e; exact hl (by rw [L1.out, L2.out, e])) (Bw.refl _)
set_option maxHeartbeats 400000 in
theorem L_sameInts (w : World) (xs ys : List Int) (v1 v2 : Value) (h1 : Rd rInts w xs [v1]) (h2 : Rd rInts w ys [v2]) :
    Calls Tryz.prog 27 #[v1, v2] w (Ret w (.bool (decide (xs = ys)))) := by
  obtain ⟨A1, n1, c1, rfl, a1, a2, a3⟩ := rSl_open h1
  obtain ⟨A2, n2, c2, rfl, b1, b2, b3⟩ := rSl_open h2
  unfold maxLen at a3 b3
  have L1 := Lib.hid a1
  have L2 := Lib.hid b1
  clear a1 b1
  by_cases hl : n1 = n2
  · subst hl
    go_enter Tryz.func27, Tryz.ntmps27
    go_wp2
    go_loopw [5] (fun i w' => ∃ k : Nat, k ≤ n1 ∧ i = .int .i64 k ∧ xs.take k = ys.take k ∧ Bw w w') (fun i _ => n1 - (intOf i).toNat)
    case atStart => exact ⟨0, by omega, rfl, by simp, Bw.refl _⟩
    case round =>
      obtain ⟨k, hk, rfl, he, hb⟩ := hrel
      have HE := Lib.hid he
      clear he
      by_cases hlt : k < n1
      · obtain ⟨x, hx⟩ := get_of_lt (xs := xs) (k := k) (by rw [← L1.out]; exact hlt)
        obtain ⟨y, hy⟩ := get_of_lt (xs := ys) (k := k) (by rw [← L2.out]; exact hlt)
        obtain ⟨ba, oa, rfl, _, hcx⟩ := rInts_at (h1.bw rInts_good hb) hx
        obtain ⟨bb, ob, rfl, _, hcy⟩ := rInts_at (h2.bw rInts_good hb) hy
        have HX := Lib.hid hx
        have HY := Lib.hid hy
        clear hx hy h1 h2
        go_wp2
        go_quiet (fail)
        go_wp2
        · have hne : (x != y) = true := by assumption
          go_ret
          exact Ret.bool (by simpa using ne_of_at HX.out HY.out (by simpa using hne)) (hb.drewN _)
        · have hne : x = y := by first | assumption | (have : (x != y) = false := by assumption
                                                       simpa using this)
          go_roundw
          case rel => exact ⟨k + 1, by omega, by go_num, take_step HE.out HX.out HY.out hne, hb.drewN _⟩
          case measure => simp [intOf]; omega
      · go_wp2
        go_ret
        exact Ret.bool (by simpa using eq_of_take HE.out (by rw [← L1.out]; omega) (by rw [← L2.out]; omega)) hb
  · go_enter Tryz.func27, Tryz.ntmps27
    go_wp2
    go_ret
    exact Ret.bool (by simp; intro e; exact hl (by rw [L1.out, L2.out, e])) (Bw.refl _)
set_option maxHeartbeats 400000 in
theorem slices_Equal_ints (w : World) (xs ys : List Int) (v1 v2 : Value) (h1 : Rd rInts w xs [v1]) (h2 : Rd rInts w ys [v2]) :
    Calls Tryz.prog 93 #[v1, v2] w (Ret w (.bool (decide (xs = ys)))) := by
  obtain ⟨A1, n1, c1, rfl, a1, a2, a3⟩ := rSl_open h1
  obtain ⟨A2, n2, c2, rfl, b1, b2, b3⟩ := rSl_open h2
  unfold maxLen at a3 b3
  have L1 := Lib.hid a1
  have L2 := Lib.hid b1
  clear a1 b1
  by_cases hl : n1 = n2
  · subst hl
    go_enter Tryz.func93, Tryz.ntmps93
    go_wp2
    go_loopw [13] (fun i w' => ∃ k : Nat, k ≤ n1 ∧ i = .int .i64 k ∧ xs.take k = ys.take k ∧ Bw w w') (fun i _ => n1 - (intOf i).toNat)
    case atStart => exact ⟨0, by omega, rfl, by simp, Bw.refl _⟩
    case round =>
      obtain ⟨k, hk, rfl, he, hb⟩ := hrel
      have HE := Lib.hid he
      clear he
      by_cases hlt : k < n1
      · obtain ⟨x, hx⟩ := get_of_lt (xs := xs) (k := k) (by rw [← L1.out]; exact hlt)
        obtain ⟨y, hy⟩ := get_of_lt (xs := ys) (k := k) (by rw [← L2.out]; exact hlt)
        obtain ⟨ba, oa, rfl, _, hcx⟩ := rInts_at (h1.bw rInts_good hb) hx
        obtain ⟨bb, ob, rfl, _, hcy⟩ := rInts_at (h2.bw rInts_good hb) hy
        have HX := Lib.hid hx
        have HY := Lib.hid hy
        clear hx hy h1 h2
        go_wp2
        go_quiet (fail)
        go_wp2
        · have hne : (x != y) = true := by assumption
          go_ret
          exact Ret.bool (by simpa using ne_of_at HX.out HY.out (by simpa using hne)) (hb.drewN _)
        · have hne : x = y := by first | assumption | (have : (x != y) = false := by assumption
                                                       simpa using this)
          go_roundw
          case rel => exact ⟨k + 1, by omega, by go_num, take_step HE.out HX.out HY.out hne, hb.drewN _⟩
          case measure => simp [intOf]; omega
      · go_wp2
        go_ret
        exact Ret.bool (by simpa using eq_of_take HE.out (by rw [← L1.out]; omega) (by rw [← L2.out]; omega)) hb
  · go_enter Tryz.func93, Tryz.ntmps93
    go_wp2
    go_ret
    exact Ret.bool (by simp; intro e; exact hl (by rw [L1.out, L2.out, e])) (Bw.refl _)
theorem info_int : (Tryz.prog.info? 3).map (fun i => (i.zero, i.size, i.bytes)) = some (some (.int .i64 0), 1, 8) := by kernel_rfl
abbrev fInts : Fp (List Int) := fSl 3 1 fInt
theorem fInts_good {B : Nat} : GoodF B fInts := fSl_good fInt_good
theorem fInts_rd {B : Nat} {w : World} {xs : List Int} {cs : List Value} {F : List Nat} (h : fInts w xs cs F) : rInts w (fun b => b ∈ F ∨ b < B) xs cs := fSl_rd rInt_good (fun _ _ _ h => fInt_rd h) h
theorem fInts_Rd {w : World} {xs : List Int} {cs : List Value} {F : List Nat} (h : fInts w xs cs F) : Rd rInts w xs cs := Rd.of rInts_good (B := 0) (fInts_rd h) ((fInts_good (B := 0)).lt h) (Nat.zero_le _)
/-- what toIntS and its like leave: an owned copy in new memory -/
def Made {α : Type} (f : Fp α) (B : Nat) (x : α) (w : World) (v : Value) : Prop := ∃ F, f w x [v] F ∧ Fresh B F
end Go.Proofs.YtpihighajaeabaaGreat


namespace Go.Proofs.YtpihighajaeabaaGreat
open Go.RowKit
set_option linter.unusedVariables false

abbrev fPairs : Fp (List GPair) := fSl 214 2 fPair
theorem fPairs_good {B : Nat} : GoodF B fPairs := fSl_good fPair_good
theorem fPairs_rd {B : Nat} {w : World} {xs : List GPair} {cs : List Value} {F : List Nat} (h : fPairs w xs cs F) : rPairs w (fun b => b ∈ F ∨ b < B) xs cs := fSl_rd rPair_good (fun _ _ _ h => fPair_rd h) h
theorem fPairs_Rd {w : World} {xs : List GPair} {cs : List Value} {F : List Nat} (h : fPairs w xs cs F) : Rd rPairs w xs cs := Rd.of rPairs_good (B := 0) (fPairs_rd h) ((fPairs_good (B := 0)).lt h) (Nat.zero_le _)

set_option maxHeartbeats 400000 in
theorem S_l5SamePairs (w : World) (xs ys : List GPair) (v1 v2 : Value) (h1 : Rd rPairs w xs [v1]) (h2 : Rd rPairs w ys [v2]) :
    Calls Tryz.prog 230 #[v1, v2] w (Ret w (.bool (decide (xs = ys)))) := by
  obtain ⟨A1, n1, c1, rfl, a1, a2, a3⟩ := rSl_open h1
  obtain ⟨A2, n2, c2, rfl, b1, b2, b3⟩ := rSl_open h2
  unfold maxLen at a3 b3
  have L1 := Lib.hid a1
  have L2 := Lib.hid b1
  clear a1 b1
  by_cases hl : n1 = n2
  · subst hl
    go_enter Tryz.func230, Tryz.ntmps230
    go_wp2
    go_loopw [5] (fun i w' => ∃ k : Nat, k ≤ n1 ∧ i = .int .i64 k ∧ xs.take k = ys.take k ∧ Bw w w') (fun i _ => n1 - (intOf i).toNat)
    case atStart => exact ⟨0, by omega, rfl, by simp, Bw.refl _⟩
    case round =>
      obtain ⟨k, hk, rfl, he, hb⟩ := hrel
      have HE := Lib.hid he
      clear he
      by_cases hlt : k < n1
      · obtain ⟨x, hx⟩ := get_of_lt (xs := xs) (k := k) (by rw [← L1.out]; exact hlt)
        obtain ⟨y, hy⟩ := get_of_lt (xs := ys) (k := k) (by rw [← L2.out]; exact hlt)
        obtain ⟨ba, oa, rfl, _, hcx, hcx'⟩ := rPairs_at (h1.bw rPairs_good hb) hx
        obtain ⟨bb, ob, rfl, _, hcy, hcy'⟩ := rPairs_at (h2.bw rPairs_good hb) hy
        have HX := Lib.hid hx
        have HY := Lib.hid hy
        clear hx hy h1 h2
        by_cases hxy : x = y
        · subst hxy
          go_wp2
          go_quiet (fail)
          go_wp2
          go_roundw
          case rel => exact ⟨k + 1, by omega, by go_num, take_step HE.out HX.out HY.out rfl, hb.drewN _⟩
          case measure => simp [intOf]; omega
        · have HN := Lib.hid hxy
          have hxy' : ¬ (x.fst = y.fst ∧ x.snd = y.snd) := fun h => hxy ((GPair.eq_iff x y).2 h)
          have fin : ∀ W, Bw w W → Ret w (.bool (decide (xs = ys))) (.returned (.bool false)) W := fun W hW => Ret.bool (by simpa using ne_of_at HX.out HY.out hxy) hW
          clear hxy
          by_cases h1 : x.fst = y.fst
          · have h2 : ¬ x.snd = y.snd := fun h => hxy' ⟨h1, h⟩
            clear hxy'
            go_wp2
            go_quiet (fail)
            go_wp2
            go_ret
            exact fin _ (hb.drewN _)
          · clear hxy'
            go_wp2
            go_quiet (fail)
            go_wp2
            go_ret
            exact fin _ (hb.drewN _)
      · go_wp2
        go_ret
        exact Ret.bool (by simpa using eq_of_take HE.out (by rw [← L1.out]; omega) (by rw [← L2.out]; omega)) hb
  · go_enter Tryz.func230, Tryz.ntmps230
    go_wp2
    go_ret
    exact Ret.bool (by simp; intro e; exact hl (by rw [L1.out, L2.out, e])) (Bw.refl _)
set_option maxHeartbeats 400000 in
theorem slices_Equal_pairs (w : World) (xs ys : List GPair) (v1 v2 : Value) (h1 : Rd rPairs w xs [v1]) (h2 : Rd rPairs w ys [v2]) :
    Calls Tryz.prog 238 #[v1, v2] w (Ret w (.bool (decide (xs = ys)))) := by
  obtain ⟨A1, n1, c1, rfl, a1, a2, a3⟩ := rSl_open h1
  obtain ⟨A2, n2, c2, rfl, b1, b2, b3⟩ := rSl_open h2
  unfold maxLen at a3 b3
  have L1 := Lib.hid a1
  have L2 := Lib.hid b1
  clear a1 b1
  by_cases hl : n1 = n2
  · subst hl
    go_enter Tryz.func238, Tryz.ntmps238
    go_wp2
    go_loopw [13] (fun i w' => ∃ k : Nat, k ≤ n1 ∧ i = .int .i64 k ∧ xs.take k = ys.take k ∧ Bw w w') (fun i _ => n1 - (intOf i).toNat)
    case atStart => exact ⟨0, by omega, rfl, by simp, Bw.refl _⟩
    case round =>
      obtain ⟨k, hk, rfl, he, hb⟩ := hrel
      have HE := Lib.hid he
      clear he
      by_cases hlt : k < n1
      · obtain ⟨x, hx⟩ := get_of_lt (xs := xs) (k := k) (by rw [← L1.out]; exact hlt)
        obtain ⟨y, hy⟩ := get_of_lt (xs := ys) (k := k) (by rw [← L2.out]; exact hlt)
        obtain ⟨ba, oa, rfl, _, hcx, hcx'⟩ := rPairs_at (h1.bw rPairs_good hb) hx
        obtain ⟨bb, ob, rfl, _, hcy, hcy'⟩ := rPairs_at (h2.bw rPairs_good hb) hy
        have HX := Lib.hid hx
        have HY := Lib.hid hy
        clear hx hy h1 h2
        by_cases hxy : x = y
        · subst hxy
          go_wp2
          go_quiet (fail)
          go_wp2
          go_roundw
          case rel => exact ⟨k + 1, by omega, by go_num, take_step HE.out HX.out HY.out rfl, hb.drewN _⟩
          case measure => simp [intOf]; omega
        · have HN := Lib.hid hxy
          have hxy' : ¬ (x.fst = y.fst ∧ x.snd = y.snd) := fun h => hxy ((GPair.eq_iff x y).2 h)
          have fin : ∀ W, Bw w W → Ret w (.bool (decide (xs = ys))) (.returned (.bool false)) W := fun W hW => Ret.bool (by simpa using ne_of_at HX.out HY.out hxy) hW
          clear hxy
          by_cases h1 : x.fst = y.fst
          · have h2 : ¬ x.snd = y.snd := fun h => hxy' ⟨h1, h⟩
            clear hxy'
            go_wp2
            go_quiet (fail)
            go_wp2
            go_ret
            exact fin _ (hb.drewN _)
          · clear hxy'
            go_wp2
            go_quiet (fail)
            go_wp2
            go_ret
            exact fin _ (hb.drewN _)
      · go_wp2
        go_ret
        exact Ret.bool (by simpa using eq_of_take HE.out (by rw [← L1.out]; omega) (by rw [← L2.out]; omega)) hb
  · go_enter Tryz.func238, Tryz.ntmps238
    go_wp2
    go_ret
    exact Ret.bool (by simp; intro e; exact hl (by rw [L1.out, L2.out, e])) (Bw.refl _)

end Go.Proofs.YtpihighajaeabaaGreat


namespace Go.Proofs.YtpihighajaeabaaGreat
open Go.RowKit
set_option linter.unusedVariables false

theorem bw_cell {W w1 : World} (hb : Bw W w1) : ∀ b o, b < W.heap.size → w1.cell? ⟨b, o, none⟩ = W.cell? ⟨b, o, none⟩ := fun b o h => Below.cell (p := ⟨b, o, none⟩) hb h
theorem bw_frozen {W w1 : World} (hb : Bw W w1) : ∀ b o, b < W.heap.size → w1.frozen? ⟨b, o, none⟩ = W.frozen? ⟨b, o, none⟩ := fun b o h => Below.frozen (p := ⟨b, o, none⟩) hb h
def inB (x lo hi : Int) : Bool := decide (lo ≤ x ∧ x ≤ hi)
def isItem (x : GItem) : Bool := inB x.id 0 99 && (decide (x.vals.length = 3) && x.vals.all fun v => inB v 0 9)
def areValues (l : List Int) : Bool := l.all fun v => inB v 0 9
theorem I_within (w : World) (x lo hi : Int) : Calls Tryz.prog 94 #[.int .i64 x, .int .i64 lo, .int .i64 hi] w (Ret w (.bool (inB x lo hi))) := by
  by_cases h1 : lo ≤ x <;> by_cases h2 : x ≤ hi
  all_goals
    go_enter Tryz.func94, Tryz.ntmps94
    go_wp2
    go_ret
    exact Ret.bool (by simp [inB, h1, h2]) (Bw.refl _)
theorem S_l1In (w : World) (x lo hi : Int) : Calls Tryz.prog 103 #[.int .i64 x, .int .i64 lo, .int .i64 hi] w (Ret w (.bool (inB x lo hi))) := by
  by_cases h1 : lo ≤ x <;> by_cases h2 : x ≤ hi
  all_goals
    go_enter Tryz.func103, Tryz.ntmps103
    go_wp2
    go_ret
    exact Ret.bool (by simp [inB, h1, h2]) (Bw.refl _)
theorem all_drop {α : Type} {xs : List α} {k : Nat} {x : α} (hx : xs[k]? = some x) (f : α → Bool) : (xs.drop k).all f = (f x && (xs.drop (k + 1)).all f) := by
  rw [drop_cons hx, List.all_cons]
set_option maxHeartbeats 400000 in
theorem I_areValues (w : World) (xs : List Int) (v : Value) (h : Rd rInts w xs [v]) : Calls Tryz.prog 157 #[v] w (Ret w (.bool (areValues xs))) := by
  obtain ⟨A, n, c, rfl, a1, a2, a3⟩ := rSl_open h
  unfold maxLen at a3
  have L1 := Lib.hid a1
  clear a1
  go_enter Tryz.func157, Tryz.ntmps157
  go_wp2
  go_loopw [7] (fun i w' => ∃ k : Nat, k ≤ n ∧ i = .int .i64 k ∧ Hid (areValues xs = (xs.drop k).all fun v => inB v 0 9) ∧ Bw w w') (fun i _ => n - (intOf i).toNat)
  case atStart => exact ⟨0, by omega, rfl, rfl, Bw.refl _⟩
  case round =>
    obtain ⟨k, hk, rfl, HE, hb⟩ := hrel
    by_cases hlt : k < n
    · obtain ⟨x, hx⟩ := get_of_lt (xs := xs) (k := k) (by rw [← L1.out]; exact hlt)
      obtain ⟨ba, oa, rfl, _, hcx⟩ := rInts_at (h.bw rInts_good hb) hx
      have HS := Lib.hid (all_drop hx (fun v => inB v 0 9))
      clear hx h
      go_wp2_with fail
      refine (I_within _ _ _ _).mono ?_
      rintro e w2 ⟨rfl, hb2⟩
      have hbb := hb.then hb2
      by_cases hi : inB x 0 9 = true
      · go_wp2
        go_roundw
        case rel => exact ⟨k + 1, by omega, by go_num, by show _ = _; rw [HE.out, HS.out]; simp [hi], hbb⟩
        case measure => simp [intOf]; omega
      · have hi' : inB x 0 9 = false := by simpa using hi
        clear hi
        go_wp2
        go_ret
        exact Ret.bool (by rw [HE.out, HS.out]; simp [hi']) hbb
    · go_wp2
      go_ret
      exact Ret.bool (by rw [HE.out, List.drop_of_length_le (by rw [← L1.out]; omega)]; simp) hb
set_option maxHeartbeats 400000 in
theorem I_IsItem (w : World) (x : GItem) (v : Value) (h : Rd rInts w x.vals [v]) : Calls Tryz.prog 76 #[.agg #[.int .i64 x.id, v]] w (Ret w (.bool (isItem x))) := by
  obtain ⟨A, n, c, rfl, a1, a2, a3⟩ := rSl_open h
  unfold maxLen at a3
  have L1 := Lib.hid a1
  clear a1
  go_enter Tryz.func76, Tryz.ntmps76
  go_wp2_with fail
  refine (I_within _ _ _ _).mono ?_
  rintro e w2 ⟨rfl, hb2⟩
  have B2 := ((Bw.refl w).alloc _).then hb2
  have hc := bw_cell hb2
  by_cases h1 : inB x.id 0 99 = true
  · by_cases h2 : n = 3
    · have h3 : ((n : Int) == 3) = true := by simp [h2]
      have H2 := Lib.hid h2
      clear h2
      go_wp2_with fail
      refine (I_areValues _ x.vals _ (h.bw rInts_good B2)).mono ?_
      rintro e w3 ⟨rfl, hb3⟩
      go_wp2
      go_ret
      exact Ret.bool (by have e1 := L1.out; have e2 := H2.out; rw [e2] at e1; simp [isItem, areValues, h1, ← e1]) (B2.then hb3)
    · have h3 : ((n : Int) == 3) = false := by simp; omega
      go_wp2
      go_ret
      exact Ret.bool (by have e1 := L1.out; rw [e1] at h2; simp [isItem, h1, h2]) B2
  · have h1' : inB x.id 0 99 = false := by simpa using h1
    clear h1
    go_wp2
    go_ret
    exact Ret.bool (by simp [isItem, h1']) B2
set_option maxHeartbeats 400000 in
theorem S_IsItem (w : World) (x : GItem) (v : Value) (h : Rd rInts w x.vals [v]) : Calls Tryz.prog 84 #[.agg #[.int .i64 x.id, v]] w (Ret w (.bool (isItem x))) := by
  obtain ⟨A, n, c, rfl, a1, a2, a3⟩ := rSl_open h
  unfold maxLen at a3
  have L1 := Lib.hid a1
  clear a1
  go_enter Tryz.func84, Tryz.ntmps84
  go_wp2
  go_loopw [3] (fun i w' => ∃ k : Nat, k ≤ n ∧ i = .int .i64 k ∧ Hid ((x.vals.all fun v => inB v 0 9) = (x.vals.drop k).all fun v => inB v 0 9) ∧ Bw (w.alloc (.cells #[.int .i64 x.id, .slice A n c] 30)) w') (fun i _ => n - (intOf i).toNat)
  case atStart => exact ⟨0, by omega, rfl, rfl, Bw.refl _⟩
  case round =>
    obtain ⟨k, hk, rfl, HE, hb⟩ := hrel
    have hc := bw_cell hb
    have B1 := ((Bw.refl w).alloc _).then hb
    by_cases hlt : k < n
    · obtain ⟨y, hx⟩ := get_of_lt (xs := x.vals) (k := k) (by rw [← L1.out]; exact hlt)
      obtain ⟨ba, oa, rfl, _, hcx⟩ := rInts_at (h.bw rInts_good B1) hx
      have HS := Lib.hid (all_drop hx (fun v => inB v 0 9))
      clear hx h
      go_wp2_with fail
      refine (S_l1In _ _ _ _).mono ?_
      rintro e w2 ⟨rfl, hb2⟩
      have hbb := hb.then hb2
      clear hc
      by_cases hi : inB y 0 9 = true
      · go_wp2
        go_roundw
        case rel => exact ⟨k + 1, by omega, by go_num, by show _ = _; rw [HE.out, HS.out]; simp [hi], hbb⟩
        case measure => simp [intOf]; omega
      · have hi' : inB y 0 9 = false := by simpa using hi
        clear hi
        go_wp2
        go_ret
        exact Ret.bool (by rw [isItem, HE.out, HS.out]; simp [hi']) (B1.then hb2)
    · have HA : Hid ((x.vals.all fun v => inB v 0 9) = true) := by
        show _ = _
        rw [HE.out, List.drop_of_length_le (by rw [← L1.out]; omega)]; rfl
      go_wp2_with fail
      refine (S_l1In _ _ _ _).mono ?_
      rintro e w2 ⟨rfl, hb2⟩
      have hc2 := bw_cell (hb.then hb2)
      clear hc
      by_cases h1 : inB x.id 0 99 = true
      · by_cases h2 : n = 3
        · have h3 : ((n : Int) == 3) = true := by simp [h2]
          have H2 := Lib.hid h2
          clear h2
          go_wp2
          go_ret
          exact Ret.bool (by have e1 := L1.out; have e2 := H2.out; rw [e2] at e1; simp [isItem, HA.out, h1, ← e1]) (B1.then hb2)
        · have h3 : ((n : Int) == 3) = false := by simp; omega
          go_wp2
          go_ret
          exact Ret.bool (by have e1 := L1.out; rw [e1] at h2; simp [isItem, h1, h2]) (B1.then hb2)
      · have h1' : inB x.id 0 99 = false := by simpa using h1
        clear h1
        go_wp2
        go_ret
        exact Ret.bool (by simp [isItem, h1']) (B1.then hb2)

theorem info_Item : (Tryz.prog.info? 30).map (fun i => (i.zero, i.size, i.bytes)) = some (some (.agg #[.int .i64 0, .slice none 0 0]), 2, 32) := by kernel_rfl
def fItem : Fp GItem := fun w x cs F => ∃ v, cs = [.int .i64 x.id, v] ∧ fInts w x.vals [v] F
theorem fItem_good {B : Nat} : GoodF B fItem :=
  ⟨fun hw ⟨v, e, h⟩ => ⟨v, e, fInts_good.step hw h⟩, fun ⟨v, e, h⟩ => (fInts_good (B := B)).lt h, fun ⟨v, e, h⟩ u hu => by
    rw [e] at hu
    simp at hu
    rcases hu with rfl | rfl
    · rfl
    · exact (fInts_good (B := B)).one h _ (by simp)⟩
theorem fItem_rd {B : Nat} {w : World} {x : GItem} {cs : List Value} {F : List Nat} (h : fItem w x cs F) : rItem w (fun b => b ∈ F ∨ b < B) x cs := by
  obtain ⟨v, e, h⟩ := h
  exact ⟨v, e, fInts_rd h⟩
abbrev fItems : Fp (List GItem) := fSl 30 2 fItem
theorem fItems_good {B : Nat} : GoodF B fItems := fSl_good fItem_good
theorem fItems_rd {B : Nat} {w : World} {xs : List GItem} {cs : List Value} {F : List Nat} (h : fItems w xs cs F) : rItems w (fun b => b ∈ F ∨ b < B) xs cs := fSl_rd rItem_good (fun _ _ _ h => fItem_rd h) h
theorem fItems_Rd {w : World} {xs : List GItem} {cs : List Value} {F : List Nat} (h : fItems w xs cs F) : Rd rItems w xs cs := Rd.of rItems_good (B := 0) (fItems_rd h) ((fItems_good (B := 0)).lt h) (Nat.zero_le _)
/-- the call returned an item in new memory -/
def RetItem (w : World) (x : GItem) (e : Ending) (w' : World) : Prop := ∃ v, e = .returned (.agg #[.int .i64 x.id, v]) ∧ Made fInts w.heap.size x.vals w' v ∧ Bw w w'
/-- what lies in blocks that a call has not touched is as it was -/
theorem GoodF.bw {α : Type} {f : Fp α} {B : Nat} (hg : GoodF B f) {w w' : World} (hb : Bw w w') (hB : B ≤ w.heap.size) {x : α} {cs : List Value} {F : List Nat} (h : f w x cs F) : f w' x cs F :=
  hg.step (fun b hbF => Below.block hb b (hbF.elim (hg.lt h b) (fun h => Nat.lt_of_lt_of_le h hB))) h
def sumL {α : Type} (f : α → Nat) : List α → Nat
  | [] => 0
  | x :: xs => f x + sumL f xs
theorem le_sum {α : Type} (f : α → Nat) : ∀ {xs : List α} {x : α}, x ∈ xs → f x ≤ sumL f xs
  | y :: ys, x, h => by
    rcases List.mem_cons.1 h with rfl | h
    · simp only [sumL]; omega
    · have := le_sum f h; simp only [sumL]; omega
def totItems (xs : List GItem) : Nat := xs.length + sumL (fun x => x.vals.length) xs

end Go.Proofs.YtpihighajaeabaaGreat
