/- IsPartial and CountCompletions, in both programs. -/
import Derived.Test.YtdfmgpmfalnffaaFill
namespace Go.Proofs.Ytdfmgpmfalnffaa
open Go.RowKit
set_option linter.unusedVariables false
def isPartial (xs : List GItem) : Bool := decide ((holes xs).length ≤ 3) && areItems (fillM xs 0)
def countC (xs : List GItem) : Int := if isPartial xs = true then ((4 ^ (holes xs).length : Nat) : Int) else 0
theorem tot_fill (xs : List GItem) (n : Int) : totItems (fillM xs n) = totItems xs := tot_shape (shape_fill _ _ _)
set_option maxHeartbeats 1600000 in
theorem S_IsPartial (w : World) (xs : List GItem) (v : Value) (h : Rd rItems w xs [v]) (ht : totItems xs ≤ 1048576) : Calls Try.prog 124 #[v] w (Ret w (.bool (isPartial xs))) := by
  have htf := tot_fill xs 0
  go_enter Try.func124, Try.ntmps124
  go_wp2_with fail
  refine (S_HolesOf _ xs v h ht).mono ?_
  rintro e w1 ⟨vh, rfl, ⟨Fh, hh, hFh⟩, hb1⟩
  have h1 : Rd rItems w1 xs [v] := Rd.bw rItems_good h hb1
  obtain ⟨Ah, L, ch, rfl, l1, _, _⟩ := rSl_open (fIntss_Rd hh)
  have hLb : (holes xs).length ≤ 1048576 := holes_len ht
  by_cases h3 : L ≤ 3
  · have hE := Lib.hid (show areItems (fillM xs 0) = isPartial xs by unfold isPartial; rw [decide_eq_true (by omega)]; rfl)
    have h3' : (L : Int) ≤ 3 := by omega
    have LH := Lib.hid l1
    clear l1 hh
    go_wp2_with fail
    refine (S_l13Fill _ xs v 0 h1 ht (by omega)).mono ?_
    rintro e w2 ⟨vf, rfl, ⟨Ff, hf, hFf⟩, hb2⟩
    go_wp2_with fail
    refine (S_AreItems _ (fillM xs 0) vf (fItems_Rd hf)).mono ?_
    rintro e w3 ⟨rfl, hb3⟩
    obtain ⟨bv, hbv⟩ : ∃ bv, bv = areItems (fillM xs 0) := ⟨_, rfl⟩
    rw [← hbv] at hE ⊢
    have HB := Lib.hid hbv
    clear hbv
    go_wp2
    go_ret
    exact Ret.bool hE.out ((hb1.then hb2).then hb3)
  · have hE := Lib.hid (show false = isPartial xs by unfold isPartial; rw [decide_eq_false (by omega)]; rfl)
    have h3' : ¬ ((L : Int) ≤ 3) := by omega
    have LH := Lib.hid l1
    clear l1 hh
    go_wp2
    go_ret
    exact Ret.bool hE.out hb1
set_option maxHeartbeats 1600000 in
theorem I_IsPartial (w : World) (xs : List GItem) (v : Value) (h : Rd rItems w xs [v]) (ht : totItems xs ≤ 1048576) : Calls Try.prog 157 #[v] w (Ret w (.bool (isPartial xs))) := by
  have htf := tot_fill xs 0
  go_enter Try.func157, Try.ntmps157
  go_wp2_with fail
  refine (I_HolesOf _ xs v h ht).mono ?_
  rintro e w1 ⟨vh, rfl, ⟨Fh, hh, hFh⟩, hb1⟩
  have h1 : Rd rItems w1 xs [v] := Rd.bw rItems_good h hb1
  obtain ⟨Ah, L, ch, rfl, l1, _, _⟩ := rSl_open (fIntss_Rd hh)
  have hLb : (holes xs).length ≤ 1048576 := holes_len ht
  by_cases h3 : L ≤ 3
  · have hE := Lib.hid (show areItems (fillM xs 0) = isPartial xs by unfold isPartial; rw [decide_eq_true (by omega)]; rfl)
    have h3' : (L : Int) ≤ 3 := by omega
    have LH := Lib.hid l1
    clear l1 hh
    go_wp2_with fail
    refine (I_filled _ xs v 0 h1 ht (by omega)).mono ?_
    rintro e w2 ⟨vf, rfl, ⟨Ff, hf, hFf⟩, hb2⟩
    go_wp2_with fail
    refine (I_AreItems _ (fillM xs 0) vf (fItems_Rd hf)).mono ?_
    rintro e w3 ⟨rfl, hb3⟩
    obtain ⟨bv, hbv⟩ : ∃ bv, bv = areItems (fillM xs 0) := ⟨_, rfl⟩
    rw [← hbv] at hE ⊢
    have HB := Lib.hid hbv
    clear hbv
    go_wp2
    go_ret
    exact Ret.bool hE.out ((hb1.then hb2).then hb3)
  · have hE := Lib.hid (show false = isPartial xs by unfold isPartial; rw [decide_eq_false (by omega)]; rfl)
    have h3' : ¬ ((L : Int) ≤ 3) := by omega
    have LH := Lib.hid l1
    clear l1 hh
    go_wp2
    go_ret
    exact Ret.bool hE.out hb1
set_option maxHeartbeats 1600000 in
theorem S_CountCompletions (w : World) (xs : List GItem) (v : Value) (h : Rd rItems w xs [v]) (ht : totItems xs ≤ 1048576) : Calls Try.prog 125 #[v] w (Ret w (.int .i64 (countC xs))) := by
  go_enter Try.func125, Try.ntmps125
  go_wp2_with fail
  refine (S_IsPartial _ xs v h ht).mono ?_
  rintro e w1 ⟨rfl, hb1⟩
  cases hp : isPartial xs with
  | false =>
    have hE := Lib.hid (show (0 : Int) = countC xs by unfold countC; rw [hp]; rfl)
    clear hp
    go_wp2
    go_ret
    exact Ret.int hE.out hb1
  | true =>
    have hE := Lib.hid (show ((4 ^ (holes xs).length : Nat) : Int) = countC xs by unfold countC; rw [hp]; rfl)
    obtain ⟨L, hL⟩ : ∃ L, L = (holes xs).length := ⟨_, rfl⟩
    have hL3 : L ≤ 3 := by unfold isPartial at hp; simp at hp; omega
    rw [← hL] at hE
    have LH := Lib.hid hL
    clear hp hL
    go_wp2
    go_loopw [3, 4] (fun s i w' => ∃ k m : Nat, k ≤ L ∧ i = .int .i64 k ∧ s = .int .i64 m ∧ m ≤ 64 ∧ Hid (m = 4 ^ k) ∧ Bw w w') (fun s i _ => L - (intOf i).toNat)
    case atStart => exact ⟨0, 1, by omega, rfl, rfl, by omega, Lib.hid rfl, hb1⟩
    case round =>
      obtain ⟨k, m, hk, rfl, rfl, hm, HM, hb⟩ := hrel
      go_wp2_with fail
      refine (S_HolesOf _ xs v (Rd.bw rItems_good h hb) ht).mono ?_
      rintro e w2 ⟨vh, rfl, ⟨Fh, hh, hFh⟩, hb2⟩
      obtain ⟨Ah, L', ch, rfl, l1, _, _⟩ := rSl_open (fIntss_Rd hh)
      obtain rfl : L = L' := by rw [LH.out, l1]
      clear l1 hh
      by_cases hlt : k < L
      · have HM' := Lib.hid (show m * 4 = 4 ^ (k + 1) by rw [HM.out, Nat.pow_succ])
        have hm' : m * 4 ≤ 64 := by rw [HM'.out]; exact Nat.le_trans (Nat.pow_le_pow_right (by omega) (show k + 1 ≤ 3 by omega)) (by decide)
        clear HM
        go_wp2
        go_roundw
        case rel => exact ⟨k + 1, m * 4, by omega, by go_num, by go_num, hm', HM', hb.then hb2⟩
        case measure => simp [intOf]; omega
      · obtain rfl : k = L := by omega
        have hF := Lib.hid (show (m : Int) = countC xs by rw [← hE.out, HM.out])
        clear HM hE
        go_wp2
        go_ret
        exact Ret.int hF.out (hb.then hb2)
set_option maxHeartbeats 1600000 in
theorem I_CountCompletions (w : World) (xs : List GItem) (v : Value) (h : Rd rItems w xs [v]) (ht : totItems xs ≤ 1048576) : Calls Try.prog 159 #[v] w (Ret w (.int .i64 (countC xs))) := by
  go_enter Try.func159, Try.ntmps159
  go_wp2_with fail
  refine (I_IsPartial _ xs v h ht).mono ?_
  rintro e w1 ⟨rfl, hb1⟩
  cases hp : isPartial xs with
  | false =>
    have hE := Lib.hid (show (0 : Int) = countC xs by unfold countC; rw [hp]; rfl)
    clear hp
    go_wp2
    go_ret
    exact Ret.int hE.out hb1
  | true =>
    have hE := Lib.hid (show ((4 ^ (holes xs).length : Nat) : Int) = countC xs by unfold countC; rw [hp]; rfl)
    obtain ⟨L, hL⟩ : ∃ L, L = (holes xs).length := ⟨_, rfl⟩
    have hL3 : L ≤ 3 := by unfold isPartial at hp; simp at hp; omega
    rw [← hL] at hE
    have LH := Lib.hid hL
    clear hp hL
    go_wp2_with fail
    refine (I_HolesOf _ xs v (Rd.bw rItems_good h hb1) ht).mono ?_
    rintro e w2 ⟨vh, rfl, ⟨Fh, hh, hFh⟩, hb2⟩
    obtain ⟨Ah, L', ch, rfl, l1, _, _⟩ := rSl_open (fIntss_Rd hh)
    obtain rfl : L = L' := by rw [LH.out, l1]
    clear l1 hh
    go_wp2
    go_loopw [3, 10] (fun s i w' => ∃ k m : Nat, k ≤ L ∧ i = .int .i64 k ∧ s = .int .i64 m ∧ m ≤ 64 ∧ Hid (m = 4 ^ k) ∧ Bw w w') (fun s i _ => L - (intOf i).toNat)
    case atStart => exact ⟨0, 1, by omega, rfl, rfl, by omega, Lib.hid rfl, hb1.then hb2⟩
    case round =>
      obtain ⟨k, m, hk, rfl, rfl, hm, HM, hb⟩ := hrel
      by_cases hlt : k < L
      · have HM' := Lib.hid (show m * 4 = 4 ^ (k + 1) by rw [HM.out, Nat.pow_succ])
        have hm' : m * 4 ≤ 64 := by rw [HM'.out]; exact Nat.le_trans (Nat.pow_le_pow_right (by omega) (show k + 1 ≤ 3 by omega)) (by decide)
        clear HM
        go_wp2
        go_roundw
        case rel => exact ⟨k + 1, m * 4, by omega, by go_num, by go_num, hm', HM', hb⟩
        case measure => simp [intOf]; omega
      · obtain rfl : k = L := by omega
        have hF := Lib.hid (show (m : Int) = countC xs by rw [← hE.out, HM.out])
        clear HM hE
        go_wp2
        go_ret
        exact Ret.int hF.out hb
end Go.Proofs.Ytdfmgpmfalnffaa
