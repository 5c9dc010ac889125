/- Couples where no law lays couples in as arguments. -/
import Derived.Test.YtdfmgpmfalnffaaPairs
namespace Go.Proofs.Ytdfmgpmfalnffaa
open Go.RowKit
set_option linter.unusedVariables false

theorem info_Couple : (Try.prog.info? 124).map (fun i => (i.zero, i.size, i.bytes)) = some (some (.agg #[.int .i64 0, .int .i64 0]), 2, 16) := by kernel_rfl
abbrev fCouples : Fp (List GPair) := fSl 124 2 fPair
theorem fCouples_good {B : Nat} : GoodF B fCouples := fSl_good fPair_good
theorem fCouples_rd {B : Nat} {w : World} {xs : List GPair} {cs : List Value} {F : List Nat} (h : fCouples w xs cs F) : rPairs w (fun b => b ∈ F ∨ b < B) xs cs := fSl_rd rPair_good (fun _ _ _ h => fPair_rd h) h
theorem fCouples_Rd {w : World} {xs : List GPair} {cs : List Value} {F : List Nat} (h : fCouples w xs cs F) : Rd rPairs w xs cs := Rd.of rPairs_good (B := 0) (fCouples_rd h) ((fCouples_good (B := 0)).lt h) (Nat.zero_le _)

set_option maxHeartbeats 400000 in
theorem L_eqCouple (w : World) (x y : GPair) : Calls Try.prog 108 #[.agg #[.int .i64 x.fst, .int .i64 x.snd], .agg #[.int .i64 y.fst, .int .i64 y.snd]] w (Ret w (.bool (decide (x = y)))) := by
  by_cases h1 : x.fst = y.fst <;> by_cases h2 : x.snd = y.snd
  all_goals
    have H : decide (x = y) = (decide (x.fst = y.fst) && decide (x.snd = y.snd)) := by rw [Bool.eq_iff_iff]; simp [GPair.eq_iff]
    rw [H]
    go_enter Try.func108, Try.ntmps108
    go_wp2
    go_ret
    exact Ret.bool (by simp [h1, h2]) (((Bw.refl _).alloc _).alloc _)
set_option maxRecDepth 100000 in
set_option maxHeartbeats 400000 in
theorem L_eqCoupleS (w : World) (xs ys : List GPair) (v1 v2 : Value) (h1 : Rd rPairs w xs [v1]) (h2 : Rd rPairs w ys [v2]) :
    Calls Try.prog 52 #[v1, v2] w (Ret w (.bool (decide (xs = ys)))) := by
  obtain ⟨A1, n1, c1, rfl, a1, a2, a3⟩ := rSl_open h1
  obtain ⟨A2, n2, c2, rfl, b1, b2, b3⟩ := rSl_open h2
  unfold maxLen at a3 b3
  have L1 := Lib.hid a1
  have L2 := Lib.hid b1
  clear a1 b1
  by_cases hl : n1 = n2
  · subst hl
    go_enter Try.func52, Try.ntmps52
    go_wp2
    go_loopw [5] (fun i w' => ∃ k : Nat, k ≤ n1 ∧ i = .int .i64 k ∧ xs.take k = ys.take k ∧ Bw w w') (fun i _ => n1 - (intOf i).toNat)
    case atStart => exact ⟨0, by omega, rfl, by simp, Bw.refl _⟩
    case round =>
      obtain ⟨k, hk, rfl, he, hb⟩ := hrel
      have HE := Lib.hid he
      clear he
      by_cases hlt : k < n1
      · obtain ⟨x, hx⟩ := get_of_lt (xs := xs) (k := k) (by rw [← L1.out]; exact hlt)
        obtain ⟨y, hy⟩ := get_of_lt (xs := ys) (k := k) (by rw [← L2.out]; exact hlt)
        obtain ⟨ba, oa, rfl, _, hcx, hcx'⟩ := rPairs_at (h1.bw rPairs_good hb) hx
        obtain ⟨bb, ob, rfl, _, hcy, hcy'⟩ := rPairs_at (h2.bw rPairs_good hb) hy
        have HX := Lib.hid hx
        have HY := Lib.hid hy
        clear hx hy h1 h2
        go_wp2_with fail
        go_still_tail 8, (by kernel_rfl)
        change wpList _ _ _ _ _ wr.drew
        go_wp2_with fail
        refine (L_eqCouple _ x y).mono ?_
        rintro e w2 ⟨rfl, hb2⟩
        have hbb : Bw w w2 := hb.drew.then hb2
        by_cases hxy : x = y
        · have HD : decide (x = y) = true := by simpa using hxy
          go_wp2
          go_roundw
          case rel => exact ⟨k + 1, by omega, by go_num, take_step HE.out HX.out HY.out hxy, hbb⟩
          case measure => simp [intOf]; omega
        · have HD : decide (x = y) = false := by simpa using hxy
          go_wp2
          go_ret
          exact Ret.bool (by simpa using ne_of_at HX.out HY.out hxy) hbb
      · go_wp2
        go_ret
        exact Ret.bool (by simpa using eq_of_take HE.out (by rw [← L1.out]; omega) (by rw [← L2.out]; omega)) hb
  · go_enter Try.func52, Try.ntmps52
    go_wp2
    go_ret
    exact Ret.bool (by simp; intro e; exact hl (by rw [L1.out, L2.out, e])) (Bw.refl _)
end Go.Proofs.Ytdfmgpmfalnffaa
