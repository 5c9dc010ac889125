/- CompletionAt, in both programs. -/
import Derived.Test.YtjhieohbobfjjaaPartial
namespace Go.Proofs.Ytjhieohbobfjjaa
open Go.RowKit
set_option linter.unusedVariables false
def complAt (xs : List GItem) (n : Int) : List GItem := if inB n 0 (countC xs - 1) = true then fillM xs n else []
theorem countC_range (xs : List GItem) : 0 ≤ countC xs ∧ countC xs ≤ 64 := by
  unfold countC
  by_cases hp : isPartial xs = true
  · rw [if_pos hp]
    have hL : (holes xs).length ≤ 3 := by unfold isPartial at hp; simp at hp; exact hp.1
    have : 4 ^ (holes xs).length ≤ 64 := Nat.le_trans (Nat.pow_le_pow_right (by omega) hL) (by decide)
    generalize 4 ^ (holes xs).length = q at this ⊢
    omega
  · rw [if_neg hp]; omega
set_option maxHeartbeats 1600000 in
theorem S_CompletionAt (w : World) (xs : List GItem) (n : Int) (v : Value) (h : Rd rItems w xs [v]) (ht : totItems xs ≤ 1048576) : Calls Try.prog 50 #[v, .int .i64 n] w (RetV w (Made fItems w.heap.size (complAt xs n))) := by
  obtain ⟨c, hc⟩ : ∃ c, c = countC xs := ⟨_, rfl⟩
  have hcr := countC_range xs
  rw [← hc] at hcr
  have HC := Lib.hid hc
  have c1 := hcr.1
  have c2 := hcr.2
  have hct := S_CountCompletions w xs v h ht
  rw [← hc] at hct
  clear hcr hc
  go_enter Try.func50, Try.ntmps50
  go_wp2_with fail
  refine hct.mono ?_
  rintro e w1 ⟨rfl, hb1⟩
  go_wp2_with fail
  refine (S_l1In _ n 0 (c - 1)).mono ?_
  rintro e w2 ⟨rfl, hb2⟩
  have hbb := hb1.then hb2
  cases hi : inB n 0 (c - 1) with
  | false =>
    have hE := Lib.hid (show [] = complAt xs n by unfold complAt; rw [← HC.out, hi]; rfl)
    have hv0 := fSl_empty (e := 33) (sz := 2) (R := fItem) w2
    have hbW := hbb.alloc (.cells #[] 33)
    clear hi
    go_wp2
    go_ret
    exact ⟨_, rfl, ⟨_, by rw [← hE.out]; exact hv0, ⟨by simp, by have := hbb.size; simpa using this⟩⟩, hbW⟩
  | true =>
    have hE := Lib.hid (show fillM xs n = complAt xs n by unfold complAt; rw [← HC.out, hi]; rfl)
    obtain ⟨m, rfl⟩ : ∃ m : Nat, n = m := ⟨n.toNat, by unfold inB at hi; simp at hi; omega⟩
    have hm : m ≤ 1048576 := by unfold inB at hi; simp at hi; omega
    clear hi
    go_wp2_with fail
    refine (S_l13Fill _ xs v m (h.bw rItems_good hbb) ht hm).mono ?_
    rintro e w3 ⟨vf, rfl, ⟨Ff, hf, hFf⟩, hb3⟩
    rw [hE.out] at hf
    clear hE
    go_wp2
    go_ret
    exact ⟨_, rfl, ⟨Ff, hf, hFf.mono hbb.size⟩, hbb.then hb3⟩
set_option maxHeartbeats 1600000 in
theorem I_CompletionAt (w : World) (xs : List GItem) (n : Int) (v : Value) (h : Rd rItems w xs [v]) (ht : totItems xs ≤ 1048576) : Calls Try.prog 51 #[v, .int .i64 n] w (RetV w (Made fItems w.heap.size (complAt xs n))) := by
  obtain ⟨c, hc⟩ : ∃ c, c = countC xs := ⟨_, rfl⟩
  have hcr := countC_range xs
  rw [← hc] at hcr
  have HC := Lib.hid hc
  have c1 := hcr.1
  have c2 := hcr.2
  have hct := I_CountCompletions w xs v h ht
  rw [← hc] at hct
  clear hcr hc
  go_enter Try.func51, Try.ntmps51
  go_wp2_with fail
  refine hct.mono ?_
  rintro e w1 ⟨rfl, hb1⟩
  go_wp2_with fail
  refine (I_within _ n 0 (c - 1)).mono ?_
  rintro e w2 ⟨rfl, hb2⟩
  have hbb := hb1.then hb2
  cases hi : inB n 0 (c - 1) with
  | false =>
    have hE := Lib.hid (show [] = complAt xs n by unfold complAt; rw [← HC.out, hi]; rfl)
    have hv0 := fSl_empty (e := 33) (sz := 2) (R := fItem) w2
    have hbW := hbb.alloc (.cells #[] 33)
    clear hi
    go_wp2
    go_ret
    exact ⟨_, rfl, ⟨_, by rw [← hE.out]; exact hv0, ⟨by simp, by have := hbb.size; simpa using this⟩⟩, hbW⟩
  | true =>
    have hE := Lib.hid (show fillM xs n = complAt xs n by unfold complAt; rw [← HC.out, hi]; rfl)
    obtain ⟨m, rfl⟩ : ∃ m : Nat, n = m := ⟨n.toNat, by unfold inB at hi; simp at hi; omega⟩
    have hm : m ≤ 1048576 := by unfold inB at hi; simp at hi; omega
    clear hi
    go_wp2_with fail
    refine (I_filled _ xs v m (h.bw rItems_good hbb) ht hm).mono ?_
    rintro e w3 ⟨vf, rfl, ⟨Ff, hf, hFf⟩, hb3⟩
    rw [hE.out] at hf
    clear hE
    go_wp2
    go_ret
    exact ⟨_, rfl, ⟨Ff, hf, hFf.mono hbb.size⟩, hbb.then hb3⟩
end Go.Proofs.Ytjhieohbobfjjaa
