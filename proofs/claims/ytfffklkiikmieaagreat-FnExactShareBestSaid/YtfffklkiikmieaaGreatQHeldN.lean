/- What the laws look for in a list of nodes. -/
import Derived.Test.YtfffklkiikmieaaGreatQMarks4
namespace Go.Proofs.YtfffklkiikmieaaGreat
open Go.RowKit
set_option linter.unusedVariables false
theorem mkNodes_length : ∀ (xs : List GNode) (k : Nat), (mkNodes xs k).length = xs.length
  | [], _ => rfl
  | _ :: xs, k => by rw [mkNodes, List.length_cons, mkNodes_length xs, List.length_cons]
theorem mkNodes_at : ∀ {xs : List GNode} {k j : Nat} {x : GNode}, xs[j]? = some x → (mkNodes xs k)[j]? = some ⟨((k + markNodes (xs.take j) : Nat) : Int), ⟨((k + markNodes (xs.take j) + 1 : Nat) : Int), ((k + markNodes (xs.take j) + 2 : Nat) : Int), ((k + markNodes (xs.take j) + 3 : Nat) : Int), mkInts x.wish.list (k + markNodes (xs.take j) + 4), mkPairs x.wish.pairs (k + markNodes (xs.take j) + 4 + x.wish.list.length)⟩⟩
  | y :: xs, k, 0, x, h => by simp at h; subst h; simp [mkNodes, markNodes, sumL]
  | y :: xs, k, j + 1, x, h => by
    simp only [mkNodes, List.getElem?_cons_succ]
    rw [mkNodes_at (by simpa using h)]
    have e : k + markN y + markNodes (xs.take j) = k + markNodes ((y :: xs).take (j + 1)) := by
      simp only [markNodes, List.take_succ_cons, sumL]; omega
    rw [e]
  | [], _, _, _, h => by simp at h
set_option maxRecDepth 100000 in
set_option maxHeartbeats 3200000 in
theorem L_heldNodeS (w : World) (xs : List GNode) (v : Value) (k : Nat) (h : Rd rNodes w (mkNodes xs k) [v]) (htn : totNodes xs ≤ 1048576) (hk : k + markNodes xs ≤ 8388608) : Calls Tryz.prog 71 #[v, .int .i64 k] w (Ret w (.int .i64 ((k + markNodes xs : Nat) : Int))) := by
  obtain ⟨A, n, c, rfl, l1, l2, l3⟩ := rSl_open h
  rw [mkNodes_length] at l1
  have hnn : n ≤ 1048576 := by unfold totNodes at htn; rw [l1]; omega
  have L1 := Lib.hid l1
  have HTN := Lib.hid htn
  have HK := Lib.hid hk
  unfold maxLen at l3
  clear l1 htn
  go_enter Tryz.func71, Tryz.ntmps71
  go_wp2
  go_loopw [1, 5] (fun s i w' => ∃ j m : Nat, j ≤ n ∧ i = .int .i64 j ∧ s = .int .i64 m ∧ Hid (m = k + markNodes (xs.take j)) ∧ Bw w w') (fun s i _ => n - (intOf i).toNat)
  case atStart => exact ⟨0, k, by omega, rfl, rfl, Lib.hid (by simp [markNodes, sumL]), Bw.refl _⟩
  case round =>
    obtain ⟨j, m, hj, rfl, rfl, HM, hb⟩ := hrel
    by_cases hlt : j < n
    · obtain ⟨x, hx⟩ := get_of_lt (xs := xs) (k := j) (by rw [← L1.out]; exact hlt)
      have hat := mkNodes_at (k := k) hx
      rw [← HM.out] at hat
      obtain ⟨b, o, Al, cl, Ap, cp, rfl, _, d0, d1, d2, d3, d4, d5, hi1, hi2⟩ := rNodes_at h hat
      dsimp only at d0 d1 d2 d3 d4 d5 hi1 hi2
      replace d0 := hb.cell d0
      replace d1 := hb.cell d1
      replace d2 := hb.cell d2
      replace d3 := hb.cell d3
      replace d4 := hb.cell d4
      replace d5 := hb.cell d5
      have hxl : x.wish.list.length ≤ 1048576 ∧ x.wish.pairs.length ≤ 1048576 := by
        have h1 := le_sum totNode (List.mem_of_getElem? hx)
        have h3 := HTN.out
        have h2 : totNode x = x.wish.list.length + x.wish.pairs.length := rfl
        unfold totNodes at h3
        omega
      have hN : markN x = 4 + x.wish.list.length + 2 * x.wish.pairs.length := rfl
      have HM' := Lib.hid (show m + 4 + x.wish.list.length + 2 * x.wish.pairs.length = k + markNodes (xs.take (j + 1)) by rw [markNodes_take_succ hx]; have := HM.out; omega)
      have hbnd : m + 4 + x.wish.list.length + 2 * x.wish.pairs.length ≤ 8388608 := by rw [HM'.out]; have h1 := markNodes_take_le xs (j + 1); have h3 := HK.out; omega
      rw [mkInts_length] at d4 hi1
      rw [mkPairs_length] at d5 hi2
      have hcall := L_heldIntS wr x.wish.list (.slice Al x.wish.list.length cl) (m + 4) (Rd.bw rInts_good hi1 hb) hxl.1 (by omega)
      have hcall2 := fun w2 (B : Bw wr w2) => L_heldPairS w2 x.wish.pairs (.slice Ap x.wish.pairs.length cp) (m + 4 + x.wish.list.length) (Rd.bw rPairs_good hi2 (hb.then B)) (by omega) (by omega)
      obtain ⟨M, hM⟩ : ∃ M, M = x.wish.list.length := ⟨_, rfl⟩
      obtain ⟨N, hN2⟩ : ∃ N, N = x.wish.pairs.length := ⟨_, rfl⟩
      rw [← hM] at d4 hcall hcall2 hbnd HM'
      rw [← hN2] at d5 hcall2 hbnd HM'
      have i1 : ((m + 1 : Nat) : Int) = (m : Int) + 1 := by omega
      have i2 : ((m + 2 : Nat) : Int) = (m : Int) + 1 + 1 := by omega
      have i3 : ((m + 3 : Nat) : Int) = (m : Int) + 1 + 1 + 1 := by omega
      have i4 : ((m + 4 : Nat) : Int) = (m : Int) + 1 + 1 + 1 + 1 := by omega
      have i5 : ((m + 4 + M : Nat) : Int) = (m : Int) + 4 + M := by omega
      have i6 : ((m + 4 + M + 2 * N : Nat) : Int) = (m : Int) + 4 + M + 2 * N := by omega
      have I6 := Lib.hid i6
      rw [i1] at d1
      rw [i2] at d2
      rw [i3] at d3
      rw [i4, i5] at hcall
      rw [i5, i6] at hcall2
      have HH := Lib.hid h
      have HC2 := Lib.hid hcall2
      clear hx hat h hi1 hi2 HM hM hN2 hxl i1 i2 i3 i4 i5 i6 hN hcall2
      go_wp2_with fail
      refine hcall.mono ?_
      rintro e w2 ⟨rfl, hb2⟩
      replace d5 := hb2.cell d5
      clear hcall
      go_wp2_with fail
      refine (HC2.out _ hb2).mono ?_
      rintro e w3 ⟨rfl, hb3⟩
      have h := HH.out
      have hB := hb.then (hb2.then hb3)
      clear HH HC2
      go_wp2
      go_roundw
      case rel => exact ⟨j + 1, m + 4 + M + 2 * N, by omega, by go_num, by rw [I6.out], HM', hB⟩
      case measure => simp [intOf]; omega
    · obtain rfl : j = n := by omega
      have HN := Lib.hid (show ((m : Nat) : Int) = ((k + markNodes xs : Nat) : Int) by rw [HM.out, List.take_of_length_le (by rw [← L1.out]; exact Nat.le_refl _)])
      clear HM
      go_wp2
      go_ret
      exact Ret.int HN.out hb
end Go.Proofs.YtfffklkiikmieaaGreat
