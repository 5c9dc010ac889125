/- What the laws write into couples (or pairs), and what they find again. -/
import Derived.Test.YtfffklkiikmieaaGreatQPairs
import Derived.Test.YtfffklkiikmieaaGreatQOwn3
namespace Go.Proofs.YtfffklkiikmieaaGreat
open Go.RowKit
set_option linter.unusedVariables false
def mkPairs : List GPair → Nat → List GPair
  | [], _ => []
  | _ :: xs, k => ⟨(k : Int), ((k + 1 : Nat) : Int)⟩ :: mkPairs xs (k + 2)
theorem mkPairs_length : ∀ (xs : List GPair) (k : Nat), (mkPairs xs k).length = xs.length
  | [], _ => rfl
  | _ :: xs, k => by rw [mkPairs, List.length_cons, mkPairs_length xs, List.length_cons]
theorem mkPairs_at : ∀ {xs : List GPair} {k j : Nat}, j < xs.length → (mkPairs xs k)[j]? = some ⟨((k + 2 * j : Nat) : Int), ((k + 2 * j + 1 : Nat) : Int)⟩
  | [], _, _, h => by simp at h
  | _ :: xs, k, 0, _ => rfl
  | _ :: xs, k, j + 1, h => by
    simp only [mkPairs, List.getElem?_cons_succ]; rw [mkPairs_at (by simpa using h)]
    rw [show k + 2 + 2 * j = k + 2 * (j + 1) by omega]
theorem all3_nilsP {w : World} : ∀ {xs : List GPair} {us : List (List Value)} {Fs : List (List Nat)}, all3 (fun x u f => fPair w x u f ∧ u.length = 2) xs us Fs → Fs.flatten = []
  | [], [], [], _ => rfl
  | _ :: xs, _ :: us, f :: Fs, h => by rw [List.flatten_cons, h.1.1.2, all3_nilsP (xs := xs) h.2]; rfl
  | [], _ :: _, _, h | [], [], _ :: _, h | _ :: _, [], _, h | _ :: _, _ :: _, [], h => h.elim
theorem fPairs_foot {e : TypeId} {w : World} {xs : List GPair} {v : Value} {f : List Nat} (h : fSl e 2 fPair w xs [v] f) : f = v.ownBlock.toList := by
  obtain ⟨v', us, Fs, hv, _, hall, hF⟩ := h
  injection hv with hv
  subst hv
  rw [hF, all3_nilsP hall, List.append_nil]

set_option maxRecDepth 100000 in
set_option maxHeartbeats 1600000 in
theorem L_markPairS (w0 w : World) (xs : List GPair) (v : Value) (F : List Nat) (k : Nat) (hv : fPairs w xs [v] F) (hF : Fresh w0.heap.size F) (hb : Bw w0 w) (hn : 2 * xs.length ≤ 4194304) (hk : k ≤ 8388608) :
    Calls Tryz.prog 95 #[v, .int .i64 k] w (RetM fPairs w0 w (mkPairs xs k) v F (k + 2 * xs.length)) := by
  obtain ⟨A, n, c, rfl, l1, l2, l3⟩ := rSl_open (fPairs_Rd hv)
  have hnn : n ≤ 2097152 := by rw [l1]; omega
  have L1 := Lib.hid l1
  unfold maxLen at l3
  clear l1 hn
  go_enter Tryz.func95, Tryz.ntmps95
  go_wp2
  go_loopw [1, 5] (fun s i w' => ∃ (j m : Nat) (cur : List GPair), j ≤ n ∧ i = .int .i64 j ∧ s = .int .i64 m ∧ Hid (m = k + 2 * j) ∧ m ≤ 16777216 ∧ fPairs w' cur [.slice A n c] F ∧ Hid (cur.length = n) ∧ Hid (cur.take j ++ mkPairs (cur.drop j) m = mkPairs xs k) ∧ Only F w w' ∧ Bw w0 w') (fun s i _ => n - (intOf i).toNat)
  case atStart => exact ⟨0, k, xs, by omega, rfl, rfl, Lib.hid rfl, by omega, hv, Lib.hid L1.out.symm, Lib.hid rfl, Only.refl _ _, hb⟩
  case round =>
    obtain ⟨j, m, cur, hj, rfl, rfl, HM, hm, hv1, HL, HE, hO, hb1⟩ := hrel
    clear hv
    by_cases hlt : j < n
    · obtain ⟨y, hy⟩ := get_of_lt (xs := cur) (k := j) (by rw [HL.out]; exact hlt)
      obtain ⟨g, rfl, hne, hgF⟩ := fSl_lit2 hv1 (by rw [HL.out]; omega)
      clear hne
      have hfr := fSl_frozen hv1 (j * 2)
      have hfr1 := fSl_frozen hv1 (j * 2 + 1)
      obtain ⟨bb, oo, ebb, _, hcell, hcell1⟩ := rPairs_at (fPairs_Rd hv1) hy
      injection ebb with ebb
      injection ebb with ebb eoo _
      subst ebb eoo
      simp only [Nat.zero_add] at hcell hcell1
      obtain ⟨F', hv', hF', hg, _, _⟩ := fSl_put (fPair_good (B := w0.heap.size)) hv1 hF (k := j) (y := (⟨(m : Int), ((m + 1 : Nat) : Int)⟩ : GPair)) (u := [.int .i64 m, .int .i64 ((m + 1 : Nat) : Int)]) ⟨rfl, rfl⟩ rfl (m := wr.heap.size) (fun b hb => (fPairs_good (B := 0)).lt hv1 b hb) Fresh.nil hb1.size (by rw [HL.out]; exact hlt)
      simp only [putCells] at hv' hg
      have i1 : ((m + 1 : Nat) : Int) = (m : Int) + 1 := by omega
      rw [i1] at hv' hg
      have eF : F' = F := (fPairs_foot hv').trans (fPairs_foot hv1).symm
      rw [eF] at hv'
      have hO' := hO.then (Only.of_grown hg (by simp) hgF) (fun _ h => h)
      have hb' := hb1.grown hg (fun q hq => by injection hq with hq; have := hF.ge g hgF; omega)
      have HL' := Lib.hid (show (cur.set j (⟨(m : Int), (m : Int) + 1⟩ : GPair)).length = n by rw [List.length_set]; exact HL.out)
      have HE' := Lib.hid (show (cur.set j (⟨(m : Int), (m : Int) + 1⟩ : GPair)).take (j + 1) ++ mkPairs ((cur.set j (⟨(m : Int), (m : Int) + 1⟩ : GPair)).drop (j + 1)) (m + 2) = mkPairs xs k by
        rw [set_take (by rw [HL.out]; exact hlt), set_drop, ← HE.out, drop_cons hy, mkPairs, List.append_assoc]; rfl)
      have HM' := Lib.hid (show m + 2 = k + 2 * (j + 1) by have := HM.out; omega)
      have hm' : m + 2 ≤ 16777216 := by have := HM'.out; omega
      clear hy hv1 HL HE HM hO hg hF' i1 eF hgF hb1
      go_wp2
      go_roundw
      case rel => exact ⟨j + 1, m + 2, _, by omega, by go_num, by go_num, HM', hm', hv', HL', HE', hO', hb'⟩
      case measure => simp [intOf]; omega
    · obtain rfl : j = n := by omega
      have HF := Lib.hid (show cur = mkPairs xs k by rw [← HE.out, show cur.drop j = [] from List.drop_of_length_le (by rw [HL.out]; exact Nat.le_refl _), mkPairs, List.append_nil, List.take_of_length_le (by rw [HL.out]; exact Nat.le_refl _)])
      have HN := Lib.hid (show ((m : Nat) : Int) = ((k + 2 * xs.length : Nat) : Int) by rw [HM.out, ← L1.out])
      clear HE HL HM
      go_wp2
      go_ret
      exact RetM.mk HN.out HF.out hv1 hO hb1

set_option maxHeartbeats 1600000 in
theorem L_heldPairS (w : World) (xs : List GPair) (v : Value) (k : Nat) (h : Rd rPairs w (mkPairs xs k) [v]) (hn : 2 * xs.length ≤ 4194304) (hk : k ≤ 8388608) : Calls Tryz.prog 111 #[v, .int .i64 k] w (Ret w (.int .i64 ((k + 2 * xs.length : Nat) : Int))) := by
  obtain ⟨A, n, c, rfl, l1, l2, l3⟩ := rSl_open h
  rw [mkPairs_length] at l1
  have hnn : 2 * n ≤ 4194304 := by rw [l1]; exact hn
  have L1 := Lib.hid l1
  unfold maxLen at l3
  clear l1 hn
  go_enter Tryz.func111, Tryz.ntmps111
  go_wp2
  go_loopw [1, 5] (fun s i w' => ∃ j m : Nat, j ≤ n ∧ i = .int .i64 j ∧ s = .int .i64 m ∧ Hid (m = k + 2 * j) ∧ Bw w w') (fun s i _ => n - (intOf i).toNat)
  case atStart => exact ⟨0, k, by omega, rfl, rfl, Lib.hid rfl, Bw.refl _⟩
  case round =>
    obtain ⟨j, m, hj, rfl, rfl, HM, hb⟩ := hrel
    by_cases hlt : j < n
    · have hat := mkPairs_at (k := k) (show j < xs.length by rw [← L1.out]; exact hlt)
      rw [← HM.out] at hat
      obtain ⟨b, o, rfl, _, hc0, hc1⟩ := rPairs_at h hat
      have hcx := hb.cell hc0
      have hcx1 := hb.cell hc1
      have i1 : ((m + 1 : Nat) : Int) = (m : Int) + 1 := by omega
      simp only [i1] at hcx1
      have hm : m + 2 ≤ 16777216 := by have := HM.out; omega
      have HM' := Lib.hid (show m + 2 = k + 2 * (j + 1) by have := HM.out; omega)
      clear h hc0 hc1 hat HM i1
      go_wp2
      go_roundw
      case rel => exact ⟨j + 1, m + 2, by omega, by go_num, by go_num, HM', hb⟩
      case measure => simp [intOf]; omega
    · obtain rfl : j = n := by omega
      have HN := Lib.hid (show ((m : Nat) : Int) = ((k + 2 * xs.length : Nat) : Int) by rw [HM.out, ← L1.out])
      clear HM
      go_wp2
      go_ret
      exact Ret.int HN.out hb
end Go.Proofs.YtfffklkiikmieaaGreat
