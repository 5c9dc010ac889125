/- Standings as owned results: what the laws write into them and look for. -/
import Derived.Test.YtfffklkiikmieaaGreatQMarks4
import Derived.Test.YtfffklkiikmieaaGreatQStand
import Derived.Test.YtfffklkiikmieaaGreatQMarksC
namespace Go.Proofs.YtfffklkiikmieaaGreat
open Go.RowKit
set_option linter.unusedVariables false
theorem mkNodes_length : ∀ (xs : List GNode) (k : Nat), (mkNodes xs k).length = xs.length
  | [], _ => rfl
  | _ :: xs, k => by rw [mkNodes, List.length_cons, mkNodes_length xs, List.length_cons]
theorem mkNodes_at : ∀ {xs : List GNode} {k j : Nat} {x : GNode}, xs[j]? = some x → (mkNodes xs k)[j]? = some ⟨((k + markNodes (xs.take j) : Nat) : Int), ⟨((k + markNodes (xs.take j) + 1 : Nat) : Int), ((k + markNodes (xs.take j) + 2 : Nat) : Int), ((k + markNodes (xs.take j) + 3 : Nat) : Int), mkInts x.wish.list (k + markNodes (xs.take j) + 4), mkPairs x.wish.pairs (k + markNodes (xs.take j) + 4 + x.wish.list.length)⟩⟩
  | y :: xs, k, 0, x, h => by simp at h; subst h; simp [mkNodes, markNodes, sumL]
  | y :: xs, k, j + 1, x, h => by
    simp only [mkNodes, List.getElem?_cons_succ]
    rw [mkNodes_at (by simpa using h)]
    have e : k + markN y + markNodes (xs.take j) = k + markNodes ((y :: xs).take (j + 1)) := by
      simp only [markNodes, List.take_succ_cons, sumL]; omega
    rw [e]
  | [], _, _, _, h => by simp at h
set_option maxRecDepth 100000 in
set_option maxHeartbeats 3200000 in
theorem L_heldNodeS (w : World) (xs : List GNode) (v : Value) (k : Nat) (h : Rd rNodes w (mkNodes xs k) [v]) (htn : totNodes xs ≤ 1048576) (hk : k + markNodes xs ≤ 8388608) : Calls Tryz.prog 71 #[v, .int .i64 k] w (Ret w (.int .i64 ((k + markNodes xs : Nat) : Int))) := by
  obtain ⟨A, n, c, rfl, l1, l2, l3⟩ := rSl_open h
  rw [mkNodes_length] at l1
  have hnn : n ≤ 1048576 := by unfold totNodes at htn; rw [l1]; omega
  have L1 := Lib.hid l1
  have HTN := Lib.hid htn
  have HK := Lib.hid hk
  unfold maxLen at l3
  clear l1 htn
  go_enter Tryz.func71, Tryz.ntmps71
  go_wp2
  go_loopw [1, 5] (fun s i w' => ∃ j m : Nat, j ≤ n ∧ i = .int .i64 j ∧ s = .int .i64 m ∧ Hid (m = k + markNodes (xs.take j)) ∧ Bw w w') (fun s i _ => n - (intOf i).toNat)
  case atStart => exact ⟨0, k, by omega, rfl, rfl, Lib.hid (by simp [markNodes, sumL]), Bw.refl _⟩
  case round =>
    obtain ⟨j, m, hj, rfl, rfl, HM, hb⟩ := hrel
    by_cases hlt : j < n
    · obtain ⟨x, hx⟩ := get_of_lt (xs := xs) (k := j) (by rw [← L1.out]; exact hlt)
      have hat := mkNodes_at (k := k) hx
      rw [← HM.out] at hat
      obtain ⟨b, o, Al, cl, Ap, cp, rfl, _, d0, d1, d2, d3, d4, d5, hi1, hi2⟩ := rNodes_at h hat
      dsimp only at d0 d1 d2 d3 d4 d5 hi1 hi2
      replace d0 := hb.cell d0
      replace d1 := hb.cell d1
      replace d2 := hb.cell d2
      replace d3 := hb.cell d3
      replace d4 := hb.cell d4
      replace d5 := hb.cell d5
      have hxl : x.wish.list.length ≤ 1048576 ∧ x.wish.pairs.length ≤ 1048576 := by
        have h1 := le_sum totNode (List.mem_of_getElem? hx)
        have h3 := HTN.out
        have h2 : totNode x = x.wish.list.length + x.wish.pairs.length := rfl
        unfold totNodes at h3
        omega
      have hN : markN x = 4 + x.wish.list.length + 2 * x.wish.pairs.length := rfl
      have HM' := Lib.hid (show m + 4 + x.wish.list.length + 2 * x.wish.pairs.length = k + markNodes (xs.take (j + 1)) by rw [markNodes_take_succ hx]; have := HM.out; omega)
      have hbnd : m + 4 + x.wish.list.length + 2 * x.wish.pairs.length ≤ 8388608 := by rw [HM'.out]; have h1 := markNodes_take_le xs (j + 1); have h3 := HK.out; omega
      rw [mkInts_length] at d4 hi1
      rw [mkPairs_length] at d5 hi2
      have hcall := L_heldIntS wr x.wish.list (.slice Al x.wish.list.length cl) (m + 4) (Rd.bw rInts_good hi1 hb) hxl.1 (by omega)
      have hcall2 := fun w2 (B : Bw wr w2) => L_heldPairS w2 x.wish.pairs (.slice Ap x.wish.pairs.length cp) (m + 4 + x.wish.list.length) (Rd.bw rPairs_good hi2 (hb.then B)) (by omega) (by omega)
      obtain ⟨M, hM⟩ : ∃ M, M = x.wish.list.length := ⟨_, rfl⟩
      obtain ⟨N, hN2⟩ : ∃ N, N = x.wish.pairs.length := ⟨_, rfl⟩
      rw [← hM] at d4 hcall hcall2 hbnd HM'
      rw [← hN2] at d5 hcall2 hbnd HM'
      have i1 : ((m + 1 : Nat) : Int) = (m : Int) + 1 := by omega
      have i2 : ((m + 2 : Nat) : Int) = (m : Int) + 1 + 1 := by omega
      have i3 : ((m + 3 : Nat) : Int) = (m : Int) + 1 + 1 + 1 := by omega
      have i4 : ((m + 4 : Nat) : Int) = (m : Int) + 1 + 1 + 1 + 1 := by omega
      have i5 : ((m + 4 + M : Nat) : Int) = (m : Int) + 4 + M := by omega
      have i6 : ((m + 4 + M + 2 * N : Nat) : Int) = (m : Int) + 4 + M + 2 * N := by omega
      have I6 := Lib.hid i6
      rw [i1] at d1
      rw [i2] at d2
      rw [i3] at d3
      rw [i4, i5] at hcall
      rw [i5, i6] at hcall2
      have HH := Lib.hid h
      have HC2 := Lib.hid hcall2
      clear hx hat h hi1 hi2 HM hM hN2 hxl i1 i2 i3 i4 i5 i6 hN hcall2
      go_wp2_with fail
      refine hcall.mono ?_
      rintro e w2 ⟨rfl, hb2⟩
      replace d5 := hb2.cell d5
      clear hcall
      go_wp2_with fail
      refine (HC2.out _ hb2).mono ?_
      rintro e w3 ⟨rfl, hb3⟩
      have h := HH.out
      have hB := hb.then (hb2.then hb3)
      clear HH HC2
      go_wp2
      go_roundw
      case rel => exact ⟨j + 1, m + 4 + M + 2 * N, by omega, by go_num, by rw [I6.out], HM', hB⟩
      case measure => simp [intOf]; omega
    · obtain rfl : j = n := by omega
      have HN := Lib.hid (show ((m : Nat) : Int) = ((k + markNodes xs : Nat) : Int) by rw [HM.out, List.take_of_length_le (by rw [← L1.out]; exact Nat.le_refl _)])
      clear HM
      go_wp2
      go_ret
      exact Ret.int HN.out hb
end Go.Proofs.YtfffklkiikmieaaGreat

namespace Go.Proofs.YtfffklkiikmieaaGreat
open Go.RowKit
set_option linter.unusedVariables false
set_option linter.unusedSimpArgs false
theorem fStanding_good {B : Nat} : GoodF B fStanding :=
  ⟨fun hw ⟨v, u, t, G, H, I, e, h, k, l, hF⟩ => ⟨v, u, t, G, H, I, e, fItems_good.step (fun b hb => hw b (hb.imp (fun hb => by rw [hF]; exact List.mem_append_left _ hb) id)) h, fNodes_good.step (fun b hb => hw b (hb.imp (fun hb => by rw [hF]; exact List.mem_append_right _ (List.mem_append_left _ hb)) id)) k, fInts_good.step (fun b hb => hw b (hb.imp (fun hb => by rw [hF]; exact List.mem_append_right _ (List.mem_append_right _ hb)) id)) l, hF⟩,
   fun ⟨v, u, t, G, H, I, e, h, k, l, hF⟩ b hb => by
    rw [hF] at hb
    exact (List.mem_append.1 hb).elim ((fItems_good (B := B)).lt h b) fun hb => (List.mem_append.1 hb).elim ((fNodes_good (B := B)).lt k b) ((fInts_good (B := B)).lt l b),
   fun ⟨v, u, t, G, H, I, e, h, k, l, hF⟩ s hs => by
    rw [e] at hs
    simp at hs
    rcases hs with rfl | rfl | rfl | rfl
    · exact (fItems_good (B := B)).one h _ (by simp)
    · exact (fNodes_good (B := B)).one k _ (by simp)
    · exact (fInts_good (B := B)).one l _ (by simp)
    · rfl⟩
theorem fStanding_Rds {w : World} {x : GStanding} {a b c d : Value} {F : List Nat} (h : fStanding w x [a, b, c, d] F) : Rd rItems w x.items [a] ∧ Rd rNodes w x.wanted [b] ∧ Rd rInts w x.best [c] ∧ d = .int .i64 x.tests := by
  obtain ⟨v, u, t, G, H, I, e, h, k, l, hF⟩ := h
  injection e with e1 e; injection e with e2 e; injection e with e3 e; injection e with e4 e
  subst e1 e2 e3 e4
  exact ⟨fItems_Rd h, fNodes_Rd k, fInts_Rd l, rfl⟩
theorem fStanding_shape {w : World} {x : GStanding} {cs : List Value} {F : List Nat} (h : fStanding w x cs F) : ∃ A1 c1 A2 c2 A3 c3, cs = [.slice A1 x.items.length c1, .slice A2 x.wanted.length c2, .slice A3 x.best.length c3, .int .i64 x.tests] := by
  obtain ⟨v, u, t, G, H, I, e, h, k, l, hF⟩ := h
  obtain ⟨A1, c1, rfl, _⟩ := rSl_shape (fItems_Rd h)
  obtain ⟨A2, c2, rfl, _⟩ := rSl_shape (fNodes_Rd k)
  obtain ⟨A3, c3, rfl, _⟩ := rSl_shape (fInts_Rd l)
  exact ⟨A1, c1, A2, c2, A3, c3, e⟩
def mkStanding (x : GStanding) (k : Nat) : GStanding := ⟨mkItems x.items k, mkNodes x.wanted (k + totItems x.items), mkInts x.best (k + totItems x.items + markNodes x.wanted), x.tests⟩
def markSt (x : GStanding) : Nat := totItems x.items + markNodes x.wanted + x.best.length
def smallSt (x : GStanding) : Prop := totItems x.items ≤ 1048576 ∧ totNodes x.wanted ≤ 1048576 ∧ x.best.length ≤ 1048576
theorem smallSt_of {x : GStanding} (h : totStanding x ≤ 1048576) : smallSt x := by unfold totStanding at h; unfold smallSt; omega
theorem markSt_le {x : GStanding} (h : smallSt x) : markSt x ≤ 6291456 := by
  obtain ⟨h1, h2, h3⟩ := h
  have := markNodes_le x.wanted
  unfold markSt; omega
def RetMs {α : Type} (f : Fp α) (w0 w : World) (x : α) (cs : List Value) (F : List Nat) (k : Nat) (e : Ending) (w' : World) : Prop := e = .returned (.int .i64 k) ∧ f w' x cs F ∧ Only F w w' ∧ Bw w0 w'
set_option maxRecDepth 100000 in
set_option maxHeartbeats 1600000 in
theorem L_markStanding (w0 w : World) (x : GStanding) (A1 A2 A3 : Option Addr) (n1 n2 n3 c1 c2 c3 : Nat) (F : List Nat) (k : Nat) (hv : fStanding w x [.slice A1 n1 c1, .slice A2 n2 c2, .slice A3 n3 c3, .int .i64 x.tests] F) (hF : Fresh w0.heap.size F) (hb : Bw w0 w) (hs : smallSt x) (hk : k ≤ 2097152) :
    Calls Tryz.prog 25 #[.agg #[.slice A1 n1 c1, .slice A2 n2 c2, .slice A3 n3 c3, .int .i64 x.tests], .int .i64 k] w (RetMs fStanding w0 w (mkStanding x k) [.slice A1 n1 c1, .slice A2 n2 c2, .slice A3 n3 c3, .int .i64 x.tests] F (k + markSt x)) := by
  obtain ⟨v, u, t, G, H, I, e, h1, h2, h3, rfl⟩ := hv
  injection e with e1 e; injection e with e2 e; injection e with e3 e; injection e with e4 e
  subst e1 e2 e3
  clear e e4
  obtain ⟨s1, s2, s3⟩ := hs
  have hnl := markNodes_le x.wanted
  have hnd := hF.nodup
  rw [List.nodup_append] at hnd
  have hnd2 := hnd.2.1
  rw [List.nodup_append] at hnd2
  have fG : Fresh w0.heap.size G := ⟨hnd.1, fun b hb => hF.ge b (List.mem_append_left _ hb)⟩
  have fH : Fresh w0.heap.size H := ⟨hnd2.1, fun b hb => hF.ge b (List.mem_append_right _ (List.mem_append_left _ hb))⟩
  have fI : Fresh w0.heap.size I := ⟨hnd2.2.1, fun b hb => hF.ge b (List.mem_append_right _ (List.mem_append_right _ hb))⟩
  have dGH : ∀ b ∈ H, b ∉ G := fun b hb hb2 => hnd.2.2 b hb2 b (List.mem_append_left _ hb) rfl
  have dGI : ∀ b ∈ I, b ∉ G := fun b hb hb2 => hnd.2.2 b hb2 b (List.mem_append_right _ hb) rfl
  have dHG : ∀ b ∈ G, b ∉ H := fun b hb hb2 => hnd.2.2 b hb b (List.mem_append_left _ hb2) rfl
  have dHI : ∀ b ∈ I, b ∉ H := fun b hb hb2 => hnd2.2.2 b hb2 b hb rfl
  have dIG : ∀ b ∈ G, b ∉ I := fun b hb hb2 => hnd.2.2 b hb b (List.mem_append_right _ hb2) rfl
  have dIH : ∀ b ∈ H, b ∉ I := fun b hb hb2 => hnd2.2.2 b hb b hb2 rfl
  have A0 : Bw w (w.alloc (.cells #[.slice A1 n1 c1, .slice A2 n2 c2, .slice A3 n3 c3, .int .i64 x.tests] 47)) := (Bw.refl w).alloc _
  have B0 := hb.then A0
  have O0 := Only.alloc (G ++ (H ++ I)) w (.cells #[.slice A1 n1 c1, .slice A2 n2 c2, .slice A3 n3 c3, .int .i64 x.tests] 47)
  have nG : w.heap.size ∉ G := fun h => by have := (fItems_good (B := 0)).lt h1 _ h; omega
  have nH : w.heap.size ∉ H := fun h => by have := (fNodes_good (B := 0)).lt h2 _ h; omega
  have h1' := (fItems_good (B := w0.heap.size)).bw A0 hb.size h1
  have h2' := (fNodes_good (B := w0.heap.size)).bw A0 hb.size h2
  have h3' := (fInts_good (B := w0.heap.size)).bw A0 hb.size h3
  have q1 : (w.alloc (.cells #[.slice A1 n1 c1, .slice A2 n2 c2, .slice A3 n3 c3, .int .i64 x.tests] 47)).cell? ⟨w.heap.size, 1, none⟩ = some (.slice A2 n2 c2) := by go_simp
  have q2 : (w.alloc (.cells #[.slice A1 n1 c1, .slice A2 n2 c2, .slice A3 n3 c3, .int .i64 x.tests] 47)).cell? ⟨w.heap.size, 2, none⟩ = some (.slice A3 n3 c3) := by go_simp
  have hcall := L_markItemS w0 _ x.items _ G k h1' fG B0 s1 hk
  have hcall2 := fun w2 o c => L_markNodeS w0 w2 x.wanted (.slice A2 n2 c2) H (k + totItems x.items) o fH c s2 (by omega)
  have hcall3 := fun w2 o c => L_markIntS w0 w2 x.best (.slice A3 n3 c3) I (k + totItems x.items + markNodes x.wanted) o fI c s3 (by omega)
  have HM := Lib.hid (show k + totItems x.items + markNodes x.wanted + x.best.length = k + markSt x by unfold markSt; omega)
  rw [HM.out] at hcall3
  have HC2 := Lib.hid hcall2
  have HC3 := Lib.hid hcall3
  clear h1 h2 h3 hnl hnd hnd2 h1' fG fH fI hcall2 hcall3 s1 s2 s3
  go_enter Tryz.func25, Tryz.ntmps25
  go_wp2_with fail
  refine hcall.mono ?_
  rintro e w1 ⟨rfl, m1, hO1, hb1⟩
  replace q1 := hO1.cell q1 nG
  replace q2 := hO1.cell q2 nG
  replace h2' := hO1.keeps (fNodes_good (B := 0)) h2' dGH
  replace h3' := hO1.keeps (fInts_good (B := 0)) h3' dGI
  clear hcall
  go_wp2_with fail
  refine (HC2.out _ h2' hb1).mono ?_
  rintro e w2 ⟨rfl, m2, hO2, hb2⟩
  replace q2 := hO2.cell q2 nH
  replace h3' := hO2.keeps (fInts_good (B := 0)) h3' dHI
  replace m1 := hO2.keeps (fItems_good (B := 0)) m1 dHG
  go_wp2_with fail
  refine (HC3.out _ h3' hb2).mono ?_
  rintro e w3 ⟨rfl, m3, hO3, hb3⟩
  replace m1 := hO3.keeps (fItems_good (B := 0)) m1 dIG
  replace m2 := hO3.keeps (fNodes_good (B := 0)) m2 dIH
  have O1 := O0.then hO1 (fun b hb => List.mem_append_left _ hb)
  have O2 := O1.then hO2 (fun b hb => List.mem_append_right _ (List.mem_append_left _ hb))
  have O3 := O2.then hO3 (fun b hb => List.mem_append_right _ (List.mem_append_right _ hb))
  clear O0 O1 O2 hO1 hO2 hO3 HC2 HC3 A0 B0 hb1 hb2 q1 q2 h2' h3'
  go_wp2
  go_ret
  exact ⟨rfl, ⟨_, _, _, G, H, I, rfl, m1, m2, m3, rfl⟩, O3, hb3⟩
set_option maxRecDepth 100000 in
set_option maxHeartbeats 1600000 in
theorem L_heldStanding (w : World) (x : GStanding) (A1 A2 A3 : Option Addr) (n1 n2 n3 c1 c2 c3 : Nat) (k : Nat) (h1 : Rd rItems w (mkItems x.items k) [.slice A1 n1 c1]) (h2 : Rd rNodes w (mkNodes x.wanted (k + totItems x.items)) [.slice A2 n2 c2]) (h3 : Rd rInts w (mkInts x.best (k + totItems x.items + markNodes x.wanted)) [.slice A3 n3 c3]) (hs : smallSt x) (hk : k ≤ 2097152) :
    Calls Tryz.prog 26 #[.agg #[.slice A1 n1 c1, .slice A2 n2 c2, .slice A3 n3 c3, .int .i64 x.tests], .int .i64 k] w (Ret w (.int .i64 ((k + markSt x : Nat) : Int))) := by
  obtain ⟨s1, s2, s3⟩ := hs
  have hnl := markNodes_le x.wanted
  have A0 : Bw w (w.alloc (.cells #[.slice A1 n1 c1, .slice A2 n2 c2, .slice A3 n3 c3, .int .i64 x.tests] 47)) := (Bw.refl w).alloc _
  have q1 : (w.alloc (.cells #[.slice A1 n1 c1, .slice A2 n2 c2, .slice A3 n3 c3, .int .i64 x.tests] 47)).cell? ⟨w.heap.size, 1, none⟩ = some (.slice A2 n2 c2) := by go_simp
  have q2 : (w.alloc (.cells #[.slice A1 n1 c1, .slice A2 n2 c2, .slice A3 n3 c3, .int .i64 x.tests] 47)).cell? ⟨w.heap.size, 2, none⟩ = some (.slice A3 n3 c3) := by go_simp
  have hcall := L_heldItemS _ x.items _ k (h1.bw rItems_good A0) s1 hk
  have hcall2 := fun w2 (B : Bw w w2) => L_heldNodeS w2 x.wanted (.slice A2 n2 c2) (k + totItems x.items) (h2.bw rNodes_good B) s2 (by omega)
  have hcall3 := fun w2 (B : Bw w w2) => L_heldIntS w2 x.best (.slice A3 n3 c3) (k + totItems x.items + markNodes x.wanted) (h3.bw rInts_good B) s3 (by omega)
  have HM := Lib.hid (show k + totItems x.items + markNodes x.wanted + x.best.length = k + markSt x by unfold markSt; omega)
  rw [HM.out] at hcall3
  have HC2 := Lib.hid hcall2
  have HC3 := Lib.hid hcall3
  obtain ⟨K1, hK1⟩ : ∃ K, K = k + totItems x.items := ⟨_, rfl⟩
  obtain ⟨K2, hK2⟩ : ∃ K, K = K1 + markNodes x.wanted := ⟨_, rfl⟩
  obtain ⟨K3, hK3⟩ : ∃ K, K = k + markSt x := ⟨_, rfl⟩
  have b1 : K1 ≤ 4194304 := by omega
  have b2 : K2 ≤ 8388608 := by omega
  have b3 : K3 ≤ 16777216 := by rw [hK3]; unfold markSt; omega
  rw [← hK1] at hcall HC2 HC3
  rw [← hK2] at HC2 HC3
  rw [← hK3] at HC3 ⊢
  clear h1 h2 h3 hcall2 hcall3 s1 s2 s3 hK1 hK2 hK3 hnl HM
  go_enter Tryz.func26, Tryz.ntmps26
  go_wp2_with fail
  refine hcall.mono ?_
  rintro e w1 ⟨rfl, hb1⟩
  replace q1 := hb1.cell q1
  replace q2 := hb1.cell q2
  have B1 := A0.then hb1
  clear hcall
  go_wp2_with fail
  refine (HC2.out _ B1).mono ?_
  rintro e w2 ⟨rfl, hb2⟩
  replace q2 := hb2.cell q2
  have B2 := B1.then hb2
  go_wp2_with fail
  refine (HC3.out _ B2).mono ?_
  rintro e w3 ⟨rfl, hb3⟩
  have B3 := B2.then hb3
  clear HC2 HC3
  go_wp2
  go_ret
  exact Ret.int rfl B3
theorem L_heldSt {w : World} {x : GStanding} {A1 A2 A3 : Option Addr} {n1 n2 n3 c1 c2 c3 : Nat} {F : List Nat} (h : fStanding w (mkStanding x 1) [.slice A1 n1 c1, .slice A2 n2 c2, .slice A3 n3 c3, .int .i64 x.tests] F) (hs : smallSt x) :
    Calls Tryz.prog 26 #[.agg #[.slice A1 n1 c1, .slice A2 n2 c2, .slice A3 n3 c3, .int .i64 x.tests], .int .i64 1] w (Ret w (.int .i64 ((1 + markSt x : Nat) : Int))) := by
  obtain ⟨h1, h2, h3, _⟩ := fStanding_Rds h
  exact L_heldStanding w x A1 A2 A3 n1 n2 n3 c1 c2 c3 1 h1 h2 h3 hs (by omega)
end Go.Proofs.YtfffklkiikmieaaGreat
