/- What the laws write into wishes. -/
import Derived.Test.YtdfmgpmfalnffaaMarks4
namespace Go.Proofs.Ytdfmgpmfalnffaa
open Go.RowKit
set_option linter.unusedVariables false
def markW (x : GWish) : Nat := 3 + x.list.length + 2 * x.pairs.length
def markWishes (xs : List GWish) : Nat := sumL markW xs
def mkWishes : List GWish → Nat → List GWish
  | [], _ => []
  | x :: xs, k => ⟨k, ((k + 1 : Nat) : Int), ((k + 2 : Nat) : Int), mkInts x.list (k + 3), mkPairs x.pairs (k + 3 + x.list.length)⟩ :: mkWishes xs (k + markW x)
theorem markWishes_le : ∀ xs : List GWish, markWishes xs ≤ 3 * totWishes xs
  | [] => by simp [markWishes, sumL]
  | x :: xs => by
    have := markWishes_le xs
    unfold markWishes totWishes at *
    simp only [sumL, List.length_cons, markW, totWish] at *
    omega
theorem markWishes_take_succ {xs : List GWish} {j : Nat} {x : GWish} (h : xs[j]? = some x) : markWishes (xs.take (j + 1)) = markWishes (xs.take j) + markW x := by
  have hs : ∀ (l : List GWish) (y : GWish), sumL markW (l ++ [y]) = sumL markW l + markW y := fun l y => by
    induction l with
    | nil => simp [sumL]
    | cons a l ih => simp only [List.cons_append, sumL, ih]; omega
  rw [List.take_add_one, h]
  simp only [markWishes, Option.toList_some, hs]
theorem markWishes_take_le (xs : List GWish) (j : Nat) : markWishes (xs.take j) ≤ markWishes xs := by
  have : ∀ (l m : List GWish), sumL markW l ≤ sumL markW (l ++ m) := fun l m => by
    induction l with
    | nil => simp [sumL]
    | cons a l ih => simp only [List.cons_append, sumL]; omega
  have h1 := this (xs.take j) (xs.drop j)
  rwa [List.take_append_drop] at h1
theorem fWish_open {w : World} {x : GWish} {u : List Value} {f : List Nat} (h : fWish w x u f) : ∃ Al cl Ap cp G H, u = [.int .i64 x.kind, .int .i64 x.field, .int .i64 x.value, .slice Al x.list.length cl, .slice Ap x.pairs.length cp] ∧
    fInts w x.list [.slice Al x.list.length cl] G ∧ fPairs w x.pairs [.slice Ap x.pairs.length cp] H ∧ f = G ++ H := by
  obtain ⟨v, t, G, H, e2, h1, h2, hf⟩ := h
  obtain ⟨Al, cl, rfl, _⟩ := rSl_shape (fInts_Rd h1)
  obtain ⟨Ap, cp, rfl, _⟩ := rSl_shape (fPairs_Rd h2)
  exact ⟨Al, cl, Ap, cp, G, H, e2, h1, h2, hf⟩
theorem fWishes_three {B g n c i : Nat} {w : World} {xs : List GWish} {F : List Nat} (hv : fWishes w xs [.slice (some ⟨g, 0, none⟩) n c] F) (hF : Fresh B F) {x : GWish} (hx : xs[i]? = some x) (a0 a1 a2 : Int) :
    ∃ W Al cl Ap cp G H, W = ((w.setCell ⟨g, i * 5, none⟩ (.int .i64 a0)).setCell ⟨g, i * 5 + 1, none⟩ (.int .i64 a1)).setCell ⟨g, i * 5 + 2, none⟩ (.int .i64 a2) ∧
      w.cell? ⟨g, i * 5, none⟩ = some (.int .i64 x.kind) ∧ w.cell? ⟨g, i * 5 + 1, none⟩ = some (.int .i64 x.field) ∧ w.cell? ⟨g, i * 5 + 2, none⟩ = some (.int .i64 x.value) ∧
      w.cell? ⟨g, i * 5 + 3, none⟩ = some (.slice Al x.list.length cl) ∧ w.cell? ⟨g, i * 5 + 4, none⟩ = some (.slice Ap x.pairs.length cp) ∧
      fInts W x.list [.slice Al x.list.length cl] G ∧ fPairs W x.pairs [.slice Ap x.pairs.length cp] H ∧ Fresh B (G ++ H) ∧ (∀ b ∈ G ++ H, b ∈ F ∧ b ≠ g) ∧ g ∈ F ∧ (∀ b, b ≠ g → W.heap[b]? = w.heap[b]?) ∧ W.heap.size = w.heap.size ∧
      (∀ w' l p, Only (G ++ H) W w' → l.length = x.list.length → p.length = x.pairs.length → fInts w' l [.slice Al x.list.length cl] G → fPairs w' p [.slice Ap x.pairs.length cp] H →
        fWishes w' (xs.set i ⟨a0, a1, a2, l, p⟩) [.slice (some ⟨g, 0, none⟩) n c] F) := by
  obtain ⟨u, f, hin, hul, hc, hf, hfF, hgF, hst⟩ := fSl_focus (fWish_good (B := 0)) hv hF hx
  obtain ⟨Al, cl, Ap, cp, G, H, rfl, h1, h2, rfl⟩ := fWish_open hin
  obtain ⟨k1, k2, k3⟩ := hst [(0, .int .i64 a0), (1, .int .i64 a1), (2, .int .i64 a2)] (by simp)
  have hWb : ∀ b ∈ G ++ H, (putsW g (i * 5) [(0, Value.int .i64 a0), (1, .int .i64 a1), (2, .int .i64 a2)] w).heap[b]? = w.heap[b]? := fun b hb => k1 b (hfF b hb).2
  refine ⟨_, Al, cl, Ap, cp, G, H, rfl, hc 0 _ rfl, hc 1 _ rfl, hc 2 _ rfl, hc 3 _ rfl, hc 4 _ rfl, ?_, ?_, hf, hfF, hgF, k1, k2, ?_⟩
  · exact (fInts_good (B := 0)).step (fun b hb => by
      rcases hb with hb | hb
      · exact hWb b (List.mem_append_left _ hb)
      · omega) h1
  · exact (fPairs_good (B := 0)).step (fun b hb => by
      rcases hb with hb | hb
      · exact hWb b (List.mem_append_right _ hb)
      · omega) h2
  · intro w' l p hO _ _ hl hp
    exact k3 w' _ hO ⟨_, _, G, H, rfl, hl, hp, rfl⟩
set_option maxRecDepth 100000 in
set_option maxHeartbeats 3200000 in
theorem L_markWishS (w0 w : World) (xs : List GWish) (v : Value) (F : List Nat) (k : Nat) (hv : fWishes w xs [v] F) (hF : Fresh w0.heap.size F) (hb : Bw w0 w) (htn : totWishes xs ≤ 1048576) (hk : k + markWishes xs ≤ 8388608) : Calls Try.prog 62 #[v, .int .i64 k] w (RetM fWishes w0 w (mkWishes xs k) v F (k + markWishes xs)) := by
  obtain ⟨A, n, c, rfl, l1, l2, l3⟩ := rSl_open (fWishes_Rd hv)
  have ht : markWishes xs ≤ 4194304 := by have := markWishes_le xs; omega
  have hnn : n ≤ 1048576 := by unfold totWishes at htn; rw [l1]; omega
  have HTN := Lib.hid htn
  clear htn
  have L1 := Lib.hid l1
  have HT := Lib.hid ht
  unfold maxLen at l3
  clear l1 ht
  go_enter Try.func62, Try.ntmps62
  go_wp2
  go_loopg [1, 5] n (fun gg s i w' => ∃ (j m : Nat) (cur : List GWish), j ≤ n ∧ gg = n - j ∧ i = .int .i64 j ∧ s = .int .i64 m ∧ Hid (m = k + markWishes (xs.take j)) ∧ m ≤ 8388608 ∧ fWishes w' cur [.slice A n c] F ∧ Hid (cur.length = n) ∧ Hid (cur.drop j = xs.drop j) ∧ Hid (cur.take j ++ mkWishes (cur.drop j) m = mkWishes xs k) ∧ Only F w w' ∧ Bw w0 w')
  case atStart => exact ⟨0, k, xs, by omega, rfl, rfl, rfl, Lib.hid (by simp [markWishes, sumL]), by omega, hv, Lib.hid L1.out.symm, Lib.hid rfl, Lib.hid rfl, Only.refl _ _, hb⟩
  case round =>
    clear hv hb
    obtain ⟨j, m, cur, hj, rfl, rfl, rfl, HM, hm9, hv1, HL, HD, HE, hO, hb1⟩ := hrel
    by_cases hlt : j < n
    · obtain ⟨x, hy⟩ := get_of_lt (xs := cur) (k := j) (by rw [HL.out]; exact hlt)
      have hx : xs[j]? = some x := by
        have h1 : (cur.drop j)[0]? = (xs.drop j)[0]? := by rw [HD.out]
        rw [List.getElem?_drop, List.getElem?_drop, Nat.add_zero, hy] at h1
        exact h1.symm
      obtain ⟨g, rfl, hz9, hgF⟩ := fSl_lit2 hv1 (by rw [HL.out]; omega)
      clear hz9
      have hff := fun o => fSl_frozen hv1 o
      obtain ⟨W, Al, cl, Ap, cp, G, H, hW, c0, c1, c2, c4, c5, o1, o2, fGH, hsub, _, hblk, hsz, hback⟩ := fWishes_three hv1 hF hy (m : Int) ((m : Int) + 1) ((m : Int) + 1 + 1)
      have hN : markW x = 3 + x.list.length + 2 * x.pairs.length := rfl
      have HM' := Lib.hid (show m + 3 + x.list.length + 2 * x.pairs.length = k + markWishes (xs.take (j + 1)) by rw [markWishes_take_succ hx]; have := HM.out; omega)
      have hbnd : m + 3 + x.list.length + 2 * x.pairs.length ≤ 8388608 := by rw [HM'.out]; have h1 := markWishes_take_le xs (j + 1); have h3 := HT.out; omega
      have htot : 3 + x.list.length + 2 * x.pairs.length ≤ 4194304 := by have h1 := markWishes_take_le xs (j + 1); rw [markWishes_take_succ hx] at h1; have h3 := HT.out; omega
      have hxl : x.list.length ≤ 1048576 := by
        have h1 := le_sum totWish (List.mem_of_getElem? hx)
        have h3 := HTN.out
        have h2 : totWish x = x.list.length + x.pairs.length := rfl
        unfold totWishes at h3
        omega
      have hbW : Bw w0 W := by rw [hW]; have hg := hF.ge g hgF; exact ((hb1.set hg _).set hg _).set hg _
      have hOW : Only F wr W := ⟨by rw [hsz]; exact Nat.le_refl _, fun b _ hn => hblk b (fun e => hn (e ▸ hgF))⟩
      have hnd := fGH.nodup
      rw [List.nodup_append] at hnd
      have c4W : W.cell? ⟨g, j * 5 + 3, none⟩ = some (.slice Al x.list.length cl) := by rw [hW]; go_simp
      have c5W : W.cell? ⟨g, j * 5 + 4, none⟩ = some (.slice Ap x.pairs.length cp) := by rw [hW]; go_simp
      have fG : Fresh w0.heap.size G := ⟨hnd.1, fun b hb => fGH.ge b (List.mem_append_left _ hb)⟩
      have fH : Fresh w0.heap.size H := ⟨hnd.2.1, fun b hb => fGH.ge b (List.mem_append_right _ hb)⟩
      have gG : g ∉ G := fun h => (hsub g (List.mem_append_left _ h)).2 rfl
      have dGH : ∀ b ∈ H, b ∉ G := fun b hb hb2 => hnd.2.2 b hb2 b hb rfl
      have dHG : ∀ b ∈ G, b ∉ H := fun b hb hb2 => hnd.2.2 b hb b hb2 rfl
      have hcall := L_markIntS w0 W x.list _ G (m + 3) o1 fG hbW (by omega) (by omega)
      have hcall2 : ∀ w2, fPairs w2 x.pairs [.slice Ap x.pairs.length cp] H → Bw w0 w2 → Calls Try.prog 91 #[.slice Ap x.pairs.length cp, .int .i64 ((m + 3 + x.list.length : Nat) : Int)] w2 (RetM fPairs w0 w2 (mkPairs x.pairs (m + 3 + x.list.length)) (.slice Ap x.pairs.length cp) H (m + 3 + x.list.length + 2 * x.pairs.length)) := fun w2 o c => L_markPairS w0 w2 x.pairs _ H (m + 3 + x.list.length) o fH c (by omega) (by omega)
      have HD' := Lib.hid (show (cur.set j (⟨m, (m : Int) + 1, (m : Int) + 1 + 1, mkInts x.list (m + 3), mkPairs x.pairs (m + 3 + x.list.length)⟩ : GWish)).drop (j + 1) = xs.drop (j + 1) by
        rw [set_drop]
        have h1 : (cur.drop j).drop 1 = (xs.drop j).drop 1 := by rw [HD.out]
        simpa [List.drop_drop] using h1)
      have HL' := Lib.hid (show (cur.set j (⟨m, (m : Int) + 1, (m : Int) + 1 + 1, mkInts x.list (m + 3), mkPairs x.pairs (m + 3 + x.list.length)⟩ : GWish)).length = n by rw [List.length_set]; exact HL.out)
      have HE' := Lib.hid (show (cur.set j (⟨m, (m : Int) + 1, (m : Int) + 1 + 1, mkInts x.list (m + 3), mkPairs x.pairs (m + 3 + x.list.length)⟩ : GWish)).take (j + 1) ++ mkWishes ((cur.set j (⟨m, (m : Int) + 1, (m : Int) + 1 + 1, mkInts x.list (m + 3), mkPairs x.pairs (m + 3 + x.list.length)⟩ : GWish)).drop (j + 1)) (m + 3 + x.list.length + 2 * x.pairs.length) = mkWishes xs k by
        rw [set_take (by rw [HL.out]; exact hlt), set_drop, ← HE.out, drop_cons hy, mkWishes, List.append_assoc, hN]
        congr 1
        rw [show m + (3 + x.list.length + 2 * x.pairs.length) = m + 3 + x.list.length + 2 * x.pairs.length by omega]
        rfl)
      have hback2 := fun w' (hO : Only (G ++ H) W w') h1 h2 => hback w' (mkInts x.list (m + 3)) (mkPairs x.pairs (m + 3 + x.list.length)) hO (mkInts_length _ _) (mkPairs_length _ _) h1 h2
      have hO2 := hO.then hOW (fun _ h => h)
      obtain ⟨M, hM⟩ : ∃ M, M = x.list.length := ⟨_, rfl⟩
      obtain ⟨N, hN2⟩ : ∃ N, N = x.pairs.length := ⟨_, rfl⟩
      rw [← hM] at c4 c4W hcall hcall2 hback2 HM' hbnd HE' HD' HL' o1
      rw [← hN2] at c5 c5W hcall2 hback2 HM' hbnd HE' o2
      have k1 : ((m + 3 : Nat) : Int) = (m : Int) + 1 + 1 + 1 := by omega
      have k3 : ((m + 3 + M + 2 * N : Nat) : Int) = (m : Int) + 3 + M + 2 * N := by omega
      rw [k1] at hcall
      have f0 := hff (j * 5)
      have f1 := hff (j * 5 + 1)
      have f2 := hff (j * 5 + 2)
      have hsub' : ∀ b ∈ G ++ H, b ∈ F := fun b hb => (hsub b hb).1
      have HW := Lib.hid (show W = ((wr.setCell ⟨g, j * 5, none⟩ (.int .i64 m)).setCell ⟨g, j * 5 + 1, none⟩ (.int .i64 ((m : Int) + 1))).setCell ⟨g, j * 5 + 2, none⟩ (.int .i64 ((m : Int) + 1 + 1)) by rw [hW])
      clear hx hy hv1 HM HL HD HE hO hback hM hN hN2 hgF hbW hOW hblk hsz o1 hff hnd fGH fG fH hsub htot hb1 k1 hxl
      go_wp2_with fail
      rw [← HW.out]
      refine hcall.mono ?_
      rintro e w2 ⟨rfl, n1, hO3, hb3⟩
      have c5' := hO3.cell c5W gG
      have o2' := hO3.keeps (fPairs_good (B := 0)) o2 dGH
      clear hcall c4W c5W
      go_wp2_with fail
      refine (hcall2 _ o2' hb3).mono ?_
      rintro e w3 ⟨rfl, n2, hO4, hb4⟩
      have n1' := hO4.keeps (fInts_good (B := 0)) n1 dHG
      have hOW3 : Only (G ++ H) W w3 := Only.then ⟨hO3.1, fun b hb hn => hO3.2 b hb (fun h => hn (List.mem_append_left _ h))⟩ hO4 (fun b h => List.mem_append_right _ h)
      have hv3 := hback2 w3 hOW3 n1' n2
      have hO5 := hO2.then hOW3 hsub'
      clear hback2 n1 n2 n1' hO3 hO4 hO2 hOW3 hsub' o2 o2' c5' hcall2
      go_wp2
      go_roundg (n - (j + 1))
      case measure => omega
      case rel => exact ⟨j + 1, m + 3 + M + 2 * N, _, by omega, rfl, by go_num, by rw [k3], HM', hbnd, hv3, HL', HD', HE', hO5, hb4⟩
    · obtain rfl : j = n := by omega
      have HF := Lib.hid (show cur = mkWishes xs k by rw [← HE.out, show cur.drop j = [] from List.drop_of_length_le (by rw [HL.out]; exact Nat.le_refl _), mkWishes, List.append_nil, List.take_of_length_le (by rw [HL.out]; exact Nat.le_refl _)])
      have HN := Lib.hid (show ((m : Nat) : Int) = ((k + markWishes xs : Nat) : Int) by rw [HM.out, List.take_of_length_le (by rw [← L1.out]; exact Nat.le_refl _)])
      clear HE HL HD HM
      go_wp2
      go_ret
      exact RetM.mk HN.out HF.out hv1 hO hb1
end Go.Proofs.Ytdfmgpmfalnffaa
