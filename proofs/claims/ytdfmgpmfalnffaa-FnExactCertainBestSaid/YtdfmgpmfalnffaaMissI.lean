/- Answers over all completions in the program. -/
import Derived.Test.YtdfmgpmfalnffaaMissing
import Derived.Test.YtdfmgpmfalnffaaBestI
import Derived.Test.YtdfmgpmfalnffaaSlicesI
import Derived.Test.YtdfmgpmfalnffaaMarks
namespace Go.Proofs.Ytdfmgpmfalnffaa
open Go.RowKit
set_option linter.unusedVariables false
set_option linter.unusedSimpArgs false
def cntTo (l : List GItem) (e : List GNode) (j : Nat) (x : GItem) : Nat := ((List.range j).filter (bestIn l e x)).length
theorem cntTo_yes {l : List GItem} {e : List GNode} {j : Nat} {x : GItem} (h : bestIn l e x j = true) : cntTo l e (j + 1) x = cntTo l e j x + 1 := by
  unfold cntTo; rw [List.range_succ, List.filter_append]; simp [h]
theorem cntTo_no {l : List GItem} {e : List GNode} {j : Nat} {x : GItem} (h : bestIn l e x j = false) : cntTo l e (j + 1) x = cntTo l e j x := by
  unfold cntTo; rw [List.range_succ, List.filter_append]; simp [h]
theorem cntTo_le (l : List GItem) (e : List GNode) (j : Nat) (x : GItem) : cntTo l e j x ≤ j := by
  unfold cntTo; exact Nat.le_trans (List.length_filter_le _ _) (by simp)
theorem cntTo_pos (l : List GItem) (e : List GNode) (j : Nat) (x : GItem) : (List.range j).any (bestIn l e x) = decide (0 < cntTo l e j x) := by
  induction j with
  | zero => simp [cntTo]
  | succ j ih =>
    rw [any_range_succ, ih]
    rcases Bool.eq_false_or_eq_true (bestIn l e x j) with h | h
    · rw [cntTo_yes h, h]; simp
    · rw [cntTo_no h, h]; simp
theorem cntTo_all (l : List GItem) (e : List GNode) (j : Nat) (x : GItem) : (List.range j).all (bestIn l e x) = decide (cntTo l e j x = j) := by
  induction j with
  | zero => simp [cntTo]
  | succ j ih =>
    rw [all_range_succ, ih]
    have := cntTo_le l e j x
    rcases Bool.eq_false_or_eq_true (bestIn l e x j) with h | h
    · rw [cntTo_yes h, h]; simp
    · rw [cntTo_no h, h]; simp; omega
def mixL (f g : GItem → Nat) (l : List GItem) (k : Nat) : List Int := (l.take k).map (fun x => (f x : Int)) ++ (l.drop k).map (fun x => (g x : Int))
theorem mixL_len (f g : GItem → Nat) (l : List GItem) (k : Nat) : (mixL f g l k).length = l.length := by
  unfold mixL; rw [List.length_append, List.length_map, List.length_map, ← List.length_append, List.take_append_drop]
theorem mixL_get {f g : GItem → Nat} {l : List GItem} {k : Nat} {x : GItem} (h : l[k]? = some x) : (mixL f g l k)[k]? = some ((g x : Nat) : Int) := by
  have hk : k < l.length := (List.getElem?_eq_some_iff.1 h).1
  unfold mixL
  rw [List.getElem?_append_right (by simp; omega), drop_cons h]
  simp [Nat.min_eq_left (Nat.le_of_lt hk)]
theorem mixL_step {f g : GItem → Nat} {l : List GItem} {k : Nat} {x : GItem} (h : l[k]? = some x) : (mixL f g l k).set k ((f x : Nat) : Int) = mixL f g l (k + 1) := by
  have hk : k < l.length := (List.getElem?_eq_some_iff.1 h).1
  unfold mixL
  rw [List.set_append_right _ _ (by simp; omega), drop_cons h, List.take_add_one, h]
  simp [Nat.min_eq_left (Nat.le_of_lt hk)]
theorem set_sameI {α : Type} {l : List α} {i : Nat} {x : α} (h : l[i]? = some x) : l.set i x = l := by
  apply List.ext_getElem?
  intro j
  rw [List.getElem?_set]
  by_cases hj : i = j
  · subst hj; rw [if_pos rfl, if_pos (List.getElem?_eq_some_iff.1 h).1, h]
  · rw [if_neg hj]
theorem mixL_same {f g : GItem → Nat} {l : List GItem} {k : Nat} {x : GItem} (h : l[k]? = some x) (he : f x = g x) : mixL f g l (k + 1) = mixL f g l k := by
  rw [← mixL_step h, he]
  exact set_sameI (mixL_get h)
def countsM (l : List GItem) (e : List GNode) (j : Nat) : List Int := l.map (fun x => (cntTo l e j x : Int))
theorem mixL_zero (f g : GItem → Nat) (l : List GItem) : mixL f g l 0 = l.map (fun x => (g x : Int)) := by simp [mixL]
theorem mixL_end {f g : GItem → Nat} {l : List GItem} {k : Nat} (h : l.length ≤ k) : mixL f g l k = l.map (fun x => (f x : Int)) := by
  unfold mixL; rw [List.take_of_length_le h, List.drop_of_length_le h]; simp
theorem countsM_zero (l : List GItem) (e : List GNode) : countsM l e 0 = List.replicate l.length 0 := by
  unfold countsM cntTo; simp [List.map_const']
set_option maxRecDepth 100000 in
set_option maxHeartbeats 6400000 in
theorem I_bestCounts (w : World) (l : List GItem) (e : List GNode) (v u : Value) (h : Rd rItems w l [v]) (h' : Rd rNodes w e [u]) (ht : totItems l ≤ 1048576) (hP : isPartial l = true) (hE : isExpr e = true) : Calls Try.prog 158 #[v, u] w (RetV w (Made fInts w.heap.size (countsM l e (cntN l)))) := by
  obtain ⟨i0, hi, hz0, hz1, hz2⟩ := info_parts info_int
  have hn := partial_len hP
  obtain ⟨A, n, c0, rfl, L0, Lc, Lm⟩ := rSl_open h
  unfold maxLen at Lm
  have L := Lib.hid L0
  clear L0
  rw [← L.out] at hn
  have HE := Lib.hid hE
  have HP := Lib.hid hP
  have HCN := Lib.hid (cntN_eq l)
  have hc64 := cntN_le l
  obtain ⟨c, hcE⟩ : ∃ c, c = cntN l := ⟨_, rfl⟩
  rw [← hcE] at HCN hc64 ⊢
  have HZ := Lib.hid (countsM_zero l e)
  rw [← L.out] at HZ
  clear hE hcE hP
  go_enter Try.func158, Try.ntmps158
  go_wp2_with (at_make; refine wpList_make_full _ rfl _ _ 33 rfl w.heap.size 3 i0 _ 1 Try.underlying33 hi hz0 hz1 .i64 .i64 _ _ n rfl rfl rfl rfl (by rw [hz2]; omega) (by simp only [maxLen]; omega) (Nat.le_refl _) ?_; intro w1 hown hgrow)
  have hb1 : Bw w w1 := (Bw.refl w).grown hgrow (fun k hk => by cases hk)
  have hv1 := fSl_made (R := fInt) (0 : Int) hown rfl ⟨rfl, rfl⟩
  rw [← HZ.out] at hv1
  clear hown hgrow
  go_wp2_with fail
  refine (I_CountCompletions _ l _ (h.bw rItems_good hb1) ht).mono ?_
  rintro e w2 ⟨rfl, hb2⟩
  rw [HCN.out]
  have B2 := hb1.then hb2
  have hv2 := (fInts_good (B := w.heap.size)).bw hb2 hb1.size hv1
  clear hv1
  go_wp2
  go_loopg [15] c (fun g i w' => ∃ (j : Nat) (F : List Nat), j ≤ c ∧ g = c - j ∧ i = .int .i64 j ∧ fInts w' (countsM l e j) [.slice (some ⟨w.heap.size, 0, none⟩) n n] F ∧ Fresh w.heap.size F ∧ Bw w w')
  case atStart => exact ⟨0, _, by omega, rfl, rfl, hv2, ⟨by simp, by simp⟩, B2⟩
  case round =>
    clear hv2 B2 hb1 hb2
    obtain ⟨j, F, hj, rfl, rfl, hv, hF, hb⟩ := hrel
    by_cases hlt : j < c
    · have hFm0 := (fInts_good (B := 0)).lt hv
      go_wp2_with fail
      refine (I_filled _ l _ j (h.bw rItems_good hb) ht (by omega)).mono ?_
      rintro e w3 ⟨v3, rfl, ⟨F3, o3, f3⟩, hb3⟩
      have B3 := hb.then hb3
      have hv3 := (fInts_good (B := w.heap.size)).bw hb3 hb.size hv
      go_wp2_with fail
      refine (I_BestItems _ (fillM l j) e _ _ (fItems_Rd o3) (h'.bw rNodes_good B3)).mono ?_
      rintro e w4 ⟨v4, rfl, ⟨F4, o4, f4⟩, hb4⟩
      have B4 := B3.then hb4
      have hv4 := (fInts_good (B := w.heap.size)).bw hb4 B3.size hv3
      rw [show bestItems (fillM l j) e = bestM (fillM l j) e by rw [bestItems, if_pos]; unfold areBoth; rw [fill_are HP.out j, HE.out]; rfl] at o4
      have hg4 : 0 < n → ∀ b ∈ F4, b ≠ w.heap.size := fun hn0 b hb5 e5 => by
        obtain ⟨g', eg, _, hgm⟩ := fSl_lit2 hv (by unfold countsM; rw [List.length_map, ← L.out]; exact hn0)
        injection eg with eg
        injection eg with eg _ _
        have h1 := hFm0 _ hgm
        have h2 := f4.ge b hb5
        have h3 := hb3.size
        omega
      have HG4 := Lib.hid hg4
      have HM0 := Lib.hid (mixL_zero (cntTo l e (j + 1)) (cntTo l e j) l)
      have hv5 : fInts w4 (mixL (cntTo l e (j + 1)) (cntTo l e j) l 0) [.slice (some ⟨w.heap.size, 0, none⟩) n n] F := by rw [HM0.out]; exact hv4
      clear hv hv3 o3 hv4 hg4
      go_wp2
      go_loopg [25] n (fun g i w' => ∃ (k : Nat) (F : List Nat), k ≤ n ∧ g = n - k ∧ i = .int .i64 k ∧ fInts w' (mixL (cntTo l e (j + 1)) (cntTo l e j) l k) [.slice (some ⟨w.heap.size, 0, none⟩) n n] F ∧ Fresh w.heap.size F ∧ Bw w w' ∧ fInts w' (bestM (fillM l j) e) [v4] F4)
      case atStart => exact ⟨0, F, by omega, rfl, rfl, hv5, hF, B4, o4⟩
      case round =>
        clear hv5 hF B4 o4 hb B3 hb3 hb4 hFm0
        obtain ⟨k, F, hk, rfl, rfl, hv, hF, hb, o4⟩ := hrel
        by_cases hlt2 : k < n
        · obtain ⟨x, hx⟩ := get_of_lt (xs := l) (k := k) (by have := L.out; omega)
          obtain ⟨ba, oa, Ax, cx, rfl, _, hd0, hd1, hin⟩ := rItems_at h hx
          have i1 : (0 : Int) ≤ (k : Int) := by omega
          have i2 : (k : Int) < (n : Int) := by omega
          replace hd0 := hb.cell hd0
          replace hd1 := hb.cell hd1
          have hbx := World.block_lt_of_cell? _ _ hd0
          obtain ⟨M, hM⟩ : ∃ M, M = x.vals.length := ⟨_, rfl⟩
          rw [← hM] at hd1
          have A1 : Bw wr (wr.alloc (.cells #[.int .i64 x.id, .slice Ax M cx] 40)) := (Bw.refl wr).alloc _
          have hbA := hb.then A1
          have hvA := (fInts_good (B := w.heap.size)).bw A1 hb.size hv
          have HH := Lib.hid h
          have HG := Lib.hid (mixL_get (f := cntTo l e (j + 1)) (g := cntTo l e j) hx)
          have HST := Lib.hid (mixL_step (f := cntTo l e (j + 1)) (g := cntTo l e j) hx)
          have HSA := Lib.hid (fun he => mixL_same (f := cntTo l e (j + 1)) (g := cntTo l e j) hx he)
          have hcl := cntTo_le l e j x
          obtain ⟨m, hm⟩ : ∃ m, m = cntTo l e j x := ⟨_, rfl⟩
          rw [← hm] at HG hcl
          have Hm := Lib.hid hm
          have HML := Lib.hid (mixL_len (cntTo l e (j + 1)) (cntTo l e j) l k)
          rw [← L.out] at HML
          have o5 := (fInts_good (B := w.heap.size)).bw A1 hb.size o4
          have r5 := fInts_Rd o5
          clear hx h hin hM hm hv
          go_wp2_with fail
          refine (slices_Contains_ints _ (bestM (fillM l j) e) x.id _ r5).mono ?_
          rintro e w5 ⟨rfl, hb5⟩
          have hbb := hbA.then hb5
          have hv6 := (fInts_good (B := w.heap.size)).bw hb5 hbA.size hvA
          have o6 := (fInts_good (B := w.heap.size)).bw hb5 hbA.size o5
          have hFm := (fInts_good (B := 0)).lt hv6
          have hck := own_cell hv6 HG.out
          have hff := fSl_frozen hv6 k
          clear hvA o4 r5 o5
          rcases Bool.eq_false_or_eq_true (bestIn l e x j) with e2 | e2
          · have HC := Lib.hid (cntTo_yes e2)
            rw [← Hm.out] at HC
            rw [show (bestM (fillM l j) e).contains x.id = true from e2]
            clear e2
            obtain ⟨F', hv', hF', hg, _, _⟩ := fSl_put (fInt_good (B := w.heap.size)) hv6 hF (k := k) (y := (m : Int) + 1) (u := [.int .i64 ((m : Int) + 1)]) ⟨rfl, rfl⟩ rfl (m := w5.heap.size) hFm Fresh.nil hbb.size (by rw [HML.out]; exact hlt2)
            simp only [putCells, Nat.mul_one] at hv' hg
            rw [show ((m : Int) + 1) = ((cntTo l e (j + 1) x : Nat) : Int) by rw [HC.out]; rfl, HST.out] at hv'
            rw [show ((cntTo l e (j + 1) x : Nat) : Int) = (m : Int) + 1 by rw [HC.out]; rfl] at hv'
            have hb' := hbb.grown hg (fun q hq => by injection hq with hq; omega)
            have o7 : fInts (w5.setCell ⟨w.heap.size, k, none⟩ (.int .i64 ((m : Int) + 1))) (bestM (fillM l j) e) [v4] F4 := (fInts_good (B := 0)).step (fun b hb7 => by
              rcases hb7 with hb7 | hb7
              · exact Below.heap_setCell _ _ _ _ (HG4.out (by omega) b hb7)
              · omega) o6
            clear hg hv6 hFm hF
            go_wp2
            go_roundg (n - (k + 1))
            case measure => omega
            case rel => exact ⟨k + 1, F', by omega, rfl, by go_num, hv', hF', hb', o7⟩
          · have HC := Lib.hid (HSA.out (cntTo_no e2))
            rw [show (bestM (fillM l j) e).contains x.id = false from e2]
            clear e2
            go_wp2
            go_roundg (n - (k + 1))
            case measure => omega
            case rel => exact ⟨k + 1, F, by omega, rfl, by go_num, by rw [HC.out]; exact hv6, hF, hbb, o6⟩
        · obtain rfl : k = n := by omega
          rw [mixL_end (by rw [← L.out]; exact Nat.le_refl _)] at hv
          go_wp2
          go_roundg (c - (j + 1))
          case measure => omega
          case rel => exact ⟨j + 1, F, by omega, rfl, by go_num, hv, hF, hb⟩
    · obtain rfl : j = c := by omega
      go_wp2
      go_ret
      exact ⟨_, rfl, ⟨F, hv, hF⟩, hb⟩
end Go.Proofs.Ytdfmgpmfalnffaa
