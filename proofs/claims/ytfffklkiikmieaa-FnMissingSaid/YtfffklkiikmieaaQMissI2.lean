/- Possible and certain answers in the program. -/
import Derived.Test.YtfffklkiikmieaaQMissP
import Derived.Test.YtfffklkiikmieaaQCodes
import Derived.Test.YtfffklkiikmieaaQSlicesI
import Derived.Test.YtfffklkiikmieaaQOwn3
namespace Go.Proofs.Ytfffklkiikmieaa
open Go.RowKit
set_option linter.unusedVariables false
set_option linter.unusedSimpArgs false
def cntToM (l : List GItem) (e : List GNode) (j : Nat) (x : GItem) : Nat := ((List.range j).filter (bestIn l e x)).length
theorem cntToM_yes {l : List GItem} {e : List GNode} {j : Nat} {x : GItem} (h : bestIn l e x j = true) : cntToM l e (j + 1) x = cntToM l e j x + 1 := by
  unfold cntToM; rw [List.range_succ, List.filter_append]; simp [h]
theorem cntToM_no {l : List GItem} {e : List GNode} {j : Nat} {x : GItem} (h : bestIn l e x j = false) : cntToM l e (j + 1) x = cntToM l e j x := by
  unfold cntToM; rw [List.range_succ, List.filter_append]; simp [h]
theorem cntToM_le (l : List GItem) (e : List GNode) (j : Nat) (x : GItem) : cntToM l e j x ≤ j := by
  unfold cntToM; exact Nat.le_trans (List.length_filter_le _ _) (by simp)
theorem cntToM_pos (l : List GItem) (e : List GNode) (j : Nat) (x : GItem) : (List.range j).any (bestIn l e x) = decide (0 < cntToM l e j x) := by
  induction j with
  | zero => simp [cntToM]
  | succ j ih =>
    rw [any_range_succ, ih]
    rcases Bool.eq_false_or_eq_true (bestIn l e x j) with h | h
    · rw [cntToM_yes h, h]; simp
    · rw [cntToM_no h, h]; simp
theorem cntToM_all (l : List GItem) (e : List GNode) (j : Nat) (x : GItem) : (List.range j).all (bestIn l e x) = decide (cntToM l e j x = j) := by
  induction j with
  | zero => simp [cntToM]
  | succ j ih =>
    rw [all_range_succ, ih]
    have := cntToM_le l e j x
    rcases Bool.eq_false_or_eq_true (bestIn l e x j) with h | h
    · rw [cntToM_yes h, h]; simp
    · rw [cntToM_no h, h]; simp; omega
def mixL (f g : GItem → Nat) (l : List GItem) (k : Nat) : List Int := (l.take k).map (fun x => (f x : Int)) ++ (l.drop k).map (fun x => (g x : Int))
theorem mixL_len (f g : GItem → Nat) (l : List GItem) (k : Nat) : (mixL f g l k).length = l.length := by
  unfold mixL; rw [List.length_append, List.length_map, List.length_map, ← List.length_append, List.take_append_drop]
theorem mixL_get {f g : GItem → Nat} {l : List GItem} {k : Nat} {x : GItem} (h : l[k]? = some x) : (mixL f g l k)[k]? = some ((g x : Nat) : Int) := by
  have hk : k < l.length := (List.getElem?_eq_some_iff.1 h).1
  unfold mixL
  rw [List.getElem?_append_right (by simp; omega), drop_cons h]
  simp [Nat.min_eq_left (Nat.le_of_lt hk)]
theorem mixL_step {f g : GItem → Nat} {l : List GItem} {k : Nat} {x : GItem} (h : l[k]? = some x) : (mixL f g l k).set k ((f x : Nat) : Int) = mixL f g l (k + 1) := by
  have hk : k < l.length := (List.getElem?_eq_some_iff.1 h).1
  unfold mixL
  rw [List.set_append_right _ _ (by simp; omega), drop_cons h, List.take_add_one, h]
  simp [Nat.min_eq_left (Nat.le_of_lt hk)]
theorem set_sameI {α : Type} {l : List α} {i : Nat} {x : α} (h : l[i]? = some x) : l.set i x = l := by
  apply List.ext_getElem?
  intro j
  rw [List.getElem?_set]
  by_cases hj : i = j
  · subst hj; rw [if_pos rfl, if_pos (List.getElem?_eq_some_iff.1 h).1, h]
  · rw [if_neg hj]
theorem mixL_same {f g : GItem → Nat} {l : List GItem} {k : Nat} {x : GItem} (h : l[k]? = some x) (he : f x = g x) : mixL f g l (k + 1) = mixL f g l k := by
  rw [← mixL_step h, he]
  exact set_sameI (mixL_get h)
def countsM (l : List GItem) (e : List GNode) (j : Nat) : List Int := l.map (fun x => (cntToM l e j x : Int))
theorem mixL_zero (f g : GItem → Nat) (l : List GItem) : mixL f g l 0 = l.map (fun x => (g x : Int)) := by simp [mixL]
theorem mixL_end {f g : GItem → Nat} {l : List GItem} {k : Nat} (h : l.length ≤ k) : mixL f g l k = l.map (fun x => (f x : Int)) := by
  unfold mixL; rw [List.take_of_length_le h, List.drop_of_length_le h]; simp
theorem countsM_zero (l : List GItem) (e : List GNode) : countsM l e 0 = List.replicate l.length 0 := by
  unfold countsM cntToM; simp [List.map_const']
set_option maxRecDepth 100000 in
set_option maxHeartbeats 6400000 in
theorem I_bestCounts (w : World) (l : List GItem) (e : List GNode) (v u : Value) (h : Rd rItems w l [v]) (h' : Rd rNodes w e [u]) (ht : totItems l ≤ 1048576) (hP : isPartial l = true) (hE : isExpr e = true) : Calls Try.prog 207 #[v, u] w (RetV w (Made fInts w.heap.size (countsM l e (cntN l)))) := by
  obtain ⟨i0, hi, hz0, hz1, hz2⟩ := info_parts info_int
  have hn := partial_len hP
  obtain ⟨A, n, c0, rfl, L0, Lc, Lm⟩ := rSl_open h
  unfold maxLen at Lm
  have L := Lib.hid L0
  clear L0
  rw [← L.out] at hn
  have HE := Lib.hid hE
  have HP := Lib.hid hP
  have HCN := Lib.hid (cntN_eq l)
  have hc64 := cntN_le l
  obtain ⟨c, hcE⟩ : ∃ c, c = cntN l := ⟨_, rfl⟩
  rw [← hcE] at HCN hc64 ⊢
  have HZ := Lib.hid (countsM_zero l e)
  rw [← L.out] at HZ
  clear hE hcE hP
  go_enter Try.func207, Try.ntmps207
  go_wp2_with (at_make; refine wpList_make_full _ rfl _ _ 42 rfl w.heap.size 3 i0 _ 1 Try.underlying42 hi hz0 hz1 .i64 .i64 _ _ n rfl rfl rfl rfl (by rw [hz2]; omega) (by simp only [maxLen]; omega) (Nat.le_refl _) ?_; intro w1 hown hgrow)
  have hb1 : Bw w w1 := (Bw.refl w).grown hgrow (fun k hk => by cases hk)
  have hv1 := fSl_made (R := fInt) (0 : Int) hown rfl ⟨rfl, rfl⟩
  rw [← HZ.out] at hv1
  clear hown hgrow
  go_wp2_with fail
  refine (I_CountCompletions _ l _ (h.bw rItems_good hb1) ht).mono ?_
  rintro e w2 ⟨rfl, hb2⟩
  rw [HCN.out]
  have B2 := hb1.then hb2
  have hv2 := (fInts_good (B := w.heap.size)).bw hb2 hb1.size hv1
  clear hv1
  go_wp2
  go_loopg [15] c (fun g i w' => ∃ (j : Nat) (F : List Nat), j ≤ c ∧ g = c - j ∧ i = .int .i64 j ∧ fInts w' (countsM l e j) [.slice (some ⟨w.heap.size, 0, none⟩) n n] F ∧ Fresh w.heap.size F ∧ Bw w w')
  case atStart => exact ⟨0, _, by omega, rfl, rfl, hv2, ⟨by simp, by simp⟩, B2⟩
  case round =>
    clear hv2 B2 hb1 hb2
    obtain ⟨j, F, hj, rfl, rfl, hv, hF, hb⟩ := hrel
    by_cases hlt : j < c
    · have hFm0 := (fInts_good (B := 0)).lt hv
      go_wp2_with fail
      refine (I_filled _ l _ j (h.bw rItems_good hb) ht (by omega)).mono ?_
      rintro e w3 ⟨v3, rfl, ⟨F3, o3, f3⟩, hb3⟩
      have B3 := hb.then hb3
      have hv3 := (fInts_good (B := w.heap.size)).bw hb3 hb.size hv
      go_wp2_with fail
      refine (I_BestItems _ (fillM l j) e _ _ (fItems_Rd o3) (h'.bw rNodes_good B3)).mono ?_
      rintro e w4 ⟨v4, rfl, ⟨F4, o4, f4⟩, hb4⟩
      have B4 := B3.then hb4
      have hv4 := (fInts_good (B := w.heap.size)).bw hb4 B3.size hv3
      rw [show bestItems (fillM l j) e = bestM (fillM l j) e by rw [bestItems, if_pos]; unfold areBoth; rw [fill_are HP.out j, HE.out]; rfl] at o4
      have hg4 : 0 < n → ∀ b ∈ F4, b ≠ w.heap.size := fun hn0 b hb5 e5 => by
        obtain ⟨g', eg, _, hgm⟩ := fSl_lit2 hv (by unfold countsM; rw [List.length_map, ← L.out]; exact hn0)
        injection eg with eg
        injection eg with eg _ _
        have h1 := hFm0 _ hgm
        have h2 := f4.ge b hb5
        have h3 := hb3.size
        omega
      have HG4 := Lib.hid hg4
      have HM0 := Lib.hid (mixL_zero (cntToM l e (j + 1)) (cntToM l e j) l)
      have hv5 : fInts w4 (mixL (cntToM l e (j + 1)) (cntToM l e j) l 0) [.slice (some ⟨w.heap.size, 0, none⟩) n n] F := by rw [HM0.out]; exact hv4
      clear hv hv3 o3 hv4 hg4
      go_wp2
      go_loopg [25] n (fun g i w' => ∃ (k : Nat) (F : List Nat), k ≤ n ∧ g = n - k ∧ i = .int .i64 k ∧ fInts w' (mixL (cntToM l e (j + 1)) (cntToM l e j) l k) [.slice (some ⟨w.heap.size, 0, none⟩) n n] F ∧ Fresh w.heap.size F ∧ Bw w w' ∧ fInts w' (bestM (fillM l j) e) [v4] F4)
      case atStart => exact ⟨0, F, by omega, rfl, rfl, hv5, hF, B4, o4⟩
      case round =>
        clear hv5 hF B4 o4 hb B3 hb3 hb4 hFm0
        obtain ⟨k, F, hk, rfl, rfl, hv, hF, hb, o4⟩ := hrel
        by_cases hlt2 : k < n
        · obtain ⟨x, hx⟩ := get_of_lt (xs := l) (k := k) (by have := L.out; omega)
          obtain ⟨ba, oa, Ax, cx, rfl, _, hd0, hd1, hin⟩ := rItems_at h hx
          have i1 : (0 : Int) ≤ (k : Int) := by omega
          have i2 : (k : Int) < (n : Int) := by omega
          replace hd0 := hb.cell hd0
          replace hd1 := hb.cell hd1
          have hbx := World.block_lt_of_cell? _ _ hd0
          obtain ⟨M, hM⟩ : ∃ M, M = x.vals.length := ⟨_, rfl⟩
          rw [← hM] at hd1
          have A1 : Bw wr (wr.alloc (.cells #[.int .i64 x.id, .slice Ax M cx] 110)) := (Bw.refl wr).alloc _
          have hbA := hb.then A1
          have hvA := (fInts_good (B := w.heap.size)).bw A1 hb.size hv
          have HH := Lib.hid h
          have HG := Lib.hid (mixL_get (f := cntToM l e (j + 1)) (g := cntToM l e j) hx)
          have HST := Lib.hid (mixL_step (f := cntToM l e (j + 1)) (g := cntToM l e j) hx)
          have HSA := Lib.hid (fun he => mixL_same (f := cntToM l e (j + 1)) (g := cntToM l e j) hx he)
          have hcl := cntToM_le l e j x
          obtain ⟨m, hm⟩ : ∃ m, m = cntToM l e j x := ⟨_, rfl⟩
          rw [← hm] at HG hcl
          have Hm := Lib.hid hm
          have HML := Lib.hid (mixL_len (cntToM l e (j + 1)) (cntToM l e j) l k)
          rw [← L.out] at HML
          have o5 := (fInts_good (B := w.heap.size)).bw A1 hb.size o4
          have r5 := fInts_Rd o5
          clear hx h hin hM hm hv
          go_wp2_with fail
          refine (slices_Contains_ints _ (bestM (fillM l j) e) x.id _ r5).mono ?_
          rintro e w5 ⟨rfl, hb5⟩
          have hbb := hbA.then hb5
          have hv6 := (fInts_good (B := w.heap.size)).bw hb5 hbA.size hvA
          have o6 := (fInts_good (B := w.heap.size)).bw hb5 hbA.size o5
          have hFm := (fInts_good (B := 0)).lt hv6
          have hck := own_cell hv6 HG.out
          have hff := fSl_frozen hv6 k
          clear hvA o4 r5 o5
          rcases Bool.eq_false_or_eq_true (bestIn l e x j) with e2 | e2
          · have HC := Lib.hid (cntToM_yes e2)
            rw [← Hm.out] at HC
            rw [show (bestM (fillM l j) e).contains x.id = true from e2]
            clear e2
            obtain ⟨F', hv', hF', hg, _, _⟩ := fSl_put (fInt_good (B := w.heap.size)) hv6 hF (k := k) (y := (m : Int) + 1) (u := [.int .i64 ((m : Int) + 1)]) ⟨rfl, rfl⟩ rfl (m := w5.heap.size) hFm Fresh.nil hbb.size (by rw [HML.out]; exact hlt2)
            simp only [putCells, Nat.mul_one] at hv' hg
            rw [show ((m : Int) + 1) = ((cntToM l e (j + 1) x : Nat) : Int) by rw [HC.out]; rfl, HST.out] at hv'
            rw [show ((cntToM l e (j + 1) x : Nat) : Int) = (m : Int) + 1 by rw [HC.out]; rfl] at hv'
            have hb' := hbb.grown hg (fun q hq => by injection hq with hq; omega)
            have o7 : fInts (w5.setCell ⟨w.heap.size, k, none⟩ (.int .i64 ((m : Int) + 1))) (bestM (fillM l j) e) [v4] F4 := (fInts_good (B := 0)).step (fun b hb7 => by
              rcases hb7 with hb7 | hb7
              · exact Below.heap_setCell _ _ _ _ (HG4.out (by omega) b hb7)
              · omega) o6
            clear hg hv6 hFm hF
            go_wp2
            go_roundg (n - (k + 1))
            case measure => omega
            case rel => exact ⟨k + 1, F', by omega, rfl, by go_num, hv', hF', hb', o7⟩
          · have HC := Lib.hid (HSA.out (cntToM_no e2))
            rw [show (bestM (fillM l j) e).contains x.id = false from e2]
            clear e2
            go_wp2
            go_roundg (n - (k + 1))
            case measure => omega
            case rel => exact ⟨k + 1, F, by omega, rfl, by go_num, by rw [HC.out]; exact hv6, hF, hbb, o6⟩
        · obtain rfl : k = n := by omega
          rw [mixL_end (by rw [← L.out]; exact Nat.le_refl _)] at hv
          go_wp2
          go_roundg (c - (j + 1))
          case measure => omega
          case rel => exact ⟨j + 1, F, by omega, rfl, by go_num, hv, hF, hb⟩
    · obtain rfl : j = c := by omega
      go_wp2
      go_ret
      exact ⟨_, rfl, ⟨F, hv, hF⟩, hb⟩
end Go.Proofs.Ytfffklkiikmieaa

namespace Go.Proofs.Ytfffklkiikmieaa
open Go.RowKit
set_option linter.unusedVariables false
set_option linter.unusedSimpArgs false
def missF (b : Bool) (l : List GItem) (e : List GNode) (x : GItem) : Bool := if b then certF l e x else possF l e x
def missM (b : Bool) (l : List GItem) (e : List GNode) : List Int := if isPartial l && isExpr e then (l.filter (missF b l e)).map (·.id) else []
theorem missM_poss (l : List GItem) (e : List GNode) : missM false l e = possM l e := by unfold missM possM; rfl
theorem missM_cert (l : List GItem) (e : List GNode) : missM true l e = certM l e := by unfold missM certM; rfl
theorem countsM_at {l : List GItem} {e : List GNode} {j k : Nat} {x : GItem} (h : l[k]? = some x) : (countsM l e j)[k]? = some ((cntToM l e j x : Nat) : Int) := by
  unfold countsM; rw [List.getElem?_map, h]; rfl
theorem missF_val {l : List GItem} {e : List GNode} {x : GItem} (hp : 0 < cntN l) (b : Bool) : missF b l e x = (decide (cntToM l e (cntN l) x = cntN l) || (!b && decide (0 < cntToM l e (cntN l) x))) := by
  unfold missF certF possF
  rw [cntToM_pos, cntToM_all]
  cases b
  · simp; omega
  · simp
theorem cntN_partial {l : List GItem} (h : isPartial l = true) : 0 < cntN l := by unfold cntN; rw [if_pos h]; exact Nat.pow_pos (by omega)
set_option maxRecDepth 100000 in
set_option maxHeartbeats 6400000 in
theorem I_atLeast (w : World) (l : List GItem) (e : List GNode) (b : Bool) (v u : Value) (h : Rd rItems w l [v]) (h' : Rd rNodes w e [u]) (ht : totItems l ≤ 1048576) : Calls Try.prog 153 #[v, u, .bool b] w (RetV w (Made fInts w.heap.size (missM b l e))) := by
  obtain ⟨i0, hi, hz0, hz1, hz2⟩ := info_parts info_int
  have hv0 := fSl_empty (e := 3) (sz := 1) (R := fInt) w
  have B0 : Bw w (w.alloc (.cells #[] 3)) := (Bw.refl w).alloc _
  obtain ⟨A, n, c0, rfl, L0, Lc, Lm⟩ := rSl_open h
  unfold maxLen at Lm
  have L := Lib.hid L0
  clear L0
  go_enter Try.func153, Try.ntmps153
  go_wp2_with fail
  refine (I_IsPartial _ l _ (h.bw rItems_good B0) ht).mono ?_
  rintro e w1 ⟨rfl, hb1⟩
  have B1 := B0.then hb1
  have hv1 := (fInts_good (B := w.heap.size)).bw hb1 B0.size hv0
  clear hv0
  rcases Bool.eq_false_or_eq_true (isPartial l) with e1 | e1
  · have HP := Lib.hid e1
    rw [e1]
    clear e1
    go_wp2_with fail
    refine (I_IsExpression _ e _ (h'.bw rNodes_good B1)).mono ?_
    rintro e w2 ⟨rfl, hb2⟩
    have B2 := B1.then hb2
    have hv2 := (fInts_good (B := w.heap.size)).bw hb2 B1.size hv1
    clear hv1
    rcases Bool.eq_false_or_eq_true (isExpr e) with e2 | e2
    · have HE := Lib.hid e2
      rw [e2]
      clear e2
      have HM := Lib.hid (show missM b l e = (l.filter (missF b l e)).map (·.id) by unfold missM; rw [HP.out, HE.out]; rfl)
      have hn := partial_len HP.out
      rw [← L.out] at hn
      have HCN := Lib.hid (cntN_eq l)
      have hc64 := cntN_le l
      have HCP := Lib.hid (cntN_partial HP.out)
      go_wp2_with fail
      refine (I_bestCounts _ l e _ _ (h.bw rItems_good B2) (h'.bw rNodes_good B2) ht HP.out HE.out).mono ?_
      rintro e w3 ⟨v3, rfl, ⟨F3, o3, f3⟩, hb3⟩
      have B3 := B2.then hb3
      have hv3 := (fInts_good (B := w.heap.size)).bw hb3 B2.size hv2
      obtain ⟨A3, n3, c3, rfl, L3, L3c, L3m⟩ := rSl_open (fInts_Rd o3)
      unfold maxLen at L3m
      have hL3 : n3 = n := by rw [L3, countsM, List.length_map, ← L.out]
      clear L3
      subst hL3
      have hz2 : w.heap.size + 1 ≤ w2.heap.size := by have := (hb1.then hb2).size; simpa using this
      have hdis : ∀ b ∈ [w.heap.size], b ∉ F3 := fun b hb hb9 => by have := f3.ge b hb9; simp at hb; omega
      have hF0 : Fresh w.heap.size [w.heap.size] := ⟨by simp, by simp⟩
      have oC := o3
      clear hv2 o3 f3 hz2
      go_wp2
      go_loopg [7, 24] n3 (fun g s i w' => ∃ (k : Nat) (F : List Nat), k ≤ n3 ∧ g = n3 - k ∧ i = .int .i64 k ∧ fInts w' (idsToM (missF b l e) l k) [s] F ∧ Fresh w.heap.size F ∧ fInts w' (countsM l e (cntN l)) [.slice A3 n3 c3] F3 ∧ (∀ b ∈ F, b ∉ F3) ∧ Bw w w')
      case atStart => exact ⟨0, _, by omega, rfl, rfl, hv3, hF0, oC, hdis, B3⟩
      case round =>
        clear hv3 hF0 oC hdis B3
        obtain ⟨k, F, hk, rfl, rfl, hv, hF, oC, hdis, hb⟩ := hrel
        by_cases hlt : k < n3
        · obtain ⟨x, hx⟩ := get_of_lt (xs := l) (k := k) (by have := L.out; omega)
          obtain ⟨ba, oa, Ax, cx, rfl, _, hd0, hd1, hin⟩ := rItems_at h hx
          obtain ⟨b3, o3, rfl, _, hm0⟩ := rInts_at (fInts_Rd oC) (countsM_at hx)
          have i1 : (0 : Int) ≤ (k : Int) := by omega
          have i2 : (k : Int) < (n3 : Int) := by omega
          replace hd0 := hb.cell hd0
          have HYES := Lib.hid (fun hf => idsToM_yes (f := missF b l e) hx hf)
          have HNO := Lib.hid (fun hf => idsToM_no (f := missF b l e) hx hf)
          have HV := Lib.hid (missF_val (e := e) (x := x) HCP.out b)
          have hml := cntToM_le l e (cntN l) x
          obtain ⟨m, hm⟩ : ∃ m, m = cntToM l e (cntN l) x := ⟨_, rfl⟩
          obtain ⟨c, hc⟩ : ∃ c, c = cntN l := ⟨_, rfl⟩
          rw [← hm, ← hc] at HV
          rw [← hm] at hm0
          rw [← hm, ← hc] at hml
          rw [← hc] at hc64
          have HC2 := Lib.hid (show countC l = (c : Int) by rw [HCN.out, hc])
          have HH := Lib.hid h
          clear hx hd1 hin hm hc h
          go_wp2_with fail
          refine (I_CountCompletions _ l _ (HH.out.bw rItems_good hb) ht).mono ?_
          rintro e w4 ⟨rfl, hb4⟩
          rw [HC2.out]
          have hbb := hb.then hb4
          have hv4 := (fInts_good (B := w.heap.size)).bw hb4 hb.size hv
          have p0 := hb4.cell hd0
          have hFm := (fInts_good (B := 0)).lt hv4
          have oC4 := (fInts_good (B := w.heap.size)).bw hb4 hb.size oC
          have h := HH.out
          clear hv hd0 hm0 oC
          by_cases hmc : m = c
          · have e3 : ((m : Int) == (c : Int)) = true := by rw [hmc]; simp
            have HB := Lib.hid (HYES.out (by rw [HV.out]; simp [hmc]))
            have HBL := Lib.hid (idsToM_len (f := missF b l e) (l := l) (k := k))
            clear hmc
            have hvW := (fInts_good (B := w.heap.size)).bw ((Bw.refl w4).alloc (.cells #[.int .i64 x.id] 3)) hbb.size hv4
            have hbW := hbb.alloc (.cells #[.int .i64 x.id] 3)
            have hcl := cell_one_new w4 (.int .i64 x.id) 3
            have hb0 := hb.size
            have oW := (fInts_good (B := w.heap.size)).bw ((Bw.refl w4).alloc (.cells #[.int .i64 x.id] 3)) hbb.size oC4
            have hWl := (fInts_good (B := 0)).lt oW
            clear hv4
            go_wp2_with (at_builtin; refine wpList_push2 _ rfl (.tmp 41) (.tmp 47) 42 rfl w 3 i0 _ 1 8 Try.underlying42 hi hz0 hz1 hz2 rfl (by omega) fInt_good _ (idsToM (missF b l e) l k) F rfl hvW hF ⟨w4.heap.size, 0, none⟩ 1 rfl x.id [.int .i64 x.id] [] hcl ⟨rfl, rfl⟩ rfl w4.heap.size hFm Fresh.nil hbb.size (by have := HBL.out; omega) (by have := HBL.out; omega) hbW ?_; intro v' w' F' hv' hF' hb' hO' hin')
            have oC' := hO'.keeps (fInts_good (B := 0)) oW (fun b hb9 hb8 => hdis b hb8 hb9)
            have hdis' : ∀ b ∈ F', b ∉ F3 := fun b hb9 hb8 => by
              rcases hin' b hb9 with h9 | h9 | h9
              · exact hdis b h9 hb8
              · simp at h9
              · have := hWl b hb8; omega
            clear hO' hin' hWl oW
            go_roundg (n3 - (k + 1))
            case measure => omega
            case rel => exact ⟨k + 1, F', by omega, rfl, by go_num, by rw [HB.out]; exact hv', hF', oC', hdis', hb'⟩
          · have e3 : ((m : Int) == (c : Int)) = false := by simp; omega
            cases b with
            | true =>
              have HB := Lib.hid (HNO.out (by rw [HV.out]; simp [hmc]))
              clear hmc
              go_wp2
              go_roundg (n3 - (k + 1))
              case measure => omega
              case rel => exact ⟨k + 1, F, by omega, rfl, by go_num, by rw [HB.out]; exact hv4, hF, oC4, hdis, hbb⟩
            | false =>
              by_cases hm0 : 0 < m
              · have HB := Lib.hid (HYES.out (by rw [HV.out]; simp [hm0]))
                have HBL := Lib.hid (idsToM_len (f := missF false l e) (l := l) (k := k))
                have hm0' : (0 : Int) < (m : Int) := by omega
                clear hmc
                have hvW := (fInts_good (B := w.heap.size)).bw ((Bw.refl w4).alloc (.cells #[.int .i64 x.id] 3)) hbb.size hv4
                have hbW := hbb.alloc (.cells #[.int .i64 x.id] 3)
                have hcl := cell_one_new w4 (.int .i64 x.id) 3
                have hb0 := hb.size
                have oW := (fInts_good (B := w.heap.size)).bw ((Bw.refl w4).alloc (.cells #[.int .i64 x.id] 3)) hbb.size oC4
                have hWl := (fInts_good (B := 0)).lt oW
                clear hv4
                go_wp2_with (at_builtin; refine wpList_push2 _ rfl (.tmp 41) (.tmp 47) 42 rfl w 3 i0 _ 1 8 Try.underlying42 hi hz0 hz1 hz2 rfl (by omega) fInt_good _ (idsToM (missF false l e) l k) F rfl hvW hF ⟨w4.heap.size, 0, none⟩ 1 rfl x.id [.int .i64 x.id] [] hcl ⟨rfl, rfl⟩ rfl w4.heap.size hFm Fresh.nil hbb.size (by have := HBL.out; omega) (by have := HBL.out; omega) hbW ?_; intro v' w' F' hv' hF' hb' hO' hin')
                have oC' := hO'.keeps (fInts_good (B := 0)) oW (fun b hb9 hb8 => hdis b hb8 hb9)
                have hdis' : ∀ b ∈ F', b ∉ F3 := fun b hb9 hb8 => by
                  rcases hin' b hb9 with h9 | h9 | h9
                  · exact hdis b h9 hb8
                  · simp at h9
                  · have := hWl b hb8; omega
                clear hO' hin' hWl oW
                go_roundg (n3 - (k + 1))
                case measure => omega
                case rel => exact ⟨k + 1, F', by omega, rfl, by go_num, by rw [HB.out]; exact hv', hF', oC', hdis', hb'⟩
              · have HB := Lib.hid (HNO.out (by rw [HV.out]; simp [hmc, hm0]))
                have hm0' : ¬ (0 : Int) < (m : Int) := by omega
                clear hmc
                go_wp2
                go_roundg (n3 - (k + 1))
                case measure => omega
                case rel => exact ⟨k + 1, F, by omega, rfl, by go_num, by rw [HB.out]; exact hv4, hF, oC4, hdis, hbb⟩
        · obtain rfl : k = n3 := by omega
          rw [idsToM_end (by rw [← L.out]; exact Nat.le_refl _), ← HM.out] at hv
          go_wp2
          go_ret
          exact ⟨_, rfl, ⟨F, hv, hF⟩, hb⟩
    · have HE := Lib.hid e2
      rw [e2]
      clear e2
      rw [show ([] : List Int) = missM b l e by unfold missM; rw [HP.out, HE.out]; rfl] at hv2
      go_wp2
      go_ret
      exact ⟨_, rfl, ⟨_, hv2, ⟨by simp, by simp⟩⟩, B2⟩
  · have HP := Lib.hid e1
    rw [e1]
    clear e1
    rw [show ([] : List Int) = missM b l e by unfold missM; rw [HP.out]; rfl] at hv1
    go_wp2
    go_ret
    exact ⟨_, rfl, ⟨_, hv1, ⟨by simp, by simp⟩⟩, B1⟩
theorem I_PossibleBest (w : World) (l : List GItem) (e : List GNode) (v u : Value) (h : Rd rItems w l [v]) (h' : Rd rNodes w e [u]) (ht : totItems l ≤ 1048576) : Calls Try.prog 64 #[v, u] w (RetV w (Made fInts w.heap.size (possM l e))) := by
  go_enter Try.func64, Try.ntmps64
  go_wp2_with fail
  refine (I_atLeast _ l e false _ _ h h' ht).mono ?_
  rintro e w3 ⟨v3, rfl, ⟨F3, o3, f3⟩, hb3⟩
  rw [missM_poss] at o3
  go_wp2
  go_ret
  exact ⟨_, rfl, ⟨F3, o3, f3⟩, hb3⟩
theorem I_CertainBest (w : World) (l : List GItem) (e : List GNode) (v u : Value) (h : Rd rItems w l [v]) (h' : Rd rNodes w e [u]) (ht : totItems l ≤ 1048576) : Calls Try.prog 65 #[v, u] w (RetV w (Made fInts w.heap.size (certM l e))) := by
  go_enter Try.func65, Try.ntmps65
  go_wp2_with fail
  refine (I_atLeast _ l e true _ _ h h' ht).mono ?_
  rintro e w3 ⟨v3, rfl, ⟨F3, o3, f3⟩, hb3⟩
  rw [missM_cert] at o3
  go_wp2
  go_ret
  exact ⟨_, rfl, ⟨F3, o3, f3⟩, hb3⟩
end Go.Proofs.Ytfffklkiikmieaa
