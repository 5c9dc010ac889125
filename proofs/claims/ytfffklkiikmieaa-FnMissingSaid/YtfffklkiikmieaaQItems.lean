/- Items: the laws' helpers, copies, tests, look-ups. -/
import Derived.Test.YtfffklkiikmieaaQPairs
namespace Go.Proofs.Ytfffklkiikmieaa
open Go.RowKit
set_option linter.unusedVariables false

theorem bw_cell {W w1 : World} (hb : Bw W w1) : ∀ b o, b < W.heap.size → w1.cell? ⟨b, o, none⟩ = W.cell? ⟨b, o, none⟩ := fun b o h => Below.cell (p := ⟨b, o, none⟩) hb h
theorem bw_frozen {W w1 : World} (hb : Bw W w1) : ∀ b o, b < W.heap.size → w1.frozen? ⟨b, o, none⟩ = W.frozen? ⟨b, o, none⟩ := fun b o h => Below.frozen (p := ⟨b, o, none⟩) hb h
def inB (x lo hi : Int) : Bool := decide (lo ≤ x ∧ x ≤ hi)
def isItem (x : GItem) : Bool := inB x.id 0 99 && (decide (x.vals.length = 3) && x.vals.all fun v => inB v 0 9)
def areValues (l : List Int) : Bool := l.all fun v => inB v 0 9
theorem I_within (w : World) (x lo hi : Int) : Calls Try.prog 143 #[.int .i64 x, .int .i64 lo, .int .i64 hi] w (Ret w (.bool (inB x lo hi))) := by
  by_cases h1 : lo ≤ x <;> by_cases h2 : x ≤ hi
  all_goals
    go_enter Try.func143, Try.ntmps143
    go_wp2
    go_ret
    exact Ret.bool (by simp [inB, h1, h2]) (Bw.refl _)
theorem S_l1In (w : World) (x lo hi : Int) : Calls Try.prog 158 #[.int .i64 x, .int .i64 lo, .int .i64 hi] w (Ret w (.bool (inB x lo hi))) := by
  by_cases h1 : lo ≤ x <;> by_cases h2 : x ≤ hi
  all_goals
    go_enter Try.func158, Try.ntmps158
    go_wp2
    go_ret
    exact Ret.bool (by simp [inB, h1, h2]) (Bw.refl _)
theorem all_drop {α : Type} {xs : List α} {k : Nat} {x : α} (hx : xs[k]? = some x) (f : α → Bool) : (xs.drop k).all f = (f x && (xs.drop (k + 1)).all f) := by
  rw [drop_cons hx, List.all_cons]
set_option maxHeartbeats 400000 in
theorem I_areValues (w : World) (xs : List Int) (v : Value) (h : Rd rInts w xs [v]) : Calls Try.prog 218 #[v] w (Ret w (.bool (areValues xs))) := by
  obtain ⟨A, n, c, rfl, a1, a2, a3⟩ := rSl_open h
  unfold maxLen at a3
  have L1 := Lib.hid a1
  clear a1
  go_enter Try.func218, Try.ntmps218
  go_wp2
  go_loopw [7] (fun i w' => ∃ k : Nat, k ≤ n ∧ i = .int .i64 k ∧ Hid (areValues xs = (xs.drop k).all fun v => inB v 0 9) ∧ Bw w w') (fun i _ => n - (intOf i).toNat)
  case atStart => exact ⟨0, by omega, rfl, rfl, Bw.refl _⟩
  case round =>
    obtain ⟨k, hk, rfl, HE, hb⟩ := hrel
    by_cases hlt : k < n
    · obtain ⟨x, hx⟩ := get_of_lt (xs := xs) (k := k) (by rw [← L1.out]; exact hlt)
      obtain ⟨ba, oa, rfl, _, hcx⟩ := rInts_at (h.bw rInts_good hb) hx
      have HS := Lib.hid (all_drop hx (fun v => inB v 0 9))
      clear hx h
      go_wp2_with fail
      refine (I_within _ _ _ _).mono ?_
      rintro e w2 ⟨rfl, hb2⟩
      have hbb := hb.then hb2
      by_cases hi : inB x 0 9 = true
      · go_wp2
        go_roundw
        case rel => exact ⟨k + 1, by omega, by go_num, by show _ = _; rw [HE.out, HS.out]; simp [hi], hbb⟩
        case measure => simp [intOf]; omega
      · have hi' : inB x 0 9 = false := by simpa using hi
        clear hi
        go_wp2
        go_ret
        exact Ret.bool (by rw [HE.out, HS.out]; simp [hi']) hbb
    · go_wp2
      go_ret
      exact Ret.bool (by rw [HE.out, List.drop_of_length_le (by rw [← L1.out]; omega)]; simp) hb
set_option maxHeartbeats 400000 in
theorem I_IsItem (w : World) (x : GItem) (v : Value) (h : Rd rInts w x.vals [v]) : Calls Try.prog 197 #[.agg #[.int .i64 x.id, v]] w (Ret w (.bool (isItem x))) := by
  obtain ⟨A, n, c, rfl, a1, a2, a3⟩ := rSl_open h
  unfold maxLen at a3
  have L1 := Lib.hid a1
  clear a1
  go_enter Try.func197, Try.ntmps197
  go_wp2_with fail
  refine (I_within _ _ _ _).mono ?_
  rintro e w2 ⟨rfl, hb2⟩
  have B2 := ((Bw.refl w).alloc _).then hb2
  have hc := bw_cell hb2
  by_cases h1 : inB x.id 0 99 = true
  · by_cases h2 : n = 3
    · have h3 : ((n : Int) == 3) = true := by simp [h2]
      have H2 := Lib.hid h2
      clear h2
      go_wp2_with fail
      refine (I_areValues _ x.vals _ (h.bw rInts_good B2)).mono ?_
      rintro e w3 ⟨rfl, hb3⟩
      go_wp2
      go_ret
      exact Ret.bool (by have e1 := L1.out; have e2 := H2.out; rw [e2] at e1; simp [isItem, areValues, h1, ← e1]) (B2.then hb3)
    · have h3 : ((n : Int) == 3) = false := by simp; omega
      go_wp2
      go_ret
      exact Ret.bool (by have e1 := L1.out; rw [e1] at h2; simp [isItem, h1, h2]) B2
  · have h1' : inB x.id 0 99 = false := by simpa using h1
    clear h1
    go_wp2
    go_ret
    exact Ret.bool (by simp [isItem, h1']) B2
set_option maxHeartbeats 400000 in
theorem S_IsItem (w : World) (x : GItem) (v : Value) (h : Rd rInts w x.vals [v]) : Calls Try.prog 156 #[.agg #[.int .i64 x.id, v]] w (Ret w (.bool (isItem x))) := by
  obtain ⟨A, n, c, rfl, a1, a2, a3⟩ := rSl_open h
  unfold maxLen at a3
  have L1 := Lib.hid a1
  clear a1
  go_enter Try.func156, Try.ntmps156
  go_wp2
  go_loopw [3] (fun i w' => ∃ k : Nat, k ≤ n ∧ i = .int .i64 k ∧ Hid ((x.vals.all fun v => inB v 0 9) = (x.vals.drop k).all fun v => inB v 0 9) ∧ Bw (w.alloc (.cells #[.int .i64 x.id, .slice A n c] 110)) w') (fun i _ => n - (intOf i).toNat)
  case atStart => exact ⟨0, by omega, rfl, rfl, Bw.refl _⟩
  case round =>
    obtain ⟨k, hk, rfl, HE, hb⟩ := hrel
    have hc := bw_cell hb
    have B1 := ((Bw.refl w).alloc _).then hb
    by_cases hlt : k < n
    · obtain ⟨y, hx⟩ := get_of_lt (xs := x.vals) (k := k) (by rw [← L1.out]; exact hlt)
      obtain ⟨ba, oa, rfl, _, hcx⟩ := rInts_at (h.bw rInts_good B1) hx
      have HS := Lib.hid (all_drop hx (fun v => inB v 0 9))
      clear hx h
      go_wp2_with fail
      refine (S_l1In _ _ _ _).mono ?_
      rintro e w2 ⟨rfl, hb2⟩
      have hbb := hb.then hb2
      clear hc
      by_cases hi : inB y 0 9 = true
      · go_wp2
        go_roundw
        case rel => exact ⟨k + 1, by omega, by go_num, by show _ = _; rw [HE.out, HS.out]; simp [hi], hbb⟩
        case measure => simp [intOf]; omega
      · have hi' : inB y 0 9 = false := by simpa using hi
        clear hi
        go_wp2
        go_ret
        exact Ret.bool (by rw [isItem, HE.out, HS.out]; simp [hi']) (B1.then hb2)
    · have HA : Hid ((x.vals.all fun v => inB v 0 9) = true) := by
        show _ = _
        rw [HE.out, List.drop_of_length_le (by rw [← L1.out]; omega)]; rfl
      go_wp2_with fail
      refine (S_l1In _ _ _ _).mono ?_
      rintro e w2 ⟨rfl, hb2⟩
      have hc2 := bw_cell (hb.then hb2)
      clear hc
      by_cases h1 : inB x.id 0 99 = true
      · by_cases h2 : n = 3
        · have h3 : ((n : Int) == 3) = true := by simp [h2]
          have H2 := Lib.hid h2
          clear h2
          go_wp2
          go_ret
          exact Ret.bool (by have e1 := L1.out; have e2 := H2.out; rw [e2] at e1; simp [isItem, HA.out, h1, ← e1]) (B1.then hb2)
        · have h3 : ((n : Int) == 3) = false := by simp; omega
          go_wp2
          go_ret
          exact Ret.bool (by have e1 := L1.out; rw [e1] at h2; simp [isItem, h1, h2]) (B1.then hb2)
      · have h1' : inB x.id 0 99 = false := by simpa using h1
        clear h1
        go_wp2
        go_ret
        exact Ret.bool (by simp [isItem, h1']) (B1.then hb2)
set_option maxHeartbeats 400000 in
theorem L_szItem (w : World) (x : GItem) (v : Value) (h : Rd rInts w x.vals [v]) (left : Int) (h0 : 0 ≤ left) (h1 : left ≤ 1048576) :
    Calls Try.prog 82 #[.agg #[.int .i64 x.id, v], .int .i64 left] w (Ret w (.int .i64 (szM left x.vals.length))) := by
  go_enter Try.func82, Try.ntmps82
  go_wp2_with fail
  refine (L_szIntS _ x.vals _ (h.bw rInts_good ((Bw.refl w).alloc _)) left h0 h1).mono ?_
  rintro e w2 ⟨rfl, hb2⟩
  have B2 := ((Bw.refl w).alloc _).then hb2
  by_cases hs : left < x.vals.length
  · rw [show szM left x.vals.length = -1 from if_pos hs]
    go_wp2
    go_ret
    exact Ret.int (if_pos hs).symm B2
  · rw [show szM left x.vals.length = left - x.vals.length from if_neg hs]
    go_wp2
    go_ret
    exact Ret.int (if_neg (by omega)).symm B2
theorem info_Item : (Try.prog.info? 110).map (fun i => (i.zero, i.size, i.bytes)) = some (some (.agg #[.int .i64 0, .slice none 0 0]), 2, 32) := by kernel_rfl
def fItem : Fp GItem := fun w x cs F => ∃ v, cs = [.int .i64 x.id, v] ∧ fInts w x.vals [v] F
theorem fItem_good {B : Nat} : GoodF B fItem :=
  ⟨fun hw ⟨v, e, h⟩ => ⟨v, e, fInts_good.step hw h⟩, fun ⟨v, e, h⟩ => (fInts_good (B := B)).lt h, fun ⟨v, e, h⟩ u hu => by
    rw [e] at hu
    simp at hu
    rcases hu with rfl | rfl
    · rfl
    · exact (fInts_good (B := B)).one h _ (by simp)⟩
theorem fItem_rd {B : Nat} {w : World} {x : GItem} {cs : List Value} {F : List Nat} (h : fItem w x cs F) : rItem w (fun b => b ∈ F ∨ b < B) x cs := by
  obtain ⟨v, e, h⟩ := h
  exact ⟨v, e, fInts_rd h⟩
abbrev fItems : Fp (List GItem) := fSl 110 2 fItem
theorem fItems_good {B : Nat} : GoodF B fItems := fSl_good fItem_good
theorem fItems_rd {B : Nat} {w : World} {xs : List GItem} {cs : List Value} {F : List Nat} (h : fItems w xs cs F) : rItems w (fun b => b ∈ F ∨ b < B) xs cs := fSl_rd rItem_good (fun _ _ _ h => fItem_rd h) h
theorem fItems_Rd {w : World} {xs : List GItem} {cs : List Value} {F : List Nat} (h : fItems w xs cs F) : Rd rItems w xs cs := Rd.of rItems_good (B := 0) (fItems_rd h) ((fItems_good (B := 0)).lt h) (Nat.zero_le _)
/-- the call returned an item in new memory -/
def RetItem (w : World) (x : GItem) (e : Ending) (w' : World) : Prop := ∃ v, e = .returned (.agg #[.int .i64 x.id, v]) ∧ Made fInts w.heap.size x.vals w' v ∧ Bw w w'
set_option maxHeartbeats 400000 in
theorem L_toItem (w : World) (x : GItem) (v : Value) (h : Rd rInts w x.vals [v]) (hn : x.vals.length ≤ 1048576) :
    Calls Try.prog 86 #[.agg #[.int .i64 x.id, v]] w (RetItem w x) := by
  go_enter Try.func86, Try.ntmps86
  go_wp2_with fail
  refine (L_toIntS _ x.vals _ (h.bw rInts_good ((((Bw.refl w).alloc _).alloc _).alloc _)) hn).mono ?_
  rintro e w2 ⟨v2, rfl, ⟨F, hv, hF⟩, hb2⟩
  have hc := bw_cell hb2
  have hf := bw_frozen hb2
  have hz : w.heap.size + 3 ≤ w2.heap.size := by have := hb2.size; simp at this; omega
  obtain ⟨A, c, rfl, _⟩ := rSl_shape (fInts_Rd hv)
  have B2 : Bw w w2 := ((((Bw.refl w).alloc _).alloc _).alloc _).then hb2
  go_wp2
  have hFz : ∀ b ∈ F, w.heap.size + 3 ≤ b := fun b hb => by have := hF.ge b hb; simpa using this
  refine bodyPost_ret (v := .agg #[.int .i64 x.id, .slice A x.vals.length c]) (by simp [results, Try.results86, go_sem, hc]) rfl ⟨_, rfl, ⟨F, ?_, ⟨hF.nodup, fun b hb => by have := hFz b hb; omega⟩⟩, ?_⟩
  · refine (fInts_good (B := 0)).step (fun b hb => ?_) hv
    rcases hb with hb | hb
    · have := hFz b hb
      repeat rw [Below.heap_setCell _ _ _ _ (by dsimp only; omega)]
    · omega
  · repeat (first | exact B2 | refine Bw.set ?_ (by dsimp only; omega) _)
theorem take_rep_len {α : Type} {xs : List α} {z : α} {k n : Nat} (hn : n = xs.length) (hk : k < n) : k < (xs.take k ++ List.replicate (n - k) z).length := by
  rw [List.length_append, List.length_take, List.length_replicate]; omega
theorem Made.lt_ {α : Type} {f : Fp α} {B : Nat} {x : α} {w : World} {v : Value} (h : Made f B x w v) (hg : GoodF 0 f) : ∃ F, f w x [v] F ∧ Fresh B F ∧ ∀ b ∈ F, b < w.heap.size := by
  obtain ⟨F, h1, h2⟩ := h
  exact ⟨F, h1, h2, hg.lt h1⟩
/-- what lies in blocks that a call has not touched is as it was -/
theorem GoodF.bw {α : Type} {f : Fp α} {B : Nat} (hg : GoodF B f) {w w' : World} (hb : Bw w w') (hB : B ≤ w.heap.size) {x : α} {cs : List Value} {F : List Nat} (h : f w x cs F) : f w' x cs F :=
  hg.step (fun b hbF => Below.block hb b (hbF.elim (hg.lt h b) (fun h => Nat.lt_of_lt_of_le h hB))) h
def sumL {α : Type} (f : α → Nat) : List α → Nat
  | [] => 0
  | x :: xs => f x + sumL f xs
theorem le_sum {α : Type} (f : α → Nat) : ∀ {xs : List α} {x : α}, x ∈ xs → f x ≤ sumL f xs
  | y :: ys, x, h => by
    rcases List.mem_cons.1 h with rfl | h
    · simp only [sumL]; omega
    · have := le_sum f h; simp only [sumL]; omega
theorem sumL_drop {α : Type} (f : α → Nat) {xs : List α} {k : Nat} {x : α} (h : xs[k]? = some x) : sumL f (xs.drop k) = f x + sumL f (xs.drop (k + 1)) := by rw [drop_cons h, sumL]
def totItems (xs : List GItem) : Nat := xs.length + sumL (fun x => x.vals.length) xs
set_option maxHeartbeats 800000 in
theorem L_toItemS (w : World) (xs : List GItem) (v : Value) (h : Rd rItems w xs [v]) (ht : totItems xs ≤ 1048576) :
    Calls Try.prog 14 #[v] w (RetV w (Made fItems w.heap.size xs)) := by
  have hn : xs.length ≤ 1048576 := by unfold totItems at ht; omega
  have hnn : ∀ x ∈ xs, x.vals.length ≤ 1048576 := fun x hx => by have := le_sum (fun x : GItem => x.vals.length) hx; unfold totItems at ht; omega
  clear ht
  obtain ⟨i0, hi, hz0, hz1, hz2⟩ := info_parts info_Item
  obtain ⟨A, n, c, rfl, a1, a2, a3⟩ := rSl_open h
  rw [← a1] at hn
  have L1 := Lib.hid a1
  clear a1
  go_enter Try.func14, Try.ntmps14
  go_wp2_with (at_make; refine wpList_make_full _ rfl _ _ 29 rfl w.heap.size 110 i0 _ 2 Try.underlying29 hi hz0 hz1 .i64 .i64 _ _ n rfl rfl rfl rfl (by rw [hz2]; omega) (by simp only [maxLen]; omega) (Nat.le_refl _) ?_; intro w1 hown hgrow)
  have hb1 : Bw w w1 := (Bw.refl w).grown hgrow (fun k hk => by cases hk)
  have hv1 := fSl_made (R := fItem) (⟨0, []⟩ : GItem) hown rfl ⟨_, rfl, fSl_nil _⟩
  clear hown hgrow
  go_loopw [4] (fun i w' => ∃ k : Nat, k ≤ n ∧ i = .int .i64 k ∧ Bw w w' ∧ ∃ F, fItems w' (xs.take k ++ List.replicate (n - k) ⟨0, []⟩) [.slice (some ⟨w.heap.size, 0, none⟩) n n] F ∧ Fresh w.heap.size F) (fun i _ => n - (intOf i).toNat)
  case atStart => exact ⟨0, by omega, rfl, hb1, _, by simpa using hv1, by simp, by simp⟩
  case round =>
    obtain ⟨k, hk, rfl, hb, F, hv, hF⟩ := hrel
    by_cases hlt : k < n
    · obtain ⟨x, hx⟩ := get_of_lt (xs := xs) (k := k) (by rw [← L1.out]; exact hlt)
      have hxm := List.mem_of_getElem? hx
      obtain ⟨ba, oa, A', c', rfl, _, hcx, hcx1, hin⟩ := rItems_at (h.bw rItems_good hb) hx
      go_wp2_with fail
      refine (L_toItem _ x _ hin (hnn x hxm)).mono ?_
      rintro e w2 ⟨v2, rfl, ⟨F2, o2, f2⟩, hb2⟩
      have hv2 := (fItems_good (B := w.heap.size)).bw hb2 hb.size hv
      have hFm := (fItems_good (B := 0)).lt hv
      clear hcx hcx1
      have hbb := hb.then hb2
      obtain ⟨F', hv', hF', hg, _, _⟩ := fSl_put (fItem_good (B := w.heap.size)) hv2 hF (k := k) (y := x) (u := [.int .i64 x.id, v2]) ⟨_, rfl, o2⟩ rfl (m := wr.heap.size) hFm f2 hb.size (take_rep_len L1.out hlt)
      obtain ⟨y0, hy0⟩ := get_of_lt (take_rep_len (z := (⟨0, []⟩ : GItem)) L1.out hlt)
      obtain ⟨_, _, _, _, e, _, hcell, hcell1, _⟩ := rItems_at (fItems_rd (B := 0) hv2) hy0
      injection e with e
      injection e with e1 e2
      subst e1 e2
      have hfr := fSl_frozen hv2 (k * 2)
      have hfr1 := fSl_frozen hv2 (k * 2 + 1)
      rw [take_rep_set L1.out hx] at hv'
      simp only [putCells] at hv' hg
      simp only [Nat.zero_add] at hcell hcell1
      obtain ⟨A2, c2, rfl, _⟩ := rSl_shape (fInts_Rd o2)
      have HX := Lib.hid hx
      clear hx h hv hF hy0 hv2 hb hb2 hFm o2 f2 hnn hin
      have hb' : Bw w ((w2.setCell ⟨w.heap.size, k * 2, none⟩ (.int .i64 x.id)).setCell ⟨w.heap.size, k * 2 + 1, none⟩ (.slice A2 x.vals.length c2)) := (hbb.set (Nat.le_refl _) _).set (Nat.le_refl _) _
      go_wp2
      go_roundw
      case rel => exact ⟨k + 1, by omega, by go_num, hb', F', hv', hF'⟩
      case measure => simp [intOf]; omega
    · obtain rfl : k = n := by omega
      rw [Nat.sub_self, List.replicate_zero, List.append_nil, List.take_of_length_le (by rw [← L1.out]; exact Nat.le_refl _)] at hv
      go_wp2
      go_ret
      exact ⟨_, rfl, ⟨F, hv, hF⟩, hb⟩
theorem eqItem_dec (x y : GItem) : decide (x = y) = (decide (x.id = y.id) && decide (x.vals = y.vals)) := by rw [Bool.eq_iff_iff]; simp [GItem.eq_iff]
set_option maxHeartbeats 400000 in
theorem L_eqItem (w : World) (x y : GItem) (v1 v2 : Value) (h1 : Rd rInts w x.vals [v1]) (h2 : Rd rInts w y.vals [v2]) :
    Calls Try.prog 92 #[.agg #[.int .i64 x.id, v1], .agg #[.int .i64 y.id, v2]] w (Ret w (.bool (decide (x = y)))) := by
  have B0 : Bw w ((w.alloc (.cells #[.int .i64 x.id, v1] 110)).alloc (.cells #[.int .i64 y.id, v2] 110)) := ((Bw.refl w).alloc _).alloc _
  rw [eqItem_dec]
  by_cases hid : x.id = y.id
  · have hd : decide (x.id = y.id) = true := by simpa using hid
    have HD := Lib.hid hd
    have hne : (x.id != y.id) = false := by simpa using hid
    have heq : (x.id == y.id) = true := by simpa using hid
    clear hd hid
    go_enter Try.func92, Try.ntmps92
    go_wp2_with fail
    refine (L_eqIntS _ x.vals y.vals _ _ (h1.bw rInts_good B0) (h2.bw rInts_good B0)).mono ?_
    rintro e w2 ⟨rfl, hb2⟩
    have B2 := B0.then hb2
    by_cases hv : x.vals = y.vals
    · have hd2 : decide (x.vals = y.vals) = true := by simpa using hv
      clear hv
      go_wp2
      go_ret
      exact Ret.bool (by rw [HD.out, hd2]; rfl) B2
    · have hd2 : decide (x.vals = y.vals) = false := by simpa using hv
      clear hv
      go_wp2
      go_ret
      exact Ret.bool (by rw [hd2]; simp) B2
  · have hd : decide (x.id = y.id) = false := by simpa using hid
    have HD := Lib.hid hd
    have hne : (x.id != y.id) = true := by simpa using hid
    have heq : (x.id == y.id) = false := by simpa using hid
    clear hd
    go_enter Try.func92, Try.ntmps92
    go_wp2
    go_ret
    exact Ret.bool (by rw [HD.out]; rfl) B0
/-- a count over a list, as the laws make it: element by element -/
theorem szM_step (left : Int) (a b : Nat) (h : ¬ left < a) : szM (left - a) b = szM left (a + b) := by
  unfold szM
  by_cases h2 : left - a < b
  · rw [if_pos h2, if_pos (by omega)]
  · rw [if_neg h2, if_neg (by omega)]; omega
theorem szM_zero (m : Int) (h : 0 ≤ m) : szM m 0 = m := by
  unfold szM
  rw [if_neg (by omega)]; omega
theorem szM_neg (left : Int) (a b : Nat) (h : left < a) : szM left (a + b) = -1 := by
  unfold szM
  rw [if_pos (by omega)]
set_option maxHeartbeats 800000 in
theorem L_szItemS (w : World) (xs : List GItem) (v : Value) (h : Rd rItems w xs [v]) (left : Int) (h0 : 0 ≤ left) (h1 : left ≤ 1048576) :
    Calls Try.prog 11 #[v, .int .i64 left] w (Ret w (.int .i64 (szM left (totItems xs)))) := by
  obtain ⟨A, n, c, rfl, a1, a2, a3⟩ := rSl_open h
  have L1 := Lib.hid a1
  unfold totItems
  rw [← a1]
  clear a1
  unfold maxLen at a3
  by_cases hs : left < n
  · go_enter Try.func11, Try.ntmps11
    go_wp2
    go_ret
    exact Ret.int (szM_neg _ _ _ hs).symm (Bw.refl _)
  · have FIN := Lib.hid (szM_step left n (sumL (fun x : GItem => x.vals.length) xs) hs)
    go_enter Try.func11, Try.ntmps11
    go_wp2
    go_loopw [1, 5] (fun l i w' => ∃ (k : Nat) (m : Int), k ≤ n ∧ i = .int .i64 k ∧ l = .int .i64 m ∧ 0 ≤ m ∧ m ≤ 1048576 ∧ Hid (szM left (n + sumL (fun x : GItem => x.vals.length) xs) = szM m (sumL (fun x : GItem => x.vals.length) (xs.drop k))) ∧ Bw w w') (fun l i _ => n - (intOf i).toNat)
    case atStart => exact ⟨0, left - n, by omega, rfl, rfl, by omega, by omega, FIN.out.symm, Bw.refl _⟩
    case round =>
      obtain ⟨k, m, hk, rfl, rfl, g1, g2, HE, hb⟩ := hrel
      by_cases hlt : k < n
      · obtain ⟨x, hx⟩ := get_of_lt (xs := xs) (k := k) (by rw [← L1.out]; exact hlt)
        obtain ⟨ba, oa, A', c', rfl, _, hcx, hcx1, hin⟩ := rItems_at (h.bw rItems_good hb) hx
        have HS := Lib.hid (sumL_drop (fun x : GItem => x.vals.length) hx)
        clear hx h
        go_wp2_with fail
        refine (L_szItem _ x _ hin m g1 g2).mono ?_
        rintro e w2 ⟨rfl, hb2⟩
        have hbb := hb.then hb2
        clear hin
        by_cases hm : m < (x.vals.length : Nat)
        · rw [show szM m x.vals.length = -1 from if_pos hm]
          go_wp2
          go_ret
          exact Ret.int (by rw [HE.out, HS.out, szM_neg _ _ _ hm]) hbb
        · rw [show szM m x.vals.length = m - x.vals.length from if_neg hm]
          go_wp2
          go_roundw
          case rel => exact ⟨k + 1, m - x.vals.length, by omega, by go_num, rfl, by omega, by omega, by show _ = _; rw [HE.out, HS.out, szM_step _ _ _ (by omega)], hbb⟩
          case measure => simp [intOf]; omega
      · go_wp2
        go_ret
        exact Ret.int (by rw [HE.out, List.drop_of_length_le (by rw [← L1.out]; omega)]; rw [sumL, szM_zero _ g1]) hb
set_option maxRecDepth 100000 in
set_option maxHeartbeats 800000 in
theorem L_eqItemS (w : World) (xs ys : List GItem) (v1 v2 : Value) (h1 : Rd rItems w xs [v1]) (h2 : Rd rItems w ys [v2]) :
    Calls Try.prog 18 #[v1, v2] w (Ret w (.bool (decide (xs = ys)))) := by
  obtain ⟨A1, n1, c1, rfl, a1, a2, a3⟩ := rSl_open h1
  obtain ⟨A2, n2, c2, rfl, b1, b2, b3⟩ := rSl_open h2
  unfold maxLen at a3 b3
  have L1 := Lib.hid a1
  have L2 := Lib.hid b1
  clear a1 b1
  by_cases hl : n1 = n2
  · subst hl
    go_enter Try.func18, Try.ntmps18
    go_wp2
    go_loopw [5] (fun i w' => ∃ k : Nat, k ≤ n1 ∧ i = .int .i64 k ∧ xs.take k = ys.take k ∧ Bw w w') (fun i _ => n1 - (intOf i).toNat)
    case atStart => exact ⟨0, by omega, rfl, by simp, Bw.refl _⟩
    case round =>
      obtain ⟨k, hk, rfl, he, hb⟩ := hrel
      have HE := Lib.hid he
      clear he
      by_cases hlt : k < n1
      · obtain ⟨x, hx⟩ := get_of_lt (xs := xs) (k := k) (by rw [← L1.out]; exact hlt)
        obtain ⟨y, hy⟩ := get_of_lt (xs := ys) (k := k) (by rw [← L2.out]; exact hlt)
        obtain ⟨ba, oa, Ax, cx, rfl, _, hcx, hcx', hix⟩ := rItems_at (h1.bw rItems_good hb) hx
        obtain ⟨bb, ob, Ay, cy, rfl, _, hcy, hcy', hiy⟩ := rItems_at (h2.bw rItems_good hb) hy
        have HX := Lib.hid hx
        have HY := Lib.hid hy
        clear hx hy h1 h2
        go_wp2_with fail
        go_still_tail 8, (by kernel_rfl)
        change wpList _ _ _ _ _ wr.drew
        have hix' : Rd rInts wr.drew x.vals [.slice Ax x.vals.length cx] := hix
        have hiy' : Rd rInts wr.drew y.vals [.slice Ay y.vals.length cy] := hiy
        clear hix hiy
        go_wp2_with fail
        refine (L_eqItem _ x y _ _ hix' hiy').mono ?_
        rintro e w2 ⟨rfl, hb2⟩
        have hbb : Bw w w2 := hb.drew.then hb2
        by_cases hxy : x = y
        · have HD : decide (x = y) = true := by simpa using hxy
          go_wp2
          go_roundw
          case rel => exact ⟨k + 1, by omega, by go_num, take_step HE.out HX.out HY.out hxy, hbb⟩
          case measure => simp [intOf]; omega
        · have HD : decide (x = y) = false := by simpa using hxy
          go_wp2
          go_ret
          exact Ret.bool (by simpa using ne_of_at HX.out HY.out hxy) hbb
      · go_wp2
        go_ret
        exact Ret.bool (by simpa using eq_of_take HE.out (by rw [← L1.out]; omega) (by rw [← L2.out]; omega)) hb
  · go_enter Try.func18, Try.ntmps18
    go_wp2
    go_ret
    exact Ret.bool (by simp; intro e; exact hl (by rw [L1.out, L2.out, e])) (Bw.refl _)
end Go.Proofs.Ytfffklkiikmieaa
