/- Copies of integers and items, in both programs. -/
import Derived.Test.YthlaabaffbffkaaQFind
import Derived.Test.YthlaabaffbffkaaQMarks
namespace Go.Proofs.Ythlaabaffbffkaa
open Go.RowKit
set_option linter.unusedVariables false
set_option maxHeartbeats 400000 in
theorem I_copyInts (w : World) (xs : List Int) (v : Value) (h : Rd rInts w xs [v]) (hn : xs.length ≤ 1048576) : Calls Try.prog 62 #[v] w (RetV w (Made fInts w.heap.size xs)) := by
  obtain ⟨i0, hi, hz0, hz1, hz2⟩ := info_parts info_int
  have hv0 := fSl_empty (e := 3) (sz := 1) (R := fInt) w
  have B0 : Bw w (w.alloc (.cells #[] 3)) := (Bw.refl w).alloc _
  have hs := h.bw rInts_good B0
  have hF0 : Fresh w.heap.size [w.heap.size] := ⟨by simp, by simp⟩
  go_enter Try.func62, Try.ntmps62
  go_wp2_with (at_builtin; refine wpList_append_all _ rfl (.tmp 3) (.tmp 4) 28 rfl w 3 i0 _ 1 8 Try.underlying28 hi hz0 hz1 hz2 rfl (by omega) fInt_good _ [] [w.heap.size] rfl hv0 hF0 _ rfl xs hs (fun y u h => ⟨h, rfl⟩) (by simp; omega) (by simp; omega) B0 ?_; intro v' w' F' hv' hF' hb')
  go_ret
  exact ⟨_, rfl, ⟨F', by simpa using hv', hF'⟩, hb'⟩
set_option maxRecDepth 100000 in
set_option maxHeartbeats 400000 in
theorem S_l2One (w : World) (x : GItem) (v : Value) (h : Rd rInts w x.vals [v]) (hn : x.vals.length ≤ 1048576) : Calls Try.prog 41 #[.int .i64 x.id, v] w (RetItem w x) := by
  obtain ⟨i0, hi, hz0, hz1, hz2⟩ := info_parts info_int
  have A0 : Bw w (w.alloc (.cells #[.int .i64 0, .slice none 0 0] 30)) := (Bw.refl w).alloc _
  have B0 : Bw (w.alloc (.cells #[.int .i64 0, .slice none 0 0] 30)) ((w.alloc (.cells #[.int .i64 0, .slice none 0 0] 30)).alloc (.cells #[] 3)) := (Bw.refl _).alloc _
  have hv0 := fSl_empty (e := 3) (sz := 1) (R := fInt) (w.alloc (.cells #[.int .i64 0, .slice none 0 0] 30))
  have hF0 : Fresh (w.alloc (.cells #[.int .i64 0, .slice none 0 0] 30)).heap.size [w.heap.size + 1] := ⟨by simp, by simp⟩
  rw [show (w.alloc (.cells #[.int .i64 0, .slice none 0 0] 30)).heap.size = w.heap.size + 1 from by simp] at hv0
  have hs := h.bw rInts_good (A0.then B0)
  go_enter Try.func41, Try.ntmps41
  go_wp2_with (at_builtin; refine wpList_append_all _ rfl (.tmp 6) (.tmp 7) 28 rfl (w.alloc (.cells #[.int .i64 0, .slice none 0 0] 30)) 3 i0 _ 1 8 Try.underlying28 hi hz0 hz1 hz2 rfl (by omega) fInt_good _ [] _ rfl hv0 hF0 _ rfl x.vals hs (fun y u h => ⟨h, rfl⟩) (by simp; omega) (by simp; omega) B0 ?_; intro v' w' F' hv' hF' hb'; rw [List.nil_append] at hv'; obtain ⟨A', c', rfl, _⟩ := rSl_shape (fInts_Rd hv'); have hc := bw_cell hb'; have hf := bw_frozen hb')
  refine bodyPost_ret (v := .agg #[.int .i64 x.id, .slice A' x.vals.length c']) (by simp [results, Try.results41, go_sem, hc]) rfl ⟨_, rfl, ⟨F', ?_, ⟨hF'.nodup, fun b hb => by have := hF'.ge b hb; simp at this; omega⟩⟩, ?_⟩
  · refine (fInts_good (B := 0)).step (fun b hb => ?_) hv'
    rcases hb with hb | hb
    · have := hF'.ge b hb
      simp at this
      repeat rw [Below.heap_setCell _ _ _ _ (by dsimp only; omega)]
    · omega
  · repeat (first | exact A0.then hb' | refine Bw.set ?_ (by dsimp only; omega) _)
set_option maxRecDepth 100000 in
set_option maxHeartbeats 800000 in
theorem I_copyItem (w : World) (x : GItem) (v : Value) (h : Rd rInts w x.vals [v]) (hn : x.vals.length ≤ 1048576) : Calls Try.prog 37 #[.agg #[.int .i64 x.id, v]] w (RetItem w x) := by
  have A0 : Bw w ((w.alloc (.cells #[.int .i64 x.id, v] 30)).alloc (.cells #[.int .i64 0, .slice none 0 0] 30)).drew := (((Bw.refl w).alloc _).alloc _).drew
  have hs := h.bw rInts_good A0
  obtain ⟨W, hW⟩ : ∃ W, W = ((w.alloc (.cells #[.int .i64 x.id, v] 30)).alloc (.cells #[.int .i64 0, .slice none 0 0] 30)).drew := ⟨_, rfl⟩
  have k0 : W.cell? ⟨w.heap.size, 0, none⟩ = some (.int .i64 x.id) := by rw [hW]; go_simp
  have k1 : W.cell? ⟨w.heap.size, 1, none⟩ = some v := by rw [hW]; go_simp
  have k2 : W.cell? ⟨w.heap.size + 1, 0, none⟩ = some (.int .i64 0) := by rw [hW]; go_simp
  have k3 : W.cell? ⟨w.heap.size + 1, 1, none⟩ = some (.slice none 0 0) := by rw [hW]; go_simp
  have hsz : W.heap.size = w.heap.size + 2 := by rw [hW]; simp
  have HSZ := Lib.hid hsz
  have hfr := fun o (w2 : World) (hb : Bw W w2) => bw_frozen hb (w.heap.size + 1) o (by rw [hsz]; omega)
  have hfW : ∀ o, W.frozen? ⟨w.heap.size + 1, o, none⟩ = false := fun o => by rw [hW]; go_simp
  rw [← hW] at A0 hs
  have HW := Lib.hid hW
  clear hW hsz
  go_enter Try.func37, Try.ntmps37
  go_wp2
  go_region_held3 (fun w' => w'.cell? ⟨w.heap.size, 0, none⟩ = some (.int .i64 x.id) ∧ w'.cell? ⟨w.heap.size, 1, none⟩ = some v) (first | go_keep | exact ⟨k0, k1⟩)
    (first
      | (go_at_call 62; rw [← HW.out]; refine (I_copyInts _ x.vals _ hs hn).mono ?_; rintro e w2 ⟨v2, rfl, ⟨F2, o2, f2⟩, hb2⟩; obtain ⟨A2, c2, rfl, _⟩ := rSl_shape (fInts_Rd o2); replace k0 := hb2.cell k0; replace k1 := hb2.cell k1; replace k2 := hb2.cell k2; replace k3 := hb2.cell k3; have hf2 := fun o => (hfr o w2 hb2).trans (hfW o)))
  go_wp2
  have hFz : ∀ b ∈ F2, w.heap.size + 2 ≤ b := fun b hb => by have := f2.ge b hb; rw [HSZ.out] at this; exact this
  refine bodyPost_ret (v := .agg #[.int .i64 x.id, .slice A2 x.vals.length c2]) (by simp [results, Try.results37, go_sem, k2, k3]) rfl ⟨_, rfl, ⟨F2, ?_, ⟨f2.nodup, fun b hb => by have := hFz b hb; omega⟩⟩, ?_⟩
  · refine (fInts_good (B := 0)).step (fun b hb => ?_) o2
    rcases hb with hb | hb
    · have := hFz b hb
      repeat rw [Below.heap_setCell _ _ _ _ (by dsimp only; omega)]
    · omega
  · repeat (first | exact A0.then hb2 | refine Bw.set ?_ (by dsimp only; omega) _)
theorem info_Item2 : (Try.prog.info? 30).map (fun i => (i.zero, i.size, i.bytes)) = some (some (.agg #[.int .i64 0, .slice none 0 0]), 2, 32) := info_Item
theorem take_snoc_at {α : Type} {l : List α} {k : Nat} {x : α} (h : l[k]? = some x) : l.take (k + 1) = l.take k ++ [x] := by rw [List.take_add_one, h]; rfl
set_option maxRecDepth 100000 in
set_option maxHeartbeats 1600000 in
theorem I_copyItems (w : World) (xs : List GItem) (v : Value) (h : Rd rItems w xs [v]) (ht : totItems xs ≤ 1048576) : Calls Try.prog 36 #[v] w (RetV w (Made fItems w.heap.size xs)) := by
  have hn : xs.length ≤ 1048576 := by unfold totItems at ht; omega
  have hnn : ∀ x ∈ xs, x.vals.length ≤ 1048576 := fun x hx => by have := le_sum (fun x : GItem => x.vals.length) hx; unfold totItems at ht; omega
  clear ht
  obtain ⟨i0, hi, hz0, hz1, hz2⟩ := info_parts info_Item
  obtain ⟨A, n, c, rfl, a1, a2, a3⟩ := rSl_open h
  rw [← a1] at hn
  have L1 := Lib.hid a1
  clear a1
  have hv0 := fSl_empty (e := 30) (sz := 2) (R := fItem) w
  go_enter Try.func36, Try.ntmps36
  go_wp2
  go_loopw [3, 9] (fun s i w' => ∃ (k : Nat) (F : List Nat), k ≤ n ∧ i = .int .i64 k ∧ fItems w' (xs.take k) [s] F ∧ Fresh w.heap.size F ∧ Bw w w') (fun s i _ => n - (intOf i).toNat)
  case atStart => exact ⟨0, _, by omega, rfl, hv0, ⟨by simp, by simp⟩, (Bw.refl _).alloc _⟩
  case round =>
    obtain ⟨k, F, hk, rfl, hv, hF, hb⟩ := hrel
    by_cases hlt : k < n
    · obtain ⟨x, hx⟩ := get_of_lt (xs := xs) (k := k) (by rw [← L1.out]; exact hlt)
      have hxm := hnn x (List.mem_of_getElem? hx)
      obtain ⟨ba, oa, A', c', rfl, _, hcx, hcx1, hin⟩ := rItems_at (h.bw rItems_good hb) hx
      have HS := Lib.hid (take_snoc_at hx)
      have hkl : (xs.take k).length = k := by rw [List.length_take]; have := L1.out; omega
      have HK := Lib.hid hkl
      have A1 : Bw wr (wr.alloc (.cells #[.int .i64 x.id, .slice A' x.vals.length c'] 30)) := (Bw.refl wr).alloc _
      clear hx h hnn hv0 hkl
      go_wp2_with fail
      refine (I_copyItem _ x _ (Rd.bw rInts_good hin A1) hxm).mono ?_
      rintro e w1 ⟨v1, rfl, ⟨F1, o1, f1⟩, hb1⟩
      have hb1' := A1.then hb1
      have hv1 := (fItems_good (B := w.heap.size)).bw hb1' hb.size hv
      have hFm := (fItems_good (B := 0)).lt hv
      have hbb := hb.then hb1'
      obtain ⟨Av, cv, rfl, _⟩ := rSl_shape (fInts_Rd o1)
      have hvW := (fItems_good (B := w.heap.size)).bw ((Bw.refl w1).alloc (.cells #[.int .i64 x.id, .slice Av x.vals.length cv] 30)) hbb.size hv1
      have oW := (fInts_good (B := w.heap.size)).bw ((Bw.refl w1).alloc (.cells #[.int .i64 x.id, .slice Av x.vals.length cv] 30)) hbb.size o1
      have hbW := hbb.alloc (.cells #[.int .i64 x.id, .slice Av x.vals.length cv] 30)
      have f1' : Fresh wr.heap.size F1 := f1.mono A1.size
      have hcl : ∀ j t, [Value.int .i64 x.id, .slice Av x.vals.length cv][j]? = some t → (w1.alloc (.cells #[.int .i64 x.id, .slice Av x.vals.length cv] 30)).cell? ((⟨w1.heap.size, 0, none⟩ : Addr).add j) = some t := World.news_of_block (cs := #[.int .i64 x.id, .slice Av x.vals.length cv]) (t := 30) (fr := (0, 0)) (heap_alloc_new w1 _)
      clear hv hv1 hcx hcx1 hin o1 f1
      go_wp2_with (at_builtin; refine wpList_push _ rfl (.tmp 13) (.tmp 16) 24 rfl w 30 i0 _ 2 32 Try.underlying24 hi hz0 hz1 hz2 rfl (by omega) fItem_good _ (xs.take k) F rfl hvW hF ⟨w1.heap.size, 0, none⟩ 1 rfl x [.int .i64 x.id, .slice Av x.vals.length cv] F1 hcl ⟨_, rfl, oW⟩ rfl wr.heap.size hFm f1' hb.size (by rw [HK.out]; omega) (by rw [HK.out]; omega) hbW ?_; intro v' w' F' hv' hF' hb')
      go_roundw
      case rel => exact ⟨k + 1, F', by omega, by go_num, by rw [HS.out]; exact hv', hF', hb'⟩
      case measure => simp [intOf]; omega
    · obtain rfl : k = n := by omega
      rw [List.take_of_length_le (by rw [← L1.out]; exact Nat.le_refl _)] at hv
      go_wp2
      go_ret
      exact ⟨_, rfl, ⟨F, hv, hF⟩, hb⟩
set_option maxRecDepth 100000 in
set_option maxHeartbeats 3200000 in
theorem S_l2Copy (w : World) (xs : List GItem) (v : Value) (h : Rd rItems w xs [v]) (ht : totItems xs ≤ 1048576) : Calls Try.prog 40 #[v] w (RetV w (Made fItems w.heap.size xs)) := by
  have hn : xs.length ≤ 1048576 := by unfold totItems at ht; omega
  have hnn : ∀ x ∈ xs, x.vals.length ≤ 1048576 := fun x hx => by have := le_sum (fun x : GItem => x.vals.length) hx; unfold totItems at ht; omega
  clear ht
  obtain ⟨i0, hi, hz0, hz1, hz2⟩ := info_parts info_Item
  obtain ⟨A, n, c, rfl, a1, a2, a3⟩ := rSl_open h
  rw [← a1] at hn
  have L1 := Lib.hid a1
  clear a1
  have hv0 := fSl_empty (e := 30) (sz := 2) (R := fItem) w
  go_enter Try.func40, Try.ntmps40
  go_wp2
  go_loopw [3, 4] (fun s i w' => ∃ (k : Nat) (F : List Nat), k ≤ n ∧ i = .int .i64 k ∧ fItems w' (xs.take k) [s] F ∧ Fresh w.heap.size F ∧ Bw w w') (fun s i _ => n - (intOf i).toNat)
  case atStart => exact ⟨0, _, by omega, rfl, hv0, ⟨by simp, by simp⟩, (Bw.refl _).alloc _⟩
  case round =>
    obtain ⟨k, F, hk, rfl, hv, hF, hb⟩ := hrel
    by_cases hlt : k < n
    · obtain ⟨x, hx⟩ := get_of_lt (xs := xs) (k := k) (by rw [← L1.out]; exact hlt)
      have hxm := hnn x (List.mem_of_getElem? hx)
      obtain ⟨ba, oa, A', c', rfl, _, hc0, hc1, hin⟩ := rItems_at h hx
      have hcx := hb.cell hc0
      have hcx1 := hb.cell hc1
      have HS := Lib.hid (take_snoc_at hx)
      have hkl : (xs.take k).length = k := by rw [List.length_take]; have := L1.out; omega
      have HK := Lib.hid hkl
      have i1 : (0 : Int) ≤ (k : Int) := by omega
      have i2 : (k : Int) < (n : Int) := by omega
      have hin' : Rd rInts wr.drew x.vals [.slice A' x.vals.length c'] := Rd.bw rInts_good hin hb.drew
      have D1 : Bw wr wr.drew := (Bw.refl wr).drew
      clear hx h hnn hv0 hkl
      have hFm := (fItems_good (B := 0)).lt hv
      go_wp2_with fail
      go_region_held3 (fun w' => w'.cell? ⟨ba, oa + k * 2, none⟩ = some (.int .i64 x.id) ∧ w'.cell? ⟨ba, oa + k * 2 + 1, none⟩ = some (.slice A' x.vals.length c')) (first | go_keep | exact ⟨hcx, hcx1⟩ | exact ⟨hAl.cell hcx, hAl.cell hcx1⟩ | exact ⟨hb'.cell hc0, hb'.cell hc1⟩ | fail)
        (first
          | (go_at_call 41; refine (S_l2One _ x _ hin' hxm).mono ?_; rintro e w1 ⟨v1, rfl, ⟨F1, o1, f1⟩, hb1⟩; obtain ⟨Av, cv, rfl, _⟩ := rSl_shape (fInts_Rd o1); replace hcx := hb1.cell hcx; replace hcx1 := hb1.cell hcx1; have hb1' := D1.then hb1; have hbb := hb.then hb1'; have hv1 := (fItems_good (B := w.heap.size)).bw hb1' hb.size hv; have hAl := (Bw.refl w1).alloc (.cells #[.int .i64 x.id, .slice Av x.vals.length cv] 30); have hvW := (fItems_good (B := w.heap.size)).bw hAl hbb.size hv1; have oW := (fInts_good (B := w.heap.size)).bw hAl hbb.size o1; have hbW := hbb.then hAl; have f1' : Fresh wr.heap.size F1 := f1.mono (by simp); have hcl : ∀ j t, [Value.int .i64 x.id, .slice Av x.vals.length cv][j]? = some t → (w1.alloc (.cells #[.int .i64 x.id, .slice Av x.vals.length cv] 30)).cell? ((⟨w1.heap.size, 0, none⟩ : Addr).add j) = some t := World.news_of_block (cs := #[.int .i64 x.id, .slice Av x.vals.length cv]) (t := 30) (fr := (0, 0)) (heap_alloc_new w1 _))
          | (refine step_push _ (by rfl) (.tmp 12) (.tmp 24) 24 (by rfl) w 30 i0 _ 2 32 Try.underlying24 hi hz0 hz1 hz2 rfl (by omega) fItem_good _ (xs.take k) F (by rfl) hvW hF ⟨w1.heap.size, 0, none⟩ 1 (by rfl) x [.int .i64 x.id, .slice Av x.vals.length cv] F1 hcl ⟨_, rfl, oW⟩ rfl wr.heap.size hFm f1' hb.size (by rw [HK.out]; omega) (by rw [HK.out]; omega) hbW ?_; intro v' w' F' hv' hF' hb')
          | fail)
      go_wp2
      go_roundw
      case rel => exact ⟨k + 1, F', by omega, by go_num, by rw [HS.out]; exact hv', hF', hb'⟩
      case measure => simp [intOf]; omega
    · obtain rfl : k = n := by omega
      rw [List.take_of_length_le (by rw [← L1.out]; exact Nat.le_refl _)] at hv
      go_wp2
      go_ret
      exact ⟨_, rfl, ⟨F, hv, hF⟩, hb⟩
end Go.Proofs.Ythlaabaffbffkaa
