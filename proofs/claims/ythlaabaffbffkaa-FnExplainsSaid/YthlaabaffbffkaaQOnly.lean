/- Parts of lists of items, in the program and in the reference. -/
import Derived.Test.YthlaabaffbffkaaQCopies
import Derived.Test.YthlaabaffbffkaaQBestS
import Derived.Test.YthlaabaffbffkaaQCompI
namespace Go.Proofs.Ythlaabaffbffkaa
open Go.RowKit
set_option linter.unusedVariables false
def replM (xs : List GItem) (x : GItem) : List GItem := if 0 ≤ findIdx xs x.id then xs.set (findIdx xs x.id).toNat x else xs
set_option maxRecDepth 100000 in
set_option maxHeartbeats 1600000 in
theorem S_ReplaceItem (w : World) (xs : List GItem) (x : GItem) (v vx : Value) (h : Rd rItems w xs [v]) (hx : Rd rInts w x.vals [vx]) (ht : totItems xs ≤ 1048576) (hn : x.vals.length ≤ 1048576) :
    Calls Try.prog 17 #[v, .agg #[.int .i64 x.id, vx]] w (RetV w (Made fItems w.heap.size (replM xs x))) := by
  have B0 : Bw w (w.alloc (.cells #[.int .i64 x.id, vx] 30)) := (Bw.refl w).alloc _
  have k0 : (w.alloc (.cells #[.int .i64 x.id, vx] 30)).cell? ⟨w.heap.size, 0, none⟩ = some (.int .i64 x.id) := by go_simp
  have k1 : (w.alloc (.cells #[.int .i64 x.id, vx] 30)).cell? ⟨w.heap.size, 1, none⟩ = some vx := by go_simp
  have h1 := h.bw rItems_good B0
  have hx1 := hx.bw rInts_good B0
  go_enter Try.func17, Try.ntmps17
  go_wp2_with fail
  refine (S_l2Copy _ xs _ h1 ht).mono ?_
  rintro e w1 ⟨v1, rfl, ⟨F, o1, f1⟩, hb1⟩
  replace k0 := hb1.cell k0
  replace k1 := hb1.cell k1
  replace h1 := h1.bw rItems_good hb1
  replace hx1 := hx1.bw rInts_good hb1
  have B1 := B0.then hb1
  replace f1 := f1.mono B0.size
  go_wp2_with fail
  refine (S_FindItem _ xs x.id _ (fItems_Rd o1)).mono ?_
  rintro e w2 ⟨rfl, hb2⟩
  replace k0 := hb2.cell k0
  replace k1 := hb2.cell k1
  replace hx1 := hx1.bw rInts_good hb2
  replace o1 := (fItems_good (B := w.heap.size)).bw hb2 B1.size o1
  replace B1 := B1.then hb2
  clear h1
  rcases findIdx_cases xs x.id with ⟨hf, _⟩ | ⟨j, y, hf, hj, _⟩
  · have hE := Lib.hid (show xs = replM xs x by unfold replM; rw [hf]; rfl)
    rw [hf]
    clear hf
    go_wp2
    go_ret
    exact ⟨_, rfl, ⟨F, by rw [← hE.out]; exact o1, f1⟩, B1⟩
  · have hE := Lib.hid (show xs.set j x = replM xs x by unfold replM; rw [hf, if_pos (by omega)]; rfl)
    rw [hf]
    have hjl : j < xs.length := (List.getElem?_eq_some_iff.1 hj).1
    have hxl : xs.length ≤ 1048576 := by unfold totItems at ht; omega
    clear hf
    go_wp2_with fail
    refine (S_l2One _ x vx (by exact hx1) hn).mono ?_
    rintro e w3 ⟨v3, rfl, ⟨F3, o3, f3⟩, hb3⟩
    have hFm := (fItems_good (B := 0)).lt o1
    replace o1 := (fItems_good (B := w.heap.size)).bw hb3 B1.size o1
    obtain ⟨g, c, rfl, _, _, _⟩ := fSl_lit o1 (by omega)
    obtain ⟨F', hv', hF', hg, hBg, _⟩ := fSl_put (fItem_good (B := w.heap.size)) o1 f1 (k := j) (y := x) (u := [.int .i64 x.id, v3]) ⟨_, rfl, o3⟩ rfl (m := w2.heap.size) hFm f3 B1.size hjl
    obtain ⟨_, _, _, _, e, _, hcell, hcell1, _⟩ := rItems_at (fItems_rd (B := 0) o1) hj
    injection e with e
    injection e with e1 e2
    subst e1 e2
    have hfr := fSl_frozen o1 (j * 2)
    have hfr1 := fSl_frozen o1 (j * 2 + 1)
    simp only [putCells] at hv' hg
    simp only [Nat.zero_add] at hcell hcell1
    obtain ⟨A3, c3, rfl, _⟩ := rSl_shape (fInts_Rd o3)
    obtain ⟨L, hL⟩ : ∃ L, L = xs.length := ⟨_, rfl⟩
    rw [← hL] at hjl hxl hv' ⊢
    have HL := Lib.hid hL
    have hb' : Bw w ((w3.setCell ⟨g, j * 2, none⟩ (.int .i64 x.id)).setCell ⟨g, j * 2 + 1, none⟩ (.slice A3 x.vals.length c3)) := ((B1.then hb3).set hBg _).set hBg _
    rw [hE.out] at hv'
    clear hj o1 o3 f3 hFm hL hg hE h hx hx1 ht k0 k1
    go_wp2
    go_ret
    exact ⟨_, rfl, ⟨F', hv', hF'⟩, hb'⟩
set_option maxRecDepth 100000 in
set_option maxHeartbeats 1600000 in
theorem I_ReplaceItem (w : World) (xs : List GItem) (x : GItem) (v vx : Value) (h : Rd rItems w xs [v]) (hx : Rd rInts w x.vals [vx]) (ht : totItems xs ≤ 1048576) (hn : x.vals.length ≤ 1048576) :
    Calls Try.prog 13 #[v, .agg #[.int .i64 x.id, vx]] w (RetV w (Made fItems w.heap.size (replM xs x))) := by
  have B0 : Bw w (w.alloc (.cells #[.int .i64 x.id, vx] 30)) := (Bw.refl w).alloc _
  have k0 : (w.alloc (.cells #[.int .i64 x.id, vx] 30)).cell? ⟨w.heap.size, 0, none⟩ = some (.int .i64 x.id) := by go_simp
  have k1 : (w.alloc (.cells #[.int .i64 x.id, vx] 30)).cell? ⟨w.heap.size, 1, none⟩ = some vx := by go_simp
  have h1 := h.bw rItems_good B0
  have hx1 := hx.bw rInts_good B0
  go_enter Try.func13, Try.ntmps13
  go_wp2_with fail
  refine (I_copyItems _ xs _ h1 ht).mono ?_
  rintro e w1 ⟨v1, rfl, ⟨F, o1, f1⟩, hb1⟩
  replace k0 := hb1.cell k0
  replace k1 := hb1.cell k1
  replace h1 := h1.bw rItems_good hb1
  replace hx1 := hx1.bw rInts_good hb1
  have B1 := B0.then hb1
  replace f1 := f1.mono B0.size
  go_wp2_with fail
  refine (I_FindItem _ xs x.id _ (h1)).mono ?_
  rintro e w2 ⟨rfl, hb2⟩
  replace k0 := hb2.cell k0
  replace k1 := hb2.cell k1
  replace hx1 := hx1.bw rInts_good hb2
  replace o1 := (fItems_good (B := w.heap.size)).bw hb2 B1.size o1
  replace B1 := B1.then hb2
  clear h1
  rcases findIdx_cases xs x.id with ⟨hf, _⟩ | ⟨j, y, hf, hj, _⟩
  · have hE := Lib.hid (show xs = replM xs x by unfold replM; rw [hf]; rfl)
    rw [hf]
    clear hf
    go_wp2
    go_ret
    exact ⟨_, rfl, ⟨F, by rw [← hE.out]; exact o1, f1⟩, B1⟩
  · have hE := Lib.hid (show xs.set j x = replM xs x by unfold replM; rw [hf, if_pos (by omega)]; rfl)
    rw [hf]
    have hjl : j < xs.length := (List.getElem?_eq_some_iff.1 hj).1
    have hxl : xs.length ≤ 1048576 := by unfold totItems at ht; omega
    clear hf
    go_wp2_with fail
    refine (I_copyItem _ x vx (by exact hx1) hn).mono ?_
    rintro e w3 ⟨v3, rfl, ⟨F3, o3, f3⟩, hb3⟩
    have hFm := (fItems_good (B := 0)).lt o1
    replace o1 := (fItems_good (B := w.heap.size)).bw hb3 B1.size o1
    obtain ⟨g, c, rfl, _, _, _⟩ := fSl_lit o1 (by omega)
    obtain ⟨F', hv', hF', hg, hBg, _⟩ := fSl_put (fItem_good (B := w.heap.size)) o1 f1 (k := j) (y := x) (u := [.int .i64 x.id, v3]) ⟨_, rfl, o3⟩ rfl (m := w2.heap.size) hFm f3 B1.size hjl
    obtain ⟨_, _, _, _, e, _, hcell, hcell1, _⟩ := rItems_at (fItems_rd (B := 0) o1) hj
    injection e with e
    injection e with e1 e2
    subst e1 e2
    have hfr := fSl_frozen o1 (j * 2)
    have hfr1 := fSl_frozen o1 (j * 2 + 1)
    simp only [putCells] at hv' hg
    simp only [Nat.zero_add] at hcell hcell1
    obtain ⟨A3, c3, rfl, _⟩ := rSl_shape (fInts_Rd o3)
    obtain ⟨L, hL⟩ : ∃ L, L = xs.length := ⟨_, rfl⟩
    rw [← hL] at hjl hxl hv' ⊢
    have HL := Lib.hid hL
    have hb' : Bw w ((w3.setCell ⟨g, j * 2, none⟩ (.int .i64 x.id)).setCell ⟨g, j * 2 + 1, none⟩ (.slice A3 x.vals.length c3)) := ((B1.then hb3).set hBg _).set hBg _
    rw [hE.out] at hv'
    clear hj o1 o3 f3 hFm hL hg hE h hx hx1 ht k0 k1
    go_wp2
    go_ret
    exact ⟨_, rfl, ⟨F', hv', hF'⟩, hb'⟩
end Go.Proofs.Ythlaabaffbffkaa

namespace Go.Proofs.Ythlaabaffbffkaa
open Go.RowKit
set_option linter.unusedVariables false
set_option linter.unusedSimpArgs false
/-- items in a row of the call's own; what their values lie in is older -/
abbrev fItemsSh (B : Nat) : Fp (List GItem) := fSl 30 2 (fSh B rItem)
theorem fItemsSh_Rd {B : Nat} {w : World} {xs : List GItem} {v : Value} {F : List Nat} (h : fItemsSh B w xs [v] F) (hB : B ≤ w.heap.size) : Rd rItems w xs [v] :=
  Rd.of rItems_good (B := B) (fSl_rd rItem_good (fun _ _ _ h => fSh_rd rItem_good h) h) ((fSl_good (fSh_good rItem_good (Nat.le_refl _)) : GoodF B (fItemsSh B)).lt h) hB
/-- what an element lies in is of given blocks -/
def fShS {α : Type} (S : Blocks) (R : Rep α) : Fp α := fun w x cs F => F = [] ∧ R w S x cs ∧ ∀ u ∈ cs, u.oneCell' = true
theorem fShS_good {α : Type} {B : Nat} {S : Blocks} {R : Rep α} (hR : Good R) (hS : ∀ b, S b → b < B) : GoodF B (fShS S R) :=
  ⟨fun hw ⟨hF, h, h1⟩ => ⟨hF, hR.step ⟨fun _ hb => hb, fun p hp => World.cell?_of_block (hw _ (.inr (hS _ hp)))⟩ h, h1⟩, fun h b hb => by rw [h.1] at hb; simp at hb, fun h => h.2.2⟩
abbrev fItemsS (S : Blocks) : Fp (List GItem) := fSl 30 2 (fShS S rItem)
theorem fItemsS_read {S : Blocks} {w : World} {xs : List GItem} {v : Value} {F : List Nat} (h : fItemsS S w xs [v] F) : rItems w (fun b => b ∈ F ∨ S b) xs [v] := by
  obtain ⟨v0, us, Fs, e, hown, hall, hFe⟩ := h
  injection e with e
  subst e
  have hl := all3_len hall
  have hus : ∀ u ∈ us, u.length = 2 := fun u hu => by obtain ⟨x, f, hr⟩ := all3_mem_us hall hu; exact hr.2
  obtain ⟨A, c, rfl, h1, h2, h3⟩ := ownsRow_rSl hown hl.1 hus
  refine ⟨A, c, rfl, h1, h2, fun k x hx => ?_⟩
  obtain ⟨u, f, hu, hf, hr⟩ := all3_at hall hx
  obtain ⟨b, rfl, hb, hc⟩ := h3 k u hu
  exact ⟨b, 0, u, rfl, .inl (by simp [hFe, hb]), hr.2, hc, rItem_good.step ⟨fun _ hb => .inr hb, fun _ _ => rfl⟩ hr.1.2.1⟩
theorem sh_item {w W : World} {S : Blocks} (hS : ∀ b, S b → b < w.heap.size) (hB : Bw w W) {x : GItem} {A : Option Addr} {c : Nat} (h : rInts w S x.vals [.slice A x.vals.length c]) : fShS S rItem W x [.int .i64 x.id, .slice A x.vals.length c] [] := by
  refine ⟨rfl, ⟨_, rfl, ?_⟩, fun u hu => ?_⟩
  · exact rInts_good.step ⟨fun _ h => h, fun p hp => Below.cell hB (hS _ hp)⟩ h
  · simp at hu; rcases hu with rfl | rfl <;> rfl
end Go.Proofs.Ythlaabaffbffkaa
