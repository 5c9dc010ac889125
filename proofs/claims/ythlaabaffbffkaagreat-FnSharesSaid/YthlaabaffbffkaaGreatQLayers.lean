/- Layers of items in both programs. -/
import Derived.Test.YthlaabaffbffkaaGreatQOrder
import Derived.Test.YthlaabaffbffkaaGreatQRefine
import Derived.Test.YthlaabaffbffkaaGreatQBoxT
import Derived.Test.YthlaabaffbffkaaGreatQTree
import Derived.Test.YthlaabaffbffkaaGreatQCopies
namespace Go.Proofs.YthlaabaffbffkaaGreat
open Go.RowKit
set_option linter.unusedVariables false

/-- what is left behind the best -/
def restM (l : List GItem) (e : List GNode) : List GItem := onlyM l (bestM l e) false
def layersF (e : List GNode) : Nat → List GItem → List (List Int)
  | 0, _ => []
  | n + 1, l => if l.length = 0 then [] else bestM l e :: layersF e n (restM l e)
theorem rest_lt {l : List GItem} {e : List GNode} (hE : isExpr e = true) (hl : ¬ l.length = 0) (hi : ∀ x ∈ l, isItem x = true) : (restM l e).length < l.length := by
  have hb := best_pos hE (fun h => hl (by rw [h]; rfl)) hi
  obtain ⟨b, hb⟩ := List.exists_mem_of_ne_nil _ hb
  obtain ⟨x, hx, rfl⟩ := List.mem_map.1 (show b ∈ (l.filter (freeIn l e)).map (·.id) from hb)
  have hxl := (List.mem_filter.1 hx).1
  rcases Nat.lt_or_ge (restM l e).length l.length with h | h
  · exact h
  · exfalso
    have h2 : (restM l e).length = l.length := Nat.le_antisymm (List.length_filter_le _ _) h
    have := List.length_filter_eq_length_iff.1 h2 x hxl
    simp only [beq_iff_eq] at this
    rw [List.contains_iff_mem.2 hb] at this
    cases this
theorem rest_items {l : List GItem} {e : List GNode} (h : areItems l = true) : areItems (restM l e) = true := areItems_filter _ h
theorem layersF_fuel {e : List GNode} (hE : isExpr e = true) : ∀ (n m : Nat) (l : List GItem), areItems l = true → l.length ≤ n → l.length ≤ m → layersF e n l = layersF e m l
  | 0, 0, l, _, _, _ => rfl
  | 0, m + 1, l, _, h, _ => by simp only [layersF]; rw [if_pos (by omega)]
  | n + 1, 0, l, _, _, h => by simp only [layersF]; rw [if_pos (by omega)]
  | n + 1, m + 1, l, hi, h1, h2 => by
    simp only [layersF]
    by_cases hl : l.length = 0
    · rw [if_pos hl, if_pos hl]
    · rw [if_neg hl, if_neg hl]
      have := rest_lt hE hl (fun x hx => areItems_mem hi hx)
      rw [layersF_fuel hE n m _ (rest_items hi) (by omega) (by omega)]
def layersOf (l : List GItem) (e : List GNode) : List (List Int) := layersF e l.length l
theorem layersOf_nil {l : List GItem} {e : List GNode} (h : l.length = 0) : layersOf l e = [] := by unfold layersOf; rw [h]; rfl
theorem layersOf_cons {l : List GItem} {e : List GNode} (hE : isExpr e = true) (hi : areItems l = true) (h : ¬ l.length = 0) : layersOf l e = bestM l e :: layersOf (restM l e) e := by
  unfold layersOf
  obtain ⟨n, hn⟩ : ∃ n, l.length = n + 1 := ⟨l.length - 1, by omega⟩
  have := rest_lt hE h (fun x hx => areItems_mem hi hx)
  rw [hn]
  simp only [layersF]
  rw [if_neg h, layersF_fuel hE n (restM l e).length _ (rest_items hi) (by omega) (Nat.le_refl _)]
theorem layersF_len {e : List GNode} : ∀ (n : Nat) (l : List GItem), (layersF e n l).length ≤ n
  | 0, _ => Nat.le_refl _
  | n + 1, l => by
    simp only [layersF]
    split
    · simp
    · have := layersF_len (e := e) n (restM l e)
      simp only [List.length_cons]; omega
theorem layersF_mem {e : List GNode} : ∀ (n : Nat) (l : List GItem) (b : List Int), b ∈ layersF e n l → b.length ≤ l.length
  | 0, _, _, h => by simp [layersF] at h
  | n + 1, l, b, h => by
    simp only [layersF] at h
    split at h
    · simp at h
    · rcases List.mem_cons.1 h with rfl | h
      · exact bestM_len l e
      · exact Nat.le_trans (layersF_mem n _ b h) (List.length_filter_le _ _)
def layersM (l : List GItem) (e : List GNode) : List (List Int) := if areBoth l e then layersOf l e else []
theorem layersM_len (l : List GItem) (e : List GNode) : (layersM l e).length ≤ 16 := by
  unfold layersM; split
  · rename_i h
    have := areItems_len (areBoth_items h)
    have := layersF_len (e := e) l.length l
    unfold layersOf; omega
  · simp
theorem layersM_mem {l : List GItem} {e : List GNode} {b : List Int} (h : b ∈ layersM l e) : b.length ≤ 16 := by
  unfold layersM at h; split at h
  · rename_i h2
    have := areItems_len (areBoth_items h2)
    have := layersF_mem l.length l b h
    omega
  · simp at h
end Go.Proofs.YthlaabaffbffkaaGreat

namespace Go.Proofs.YthlaabaffbffkaaGreat
open Go.RowKit
set_option linter.unusedVariables false
set_option linter.unusedSimpArgs false
theorem info_row : (Tryz.prog.info? 33).map (fun i => (i.zero, i.size, i.bytes)) = some (some (.slice none 0 0), 1, 24) := by kernel_rfl
theorem rItems_keep {w w' : World} {S : Blocks} {xs : List GItem} {cs : List Value} (h : rItems w S xs cs) (hk : ∀ b, S b → w'.heap[b]? = w.heap[b]?) : rItems w' S xs cs :=
  rItems_good.step ⟨fun _ h => h, fun p hp => World.cell?_of_block (hk _ hp)⟩ h
theorem rItems_Rd {w : World} {S : Blocks} {xs : List GItem} {cs : List Value} (h : rItems w S xs cs) (hS : ∀ b, S b → b < w.heap.size) : Rd rItems w xs cs :=
  rItems_good.step ⟨hS, fun _ _ => rfl⟩ h
set_option maxRecDepth 100000 in
set_option maxHeartbeats 3200000 in
theorem S_l10Without (w : World) (l : List GItem) (ids : List Int) (v u : Value) (h : Rd rItems w l [v]) (h' : Rd rInts w ids [u]) (hn : l.length ≤ 1048576) (hnn : ∀ x ∈ l, x.vals.length ≤ 1048576) :
    Calls Tryz.prog 109 #[v, u] w (RetV w (Made fItems w.heap.size (onlyM l ids false))) := by
  obtain ⟨i0, hi, hz0, hz1, hz2⟩ := info_parts info_Item
  obtain ⟨A, n, c, rfl, L0, Lc, Lm⟩ := rSl_open h
  unfold maxLen at Lm
  have L := Lib.hid L0
  clear L0
  rw [← L.out] at hn
  have hv0 := fSl_empty (e := 42) (sz := 2) (R := fItem) w
  have HNN := Lib.hid hnn
  clear hnn
  go_enter Tryz.func109, Tryz.ntmps109
  go_wp2
  go_loopw [5, 6] (fun s i w' => ∃ (k : Nat) (F : List Nat), k ≤ n ∧ i = .int .i64 k ∧ fItems w' (onlyTo l ids false k) [s] F ∧ Fresh w.heap.size F ∧ Bw w w') (fun s i _ => n - (intOf i).toNat)
  case atStart => exact ⟨0, _, by omega, rfl, hv0, ⟨by simp, by simp⟩, (Bw.refl _).alloc _⟩
  case round =>
    clear hv0
    obtain ⟨k, F, hk, rfl, hv, hF, hb⟩ := hrel
    by_cases hlt : k < n
    · obtain ⟨x, hx⟩ := get_of_lt (xs := l) (k := k) (by have := L.out; omega)
      have hxm := HNN.out x (List.mem_of_getElem? hx)
      obtain ⟨ba, oa, A', c', rfl, _, hc0, hc1, hin⟩ := rItems_at h hx
      have hcx := hb.cell hc0
      have hcx1 := hb.cell hc1
      have HYES := Lib.hid (fun hc => onlyTo_yes (ids := ids) (b := false) hx hc)
      have HNO := Lib.hid (fun hc => onlyTo_no (ids := ids) (b := false) hx hc)
      have HLEN := Lib.hid (onlyTo_len (l := l) (ids := ids) (b := false) (k := k))
      have i1 : (0 : Int) ≤ (k : Int) := by omega
      have i2 : (k : Int) < (n : Int) := by omega
      have HH := Lib.hid h
      have HIN := Lib.hid hin
      have HC0 := Lib.hid hc0
      have HC1 := Lib.hid hc1
      clear hx h hin hc0 hc1
      go_wp2_with fail
      refine (S_l2Has _ ids x.id _ (h'.bw rInts_good hb)).mono ?_
      rintro e w2 ⟨rfl, hb2⟩
      have hb2w := hb.then hb2
      replace hcx := hb2.cell hcx
      replace hcx1 := hb2.cell hcx1
      have hv2 := (fItems_good (B := w.heap.size)).bw hb2 hb.size hv
      rcases Bool.eq_false_or_eq_true (ids.contains x.id) with e1 | e1
      · have HB := Lib.hid (HNO.out (by rw [e1]; rfl))
        rw [e1]
        clear e1 hv
        have h := HH.out
        go_wp2
        go_roundw
        case rel => exact ⟨k + 1, F, by omega, by go_num, by rw [HB.out]; exact hv2, hF, hb2w⟩
        case measure => simp [intOf]; omega
      · have HB := Lib.hid (HYES.out e1)
        rw [e1]
        clear e1 hv
        have hin' : Rd rInts w2.drew x.vals [.slice A' x.vals.length c'] := Rd.bw rInts_good HIN.out hb2w.drew
        have D1 : Bw w2 w2.drew := (Bw.refl w2).drew
        have hFm := (fItems_good (B := 0)).lt hv2
        have hb2s := hb2w.size
        go_wp2_with fail
        go_region_held3 (fun w' => w'.cell? ⟨ba, oa + k * 2, none⟩ = some (.int .i64 x.id) ∧ w'.cell? ⟨ba, oa + k * 2 + 1, none⟩ = some (.slice A' x.vals.length c')) (first | go_keep | exact ⟨hcx, hcx1⟩ | exact ⟨hAl.cell hcx, hAl.cell hcx1⟩ | exact ⟨hb'.cell HC0.out, hb'.cell HC1.out⟩ | fail)
          (first
            | (go_at_call 163; refine (S_l2One _ x _ hin' hxm).mono ?_; rintro e w1 ⟨v1, rfl, ⟨F1, o1, f1⟩, hb1⟩; obtain ⟨Av, cv, rfl, _⟩ := rSl_shape (fInts_Rd o1); replace hcx := hb1.cell hcx; replace hcx1 := hb1.cell hcx1; have hb1' := D1.then hb1; have hbb := hb2w.then hb1'; have hv1 := (fItems_good (B := w.heap.size)).bw hb1' hb2w.size hv2; have hAl := (Bw.refl w1).alloc (.cells #[.int .i64 x.id, .slice Av x.vals.length cv] 42); have hvW := (fItems_good (B := w.heap.size)).bw hAl hbb.size hv1; have oW := (fInts_good (B := w.heap.size)).bw hAl hbb.size o1; have hbW := hbb.then hAl; have f1' : Fresh w2.heap.size F1 := f1.mono (by simp); have hcl : ∀ j t, [Value.int .i64 x.id, .slice Av x.vals.length cv][j]? = some t → (w1.alloc (.cells #[.int .i64 x.id, .slice Av x.vals.length cv] 42)).cell? ((⟨w1.heap.size, 0, none⟩ : Addr).add j) = some t := World.news_of_block (cs := #[.int .i64 x.id, .slice Av x.vals.length cv]) (t := 42) (fr := (0, 0)) (heap_alloc_new w1 _))
            | (refine step_push _ (by rfl) (.tmp 22) (.tmp 34) 24 (by rfl) w 42 i0 _ 2 32 Tryz.underlying24 hi hz0 hz1 hz2 rfl (by omega) fItem_good _ (onlyTo l ids false k) F (by rfl) hvW hF ⟨w1.heap.size, 0, none⟩ 1 (by rfl) x [.int .i64 x.id, .slice Av x.vals.length cv] F1 hcl ⟨_, rfl, oW⟩ rfl w2.heap.size hFm f1' hb2s (by have := HLEN.out; omega) (by have := HLEN.out; omega) hbW ?_; intro v' w' F' hv' hF' hb')
            | fail)
        have h := HH.out
        go_wp2
        go_roundw
        case rel => exact ⟨k + 1, F', by omega, by go_num, by rw [HB.out]; exact hv', hF', hb'⟩
        case measure => simp [intOf]; omega
    · obtain rfl : k = n := by omega
      rw [onlyTo_end (by rw [← L.out]; exact Nat.le_refl _)] at hv
      go_wp2
      go_ret
      exact ⟨_, rfl, ⟨F, hv, hF⟩, hb⟩
theorem layers_small {l : List GItem} (h : areItems l = true) : l.length ≤ 1048576 ∧ ∀ x ∈ l, x.vals.length ≤ 1048576 :=
  ⟨by have := areItems_len h; omega, fun x hx => by rw [isItem_len (areItems_mem h hx)]; omega⟩
set_option maxRecDepth 100000 in
set_option maxHeartbeats 6400000 in
theorem I_LayersOf (w : World) (l : List GItem) (e : List GNode) (v u : Value) (h : Rd rItems w l [v]) (h' : Rd rNodes w e [u]) :
    Calls Tryz.prog 117 #[v, u] w (RetV w (Made fIntss w.heap.size (layersM l e))) := by
  obtain ⟨i0, hi, hz0, hz1, hz2⟩ := info_parts info_row
  have hv0 := fSl_empty (e := 33) (sz := 1) (R := fInts) w
  have A0 : Bw w (w.alloc (.cells #[] 33)) := (Bw.refl w).alloc _
  go_enter Tryz.func117, Tryz.ntmps117
  go_wp2_with fail
  refine (I_areBoth _ l e _ _ (h.bw rItems_good A0) (h'.bw rNodes_good A0)).mono ?_
  rintro e w1 ⟨rfl, hb1⟩
  have B1 := A0.then hb1
  have hv1 := (fIntss_good (B := w.heap.size)).bw hb1 A0.size hv0
  rcases Bool.eq_false_or_eq_true (areBoth l e) with e1 | e1
  · have HB := Lib.hid e1
    rw [e1]
    clear e1 hv0
    have HM := Lib.hid (show layersM l e = layersOf l e by rw [layersM, if_pos HB.out])
    have h16 : (layersOf l e).length ≤ 16 := by rw [← HM.out]; exact layersM_len l e
    have H16 := Lib.hid h16
    have hr0 : rItems w1 (lt w) l [v] := rItems_keep h (fun b hb => Below.block B1 b hb)
    clear h16 h
    go_wp2
    go_loopg [5, 6] l.length (fun g s r w' => ∃ (don : List (List Int)) (rest : List GItem) (F : List Nat) (S : Blocks), g = rest.length ∧ fIntss w' don [s] F ∧ Fresh w.heap.size F ∧ Bw w w' ∧ Hid (don ++ layersOf rest e = layersOf l e) ∧ Hid (areItems rest = true) ∧ Hid (rItems w' S rest [r]) ∧ Hid (∀ b, S b → b < w'.heap.size) ∧ Hid (∀ b ∈ F, ¬ S b))
    case atStart => exact ⟨[], l, _, lt w, rfl, hv1, ⟨by simp, by simp⟩, B1, Lib.hid rfl, Lib.hid (areBoth_items HB.out), Lib.hid hr0, Lib.hid (fun b hb => Nat.lt_of_lt_of_le hb B1.size), Lib.hid (fun b hb => by simp at hb; subst hb; exact Nat.lt_irrefl _)⟩
    case round =>
      clear hv1 hr0 B1 A0 hb1
      obtain ⟨don, rest, F, S, rfl, hv, hF, hb, HD, HI, HR, HS, HFS⟩ := hrel
      have hr := rItems_Rd HR.out HS.out
      obtain ⟨A, n, c, rfl, L0, Lc, Lm⟩ := rSl_open hr
      unfold maxLen at Lm
      have L := Lib.hid L0
      clear L0
      by_cases hn : n = 0
      · subst hn
        have HE := Lib.hid (show don = layersM l e by rw [HM.out, ← HD.out, layersOf_nil L.out.symm, List.append_nil])
        rw [HE.out] at hv
        clear hr
        go_wp2
        go_ret
        exact ⟨_, rfl, ⟨F, hv, hF⟩, hb⟩
      · have n1 : (0 : Int) < (n : Int) := by omega
        have hne : ¬ rest.length = 0 := by rw [← L.out]; exact hn
        have HC := Lib.hid (layersOf_cons (areBoth_expr HB.out) HI.out hne)
        have HLT := Lib.hid (rest_lt (areBoth_expr HB.out) hne (fun x hx => areItems_mem HI.out hx))
        have hdl : don.length + 1 ≤ 16 := by
          have h1 := H16.out
          rw [← HD.out, HC.out, List.length_append, List.length_cons] at h1
          omega
        have hn2 : rest.length ≤ 1048576 := by have := areItems_len HI.out; omega
        have hE : areBoth rest e = true := by unfold areBoth; rw [HI.out, areBoth_expr HB.out]; rfl
        have hcall := I_best wr rest e _ _ hr (h'.bw rNodes_good hb) hE
        clear hn hne hr hE
        go_wp2_with fail
        refine hcall.mono ?_
        rintro e' w2 ⟨vb, rfl, ⟨FB, ob, fb⟩, hb2⟩
        obtain ⟨Ab, cb, rfl, _⟩ := rSl_shape (fInts_Rd ob)
        have hbb := hb.then hb2
        have hv2 := (fIntss_good (B := w.heap.size)).bw hb2 hb.size hv
        have hFm := (fIntss_good (B := 0)).lt hv
        obtain ⟨Y, hY⟩ : ∃ Y, Y = bestM rest e := ⟨_, rfl⟩
        rw [← hY] at ob
        have HY := Lib.hid hY
        rw [← hY]
        obtain ⟨M, hM⟩ : ∃ M, M = Y.length := ⟨_, rfl⟩
        rw [← hM] at ob ⊢
        clear hY hM hcall hv
        have hAl := (Bw.refl w2).alloc (.cells #[.slice Ab M cb] 33)
        have hvW := (fIntss_good (B := w.heap.size)).bw hAl hbb.size hv2
        have oW := (fInts_good (B := w.heap.size)).bw hAl hbb.size ob
        have hbW := hbb.then hAl
        have hcl := cell_one_new w2 (.slice Ab M cb) 33
        have hbs := hb.size
        have KR := Lib.hid (rItems_keep HR.out (fun b hb => Below.block (hb2.then hAl) b (HS.out b hb)))
        have hws : wr.heap.size ≤ (w2.alloc (.cells #[.slice Ab M cb] 33)).heap.size := (hb2.then hAl).size
        clear hv2 ob
        go_wp2_with (at_builtin; refine wpList_push2 _ rfl (.tmp 21) (.tmp 23) 28 rfl w 33 i0 _ 1 24 Tryz.underlying28 hi hz0 hz1 hz2 rfl (by omega) fInts_good _ don F rfl hvW hF ⟨w2.heap.size, 0, none⟩ 1 rfl Y [.slice Ab M cb] FB hcl oW rfl wr.heap.size hFm fb hbs (by omega) (by omega) hbW ?_; intro v3 w3 F3 hv3 hF3 hb3 hO3 hs3)
        have hr3 : rItems w3 S rest [.slice A n c] := rItems_keep KR.out (fun b hb => hO3.2 b (Nat.lt_of_lt_of_le (HS.out b hb) hws) (fun hf => HFS.out b hf hb))
        have hS3 : ∀ b, S b → b < w3.heap.size := fun b hb => Nat.lt_of_lt_of_le (HS.out b hb) (Nat.le_trans hws hO3.1)
        have o3 := hO3.keeps (fInts_good (B := 0)) oW (fun b hb hf => by have := fb.ge b hb; have := hFm b hf; omega)
        have hcall := I_onlyS w3 rest Y false _ _ S hS3 hr3 (fInts_Rd o3) hn2
        have hF3m := (fIntss_good (B := 0)).lt hv3
        clear hvW oW hbW hcl hr3 o3
        go_wp2_with fail
        refine hcall.mono ?_
        rintro e' w4 ⟨v4, rfl, ⟨G, o4, f4⟩, hb4⟩
        have hv4 := (fIntss_good (B := w.heap.size)).bw hb4 hb3.size hv3
        have HRR := Lib.hid (fItemsS_read o4)
        have GG : GoodF w3.heap.size (fItemsS S) := fSl_good (fShS_good rItem_good hS3)
        have hGl := GG.lt o4
        have HSS := Lib.hid (show ∀ b, (b ∈ G ∨ S b) → b < w4.heap.size from fun b hb => hb.elim (hGl b) (fun h => Nat.lt_of_lt_of_le (hS3 b h) hb4.size))
        have HFF := Lib.hid (show ∀ b ∈ F3, ¬ (b ∈ G ∨ S b) from fun b hb hc => by
          rcases hc with hc | hc
          · have := f4.ge b hc; have := hF3m b hb; omega
          · have hsb := HS.out b hc
            rcases hs3 b hb with h | h | h
            · exact HFS.out b h hc
            · have := fb.ge b h; omega
            · omega)
        have HRE := Lib.hid (show onlyM rest Y false = restM rest e by rw [HY.out]; rfl)
        have HDD := Lib.hid (show (don ++ [Y]) ++ layersOf (onlyM rest Y false) e = layersOf l e by rw [HRE.out, ← HD.out, HC.out, HY.out, List.append_assoc]; rfl)
        have HII := Lib.hid (show areItems (onlyM rest Y false) = true by rw [HRE.out]; exact rest_items HI.out)
        have HLL := Lib.hid (show (onlyM rest Y false).length < rest.length by rw [HRE.out]; exact HLT.out)
        have hb5 := hb3.then hb4
        clear hcall o4 hO3 hs3 hF3m hS3 hGl
        go_wp2
        go_roundg (onlyM rest Y false).length
        case measure => exact HLL.out
        case rel => exact ⟨don ++ [Y], onlyM rest Y false, F3, _, rfl, hv4, hF3, hb5, HDD, HII, HRR, HSS, HFF⟩
  · have HM := Lib.hid (show layersM l e = [] by rw [layersM, e1]; rfl)
    rw [e1]
    clear e1
    rw [← HM.out] at hv1
    go_wp2
    go_ret
    exact ⟨_, rfl, ⟨_, hv1, ⟨by simp, by simp⟩⟩, B1⟩
set_option maxRecDepth 100000 in
set_option maxHeartbeats 6400000 in
theorem S_LayersOf_yes (w : World) (l : List GItem) (e : List GNode) (v u : Value) (h : Rd rItems w l [v]) (h' : Rd rNodes w e [u]) (hB : areBoth l e = true) :
    Calls Tryz.prog 119 #[v, u] w (RetV w (Made fIntss w.heap.size (layersM l e))) := by
  obtain ⟨i0, hi, hz0, hz1, hz2⟩ := info_parts info_row
  have hv1 := fSl_empty (e := 33) (sz := 1) (R := fInts) w
  have B1 : Bw w (w.alloc (.cells #[] 33)) := (Bw.refl w).alloc _
  have HB := Lib.hid hB
  have HM := Lib.hid (show layersM l e = layersOf l e by rw [layersM, if_pos HB.out])
  have h16 : (layersOf l e).length ≤ 16 := by rw [← HM.out]; exact layersM_len l e
  have H16 := Lib.hid h16
  have hr0 : rItems (w.alloc (.cells #[] 33)) (lt w) l [v] := rItems_keep h (fun b hb => Below.block B1 b hb)
  have HH := Lib.hid h
  clear h16 h hB
  go_enter Tryz.func119, Tryz.ntmps119
  go_wp2
  go_loopg [5, 6] l.length (fun g s r w' => ∃ (don : List (List Int)) (rest : List GItem) (F : List Nat) (S : Blocks), g = rest.length ∧ fIntss w' don [s] F ∧ Fresh w.heap.size F ∧ Bw w w' ∧ Hid (don ++ layersOf rest e = layersOf l e) ∧ Hid (areItems rest = true) ∧ Hid (rItems w' S rest [r]) ∧ Hid (∀ b, S b → b < w'.heap.size) ∧ Hid (∀ b ∈ F, ¬ S b))
  case atStart => exact ⟨[], l, _, lt w, rfl, hv1, ⟨by simp, by simp⟩, B1, Lib.hid rfl, Lib.hid (areBoth_items HB.out), Lib.hid hr0, Lib.hid (fun b hb => Nat.lt_of_lt_of_le hb B1.size), Lib.hid (fun b hb => by simp at hb; subst hb; exact Nat.lt_irrefl _)⟩
  case round =>
    clear hv1 hr0 B1
    obtain ⟨don, rest, F, S, rfl, hv, hF, hb, HD, HI, HR, HS, HFS⟩ := hrel
    have hr := rItems_Rd HR.out HS.out
    obtain ⟨A, n, c, rfl, L0, Lc, Lm⟩ := rSl_open hr
    unfold maxLen at Lm
    have L := Lib.hid L0
    clear L0
    by_cases hn : n = 0
    · subst hn
      have HE := Lib.hid (show don = layersM l e by rw [HM.out, ← HD.out, layersOf_nil L.out.symm, List.append_nil])
      rw [HE.out] at hv
      clear hr
      go_wp2
      go_ret
      exact ⟨_, rfl, ⟨F, hv, hF⟩, hb⟩
    · have n1 : (0 : Int) < (n : Int) := by omega
      have hne : ¬ rest.length = 0 := by rw [← L.out]; exact hn
      have HC := Lib.hid (layersOf_cons (areBoth_expr HB.out) HI.out hne)
      have HLT := Lib.hid (rest_lt (areBoth_expr HB.out) hne (fun x hx => areItems_mem HI.out hx))
      have hdl : don.length + 1 ≤ 16 := by
        have h1 := H16.out
        rw [← HD.out, HC.out, List.length_append, List.length_cons] at h1
        omega
      have hn2 : rest.length ≤ 1048576 := by have := areItems_len HI.out; omega
      have hE : areBoth rest e = true := by unfold areBoth; rw [HI.out, areBoth_expr HB.out]; rfl
      have HHR := Lib.hid hr
      clear hn hne hr hE
      go_wp2_with fail
      refine (S_l7Fine _ l e _ _ (HH.out.bw rItems_good hb) (h'.bw rNodes_good hb)).mono ?_
      rintro e wf ⟨rfl, hbf⟩
      rw [HB.out]
      have hcall := S_l7Best wf rest e _ _ (HHR.out.bw rItems_good hbf) (h'.bw rNodes_good (hb.then hbf)) HI.out (areBoth_expr HB.out)
      go_wp2_with fail
      refine hcall.mono ?_
      rintro e' w2 ⟨vb, rfl, ⟨FB, ob, fb0⟩, hb2'⟩
      have hb2 := hbf.then hb2'
      have fb := fb0.mono hbf.size
      obtain ⟨Ab, cb, rfl, _⟩ := rSl_shape (fInts_Rd ob)
      have hbb := hb.then hb2
      have hv2 := (fIntss_good (B := w.heap.size)).bw hb2 hb.size hv
      have hFm := (fIntss_good (B := 0)).lt hv
      obtain ⟨Y, hY⟩ : ∃ Y, Y = bestM rest e := ⟨_, rfl⟩
      rw [← hY] at ob
      have HY := Lib.hid hY
      rw [← hY]
      obtain ⟨M, hM⟩ : ∃ M, M = Y.length := ⟨_, rfl⟩
      rw [← hM] at ob ⊢
      clear hY hM hcall hv
      have hAl := (Bw.refl w2).alloc (.cells #[.slice Ab M cb] 33)
      have hvW := (fIntss_good (B := w.heap.size)).bw hAl hbb.size hv2
      have oW := (fInts_good (B := w.heap.size)).bw hAl hbb.size ob
      have hbW := hbb.then hAl
      have hcl := cell_one_new w2 (.slice Ab M cb) 33
      have hbs := hb.size
      have KR := Lib.hid (rItems_keep HR.out (fun b hb => Below.block (hb2.then hAl) b (HS.out b hb)))
      have hws : wr.heap.size ≤ (w2.alloc (.cells #[.slice Ab M cb] 33)).heap.size := (hb2.then hAl).size
      clear hv2 ob
      go_wp2_with (at_builtin; refine wpList_push2 _ rfl (.tmp 21) (.tmp 23) 28 rfl w 33 i0 _ 1 24 Tryz.underlying28 hi hz0 hz1 hz2 rfl (by omega) fInts_good _ don F rfl hvW hF ⟨w2.heap.size, 0, none⟩ 1 rfl Y [.slice Ab M cb] FB hcl oW rfl wr.heap.size hFm fb hbs (by omega) (by omega) hbW ?_; intro v3 w3 F3 hv3 hF3 hb3 hO3 hs3)
      have hr3 : rItems w3 S rest [.slice A n c] := rItems_keep KR.out (fun b hb => hO3.2 b (Nat.lt_of_lt_of_le (HS.out b hb) hws) (fun hf => HFS.out b hf hb))
      have hS3 : ∀ b, S b → b < w3.heap.size := fun b hb => Nat.lt_of_lt_of_le (HS.out b hb) (Nat.le_trans hws hO3.1)
      have o3 := hO3.keeps (fInts_good (B := 0)) oW (fun b hb hf => by have := fb.ge b hb; have := hFm b hf; omega)
      have hsm := layers_small HI.out
      have hcall := S_l10Without w3 rest Y _ _ (rItems_Rd hr3 hS3) (fInts_Rd o3) hsm.1 hsm.2
      have hF3m := (fIntss_good (B := 0)).lt hv3
      clear hvW oW hbW hcl hr3 o3
      go_wp2_with fail
      refine hcall.mono ?_
      rintro e' w4 ⟨v4, rfl, ⟨G, o4, f4⟩, hb4⟩
      have hv4 := (fIntss_good (B := w.heap.size)).bw hb4 hb3.size hv3
      have HRR := Lib.hid (fItems_rd (B := 0) o4)
      have hGl := (fItems_good (B := 0)).lt o4
      have HSS := Lib.hid (show ∀ b, (b ∈ G ∨ b < 0) → b < w4.heap.size from fun b hb => hb.elim (hGl b) (fun h => by omega))
      have HFF := Lib.hid (show ∀ b ∈ F3, ¬ (b ∈ G ∨ b < 0) from fun b hb hc => by
        rcases hc with hc | hc
        · have := f4.ge b hc; have := hF3m b hb; omega
        · omega)
      have HRE := Lib.hid (show onlyM rest Y false = restM rest e by rw [HY.out]; rfl)
      have HDD := Lib.hid (show (don ++ [Y]) ++ layersOf (onlyM rest Y false) e = layersOf l e by rw [HRE.out, ← HD.out, HC.out, HY.out, List.append_assoc]; rfl)
      have HII := Lib.hid (show areItems (onlyM rest Y false) = true by rw [HRE.out]; exact rest_items HI.out)
      have HLL := Lib.hid (show (onlyM rest Y false).length < rest.length by rw [HRE.out]; exact HLT.out)
      have hb5 := hb3.then hb4
      clear hcall o4 hO3 hs3 hF3m hS3 hGl hsm
      go_wp2
      go_roundg (onlyM rest Y false).length
      case measure => exact HLL.out
      case rel => exact ⟨don ++ [Y], onlyM rest Y false, F3, _, rfl, hv4, hF3, hb5, HDD, HII, HRR, HSS, HFF⟩
set_option maxRecDepth 100000 in
set_option maxHeartbeats 1600000 in
theorem S_LayersOf_no (w : World) (l : List GItem) (e : List GNode) (v u : Value) (h : Rd rItems w l [v]) (h' : Rd rNodes w e [u]) (hB : areBoth l e = false) :
    Calls Tryz.prog 119 #[v, u] w (RetV w (Made fIntss w.heap.size (layersM l e))) := by
  have hv1 := fSl_empty (e := 33) (sz := 1) (R := fInts) w
  have B1 : Bw w (w.alloc (.cells #[] 33)) := (Bw.refl w).alloc _
  have HB := Lib.hid hB
  have HM := Lib.hid (show [] = layersM l e by rw [layersM, hB]; rfl)
  rw [HM.out] at hv1
  obtain ⟨A, n, c, rfl, L0, Lc, Lm⟩ := rSl_open h
  unfold maxLen at Lm
  have L := Lib.hid L0
  clear L0
  have HH := Lib.hid h
  clear hB h
  go_enter Tryz.func119, Tryz.ntmps119
  go_wp2
  go_loopg [5, 6] 0 (fun g s r w' => g = 0 ∧ fIntss w' (layersM l e) [s] [w.heap.size] ∧ Bw w w' ∧ r = .slice A n c)
  case atStart => exact ⟨rfl, hv1, B1, rfl⟩
  case round =>
    clear hv1 B1
    obtain ⟨rfl, hv, hb, rfl⟩ := hrel
    by_cases h0 : n = 0
    · subst h0
      go_wp2
      go_ret
      exact ⟨_, rfl, ⟨_, hv, ⟨by simp, by simp⟩⟩, hb⟩
    · have n1 : (0 : Int) < (n : Int) := by omega
      clear h0
      go_wp2_with fail
      refine (S_l7Fine _ l e _ _ (HH.out.bw rItems_good hb) (h'.bw rNodes_good hb)).mono ?_
      rintro e w2 ⟨rfl, hb2⟩
      rw [HB.out]
      have hv2 := (fIntss_good (B := w.heap.size)).bw hb2 hb.size hv
      have B2 := hb.then hb2
      go_wp2
      go_ret
      exact ⟨_, rfl, ⟨_, hv2, ⟨by simp, by simp⟩⟩, B2⟩
theorem S_LayersOf (w : World) (l : List GItem) (e : List GNode) (v u : Value) (h : Rd rItems w l [v]) (h' : Rd rNodes w e [u]) :
    Calls Tryz.prog 119 #[v, u] w (RetV w (Made fIntss w.heap.size (layersM l e))) := by
  rcases Bool.eq_false_or_eq_true (areBoth l e) with hB | hB
  · exact S_LayersOf_yes w l e v u h h' hB
  · exact S_LayersOf_no w l e v u h h' hB
end Go.Proofs.YthlaabaffbffkaaGreat
