/- An item is taken from a standing answer, in the reference. -/
import Derived.Test.YtpihighajaeabaaGreatQOnly
import Derived.Test.YtpihighajaeabaaGreatQBoxT
import Derived.Test.YtpihighajaeabaaGreatQParts
import Derived.Test.YtpihighajaeabaaGreatQDrawD
import Derived.Test.YtpihighajaeabaaGreatQInsS
import Derived.Test.YtpihighajaeabaaGreatQStandT
namespace Go.Proofs.YtpihighajaeabaaGreat
open Go.RowKit
set_option linter.unusedVariables false
set_option linter.unusedSimpArgs false
theorem info_row : (Tryz.prog.info? 26).map (fun i => (i.zero, i.size, i.bytes)) = some (some (.slice none 0 0), 1, 24) := by kernel_rfl
theorem rItems_keep {w w' : World} {S : Blocks} {xs : List GItem} {cs : List Value} (h : rItems w S xs cs) (hk : ∀ b, S b → w'.heap[b]? = w.heap[b]?) : rItems w' S xs cs :=
  rItems_good.step ⟨fun _ h => h, fun p hp => World.cell?_of_block (hk _ hp)⟩ h
theorem rItems_Rd {w : World} {S : Blocks} {xs : List GItem} {cs : List Value} (h : rItems w S xs cs) (hS : ∀ b, S b → b < w.heap.size) : Rd rItems w xs cs :=
  rItems_good.step ⟨hS, fun _ _ => rfl⟩ h
set_option maxRecDepth 100000 in
set_option maxHeartbeats 3200000 in
theorem S_l10Without (w : World) (l : List GItem) (ids : List Int) (v u : Value) (h : Rd rItems w l [v]) (h' : Rd rInts w ids [u]) (hn : l.length ≤ 1048576) (hnn : ∀ x ∈ l, x.vals.length ≤ 1048576) :
    Calls Tryz.prog 99 #[v, u] w (RetV w (Made fItems w.heap.size (onlyM l ids false))) := by
  obtain ⟨i0, hi, hz0, hz1, hz2⟩ := info_parts info_Item
  obtain ⟨A, n, c, rfl, L0, Lc, Lm⟩ := rSl_open h
  unfold maxLen at Lm
  have L := Lib.hid L0
  clear L0
  rw [← L.out] at hn
  have hv0 := fSl_empty (e := 30) (sz := 2) (R := fItem) w
  have HNN := Lib.hid hnn
  clear hnn
  go_enter Tryz.func99, Tryz.ntmps99
  go_wp2
  go_loopw [5, 6] (fun s i w' => ∃ (k : Nat) (F : List Nat), k ≤ n ∧ i = .int .i64 k ∧ fItems w' (onlyTo l ids false k) [s] F ∧ Fresh w.heap.size F ∧ Bw w w') (fun s i _ => n - (intOf i).toNat)
  case atStart => exact ⟨0, _, by omega, rfl, hv0, ⟨by simp, by simp⟩, (Bw.refl _).alloc _⟩
  case round =>
    clear hv0
    obtain ⟨k, F, hk, rfl, hv, hF, hb⟩ := hrel
    by_cases hlt : k < n
    · obtain ⟨x, hx⟩ := get_of_lt (xs := l) (k := k) (by have := L.out; omega)
      have hxm := HNN.out x (List.mem_of_getElem? hx)
      obtain ⟨ba, oa, A', c', rfl, _, hc0, hc1, hin⟩ := rItems_at h hx
      have hcx := hb.cell hc0
      have hcx1 := hb.cell hc1
      have HYES := Lib.hid (fun hc => onlyTo_yes (ids := ids) (b := false) hx hc)
      have HNO := Lib.hid (fun hc => onlyTo_no (ids := ids) (b := false) hx hc)
      have HLEN := Lib.hid (onlyTo_len (l := l) (ids := ids) (b := false) (k := k))
      have i1 : (0 : Int) ≤ (k : Int) := by omega
      have i2 : (k : Int) < (n : Int) := by omega
      have HH := Lib.hid h
      have HIN := Lib.hid hin
      have HC0 := Lib.hid hc0
      have HC1 := Lib.hid hc1
      clear hx h hin hc0 hc1
      go_wp2_with fail
      refine (S_l2Has _ ids x.id _ (h'.bw rInts_good hb)).mono ?_
      rintro e w2 ⟨rfl, hb2⟩
      have hb2w := hb.then hb2
      replace hcx := hb2.cell hcx
      replace hcx1 := hb2.cell hcx1
      have hv2 := (fItems_good (B := w.heap.size)).bw hb2 hb.size hv
      rcases Bool.eq_false_or_eq_true (ids.contains x.id) with e1 | e1
      · have HB := Lib.hid (HNO.out (by rw [e1]; rfl))
        rw [e1]
        clear e1 hv
        have h := HH.out
        go_wp2
        go_roundw
        case rel => exact ⟨k + 1, F, by omega, by go_num, by rw [HB.out]; exact hv2, hF, hb2w⟩
        case measure => simp [intOf]; omega
      · have HB := Lib.hid (HYES.out e1)
        rw [e1]
        clear e1 hv
        have hin' : Rd rInts w2.drew x.vals [.slice A' x.vals.length c'] := Rd.bw rInts_good HIN.out hb2w.drew
        have D1 : Bw w2 w2.drew := (Bw.refl w2).drew
        have hFm := (fItems_good (B := 0)).lt hv2
        have hb2s := hb2w.size
        go_wp2_with fail
        go_region_held3 (fun w' => w'.cell? ⟨ba, oa + k * 2, none⟩ = some (.int .i64 x.id) ∧ w'.cell? ⟨ba, oa + k * 2 + 1, none⟩ = some (.slice A' x.vals.length c')) (first | go_keep | exact ⟨hcx, hcx1⟩ | exact ⟨hAl.cell hcx, hAl.cell hcx1⟩ | exact ⟨hb'.cell HC0.out, hb'.cell HC1.out⟩ | fail)
          (first
            | (go_at_call 146; refine (S_l2One _ x _ hin' hxm).mono ?_; rintro e w1 ⟨v1, rfl, ⟨F1, o1, f1⟩, hb1⟩; obtain ⟨Av, cv, rfl, _⟩ := rSl_shape (fInts_Rd o1); replace hcx := hb1.cell hcx; replace hcx1 := hb1.cell hcx1; have hb1' := D1.then hb1; have hbb := hb2w.then hb1'; have hv1 := (fItems_good (B := w.heap.size)).bw hb1' hb2w.size hv2; have hAl := (Bw.refl w1).alloc (.cells #[.int .i64 x.id, .slice Av x.vals.length cv] 30); have hvW := (fItems_good (B := w.heap.size)).bw hAl hbb.size hv1; have oW := (fInts_good (B := w.heap.size)).bw hAl hbb.size o1; have hbW := hbb.then hAl; have f1' : Fresh w2.heap.size F1 := f1.mono (by simp); have hcl : ∀ j t, [Value.int .i64 x.id, .slice Av x.vals.length cv][j]? = some t → (w1.alloc (.cells #[.int .i64 x.id, .slice Av x.vals.length cv] 30)).cell? ((⟨w1.heap.size, 0, none⟩ : Addr).add j) = some t := World.news_of_block (cs := #[.int .i64 x.id, .slice Av x.vals.length cv]) (t := 30) (fr := (0, 0)) (heap_alloc_new w1 _))
            | (refine step_push _ (by rfl) (.tmp 22) (.tmp 34) 24 (by rfl) w 30 i0 _ 2 32 Tryz.underlying24 hi hz0 hz1 hz2 rfl (by omega) fItem_good _ (onlyTo l ids false k) F (by rfl) hvW hF ⟨w1.heap.size, 0, none⟩ 1 (by rfl) x [.int .i64 x.id, .slice Av x.vals.length cv] F1 hcl ⟨_, rfl, oW⟩ rfl w2.heap.size hFm f1' hb2s (by have := HLEN.out; omega) (by have := HLEN.out; omega) hbW ?_; intro v' w' F' hv' hF' hb')
            | fail)
        have h := HH.out
        go_wp2
        go_roundw
        case rel => exact ⟨k + 1, F', by omega, by go_num, by rw [HB.out]; exact hv', hF', hb'⟩
        case measure => simp [intOf]; omega
    · obtain rfl : k = n := by omega
      rw [onlyTo_end (by rw [← L.out]; exact Nat.le_refl _)] at hv
      go_wp2
      go_ret
      exact ⟨_, rfl, ⟨F, hv, hF⟩, hb⟩
theorem layers_small {l : List GItem} (h : areItems l = true) : l.length ≤ 1048576 ∧ ∀ x ∈ l, x.vals.length ≤ 1048576 :=
  ⟨by have := areItems_len h; omega, fun x hx => by rw [isItem_len (areItems_mem h hx)]; omega⟩
set_option maxRecDepth 100000 in
set_option maxHeartbeats 6400000 in
theorem I_LayersOf (w : World) (l : List GItem) (e : List GNode) (v u : Value) (h : Rd rItems w l [v]) (h' : Rd rNodes w e [u]) :
    Calls Tryz.prog 124 #[v, u] w (RetV w (Made fIntss w.heap.size (layersM l e))) := by
  obtain ⟨i0, hi, hz0, hz1, hz2⟩ := info_parts info_row
  have hv0 := fSl_empty (e := 26) (sz := 1) (R := fInts) w
  have A0 : Bw w (w.alloc (.cells #[] 26)) := (Bw.refl w).alloc _
  go_enter Tryz.func124, Tryz.ntmps124
  go_wp2_with fail
  refine (I_areBoth _ l e _ _ (h.bw rItems_good A0) (h'.bw rNodes_good A0)).mono ?_
  rintro e w1 ⟨rfl, hb1⟩
  have B1 := A0.then hb1
  have hv1 := (fIntss_good (B := w.heap.size)).bw hb1 A0.size hv0
  rcases Bool.eq_false_or_eq_true (areBoth l e) with e1 | e1
  · have HB := Lib.hid e1
    rw [e1]
    clear e1 hv0
    have HM := Lib.hid (show layersM l e = layersOf l e by rw [layersM, if_pos HB.out])
    have h16 : (layersOf l e).length ≤ 16 := by rw [← HM.out]; exact layersM_len l e
    have H16 := Lib.hid h16
    have hr0 : rItems w1 (lt w) l [v] := rItems_keep h (fun b hb => Below.block B1 b hb)
    clear h16 h
    go_wp2
    go_loopg [5, 6] l.length (fun g s r w' => ∃ (don : List (List Int)) (rest : List GItem) (F : List Nat) (S : Blocks), g = rest.length ∧ fIntss w' don [s] F ∧ Fresh w.heap.size F ∧ Bw w w' ∧ Hid (don ++ layersOf rest e = layersOf l e) ∧ Hid (areItems rest = true) ∧ Hid (rItems w' S rest [r]) ∧ Hid (∀ b, S b → b < w'.heap.size) ∧ Hid (∀ b ∈ F, ¬ S b))
    case atStart => exact ⟨[], l, _, lt w, rfl, hv1, ⟨by simp, by simp⟩, B1, Lib.hid rfl, Lib.hid (areBoth_items HB.out), Lib.hid hr0, Lib.hid (fun b hb => Nat.lt_of_lt_of_le hb B1.size), Lib.hid (fun b hb => by simp at hb; subst hb; exact Nat.lt_irrefl _)⟩
    case round =>
      clear hv1 hr0 B1 A0 hb1
      obtain ⟨don, rest, F, S, rfl, hv, hF, hb, HD, HI, HR, HS, HFS⟩ := hrel
      have hr := rItems_Rd HR.out HS.out
      obtain ⟨A, n, c, rfl, L0, Lc, Lm⟩ := rSl_open hr
      unfold maxLen at Lm
      have L := Lib.hid L0
      clear L0
      by_cases hn : n = 0
      · subst hn
        have HE := Lib.hid (show don = layersM l e by rw [HM.out, ← HD.out, layersOf_nil L.out.symm, List.append_nil])
        rw [HE.out] at hv
        clear hr
        go_wp2
        go_ret
        exact ⟨_, rfl, ⟨F, hv, hF⟩, hb⟩
      · have n1 : (0 : Int) < (n : Int) := by omega
        have hne : ¬ rest.length = 0 := by rw [← L.out]; exact hn
        have HC := Lib.hid (layersOf_cons (areBoth_expr HB.out) HI.out hne)
        have HLT := Lib.hid (rest_lt (areBoth_expr HB.out) hne (fun x hx => areItems_mem HI.out hx))
        have hdl : don.length + 1 ≤ 16 := by
          have h1 := H16.out
          rw [← HD.out, HC.out, List.length_append, List.length_cons] at h1
          omega
        have hn2 : rest.length ≤ 1048576 := by have := areItems_len HI.out; omega
        have hE : areBoth rest e = true := by unfold areBoth; rw [HI.out, areBoth_expr HB.out]; rfl
        have hcall := I_best wr rest e _ _ hr (h'.bw rNodes_good hb) hE
        clear hn hne hr hE
        go_wp2_with fail
        refine hcall.mono ?_
        rintro e' w2 ⟨vb, rfl, ⟨FB, ob, fb⟩, hb2⟩
        obtain ⟨Ab, cb, rfl, _⟩ := rSl_shape (fInts_Rd ob)
        have hbb := hb.then hb2
        have hv2 := (fIntss_good (B := w.heap.size)).bw hb2 hb.size hv
        have hFm := (fIntss_good (B := 0)).lt hv
        obtain ⟨Y, hY⟩ : ∃ Y, Y = bestM rest e := ⟨_, rfl⟩
        rw [← hY] at ob
        have HY := Lib.hid hY
        rw [← hY]
        obtain ⟨M, hM⟩ : ∃ M, M = Y.length := ⟨_, rfl⟩
        rw [← hM] at ob ⊢
        clear hY hM hcall hv
        have hAl := (Bw.refl w2).alloc (.cells #[.slice Ab M cb] 26)
        have hvW := (fIntss_good (B := w.heap.size)).bw hAl hbb.size hv2
        have oW := (fInts_good (B := w.heap.size)).bw hAl hbb.size ob
        have hbW := hbb.then hAl
        have hcl := cell_one_new w2 (.slice Ab M cb) 26
        have hbs := hb.size
        have KR := Lib.hid (rItems_keep HR.out (fun b hb => Below.block (hb2.then hAl) b (HS.out b hb)))
        have hws : wr.heap.size ≤ (w2.alloc (.cells #[.slice Ab M cb] 26)).heap.size := (hb2.then hAl).size
        clear hv2 ob
        go_wp2_with (at_builtin; refine wpList_push2 _ rfl (.tmp 21) (.tmp 23) 126 rfl w 26 i0 _ 1 24 Tryz.underlying126 hi hz0 hz1 hz2 rfl (by omega) fInts_good _ don F rfl hvW hF ⟨w2.heap.size, 0, none⟩ 1 rfl Y [.slice Ab M cb] FB hcl oW rfl wr.heap.size hFm fb hbs (by omega) (by omega) hbW ?_; intro v3 w3 F3 hv3 hF3 hb3 hO3 hs3)
        have hr3 : rItems w3 S rest [.slice A n c] := rItems_keep KR.out (fun b hb => hO3.2 b (Nat.lt_of_lt_of_le (HS.out b hb) hws) (fun hf => HFS.out b hf hb))
        have hS3 : ∀ b, S b → b < w3.heap.size := fun b hb => Nat.lt_of_lt_of_le (HS.out b hb) (Nat.le_trans hws hO3.1)
        have o3 := hO3.keeps (fInts_good (B := 0)) oW (fun b hb hf => by have := fb.ge b hb; have := hFm b hf; omega)
        have hcall := I_onlyS w3 rest Y false _ _ S hS3 hr3 (fInts_Rd o3) hn2
        have hF3m := (fIntss_good (B := 0)).lt hv3
        clear hvW oW hbW hcl hr3 o3
        go_wp2_with fail
        refine hcall.mono ?_
        rintro e' w4 ⟨v4, rfl, ⟨G, o4, f4⟩, hb4⟩
        have hv4 := (fIntss_good (B := w.heap.size)).bw hb4 hb3.size hv3
        have HRR := Lib.hid (fItemsS_read o4)
        have GG : GoodF w3.heap.size (fItemsS S) := fSl_good (fShS_good rItem_good hS3)
        have hGl := GG.lt o4
        have HSS := Lib.hid (show ∀ b, (b ∈ G ∨ S b) → b < w4.heap.size from fun b hb => hb.elim (hGl b) (fun h => Nat.lt_of_lt_of_le (hS3 b h) hb4.size))
        have HFF := Lib.hid (show ∀ b ∈ F3, ¬ (b ∈ G ∨ S b) from fun b hb hc => by
          rcases hc with hc | hc
          · have := f4.ge b hc; have := hF3m b hb; omega
          · have hsb := HS.out b hc
            rcases hs3 b hb with h | h | h
            · exact HFS.out b h hc
            · have := fb.ge b h; omega
            · omega)
        have HRE := Lib.hid (show onlyM rest Y false = restM rest e by rw [HY.out]; rfl)
        have HDD := Lib.hid (show (don ++ [Y]) ++ layersOf (onlyM rest Y false) e = layersOf l e by rw [HRE.out, ← HD.out, HC.out, HY.out, List.append_assoc]; rfl)
        have HII := Lib.hid (show areItems (onlyM rest Y false) = true by rw [HRE.out]; exact rest_items HI.out)
        have HLL := Lib.hid (show (onlyM rest Y false).length < rest.length by rw [HRE.out]; exact HLT.out)
        have hb5 := hb3.then hb4
        clear hcall o4 hO3 hs3 hF3m hS3 hGl
        go_wp2
        go_roundg (onlyM rest Y false).length
        case measure => exact HLL.out
        case rel => exact ⟨don ++ [Y], onlyM rest Y false, F3, _, rfl, hv4, hF3, hb5, HDD, HII, HRR, HSS, HFF⟩
  · have HM := Lib.hid (show layersM l e = [] by rw [layersM, e1]; rfl)
    rw [e1]
    clear e1
    rw [← HM.out] at hv1
    go_wp2
    go_ret
    exact ⟨_, rfl, ⟨_, hv1, ⟨by simp, by simp⟩⟩, B1⟩
set_option maxRecDepth 100000 in
set_option maxHeartbeats 6400000 in
theorem S_LayersOf_yes (w : World) (l : List GItem) (e : List GNode) (v u : Value) (h : Rd rItems w l [v]) (h' : Rd rNodes w e [u]) (hB : areBoth l e = true) :
    Calls Tryz.prog 126 #[v, u] w (RetV w (Made fIntss w.heap.size (layersM l e))) := by
  obtain ⟨i0, hi, hz0, hz1, hz2⟩ := info_parts info_row
  have hv1 := fSl_empty (e := 26) (sz := 1) (R := fInts) w
  have B1 : Bw w (w.alloc (.cells #[] 26)) := (Bw.refl w).alloc _
  have HB := Lib.hid hB
  have HM := Lib.hid (show layersM l e = layersOf l e by rw [layersM, if_pos HB.out])
  have h16 : (layersOf l e).length ≤ 16 := by rw [← HM.out]; exact layersM_len l e
  have H16 := Lib.hid h16
  have hr0 : rItems (w.alloc (.cells #[] 26)) (lt w) l [v] := rItems_keep h (fun b hb => Below.block B1 b hb)
  have HH := Lib.hid h
  clear h16 h hB
  go_enter Tryz.func126, Tryz.ntmps126
  go_wp2
  go_loopg [5, 6] l.length (fun g s r w' => ∃ (don : List (List Int)) (rest : List GItem) (F : List Nat) (S : Blocks), g = rest.length ∧ fIntss w' don [s] F ∧ Fresh w.heap.size F ∧ Bw w w' ∧ Hid (don ++ layersOf rest e = layersOf l e) ∧ Hid (areItems rest = true) ∧ Hid (rItems w' S rest [r]) ∧ Hid (∀ b, S b → b < w'.heap.size) ∧ Hid (∀ b ∈ F, ¬ S b))
  case atStart => exact ⟨[], l, _, lt w, rfl, hv1, ⟨by simp, by simp⟩, B1, Lib.hid rfl, Lib.hid (areBoth_items HB.out), Lib.hid hr0, Lib.hid (fun b hb => Nat.lt_of_lt_of_le hb B1.size), Lib.hid (fun b hb => by simp at hb; subst hb; exact Nat.lt_irrefl _)⟩
  case round =>
    clear hv1 hr0 B1
    obtain ⟨don, rest, F, S, rfl, hv, hF, hb, HD, HI, HR, HS, HFS⟩ := hrel
    have hr := rItems_Rd HR.out HS.out
    obtain ⟨A, n, c, rfl, L0, Lc, Lm⟩ := rSl_open hr
    unfold maxLen at Lm
    have L := Lib.hid L0
    clear L0
    by_cases hn : n = 0
    · subst hn
      have HE := Lib.hid (show don = layersM l e by rw [HM.out, ← HD.out, layersOf_nil L.out.symm, List.append_nil])
      rw [HE.out] at hv
      clear hr
      go_wp2
      go_ret
      exact ⟨_, rfl, ⟨F, hv, hF⟩, hb⟩
    · have n1 : (0 : Int) < (n : Int) := by omega
      have hne : ¬ rest.length = 0 := by rw [← L.out]; exact hn
      have HC := Lib.hid (layersOf_cons (areBoth_expr HB.out) HI.out hne)
      have HLT := Lib.hid (rest_lt (areBoth_expr HB.out) hne (fun x hx => areItems_mem HI.out hx))
      have hdl : don.length + 1 ≤ 16 := by
        have h1 := H16.out
        rw [← HD.out, HC.out, List.length_append, List.length_cons] at h1
        omega
      have hn2 : rest.length ≤ 1048576 := by have := areItems_len HI.out; omega
      have hE : areBoth rest e = true := by unfold areBoth; rw [HI.out, areBoth_expr HB.out]; rfl
      have HHR := Lib.hid hr
      clear hn hne hr hE
      go_wp2_with fail
      refine (S_l7Fine _ l e _ _ (HH.out.bw rItems_good hb) (h'.bw rNodes_good hb)).mono ?_
      rintro e wf ⟨rfl, hbf⟩
      rw [HB.out]
      have hcall := S_l7Best wf rest e _ _ (HHR.out.bw rItems_good hbf) (h'.bw rNodes_good (hb.then hbf)) HI.out (areBoth_expr HB.out)
      go_wp2_with fail
      refine hcall.mono ?_
      rintro e' w2 ⟨vb, rfl, ⟨FB, ob, fb0⟩, hb2'⟩
      have hb2 := hbf.then hb2'
      have fb := fb0.mono hbf.size
      obtain ⟨Ab, cb, rfl, _⟩ := rSl_shape (fInts_Rd ob)
      have hbb := hb.then hb2
      have hv2 := (fIntss_good (B := w.heap.size)).bw hb2 hb.size hv
      have hFm := (fIntss_good (B := 0)).lt hv
      obtain ⟨Y, hY⟩ : ∃ Y, Y = bestM rest e := ⟨_, rfl⟩
      rw [← hY] at ob
      have HY := Lib.hid hY
      rw [← hY]
      obtain ⟨M, hM⟩ : ∃ M, M = Y.length := ⟨_, rfl⟩
      rw [← hM] at ob ⊢
      clear hY hM hcall hv
      have hAl := (Bw.refl w2).alloc (.cells #[.slice Ab M cb] 26)
      have hvW := (fIntss_good (B := w.heap.size)).bw hAl hbb.size hv2
      have oW := (fInts_good (B := w.heap.size)).bw hAl hbb.size ob
      have hbW := hbb.then hAl
      have hcl := cell_one_new w2 (.slice Ab M cb) 26
      have hbs := hb.size
      have KR := Lib.hid (rItems_keep HR.out (fun b hb => Below.block (hb2.then hAl) b (HS.out b hb)))
      have hws : wr.heap.size ≤ (w2.alloc (.cells #[.slice Ab M cb] 26)).heap.size := (hb2.then hAl).size
      clear hv2 ob
      go_wp2_with (at_builtin; refine wpList_push2 _ rfl (.tmp 21) (.tmp 23) 126 rfl w 26 i0 _ 1 24 Tryz.underlying126 hi hz0 hz1 hz2 rfl (by omega) fInts_good _ don F rfl hvW hF ⟨w2.heap.size, 0, none⟩ 1 rfl Y [.slice Ab M cb] FB hcl oW rfl wr.heap.size hFm fb hbs (by omega) (by omega) hbW ?_; intro v3 w3 F3 hv3 hF3 hb3 hO3 hs3)
      have hr3 : rItems w3 S rest [.slice A n c] := rItems_keep KR.out (fun b hb => hO3.2 b (Nat.lt_of_lt_of_le (HS.out b hb) hws) (fun hf => HFS.out b hf hb))
      have hS3 : ∀ b, S b → b < w3.heap.size := fun b hb => Nat.lt_of_lt_of_le (HS.out b hb) (Nat.le_trans hws hO3.1)
      have o3 := hO3.keeps (fInts_good (B := 0)) oW (fun b hb hf => by have := fb.ge b hb; have := hFm b hf; omega)
      have hsm := layers_small HI.out
      have hcall := S_l10Without w3 rest Y _ _ (rItems_Rd hr3 hS3) (fInts_Rd o3) hsm.1 hsm.2
      have hF3m := (fIntss_good (B := 0)).lt hv3
      clear hvW oW hbW hcl hr3 o3
      go_wp2_with fail
      refine hcall.mono ?_
      rintro e' w4 ⟨v4, rfl, ⟨G, o4, f4⟩, hb4⟩
      have hv4 := (fIntss_good (B := w.heap.size)).bw hb4 hb3.size hv3
      have HRR := Lib.hid (fItems_rd (B := 0) o4)
      have hGl := (fItems_good (B := 0)).lt o4
      have HSS := Lib.hid (show ∀ b, (b ∈ G ∨ b < 0) → b < w4.heap.size from fun b hb => hb.elim (hGl b) (fun h => by omega))
      have HFF := Lib.hid (show ∀ b ∈ F3, ¬ (b ∈ G ∨ b < 0) from fun b hb hc => by
        rcases hc with hc | hc
        · have := f4.ge b hc; have := hF3m b hb; omega
        · omega)
      have HRE := Lib.hid (show onlyM rest Y false = restM rest e by rw [HY.out]; rfl)
      have HDD := Lib.hid (show (don ++ [Y]) ++ layersOf (onlyM rest Y false) e = layersOf l e by rw [HRE.out, ← HD.out, HC.out, HY.out, List.append_assoc]; rfl)
      have HII := Lib.hid (show areItems (onlyM rest Y false) = true by rw [HRE.out]; exact rest_items HI.out)
      have HLL := Lib.hid (show (onlyM rest Y false).length < rest.length by rw [HRE.out]; exact HLT.out)
      have hb5 := hb3.then hb4
      clear hcall o4 hO3 hs3 hF3m hS3 hGl hsm
      go_wp2
      go_roundg (onlyM rest Y false).length
      case measure => exact HLL.out
      case rel => exact ⟨don ++ [Y], onlyM rest Y false, F3, _, rfl, hv4, hF3, hb5, HDD, HII, HRR, HSS, HFF⟩
set_option maxRecDepth 100000 in
set_option maxHeartbeats 1600000 in
theorem S_LayersOf_no (w : World) (l : List GItem) (e : List GNode) (v u : Value) (h : Rd rItems w l [v]) (h' : Rd rNodes w e [u]) (hB : areBoth l e = false) :
    Calls Tryz.prog 126 #[v, u] w (RetV w (Made fIntss w.heap.size (layersM l e))) := by
  have hv1 := fSl_empty (e := 26) (sz := 1) (R := fInts) w
  have B1 : Bw w (w.alloc (.cells #[] 26)) := (Bw.refl w).alloc _
  have HB := Lib.hid hB
  have HM := Lib.hid (show [] = layersM l e by rw [layersM, hB]; rfl)
  rw [HM.out] at hv1
  obtain ⟨A, n, c, rfl, L0, Lc, Lm⟩ := rSl_open h
  unfold maxLen at Lm
  have L := Lib.hid L0
  clear L0
  have HH := Lib.hid h
  clear hB h
  go_enter Tryz.func126, Tryz.ntmps126
  go_wp2
  go_loopg [5, 6] 0 (fun g s r w' => g = 0 ∧ fIntss w' (layersM l e) [s] [w.heap.size] ∧ Bw w w' ∧ r = .slice A n c)
  case atStart => exact ⟨rfl, hv1, B1, rfl⟩
  case round =>
    clear hv1 B1
    obtain ⟨rfl, hv, hb, rfl⟩ := hrel
    by_cases h0 : n = 0
    · subst h0
      go_wp2
      go_ret
      exact ⟨_, rfl, ⟨_, hv, ⟨by simp, by simp⟩⟩, hb⟩
    · have n1 : (0 : Int) < (n : Int) := by omega
      clear h0
      go_wp2_with fail
      refine (S_l7Fine _ l e _ _ (HH.out.bw rItems_good hb) (h'.bw rNodes_good hb)).mono ?_
      rintro e w2 ⟨rfl, hb2⟩
      rw [HB.out]
      have hv2 := (fIntss_good (B := w.heap.size)).bw hb2 hb.size hv
      have B2 := hb.then hb2
      go_wp2
      go_ret
      exact ⟨_, rfl, ⟨_, hv2, ⟨by simp, by simp⟩⟩, B2⟩
theorem S_LayersOf (w : World) (l : List GItem) (e : List GNode) (v u : Value) (h : Rd rItems w l [v]) (h' : Rd rNodes w e [u]) :
    Calls Tryz.prog 126 #[v, u] w (RetV w (Made fIntss w.heap.size (layersM l e))) := by
  rcases Bool.eq_false_or_eq_true (areBoth l e) with hB | hB
  · exact S_LayersOf_yes w l e v u h h' hB
  · exact S_LayersOf_no w l e v u h h' hB
end Go.Proofs.YtpihighajaeabaaGreat

namespace Go.Proofs.YtpihighajaeabaaGreat
open Go.RowKit
set_option linter.unusedVariables false
set_option linter.unusedSimpArgs false
theorem rInts_one (w : World) (x : Int) (t : TypeId) : Rd rInts (w.alloc (.cells #[.int .i64 x] t)) [x] [.slice (some ⟨w.heap.size, 0, none⟩) 1 1] := by
  refine ⟨_, 1, rfl, Nat.le_refl _, by unfold maxLen; omega, fun k y hk => ?_⟩
  cases k with
  | zero =>
    injection hk with hk
    subst hk
    exact ⟨w.heap.size, 0, [.int .i64 x], rfl, by simp, rfl, fun j u hj => by
      cases j with
      | zero => have h := cell_one_new w (.int .i64 x) t 0 u hj; simpa [Addr.add] using h
      | succ j => simp at hj, rfl⟩
  | succ k => simp at hk
set_option maxRecDepth 100000 in
set_option maxHeartbeats 6400000 in
theorem S_DeleteItem_no (w : World) (s : GStanding) (id : Int) (va vb vc : Value) (ha : Rd rItems w s.items [va]) (hb : Rd rNodes w s.wanted [vb]) (hc : Rd rInts w s.best [vc]) (t1 : totItems s.items ≤ 1048576) (t2 : totNodes s.wanted ≤ 1048576) (t3 : s.best.length ≤ 1048576) (hno : delOk s id = false) :
    Calls Tryz.prog 19 #[.agg #[va, vb, vc, .int .i64 s.tests], .int .i64 id] w (RetV w (TwoA fStanding w.heap.size s (.bool false))) := by
  obtain ⟨A, n, c, rfl, L0, Lc, Lm⟩ := rSl_open ha
  unfold maxLen at Lm
  have L := Lib.hid L0
  clear L0
  obtain ⟨B, m, c4, rfl, M0, Mc, Mm⟩ := rSl_open hc
  unfold maxLen at Mm
  have M := Lib.hid M0
  clear M0
  obtain ⟨W0, hW0⟩ : ∃ W0, W0 = (w.alloc (.cells #[.slice A n c, vb, .slice B m c4, .int .i64 s.tests] 28)).alloc (.cells #[.slice none 0 0, .slice none 0 0, .slice none 0 0, .int .i64 0] 28) := ⟨_, rfl⟩
  have A0 : Bw w W0 := by rw [hW0]; exact ((Bw.refl w).alloc _).alloc _
  have bS : Box W0 w.heap.size [.slice A n c, vb, .slice B m c4, .int .i64 s.tests] := by rw [hW0]; exact (Box.new w #[.slice A n c, vb, .slice B m c4, .int .i64 s.tests] 28).bw ((Bw.refl _).alloc _)
  have bR : Box W0 (w.heap.size + 1) [.slice none 0 0, .slice none 0 0, .slice none 0 0, .int .i64 0] := by
    have := Box.new (w.alloc (.cells #[.slice A n c, vb, .slice B m c4, .int .i64 s.tests] 28)) #[.slice none 0 0, .slice none 0 0, .slice none 0 0, .int .i64 0] 28
    rw [show (w.alloc (.cells #[.slice A n c, vb, .slice B m c4, .int .i64 s.tests] 28)).heap.size = w.heap.size + 1 from by simp] at this
    rw [hW0]; exact this
  have z0 : W0.heap.size = w.heap.size + 2 := by rw [hW0]; simp
  have hcopy := S_l15Copy W0 s _ vb _ (ha.bw rItems_good A0) (hb.bw rNodes_good A0) (hc.bw rInts_good A0) t1 t2 t3
  have HW0 := Lib.hid hW0
  clear hW0
  go_enter Tryz.func19, Tryz.ntmps19
  go_wp2_with fail
  rw [← HW0.out]
  refine hcopy.mono ?_
  rintro e w1 ⟨cs, F0, rfl, oS, fS, hb1⟩
  obtain ⟨A1, c1, A2, c2, A3, c3, rfl⟩ := fStanding_shape oS
  obtain ⟨F1, F2, F3, o1, o2, o3, rfl⟩ := fStanding_parts oS
  obtain ⟨m1, hm1⟩ : ∃ m, m = s.items.length := ⟨_, rfl⟩
  obtain ⟨m2, hm2⟩ : ∃ m, m = s.wanted.length := ⟨_, rfl⟩
  obtain ⟨m3, hm3⟩ : ∃ m, m = s.best.length := ⟨_, rfl⟩
  rw [← hm1] at o1
  rw [← hm2] at o2
  rw [← hm3] at o3
  dsimp only
  rw [← hm1, ← hm2, ← hm3]
  have bS1 := (bS.bw hb1).bw ((Bw.refl w1).alloc (.cells #[.slice A1 m1 c1, .slice A2 m2 c2, .slice A3 m3 c3, .int .i64 s.tests] 28))
  have y0 := bS1.c 0 _ rfl
  have y1 := bS1.c 1 _ rfl
  have y2 := bS1.c 2 _ rfl
  have y3 := bS1.c 3 _ rfl
  have HM1 := Lib.hid hm1
  have HM2 := Lib.hid hm2
  have HM3 := Lib.hid hm3
  clear hm1 hm2 hm3
  go_wp2_with fail
  obtain ⟨V, hV⟩ : ∃ V, V = w1.alloc (.cells #[.slice A1 m1 c1, .slice A2 m2 c2, .slice A3 m3 c3, .int .i64 s.tests] 28) := ⟨_, rfl⟩
  have A1' : Bw w1 V := by rw [hV]; exact (Bw.refl w1).alloc _
  have bO : Box V w1.heap.size [.slice A1 m1 c1, .slice A2 m2 c2, .slice A3 m3 c3, .int .i64 s.tests] := by rw [hV]; exact Box.new w1 #[.slice A1 m1 c1, .slice A2 m2 c2, .slice A3 m3 c3, .int .i64 s.tests] 28
  have zV : V.heap.size = w1.heap.size + 1 := by rw [hV]; simp
  have BV : Bw w V := A0.then (hb1.then A1')
  replace bS := bS.bw (hb1.then A1')
  replace bR := bR.bw (hb1.then A1')
  have zw : w.heap.size + 2 ≤ w1.heap.size := by have := hb1.size; omega
  have lS := (fStanding_good (B := 0)).lt oS
  replace o1 := keepBw A1' fItems_good o1
  replace o2 := keepBw A1' fNodes_good o2
  replace o3 := keepBw A1' fInts_good o3
  have fV : Fresh (w.heap.size + 2) (F1 ++ (F2 ++ F3)) := fS.mono (by omega)
  have HLS := Lib.hid lS
  have HV := Lib.hid hV
  have k1 := Lib.hid (fun W (B : Bw V W) => S_IsStanding W s _ vb _ (ha.bw rItems_good (BV.then B)) (hb.bw rNodes_good (BV.then B)) (hc.bw rInts_good (BV.then B)))
  have k3 := Lib.hid (fun W (B : Bw V W) => S_FindItem W s.items id _ (ha.bw rItems_good (BV.then B)))
  obtain ⟨b6, hb6⟩ : ∃ b, b = w1.heap.size := ⟨_, rfl⟩
  rw [← hb6] at bO zV zw lS
  have HB6 := Lib.hid hb6
  rw [← HV.out, ← HB6.out]
  clear hV oS fS hcopy hb1 A0 hb6 lS y0 y1 y2 y3 bS1
  refine (k1.out _ (Bw.refl V)).mono ?_
  rintro e w2 ⟨rfl, hb2⟩
  rcases Bool.eq_false_or_eq_true (isStand s) with e1 | e1
  · have E1 := Lib.hid e1
    rw [e1]
    clear e1
    have bS2 := bS.bw hb2
    have y0 := bS2.c 0 _ rfl
    have y1 := bS2.c 1 _ rfl
    have y2 := bS2.c 2 _ rfl
    have y3 := bS2.c 3 _ rfl
    have yf := bS2.fr
    have hcall := k3.out _ hb2
    obtain ⟨K, hK⟩ : ∃ K, K = findIdx s.items id := ⟨_, rfl⟩
    rw [← hK] at hcall
    have HK := Lib.hid hK
    clear bS2 hK
    go_wp2_with fail
    refine hcall.mono ?_
    rintro e w3 ⟨rfl, hb3⟩
    have hB3 := hb2.then hb3
    clear y0 y1 y2 y3 yf
    by_cases hK0 : K < 0
    · clear hno
      have bR2 := bR.bw hB3
      have bO2 := bO.bw hB3
      have r0 := bR2.c 0 _ rfl
      have r1 := bR2.c 1 _ rfl
      have r2 := bR2.c 2 _ rfl
      have r3 := bR2.c 3 _ rfl
      have rf := bR2.fr
      have q0 := bO2.c 0 _ rfl
      have q1 := bO2.c 1 _ rfl
      have q2 := bO2.c 2 _ rfl
      have q3 := bO2.c 3 _ rfl
      have qf := bO2.fr
      have hBB := BV.then hB3
      have p1 := keepBw hB3 fItems_good o1
      have p2 := keepBw hB3 fNodes_good o2
      have p3 := keepBw hB3 fInts_good o3
      clear bR2 bO2 o1 o2 o3 bR bO
      go_wp2
      rw [HM1.out] at p1 ⊢
      rw [HM2.out] at p2 ⊢
      rw [HM3.out] at p3 ⊢
      refine bodyPost_ret (v := .tuple #[.agg #[.slice A1 s.items.length c1, .slice A2 s.wanted.length c2, .slice A3 s.best.length c3, .int .i64 s.tests], .bool false]) (by simp [results, Tryz.results19, go_sem, r0, r1, r2, r3]) rfl (stand_ret p1 p2 p3 (fV.mono (by omega)) (by omega) hBB)
    · have hK1 : ¬ K < (0 : Int) := hK0
      have ht0 : 999900 < s.tests := by
        rcases Decidable.em (999900 < s.tests) with h | h
        · exact h
        · exfalso
          have h2 : delOk s id = true := by
            unfold delOk
            rw [E1.out, decide_eq_true (show 0 ≤ findIdx s.items id by rw [← HK.out]; omega), decide_eq_true (show s.tests ≤ 999900 by omega)]; rfl
          rw [h2] at hno; cases hno
      have bS3 := bS.bw hB3
      have y0 := bS3.c 0 _ rfl
      have y1 := bS3.c 1 _ rfl
      have y2 := bS3.c 2 _ rfl
      have y3 := bS3.c 3 _ rfl
      have yf := bS3.fr
      clear hno bS3
      have bR2 := bR.bw hB3
      have bO2 := bO.bw hB3
      have r0 := bR2.c 0 _ rfl
      have r1 := bR2.c 1 _ rfl
      have r2 := bR2.c 2 _ rfl
      have r3 := bR2.c 3 _ rfl
      have rf := bR2.fr
      have q0 := bO2.c 0 _ rfl
      have q1 := bO2.c 1 _ rfl
      have q2 := bO2.c 2 _ rfl
      have q3 := bO2.c 3 _ rfl
      have qf := bO2.fr
      have hBB := BV.then hB3
      have p1 := keepBw hB3 fItems_good o1
      have p2 := keepBw hB3 fNodes_good o2
      have p3 := keepBw hB3 fInts_good o3
      clear bR2 bO2 o1 o2 o3 bR bO
      go_wp2
      rw [HM1.out] at p1 ⊢
      rw [HM2.out] at p2 ⊢
      rw [HM3.out] at p3 ⊢
      refine bodyPost_ret (v := .tuple #[.agg #[.slice A1 s.items.length c1, .slice A2 s.wanted.length c2, .slice A3 s.best.length c3, .int .i64 s.tests], .bool false]) (by simp [results, Tryz.results19, go_sem, r0, r1, r2, r3]) rfl (stand_ret p1 p2 p3 (fV.mono (by omega)) (by omega) hBB)
  · rw [e1]
    clear e1 hno
    have bR2 := bR.bw hb2
    have bO2 := bO.bw hb2
    have r0 := bR2.c 0 _ rfl
    have r1 := bR2.c 1 _ rfl
    have r2 := bR2.c 2 _ rfl
    have r3 := bR2.c 3 _ rfl
    have rf := bR2.fr
    have q0 := bO2.c 0 _ rfl
    have q1 := bO2.c 1 _ rfl
    have q2 := bO2.c 2 _ rfl
    have q3 := bO2.c 3 _ rfl
    have qf := bO2.fr
    have hBB := BV.then hb2
    have p1 := keepBw hb2 fItems_good o1
    have p2 := keepBw hb2 fNodes_good o2
    have p3 := keepBw hb2 fInts_good o3
    clear bR2 bO2 o1 o2 o3 bR bO
    go_wp2
    rw [HM1.out] at p1 ⊢
    rw [HM2.out] at p2 ⊢
    rw [HM3.out] at p3 ⊢
    refine bodyPost_ret (v := .tuple #[.agg #[.slice A1 s.items.length c1, .slice A2 s.wanted.length c2, .slice A3 s.best.length c3, .int .i64 s.tests], .bool false]) (by simp [results, Tryz.results19, go_sem, r0, r1, r2, r3]) rfl (stand_ret p1 p2 p3 (fV.mono (by omega)) (by omega) hBB)
end Go.Proofs.YtpihighajaeabaaGreat
