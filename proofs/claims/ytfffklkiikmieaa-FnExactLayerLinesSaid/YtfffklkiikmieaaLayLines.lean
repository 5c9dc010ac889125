/- Lines on layers in both programs. -/
import Derived.Test.YtfffklkiikmieaaLayers
import Derived.Test.YtfffklkiikmieaaLines3
namespace Go.Proofs.Ytfffklkiikmieaa
open Go.RowKit
set_option linter.unusedVariables false
set_option linter.unusedSimpArgs false
def layerLine (k : Nat) (b : List Int) : ByteArray := fmtInt (k : Int) ++ ⟨#[58, 32]⟩ ++ idLine b
def lineTo (X : List (List Int)) : Nat → List ByteArray
  | 0 => []
  | k + 1 => lineTo X k ++ (match X[k]? with | some b => [layerLine k b] | none => [])
def linesM (l : List GItem) (e : List GNode) : List ByteArray := lineTo (layersM l e) (layersM l e).length
theorem lineTo_succ {X : List (List Int)} {k : Nat} {b : List Int} (h : X[k]? = some b) : lineTo X (k + 1) = lineTo X k ++ [layerLine k b] := by rw [lineTo, h]
theorem lineTo_len (X : List (List Int)) : ∀ k, (lineTo X k).length ≤ k
  | 0 => Nat.le_refl _
  | k + 1 => by
    have := lineTo_len X k
    rw [lineTo, List.length_append]
    cases X[k]? <;> simp <;> omega
theorem linesM_len (l : List GItem) (e : List GNode) : (linesM l e).length ≤ 16 := Nat.le_trans (lineTo_len _ _) (layersM_len l e)
theorem layersF_ids {e : List GNode} : ∀ (n : Nat) (l : List GItem) (b : List Int), areItems l = true → b ∈ layersF e n l → ∀ v ∈ b, 0 ≤ v ∧ v ≤ 99
  | 0, _, _, _, h => by simp [layersF] at h
  | n + 1, l, b, hi, h => by
    simp only [layersF] at h
    split at h
    · simp at h
    · rcases List.mem_cons.1 h with h1 | h1
      · subst h1; exact bestM_ids hi
      · exact layersF_ids n (restM l e) b (rest_items hi) h1
theorem layersM_ids {l : List GItem} {e : List GNode} {b : List Int} (h : b ∈ layersM l e) : ∀ v ∈ b, 0 ≤ v ∧ v ≤ 99 := by
  unfold layersM at h; split at h
  · rename_i h2; exact layersF_ids _ l b (areBoth_items h2) h
  · simp at h
/-- the sums of one line -/
theorem line_sums {k : Nat} (hk : k ≤ 16) {b : List Int} (hw : ∀ x ∈ b, (Lit.int .i64 x).wf = true) (hl : b.length ≤ 16) :
    (∀ W, (Op.stringOp .add (fmtInt (k : Int)) ⟨#[58, 32]⟩).run Try.prog W = .ok (.string (fmtInt (k : Int) ++ ⟨#[58, 32]⟩)) W) ∧
    (∀ W, (Op.stringOp .add (fmtInt (k : Int) ++ ⟨#[58, 32]⟩) (idLine b)).run Try.prog W = .ok (.string (fmtInt (k : Int) ++ ⟨#[58, 32]⟩ ++ idLine b)) W) := by
  have h1 := (fmtInt_size (wf_small' (n := (k : Int)) (by omega))).2
  have h2 := idLine_size hw
  have e2 : (⟨#[58, 32]⟩ : ByteArray).size = 2 := rfl
  refine ⟨fun W => run_string_add_sum W _ _ (by omega), fun W => run_string_add_sum W _ _ (by rw [size_append]; omega)⟩
set_option maxRecDepth 100000 in
set_option maxHeartbeats 3200000 in
theorem I_LayerLines (w : World) (l : List GItem) (e : List GNode) (v u : Value) (h : Rd rItems w l [v]) (h' : Rd rNodes w e [u]) :
    Calls Try.prog 32 #[v, u] w (RetV w (Made fStrs w.heap.size (linesM l e))) := by
  obtain ⟨i0, hi, hz0, hz1, hz2⟩ := info_parts info_str
  have hv0 := fSl_empty (e := 9) (sz := 1) (R := fStr) w
  have A0 : Bw w (w.alloc (.cells #[] 9)) := (Bw.refl w).alloc _
  obtain ⟨Y, hY⟩ : ∃ Y, Y = linesM l e := ⟨_, rfl⟩
  rw [← hY]
  have HY := Lib.hid hY
  clear hY
  go_enter Try.func32, Try.ntmps32
  go_wp2_with fail
  refine (I_LayersOf _ l e _ _ (h.bw rItems_good A0) (h'.bw rNodes_good A0)).mono ?_
  rintro e w2 ⟨vX, rfl, ⟨FX, oX, fX⟩, hb2⟩
  have B2 := A0.then hb2
  have hv2 := (fStrs_good (B := w.heap.size)).bw hb2 A0.size hv0
  have zX : ∀ z ∈ FX, z ∉ [w.heap.size] := fun z hz => by have h1 := fX.ge z hz; simp at h1; simp only [List.mem_singleton]; omega
  have HL := Lib.hid (layersM_len l e)
  have HMM := Lib.hid (fun b (hb : b ∈ layersM l e) => And.intro (layersM_mem hb) (layersM_ids hb))
  obtain ⟨X, hX⟩ : ∃ X, X = layersM l e := ⟨_, rfl⟩
  have HE := Lib.hid (show Y = lineTo X X.length by rw [HY.out, hX]; rfl)
  rw [← hX] at oX HL HMM
  have hl := fIntss_Rd oX
  obtain ⟨A, n, c, rfl, L0, Lc, Lm⟩ := rSl_open hl
  unfold maxLen at Lm
  have L := Lib.hid L0
  clear L0
  have n16 : n ≤ 16 := by rw [L.out]; exact HL.out
  have OX := Lib.hid oX
  have ZX := Lib.hid zX
  have ZS := Lib.hid (show w.heap.size < w2.heap.size by have := hb2.size; simp at this; omega)
  clear hX oX zX hl hv0 HY fX
  go_wp2
  go_loopg [5, 13] n (fun g s i w' => ∃ (k : Nat) (F : List Nat), k ≤ n ∧ g = n - k ∧ i = .int .i64 k ∧ fStrs w' (lineTo X k) [s] F ∧ Fresh w.heap.size F ∧ Bw w w' ∧ Only [w.heap.size] w2 w' ∧ Hid (∀ z ∈ F, z = w.heap.size ∨ w2.heap.size ≤ z))
  case atStart => exact ⟨0, _, by omega, rfl, rfl, hv2, ⟨by simp, by simp⟩, B2, Only.refl _ _, Lib.hid (fun z hz => .inl (by simpa using hz))⟩
  case round =>
    clear hv2 B2 hb2 A0
    obtain ⟨k, F, hk, rfl, rfl, hv, hF, hb, hO, HF⟩ := hrel
    by_cases hlt : k < n
    · obtain ⟨b, hbx⟩ := get_of_lt (xs := X) (k := k) (by have := L.out; omega)
      obtain ⟨ba, oa, Ab, cb, rfl, _, hc0, hin⟩ := rIntss_at (fIntss_Rd (hO.keeps fIntss_good OX.out ZX.out)) hbx
      have i1 : (0 : Int) ≤ (k : Int) := by omega
      have i2 : (k : Int) < (n : Int) := by omega
      obtain ⟨m1, m2⟩ := HMM.out b (List.mem_of_getElem? hbx)
      have hw : ∀ x ∈ b, (Lit.int .i64 x).wf = true := fun x hx => wf_small' (by have := m2 x hx; omega)
      obtain ⟨a1, a2⟩ := line_sums (k := k) (by omega) hw m1
      have HS := Lib.hid (lineTo_succ hbx)
      have HLEN := Lib.hid (lineTo_len X k)
      have hcall := I_FormatInt wr (k : Int) (wf_small' (by omega))
      have hcall2 := fun W (B : Bw wr W) => I_IdLine W b _ (Rd.bw rInts_good hin B) hw (by omega)
      obtain ⟨P, hP⟩ : ∃ P, P = fmtInt (k : Int) := ⟨_, rfl⟩
      obtain ⟨Q, hQ⟩ : ∃ Q, Q = idLine b := ⟨_, rfl⟩
      have HLN := Lib.hid (show layerLine k b = P ++ ⟨#[58, 32]⟩ ++ Q by rw [hP, hQ]; rfl)
      rw [← hP] at hcall a1 a2
      rw [← hQ] at a2 hcall2
      have HC2 := Lib.hid hcall2
      clear hbx hin m1 m2 hw hP hQ hcall2
      go_wp2_with fail
      refine (hcall).mono ?_
      rintro e w3 ⟨rfl, hb3⟩
      go_wp2_with fail
      refine (HC2.out _ hb3).mono ?_
      rintro e' w4 ⟨rfl, hb4⟩
      have hb34 := hb3.then hb4
      have hbb := hb.then hb34
      have hv4 := (fStrs_good (B := w.heap.size)).bw hb34 hb.size hv
      have hA := (Bw.refl w4).alloc (.cells #[.string (P ++ ⟨#[58, 32]⟩ ++ Q)] 9)
      have hvW := (fStrs_good (B := w.heap.size)).bw hA hbb.size hv4
      have hFm := (fStrs_good (B := 0)).lt hv4
      have hbW := hbb.then hA
      have hcl := cell_one_new w4 (.string (P ++ ⟨#[58, 32]⟩ ++ Q)) 9
      have hOW := Lib.hid (hO.then ((hb34.then hA).only []) (by simp))
      have hbs := hbb.size
      clear hv hv4 hcall HC2 hO
      go_wp2_with (at_builtin; refine wpList_push2 _ rfl (.tmp 18) (.tmp 25) 50 rfl w 9 i0 _ 1 16 Try.underlying50 hi hz0 hz1 hz2 rfl (by omega) fStr_good _ (lineTo X k) F rfl hvW hF ⟨w4.heap.size, 0, none⟩ 1 rfl (P ++ ⟨#[58, 32]⟩ ++ Q) [.string (P ++ ⟨#[58, 32]⟩ ++ Q)] [] hcl ⟨rfl, rfl⟩ rfl w4.heap.size hFm Fresh.nil hbs (by have := HLEN.out; omega) (by have := HLEN.out; omega) hbW ?_; intro v' w' F' hv' hF' hb' hO' hs')
      have hOn := Only.push hOW.out hO' HF.out
      have HF' := Lib.hid (show ∀ z ∈ F', z = w.heap.size ∨ w2.heap.size ≤ z from fun z hz => (hs' z hz).elim (fun h => HF.out z h) (fun h => h.elim (fun h => by simp at h) (fun h => .inr (Nat.le_trans hOW.out.1 h))))
      go_roundg (n - (k + 1))
      case measure => omega
      case rel => exact ⟨k + 1, F', by omega, rfl, by go_num, by rw [HS.out, HLN.out]; exact hv', hF', hb', hOn, HF'⟩
    · obtain rfl : k = n := by omega
      rw [L.out, ← HE.out] at hv
      go_wp2
      go_ret
      exact ⟨_, rfl, ⟨F, hv, hF⟩, hb⟩
set_option maxRecDepth 100000 in
set_option maxHeartbeats 3200000 in
theorem S_LayerLines (w : World) (l : List GItem) (e : List GNode) (v u : Value) (h : Rd rItems w l [v]) (h' : Rd rNodes w e [u]) :
    Calls Try.prog 31 #[v, u] w (RetV w (Made fStrs w.heap.size (linesM l e))) := by
  obtain ⟨i0, hi, hz0, hz1, hz2⟩ := info_parts info_str
  have hv0 := fSl_empty (e := 9) (sz := 1) (R := fStr) w
  have A0 : Bw w (w.alloc (.cells #[] 9)) := (Bw.refl w).alloc _
  obtain ⟨Y, hY⟩ : ∃ Y, Y = linesM l e := ⟨_, rfl⟩
  rw [← hY]
  have HY := Lib.hid hY
  clear hY
  go_enter Try.func31, Try.ntmps31
  go_wp2_with fail
  refine (S_LayersOf _ l e _ _ (h.bw rItems_good A0) (h'.bw rNodes_good A0)).mono ?_
  rintro e w2 ⟨vX, rfl, ⟨FX, oX, fX⟩, hb2⟩
  have B2 := A0.then hb2
  have hv2 := (fStrs_good (B := w.heap.size)).bw hb2 A0.size hv0
  have zX : ∀ z ∈ FX, z ∉ [w.heap.size] := fun z hz => by have h1 := fX.ge z hz; simp at h1; simp only [List.mem_singleton]; omega
  have HL := Lib.hid (layersM_len l e)
  have HMM := Lib.hid (fun b (hb : b ∈ layersM l e) => And.intro (layersM_mem hb) (layersM_ids hb))
  obtain ⟨X, hX⟩ : ∃ X, X = layersM l e := ⟨_, rfl⟩
  have HE := Lib.hid (show Y = lineTo X X.length by rw [HY.out, hX]; rfl)
  rw [← hX] at oX HL HMM
  have hl := fIntss_Rd oX
  obtain ⟨A, n, c, rfl, L0, Lc, Lm⟩ := rSl_open hl
  unfold maxLen at Lm
  have L := Lib.hid L0
  clear L0
  have n16 : n ≤ 16 := by rw [L.out]; exact HL.out
  have OX := Lib.hid oX
  have ZX := Lib.hid zX
  have ZS := Lib.hid (show w.heap.size < w2.heap.size by have := hb2.size; simp at this; omega)
  clear hX oX zX hl hv0 HY fX
  go_wp2
  go_loopg [5, 7] n (fun g s i w' => ∃ (k : Nat) (F : List Nat), k ≤ n ∧ g = n - k ∧ i = .int .i64 k ∧ fStrs w' (lineTo X k) [s] F ∧ Fresh w.heap.size F ∧ Bw w w' ∧ Only [w.heap.size] w2 w' ∧ Hid (∀ z ∈ F, z = w.heap.size ∨ w2.heap.size ≤ z))
  case atStart => exact ⟨0, _, by omega, rfl, rfl, hv2, ⟨by simp, by simp⟩, B2, Only.refl _ _, Lib.hid (fun z hz => .inl (by simpa using hz))⟩
  case round =>
    clear hv2 B2 hb2 A0
    obtain ⟨k, F, hk, rfl, rfl, hv, hF, hb, hO, HF⟩ := hrel
    by_cases hlt : k < n
    · obtain ⟨b, hbx⟩ := get_of_lt (xs := X) (k := k) (by have := L.out; omega)
      have hXr := hO.keeps fIntss_good OX.out ZX.out
      have hXl := (fIntss_good (B := 0)).lt hXr
      obtain ⟨ba, oa, Ab, cb, rfl, _, hc0, hin⟩ := rIntss_at (fIntss_Rd hXr) hbx
      have hbaF : ba ∉ F := fun hf => by
        obtain ⟨b2, o2, A2, c2, eA, hS, _⟩ := rIntss_at (fIntss_rd (B := 0) OX.out) hbx
        injection eA with eA; injection eA with e1 e2; subst e1
        rcases hS with hS | hS
        · rcases HF.out _ hf with h | h
          · exact ZX.out _ hS (by simp [h])
          · have := (fIntss_good (B := 0)).lt OX.out _ hS; omega
        · omega
      have i1 : (0 : Int) ≤ (k : Int) := by omega
      have i2 : (k : Int) < (n : Int) := by omega
      obtain ⟨m1, m2⟩ := HMM.out b (List.mem_of_getElem? hbx)
      have hw : ∀ x ∈ b, (Lit.int .i64 x).wf = true := fun x hx => wf_small' (by have := m2 x hx; omega)
      obtain ⟨a1, a2⟩ := line_sums (k := k) (by omega) hw m1
      have HS := Lib.hid (lineTo_succ hbx)
      have HLEN := Lib.hid (lineTo_len X k)
      have hwk := wf_small' (n := (k : Int)) (by omega)
      have hcall := fun W => S_FormatInt W (k : Int) hwk
      have hcall2 := fun W (B : Bw wr.drew W) => S_IdLine W b (.slice Ab b.length cb) (Rd.bw rInts_good hin ((Bw.refl wr).drew.then B)) hw (by omega)
      obtain ⟨P, hP⟩ : ∃ P, P = fmtInt (k : Int) := ⟨_, rfl⟩
      obtain ⟨Q, hQ⟩ : ∃ Q, Q = idLine b := ⟨_, rfl⟩
      obtain ⟨M, hM⟩ : ∃ M, M = b.length := ⟨_, rfl⟩
      have HLN := Lib.hid (show layerLine k b = P ++ ⟨#[58, 32]⟩ ++ Q by rw [hP, hQ]; rfl)
      simp only [← hP] at hcall
      rw [← hP] at a1 a2
      rw [← hQ] at a2
      simp only [← hQ, ← hM] at hcall2
      rw [← hM] at hc0
      have HC := Lib.hid hcall
      have HC2 := Lib.hid hcall2
      have hB := Bw.refl wr.drew
      have hcd : wr.drew.cell? ⟨ba, oa + k, none⟩ = some (.slice Ab M cb) := hc0
      have D1 : Bw wr wr.drew := (Bw.refl wr).drew
      have hvd := (fStrs_good (B := w.heap.size)).bw D1 hb.size hv
      have hbd := hb.then D1
      have hOd := Lib.hid (hO.then (D1.only []) (by simp))
      clear hbx hin m1 m2 hw hP hQ hM hcall hcall2 hv hXr hXl hO hwk
      go_wp2_with fail
      go_region_held3 (fun w' => w'.cell? ⟨ba, oa + k, none⟩ = some (.slice Ab M cb)) (first | exact hcd | exact hB.cell hcd | exact (hB.then ((Bw.refl _).alloc _)).cell hcd | exact hcn)
        (first
          | (go_at_call 101; refine (HC.out _).mono ?_; rintro e' w5 ⟨rfl, hb5⟩; replace hB := hB.then hb5)
          | (go_at_call 120; refine (HC2.out _ hB).mono ?_; rintro e' w5 ⟨rfl, hb5⟩; replace hB := hB.then hb5)
          | (have hA := (Bw.refl w5).alloc (.cells #[.string (P ++ ⟨#[58, 32]⟩ ++ Q)] 9); have hBA := hB.then hA; have hvW := (fStrs_good (B := w.heap.size)).bw hBA hbd.size hvd; have hFm := (fStrs_good (B := 0)).lt hvd; have hbW := hbd.then hBA; have hcl := cell_one_new w5 (.string (P ++ ⟨#[58, 32]⟩ ++ Q)) 9; have hOW := Lib.hid (hOd.out.then (hBA.only []) (by simp)); refine step_push2 _ (by rfl) (.tmp 18) (.tmp 28) 50 (by rfl) w 9 i0 _ 1 16 Try.underlying50 hi hz0 hz1 hz2 rfl (by omega) fStr_good _ (lineTo X k) F (by rfl) hvW hF ⟨w5.heap.size, 0, none⟩ 1 (by rfl) (P ++ ⟨#[58, 32]⟩ ++ Q) [.string (P ++ ⟨#[58, 32]⟩ ++ Q)] [] hcl ⟨rfl, rfl⟩ rfl wr.drew.heap.size hFm Fresh.nil hbd.size (by have := HLEN.out; omega) (by have := HLEN.out; omega) hbW ?_; intro v' w' F' hv' hF' hb' hO' hs'; have hcn := hO'.cell (hBA.cell hcd) hbaF)
          | fail)
      all_goals
        have hOn := Only.push hOW.out hO' HF.out
        have HF' := Lib.hid (show ∀ z ∈ F', z = w.heap.size ∨ w2.heap.size ≤ z from fun z hz => (hs' z hz).elim (fun h => HF.out z h) (fun h => h.elim (fun h => by simp at h) (fun h => .inr (Nat.le_trans hOW.out.1 h))))
        go_wp2
        go_roundg (n - (k + 1))
        case measure => omega
        case rel => exact ⟨k + 1, F', by omega, rfl, by go_num, by rw [HS.out, HLN.out]; exact hv', hF', hb', hOn, HF'⟩
    · obtain rfl : k = n := by omega
      rw [L.out, ← HE.out] at hv
      go_wp2
      go_ret
      exact ⟨_, rfl, ⟨F, hv, hF⟩, hb⟩
end Go.Proofs.Ytfffklkiikmieaa
