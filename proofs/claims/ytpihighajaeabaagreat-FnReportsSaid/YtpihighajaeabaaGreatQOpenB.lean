/- A slice of bytes among a law's arguments. -/
import Derived.Test.YtpihighajaeabaaGreatQDelS
import Derived.Test.YtpihighajaeabaaGreatQLines3
import Derived.Test.YtpihighajaeabaaGreatQDrawD
import Derived.Test.YtpihighajaeabaaGreatQDrawY
import Derived.Test.YtpihighajaeabaaGreatQCompI
import Derived.Test.YtpihighajaeabaaGreatQVoteM
import Derived.Test.YtpihighajaeabaaGreatQExpl
import Derived.Test.YtpihighajaeabaaGreatQRew
import Derived.Test.YtpihighajaeabaaGreatQLines2
namespace Go.Proofs.YtpihighajaeabaaGreat
open Go.RowKit
set_option linter.unusedVariables false
set_option linter.unusedSimpArgs false
def layerLine (k : Nat) (b : List Int) : ByteArray := fmtInt (k : Int) ++ ⟨#[58, 32]⟩ ++ idLine b
def lineTo (X : List (List Int)) : Nat → List ByteArray
  | 0 => []
  | k + 1 => lineTo X k ++ (match X[k]? with | some b => [layerLine k b] | none => [])
def linesM (l : List GItem) (e : List GNode) : List ByteArray := lineTo (layersM l e) (layersM l e).length
theorem lineTo_succ {X : List (List Int)} {k : Nat} {b : List Int} (h : X[k]? = some b) : lineTo X (k + 1) = lineTo X k ++ [layerLine k b] := by rw [lineTo, h]
theorem lineTo_len (X : List (List Int)) : ∀ k, (lineTo X k).length ≤ k
  | 0 => Nat.le_refl _
  | k + 1 => by
    have := lineTo_len X k
    rw [lineTo, List.length_append]
    cases X[k]? <;> simp <;> omega
theorem layersF_ids {e : List GNode} : ∀ (n : Nat) (l : List GItem) (b : List Int), areItems l = true → b ∈ layersF e n l → ∀ v ∈ b, 0 ≤ v ∧ v ≤ 99
  | 0, _, _, _, h => by simp [layersF] at h
  | n + 1, l, b, hi, h => by
    simp only [layersF] at h
    split at h
    · simp at h
    · rcases List.mem_cons.1 h with h1 | h1
      · subst h1; exact bestM_ids hi
      · exact layersF_ids n (restM l e) b (rest_items hi) h1
theorem layersM_ids {l : List GItem} {e : List GNode} {b : List Int} (h : b ∈ layersM l e) : ∀ v ∈ b, 0 ≤ v ∧ v ≤ 99 := by
  unfold layersM at h; split at h
  · rename_i h2; exact layersF_ids _ l b (areBoth_items h2) h
  · simp at h
/-- the sums of one line -/
theorem line_sums {k : Nat} (hk : k ≤ 16) {b : List Int} (hw : ∀ x ∈ b, (Lit.int .i64 x).wf = true) (hl : b.length ≤ 16) :
    (∀ W, (Op.stringOp .add (fmtInt (k : Int)) ⟨#[58, 32]⟩).run Tryz.prog W = .ok (.string (fmtInt (k : Int) ++ ⟨#[58, 32]⟩)) W) ∧
    (∀ W, (Op.stringOp .add (fmtInt (k : Int) ++ ⟨#[58, 32]⟩) (idLine b)).run Tryz.prog W = .ok (.string (fmtInt (k : Int) ++ ⟨#[58, 32]⟩ ++ idLine b)) W) := by
  have h1 := (fmtInt_size (wf_small' (n := (k : Int)) (by omega))).2
  have h2 := idLine_size hw
  have e2 : (⟨#[58, 32]⟩ : ByteArray).size = 2 := rfl
  refine ⟨fun W => run_string_add_sum W _ _ (by omega), fun W => run_string_add_sum W _ _ (by rw [size_append]; omega)⟩
set_option maxRecDepth 100000 in
set_option maxHeartbeats 3200000 in
theorem I_LayerLines (w : World) (l : List GItem) (e : List GNode) (v u : Value) (h : Rd rItems w l [v]) (h' : Rd rNodes w e [u]) :
    Calls Tryz.prog 44 #[v, u] w (RetV w (Made fStrs w.heap.size (linesM l e))) := by
  obtain ⟨i0, hi, hz0, hz1, hz2⟩ := info_parts info_str
  have hv0 := fSl_empty (e := 9) (sz := 1) (R := fStr) w
  have A0 : Bw w (w.alloc (.cells #[] 9)) := (Bw.refl w).alloc _
  obtain ⟨Y, hY⟩ : ∃ Y, Y = linesM l e := ⟨_, rfl⟩
  rw [← hY]
  have HY := Lib.hid hY
  clear hY
  go_enter Tryz.func44, Tryz.ntmps44
  go_wp2_with fail
  refine (I_LayersOf _ l e _ _ (h.bw rItems_good A0) (h'.bw rNodes_good A0)).mono ?_
  rintro e w2 ⟨vX, rfl, ⟨FX, oX, fX⟩, hb2⟩
  have B2 := A0.then hb2
  have hv2 := (fStrs_good (B := w.heap.size)).bw hb2 A0.size hv0
  have zX : ∀ z ∈ FX, z ∉ [w.heap.size] := fun z hz => by have h1 := fX.ge z hz; simp at h1; simp only [List.mem_singleton]; omega
  have HL := Lib.hid (layersM_len l e)
  have HMM := Lib.hid (fun b (hb : b ∈ layersM l e) => And.intro (layersM_mem hb) (layersM_ids hb))
  obtain ⟨X, hX⟩ : ∃ X, X = layersM l e := ⟨_, rfl⟩
  have HE := Lib.hid (show Y = lineTo X X.length by rw [HY.out, hX]; rfl)
  rw [← hX] at oX HL HMM
  have hl := fIntss_Rd oX
  obtain ⟨A, n, c, rfl, L0, Lc, Lm⟩ := rSl_open hl
  unfold maxLen at Lm
  have L := Lib.hid L0
  clear L0
  have n16 : n ≤ 16 := by rw [L.out]; exact HL.out
  have OX := Lib.hid oX
  have ZX := Lib.hid zX
  have ZS := Lib.hid (show w.heap.size < w2.heap.size by have := hb2.size; simp at this; omega)
  clear hX oX zX hl hv0 HY fX
  go_wp2
  go_loopg [5, 13] n (fun g s i w' => ∃ (k : Nat) (F : List Nat), k ≤ n ∧ g = n - k ∧ i = .int .i64 k ∧ fStrs w' (lineTo X k) [s] F ∧ Fresh w.heap.size F ∧ Bw w w' ∧ Only [w.heap.size] w2 w' ∧ Hid (∀ z ∈ F, z = w.heap.size ∨ w2.heap.size ≤ z))
  case atStart => exact ⟨0, _, by omega, rfl, rfl, hv2, ⟨by simp, by simp⟩, B2, Only.refl _ _, Lib.hid (fun z hz => .inl (by simpa using hz))⟩
  case round =>
    clear hv2 B2 hb2 A0
    obtain ⟨k, F, hk, rfl, rfl, hv, hF, hb, hO, HF⟩ := hrel
    by_cases hlt : k < n
    · obtain ⟨b, hbx⟩ := get_of_lt (xs := X) (k := k) (by have := L.out; omega)
      obtain ⟨ba, oa, Ab, cb, rfl, _, hc0, hin⟩ := rIntss_at (fIntss_Rd (hO.keeps fIntss_good OX.out ZX.out)) hbx
      have i1 : (0 : Int) ≤ (k : Int) := by omega
      have i2 : (k : Int) < (n : Int) := by omega
      obtain ⟨m1, m2⟩ := HMM.out b (List.mem_of_getElem? hbx)
      have hw : ∀ x ∈ b, (Lit.int .i64 x).wf = true := fun x hx => wf_small' (by have := m2 x hx; omega)
      obtain ⟨a1, a2⟩ := line_sums (k := k) (by omega) hw m1
      have HS := Lib.hid (lineTo_succ hbx)
      have HLEN := Lib.hid (lineTo_len X k)
      have hcall := I_FormatInt wr (k : Int) (wf_small' (by omega))
      have hcall2 := fun W (B : Bw wr W) => I_IdLine W b _ (Rd.bw rInts_good hin B) hw (by omega)
      obtain ⟨P, hP⟩ : ∃ P, P = fmtInt (k : Int) := ⟨_, rfl⟩
      obtain ⟨Q, hQ⟩ : ∃ Q, Q = idLine b := ⟨_, rfl⟩
      have HLN := Lib.hid (show layerLine k b = P ++ ⟨#[58, 32]⟩ ++ Q by rw [hP, hQ]; rfl)
      rw [← hP] at hcall a1 a2
      rw [← hQ] at a2 hcall2
      have HC2 := Lib.hid hcall2
      clear hbx hin m1 m2 hw hP hQ hcall2
      go_wp2_with fail
      refine (hcall).mono ?_
      rintro e w3 ⟨rfl, hb3⟩
      go_wp2_with fail
      refine (HC2.out _ hb3).mono ?_
      rintro e' w4 ⟨rfl, hb4⟩
      have hb34 := hb3.then hb4
      have hbb := hb.then hb34
      have hv4 := (fStrs_good (B := w.heap.size)).bw hb34 hb.size hv
      have hA := (Bw.refl w4).alloc (.cells #[.string (P ++ ⟨#[58, 32]⟩ ++ Q)] 9)
      have hvW := (fStrs_good (B := w.heap.size)).bw hA hbb.size hv4
      have hFm := (fStrs_good (B := 0)).lt hv4
      have hbW := hbb.then hA
      have hcl := cell_one_new w4 (.string (P ++ ⟨#[58, 32]⟩ ++ Q)) 9
      have hOW := Lib.hid (hO.then ((hb34.then hA).only []) (by simp))
      have hbs := hbb.size
      clear hv hv4 hcall HC2 hO
      go_wp2_with (at_builtin; refine wpList_push2 _ rfl (.tmp 18) (.tmp 25) 58 rfl w 9 i0 _ 1 16 Tryz.underlying58 hi hz0 hz1 hz2 rfl (by omega) fStr_good _ (lineTo X k) F rfl hvW hF ⟨w4.heap.size, 0, none⟩ 1 rfl (P ++ ⟨#[58, 32]⟩ ++ Q) [.string (P ++ ⟨#[58, 32]⟩ ++ Q)] [] hcl ⟨rfl, rfl⟩ rfl w4.heap.size hFm Fresh.nil hbs (by have := HLEN.out; omega) (by have := HLEN.out; omega) hbW ?_; intro v' w' F' hv' hF' hb' hO' hs')
      have hOn := Only.push hOW.out hO' HF.out
      have HF' := Lib.hid (show ∀ z ∈ F', z = w.heap.size ∨ w2.heap.size ≤ z from fun z hz => (hs' z hz).elim (fun h => HF.out z h) (fun h => h.elim (fun h => by simp at h) (fun h => .inr (Nat.le_trans hOW.out.1 h))))
      go_roundg (n - (k + 1))
      case measure => omega
      case rel => exact ⟨k + 1, F', by omega, rfl, by go_num, by rw [HS.out, HLN.out]; exact hv', hF', hb', hOn, HF'⟩
    · obtain rfl : k = n := by omega
      rw [L.out, ← HE.out] at hv
      go_wp2
      go_ret
      exact ⟨_, rfl, ⟨F, hv, hF⟩, hb⟩
set_option maxRecDepth 100000 in
set_option maxHeartbeats 3200000 in
theorem S_LayerLines (w : World) (l : List GItem) (e : List GNode) (v u : Value) (h : Rd rItems w l [v]) (h' : Rd rNodes w e [u]) :
    Calls Tryz.prog 45 #[v, u] w (RetV w (Made fStrs w.heap.size (linesM l e))) := by
  obtain ⟨i0, hi, hz0, hz1, hz2⟩ := info_parts info_str
  have hv0 := fSl_empty (e := 9) (sz := 1) (R := fStr) w
  have A0 : Bw w (w.alloc (.cells #[] 9)) := (Bw.refl w).alloc _
  obtain ⟨Y, hY⟩ : ∃ Y, Y = linesM l e := ⟨_, rfl⟩
  rw [← hY]
  have HY := Lib.hid hY
  clear hY
  go_enter Tryz.func45, Tryz.ntmps45
  go_wp2_with fail
  refine (S_LayersOf _ l e _ _ (h.bw rItems_good A0) (h'.bw rNodes_good A0)).mono ?_
  rintro e w2 ⟨vX, rfl, ⟨FX, oX, fX⟩, hb2⟩
  have B2 := A0.then hb2
  have hv2 := (fStrs_good (B := w.heap.size)).bw hb2 A0.size hv0
  have zX : ∀ z ∈ FX, z ∉ [w.heap.size] := fun z hz => by have h1 := fX.ge z hz; simp at h1; simp only [List.mem_singleton]; omega
  have HL := Lib.hid (layersM_len l e)
  have HMM := Lib.hid (fun b (hb : b ∈ layersM l e) => And.intro (layersM_mem hb) (layersM_ids hb))
  obtain ⟨X, hX⟩ : ∃ X, X = layersM l e := ⟨_, rfl⟩
  have HE := Lib.hid (show Y = lineTo X X.length by rw [HY.out, hX]; rfl)
  rw [← hX] at oX HL HMM
  have hl := fIntss_Rd oX
  obtain ⟨A, n, c, rfl, L0, Lc, Lm⟩ := rSl_open hl
  unfold maxLen at Lm
  have L := Lib.hid L0
  clear L0
  have n16 : n ≤ 16 := by rw [L.out]; exact HL.out
  have OX := Lib.hid oX
  have ZX := Lib.hid zX
  have ZS := Lib.hid (show w.heap.size < w2.heap.size by have := hb2.size; simp at this; omega)
  clear hX oX zX hl hv0 HY fX
  go_wp2
  go_loopg [5, 7] n (fun g s i w' => ∃ (k : Nat) (F : List Nat), k ≤ n ∧ g = n - k ∧ i = .int .i64 k ∧ fStrs w' (lineTo X k) [s] F ∧ Fresh w.heap.size F ∧ Bw w w' ∧ Only [w.heap.size] w2 w' ∧ Hid (∀ z ∈ F, z = w.heap.size ∨ w2.heap.size ≤ z))
  case atStart => exact ⟨0, _, by omega, rfl, rfl, hv2, ⟨by simp, by simp⟩, B2, Only.refl _ _, Lib.hid (fun z hz => .inl (by simpa using hz))⟩
  case round =>
    clear hv2 B2 hb2 A0
    obtain ⟨k, F, hk, rfl, rfl, hv, hF, hb, hO, HF⟩ := hrel
    by_cases hlt : k < n
    · obtain ⟨b, hbx⟩ := get_of_lt (xs := X) (k := k) (by have := L.out; omega)
      have hXr := hO.keeps fIntss_good OX.out ZX.out
      have hXl := (fIntss_good (B := 0)).lt hXr
      obtain ⟨ba, oa, Ab, cb, rfl, _, hc0, hin⟩ := rIntss_at (fIntss_Rd hXr) hbx
      have hbaF : ba ∉ F := fun hf => by
        obtain ⟨b2, o2, A2, c2, eA, hS, _⟩ := rIntss_at (fIntss_rd (B := 0) OX.out) hbx
        injection eA with eA; injection eA with e1 e2; subst e1
        rcases hS with hS | hS
        · rcases HF.out _ hf with h | h
          · exact ZX.out _ hS (by simp [h])
          · have := (fIntss_good (B := 0)).lt OX.out _ hS; omega
        · omega
      have i1 : (0 : Int) ≤ (k : Int) := by omega
      have i2 : (k : Int) < (n : Int) := by omega
      obtain ⟨m1, m2⟩ := HMM.out b (List.mem_of_getElem? hbx)
      have hw : ∀ x ∈ b, (Lit.int .i64 x).wf = true := fun x hx => wf_small' (by have := m2 x hx; omega)
      obtain ⟨a1, a2⟩ := line_sums (k := k) (by omega) hw m1
      have HS := Lib.hid (lineTo_succ hbx)
      have HLEN := Lib.hid (lineTo_len X k)
      have hwk := wf_small' (n := (k : Int)) (by omega)
      have hcall := fun W => S_FormatInt W (k : Int) hwk
      have hcall2 := fun W (B : Bw wr.drew W) => S_IdLine W b (.slice Ab b.length cb) (Rd.bw rInts_good hin ((Bw.refl wr).drew.then B)) hw (by omega)
      obtain ⟨P, hP⟩ : ∃ P, P = fmtInt (k : Int) := ⟨_, rfl⟩
      obtain ⟨Q, hQ⟩ : ∃ Q, Q = idLine b := ⟨_, rfl⟩
      obtain ⟨M, hM⟩ : ∃ M, M = b.length := ⟨_, rfl⟩
      have HLN := Lib.hid (show layerLine k b = P ++ ⟨#[58, 32]⟩ ++ Q by rw [hP, hQ]; rfl)
      simp only [← hP] at hcall
      rw [← hP] at a1 a2
      rw [← hQ] at a2
      simp only [← hQ, ← hM] at hcall2
      rw [← hM] at hc0
      have HC := Lib.hid hcall
      have HC2 := Lib.hid hcall2
      have hB := Bw.refl wr.drew
      have hcd : wr.drew.cell? ⟨ba, oa + k, none⟩ = some (.slice Ab M cb) := hc0
      have D1 : Bw wr wr.drew := (Bw.refl wr).drew
      have hvd := (fStrs_good (B := w.heap.size)).bw D1 hb.size hv
      have hbd := hb.then D1
      have hOd := Lib.hid (hO.then (D1.only []) (by simp))
      clear hbx hin m1 m2 hw hP hQ hM hcall hcall2 hv hXr hXl hO hwk
      go_wp2_with fail
      go_region_held3 (fun w' => w'.cell? ⟨ba, oa + k, none⟩ = some (.slice Ab M cb)) (first | exact hcd | exact hB.cell hcd | exact (hB.then ((Bw.refl _).alloc _)).cell hcd | exact hcn)
        (first
          | (go_at_call 64; refine (HC.out _).mono ?_; rintro e' w5 ⟨rfl, hb5⟩; replace hB := hB.then hb5)
          | (go_at_call 52; refine (HC2.out _ hB).mono ?_; rintro e' w5 ⟨rfl, hb5⟩; replace hB := hB.then hb5)
          | (have hA := (Bw.refl w5).alloc (.cells #[.string (P ++ ⟨#[58, 32]⟩ ++ Q)] 9); have hBA := hB.then hA; have hvW := (fStrs_good (B := w.heap.size)).bw hBA hbd.size hvd; have hFm := (fStrs_good (B := 0)).lt hvd; have hbW := hbd.then hBA; have hcl := cell_one_new w5 (.string (P ++ ⟨#[58, 32]⟩ ++ Q)) 9; have hOW := Lib.hid (hOd.out.then (hBA.only []) (by simp)); refine step_push2 _ (by rfl) (.tmp 18) (.tmp 28) 58 (by rfl) w 9 i0 _ 1 16 Tryz.underlying58 hi hz0 hz1 hz2 rfl (by omega) fStr_good _ (lineTo X k) F (by rfl) hvW hF ⟨w5.heap.size, 0, none⟩ 1 (by rfl) (P ++ ⟨#[58, 32]⟩ ++ Q) [.string (P ++ ⟨#[58, 32]⟩ ++ Q)] [] hcl ⟨rfl, rfl⟩ rfl wr.drew.heap.size hFm Fresh.nil hbd.size (by have := HLEN.out; omega) (by have := HLEN.out; omega) hbW ?_; intro v' w' F' hv' hF' hb' hO' hs'; have hcn := hO'.cell (hBA.cell hcd) hbaF)
          | fail)
      all_goals
        have hOn := Only.push hOW.out hO' HF.out
        have HF' := Lib.hid (show ∀ z ∈ F', z = w.heap.size ∨ w2.heap.size ≤ z from fun z hz => (hs' z hz).elim (fun h => HF.out z h) (fun h => h.elim (fun h => by simp at h) (fun h => .inr (Nat.le_trans hOW.out.1 h))))
        go_wp2
        go_roundg (n - (k + 1))
        case measure => omega
        case rel => exact ⟨k + 1, F', by omega, rfl, by go_num, by rw [HS.out, HLN.out]; exact hv', hF', hb', hOn, HF'⟩
    · obtain rfl : k = n := by omega
      rw [L.out, ← HE.out] at hv
      go_wp2
      go_ret
      exact ⟨_, rfl, ⟨F, hv, hF⟩, hb⟩
end Go.Proofs.YtpihighajaeabaaGreat

namespace Go.Proofs.YtpihighajaeabaaGreat
open Go.RowKit
set_option linter.unusedVariables false
set_option linter.unusedSimpArgs false
theorem wf_draw {n : Int} (h : -100 ≤ n ∧ n ≤ 1000) : (Lit.int .i64 n).wf = true := by
  simp [Lit.wf, IntKind.min, IntKind.max, IntKind.signed, IntKind.bits]; omega
theorem wf_draws {xs : List Int} (h : gIds xs) : (∀ x ∈ xs, (Lit.int .i64 x).wf = true) ∧ xs.length ≤ 1048576 := ⟨fun x hx => wf_draw (h.2 x hx), by have := h.1; omega⟩
set_option maxRecDepth 100000 in
set_option maxHeartbeats 12800000 in
theorem walk_FnReports (w : World) (x0 : List Int) (v : Value) (h0 : Rd rBytes w x0 [v]) (q0 : wfBytes x0) : Calls Tryz.prog 5 #[v] w (Ret w (.bool true)) := by
  have hcall := L_big w x0 v h0
  go_enter Tryz.func5, Tryz.ntmps5
  go_wp2_with fail
  refine hcall.mono ?_
  rintro e w1 ⟨rfl, hb1⟩
  clear hcall
  by_cases hbig : 1048576 < x0.length
  · have e1 : decide (1048576 < x0.length) = true := decide_eq_true hbig
    rw [e1]
    clear e1
    go_wp2
    go_ret
    exact ⟨rfl, hb1⟩
  · have e1 : decide (1048576 < x0.length) = false := decide_eq_false hbig
    rw [e1]
    clear e1
    have hcall := D_DrawLayerLines w1 x0 v (h0.bw rBytes_good hb1) q0
    go_wp2_with fail
    refine hcall.mono ?_
    rintro e w2 ⟨va, ve, rfl, ⟨l, hl, gl⟩, ⟨g, hg, gg⟩, hb2⟩
    clear hcall
    have B2 := hb1.then hb2
    obtain ⟨C, hC⟩ : ∃ C, C = linesM l g := ⟨_, rfl⟩
    have k1 := I_LayerLines w2 l g va ve hl hg
    have k2 := fun (W : World) (B : Bw w2 W) => S_LayerLines W l g va ve (hl.bw rItems_good B) (hg.bw rNodes_good B)
    rw [← hC] at k1
    simp only [← hC] at k2
    clear hC hl hg gl gg
    have hcall := k1
    go_wp2_with fail
    refine hcall.mono ?_
    rintro e w3 ⟨v3, rfl, ⟨F3, o3, f3⟩, hb3⟩
    clear hcall
    have hcall := k2 w3 hb3
    go_wp2_with fail
    refine hcall.mono ?_
    rintro e w4 ⟨v4, rfl, ⟨F4, o4, f4⟩, hb4⟩
    clear hcall
    have r3 := (fStrs_Rd o3).bw rStrs_good hb4
    have r4 := fStrs_Rd o4
    have B4 := (B2.then hb3).then hb4
    clear k1 k2 o3 o4 f3 f4 hb3 hb4 hb2 B2
    obtain ⟨A3, n, c3, rfl, l3, a3, m3⟩ := rSl_open r3
    obtain ⟨A4, n', c4, rfl, l4, a4, m4⟩ := rSl_open r4
    obtain rfl : n' = n := by omega
    have L3 := Lib.hid l3
    unfold maxLen at m3
    clear l3 l4 a4 m4
    go_wp2
    go_loopw [7] (fun i w' => ∃ k : Nat, k ≤ n' ∧ i = .int .i64 k ∧ Bw w4 w') (fun i _ => n' - (intOf i).toNat)
    case atStart => exact ⟨0, by omega, rfl, Bw.refl _⟩
    case round =>
      obtain ⟨k, hk, rfl, hb⟩ := hrel
      by_cases hlt : k < n'
      · obtain ⟨x, hx⟩ := get_of_lt (xs := C) (k := k) (by rw [← L3.out]; exact hlt)
        obtain ⟨ba, oa, rfl, _, hcx⟩ := rStrs_at (r3.bw rStrs_good hb) hx
        obtain ⟨bb, ob, rfl, _, hcy⟩ := rStrs_at (r4.bw rStrs_good hb) hx
        have b1 := bytes_eq (rfl : x = x)
        clear hx r3 r4
        go_wp2
        go_quiet (fail)
        go_wp2
        go_roundw
        case rel => exact ⟨k + 1, by omega, by go_num, hb.drewN _⟩
        case measure => simp [intOf]; omega
      · have B5 := B4.then hb
        clear hb r3 r4 L3 B4 a3 m3
        have hcall := D_DrawIdLine wr x0 v (h0.bw rBytes_good B5) q0
        go_wp2_with fail
        refine hcall.mono ?_
        rintro e w6 ⟨vi, rfl, ⟨is, hi, gi⟩, hb6⟩
        clear hcall
        have B6 := B5.then hb6
        clear hlt hk
        have hcall := D_DrawCompareLine w6 x0 v (h0.bw rBytes_good B6) q0
        go_wp2_with fail
        refine hcall.mono ?_
        rintro e w7 ⟨vf, vx, vy, rfl, ⟨f, hf, gf⟩, ⟨x, ux, rfl, hx, gx⟩, ⟨y, uy, rfl, hy, gy⟩, hb7⟩
        clear hcall
        have B7 := B6.then hb7
        obtain ⟨Ax, nx, cx, rfl, lx, _⟩ := rSl_open hx
        obtain ⟨Ay, ny, cy, rfl, ly, _⟩ := rSl_open hy
        clear lx ly
        have bX := (Box.new w7 #[.int .i64 x.id, .slice Ax nx cx] 30).bw ((Bw.refl _).alloc (.cells #[.int .i64 y.id, .slice Ay ny cy] 30))
        have bY := Box.new (w7.alloc (.cells #[.int .i64 x.id, .slice Ax nx cx] 30)) #[.int .i64 y.id, .slice Ay ny cy] 30
        rw [show (w7.alloc (.cells #[.int .i64 x.id, .slice Ax nx cx] 30)).heap.size = w7.heap.size + 1 by simp] at bY
        have A7 := ((Bw.refl w7).alloc (.cells #[.int .i64 x.id, .slice Ax nx cx] 30)).alloc (.cells #[.int .i64 y.id, .slice Ay ny cy] 30)
        have V7 := B7.then A7
        have hcall := D_DrawRewriteLine _ x0 v (h0.bw rBytes_good V7) q0
        go_wp2_with fail
        refine hcall.mono ?_
        rintro e w8 ⟨vr, rfl, ⟨r, ur, rfl, hr, gr⟩, hb8⟩
        clear hcall
        obtain ⟨Ar, nr, cr, rfl, lr, _⟩ := rSl_open hr
        clear lr
        have bR := Box.new w8 #[.int .i64 r.rule, .int .i64 r.pos, .slice Ar nr cr] 64
        have A8 := (Bw.refl w8).alloc (.cells #[.int .i64 r.rule, .int .i64 r.pos, .slice Ar nr cr] 64)
        have V8 := (V7.then hb8).then A8
        have hcall := D_DrawVoteLine _ x0 v (h0.bw rBytes_good V8) q0
        go_wp2_with fail
        refine hcall.mono ?_
        rintro e w9 ⟨vm, vg, rfl, ⟨m, hm, gm⟩, ⟨gs, hgs, ggs⟩, hb9⟩
        clear hcall
        have B9 := V8.then hb9
        have hcall := D_DrawStandingLine w9 x0 v (h0.bw rBytes_good B9) q0
        go_wp2_with fail
        refine hcall.mono ?_
        rintro e w10 ⟨vs, rfl, ⟨s, s1, s2, s3, rfl, hs1, hs2, hs3, sm⟩, hb10⟩
        clear hcall
        obtain ⟨A5, n5, c5, rfl, l5, _⟩ := rSl_open hs1
        obtain ⟨A6, n6, c6, rfl, l6, _⟩ := rSl_open hs2
        obtain ⟨A7', n7, c7, rfl, l7, _⟩ := rSl_open hs3
        clear l5 l6 l7
        have bS := Box.new w10 #[.slice A5 n5 c5, .slice A6 n6 c6, .slice A7' n7 c7, .int .i64 s.tests] 28
        have A10 := (Bw.refl w10).alloc (.cells #[.slice A5 n5 c5, .slice A6 n6 c6, .slice A7' n7 c7, .int .i64 s.tests] 28)
        have U9 := hb10.then A10
        have U8b := hb9.then U9
        have U8 := A8.then U8b
        have U7b := hb8.then U8
        have U7 := A7.then U7b
        have U6 := hb7.then U7
        have BU := B6.then U6
        have gI := wf_draws gi
        have t0 := since_cell ((bX.bw U7b).c 0 _ rfl)
        have t1 := since_cell ((bX.bw U7b).c 1 _ rfl)
        have t2 := since_cell ((bY.bw U7b).c 0 _ rfl)
        have t3 := since_cell ((bY.bw U7b).c 1 _ rfl)
        have t4 := since_cell ((bR.bw U8b).c 0 _ rfl)
        have t5 := since_cell ((bR.bw U8b).c 1 _ rfl)
        have t6 := since_cell ((bR.bw U8b).c 2 _ rfl)
        have t7 := since_cell (bS.c 0 _ rfl)
        have t8 := since_cell (bS.c 1 _ rfl)
        have t9 := since_cell (bS.c 2 _ rfl)
        have t10 := since_cell (bS.c 3 _ rfl)
        obtain ⟨U, hU⟩ : ∃ U, U = w10.alloc (.cells #[.slice A5 n5 c5, .slice A6 n6 c6, .slice A7' n7 c7, .int .i64 s.tests] 28) := ⟨_, rfl⟩
        rw [← hU] at A10 U9 U8b U8 U7b U7 U6 BU
        obtain ⟨p1, hp1⟩ : ∃ T, T = idLine is := ⟨_, rfl⟩
        obtain ⟨p2, hp2⟩ : ∃ T, T = cmpLine f x y := ⟨_, rfl⟩
        obtain ⟨p3, hp3⟩ : ∃ T, T = rewLine r := ⟨_, rfl⟩
        obtain ⟨p4, hp4⟩ : ∃ T, T = voteLine m gs := ⟨_, rfl⟩
        obtain ⟨p5, hp5⟩ : ∃ T, T = standLine s := ⟨_, rfl⟩
        have k1 : ∀ s : Since U, Calls Tryz.prog 51 #[vi] s.1 (Ret s.1 (.string p1)) := fun s => by rw [hp1]; exact I_IdLine _ is vi ((hi.bw rInts_good U6).bw rInts_good s.bw) gI.1 gI.2
        have k2 : ∀ s : Since U, Calls Tryz.prog 52 #[vi] s.1 (Ret s.1 (.string p1)) := fun s => by rw [hp1]; exact S_IdLine _ is vi ((hi.bw rInts_good U6).bw rInts_good s.bw) gI.1 gI.2
        have k3 : ∀ s : Since U, Calls Tryz.prog 53 #[vf, .agg #[.int .i64 x.id, .slice Ax nx cx], .agg #[.int .i64 y.id, .slice Ay ny cy]] s.1 (Ret s.1 (.string p2)) := fun s => by rw [hp2]; exact I_CompareLine _ f x y vf _ _ ((hf.bw rNodes_good U7).bw rNodes_good s.bw) ((hx.bw rInts_good U7).bw rInts_good s.bw) ((hy.bw rInts_good U7).bw rInts_good s.bw)
        have k4 : ∀ s : Since U, Calls Tryz.prog 54 #[vf, .agg #[.int .i64 x.id, .slice Ax nx cx], .agg #[.int .i64 y.id, .slice Ay ny cy]] s.1 (Ret s.1 (.string p2)) := fun s => by rw [hp2]; exact S_CompareLine _ f x y vf _ _ ((hf.bw rNodes_good U7).bw rNodes_good s.bw) ((hx.bw rInts_good U7).bw rInts_good s.bw) ((hy.bw rInts_good U7).bw rInts_good s.bw)
        have k5 : ∀ s : Since U, Calls Tryz.prog 55 #[.agg #[.int .i64 r.rule, .int .i64 r.pos, .slice Ar nr cr]] s.1 (Ret s.1 (.string p3)) := fun s => by rw [hp3]; exact I_RewriteLine _ r _ ((hr.bw rNodes_good U8).bw rNodes_good s.bw) gr
        have k6 : ∀ s : Since U, Calls Tryz.prog 56 #[.agg #[.int .i64 r.rule, .int .i64 r.pos, .slice Ar nr cr]] s.1 (Ret s.1 (.string p3)) := fun s => by rw [hp3]; exact S_RewriteLine _ r _ ((hr.bw rNodes_good U8).bw rNodes_good s.bw) gr
        have k7 : ∀ s : Since U, Calls Tryz.prog 57 #[vm, vg] s.1 (Ret s.1 (.string p4)) := fun s => by rw [hp4]; exact I_VoteLine _ m gs vm vg ((hm.bw rItems_good U9).bw rItems_good s.bw) ((hgs.bw rNodess_good U9).bw rNodess_good s.bw)
        have k8 : ∀ s : Since U, Calls Tryz.prog 58 #[vm, vg] s.1 (Ret s.1 (.string p4)) := fun s => by rw [hp4]; exact S_VoteLine _ m gs vm vg ((hm.bw rItems_good U9).bw rItems_good s.bw) ((hgs.bw rNodess_good U9).bw rNodess_good s.bw)
        have k9 : ∀ t : Since U, Calls Tryz.prog 59 #[.agg #[.slice A5 n5 c5, .slice A6 n6 c6, .slice A7' n7 c7, .int .i64 s.tests]] t.1 (Ret t.1 (.string p5)) := fun t => by rw [hp5]; exact I_StandingLine _ s _ _ _ ((hs1.bw rItems_good A10).bw rItems_good t.bw) ((hs2.bw rNodes_good A10).bw rNodes_good t.bw) ((hs3.bw rInts_good A10).bw rInts_good t.bw)
        have k10 : ∀ t : Since U, Calls Tryz.prog 60 #[.agg #[.slice A5 n5 c5, .slice A6 n6 c6, .slice A7' n7 c7, .int .i64 s.tests]] t.1 (Ret t.1 (.string p5)) := fun t => by rw [hp5]; exact S_StandingLine _ s _ _ _ ((hs1.bw rItems_good A10).bw rItems_good t.bw) ((hs2.bw rNodes_good A10).bw rNodes_good t.bw) ((hs3.bw rInts_good A10).bw rInts_good t.bw)
        have g1 := bytes_eq (rfl : p1 = p1)
        have g2 := bytes_eq (rfl : p2 = p2)
        have g3 := bytes_eq (rfl : p3 = p3)
        have g4 := bytes_eq (rfl : p4 = p4)
        have g5 := bytes_eq (rfl : p5 = p5)
        have HBU := Lib.hid BU
        subst hU
        clear hp1 hp2 hp3 hp4 hp5 BU U6 U7 U7b U8 U8b U9 A10 bS B9 V8 A8 bR V7 A7 bX bY hs1 hs2 hs3 hm hgs hr hf hx hy hi gi gf gx gy gr gm ggs sm hb6 hb7 hb8 hb9 hb10 gI B5 B6 B7
        go_wp2
        refine wp_region_since (by kernel_rfl) (by kernel_rfl) ?_
        repeat (first | go_big_quiet_skip | (go_big_quiet_want; go_big_quiet_op; first | go_big_quiet_on | (apply Exists.intro; refine ⟨fun _ => ?_, ?_⟩; (· (((first | (go_at_call 51; exact Calls_since (k1 _)) | (go_at_call 52; exact Calls_since (k2 _)) | (go_at_call 53; exact Calls_since (k3 _)) | (go_at_call 54; exact Calls_since (k4 _)) | (go_at_call 55; exact Calls_since (k5 _)) | (go_at_call 56; exact Calls_since (k6 _)) | (go_at_call 57; exact Calls_since (k7 _)) | (go_at_call 58; exact Calls_since (k8 _)) | (go_at_call 59; exact Calls_since (k9 _)) | (go_at_call 60; exact Calls_since (k10 _)))))); go_big_quiet_on)))
        refine wpQuiet_nil ?_
        rintro ⟨wq, hbq⟩
        dsimp only at *
        go_wp2
        go_ret
        exact ⟨rfl, HBU.out.then hbq⟩
end Go.Proofs.YtpihighajaeabaaGreat

namespace Go.Proofs.YtpihighajaeabaaGreat
open Go.RowKit Go.ChangeShapes Go.WideShapes Go.Deep
set_option linter.unusedVariables false
section
variable {H : Type} {enc : TypeId × Value → H} {w : World} {sp : Nat → Bool} {held : Bool}
theorem t_u8 {n : Nat} {cs : List Value} {y : DataW H × List MemPlace} (h : DataW.trod enc Tryz.prog w 0 sp held n 5 cs = some y) : ∃ x, rU8 w (lt w) x cs ∧ (0 ≤ x ∧ x ≤ 255) := by
  obtain ⟨x, rfl, _, hw⟩ := DataW.trod_int Tryz.underlying5 h
  exact ⟨x, rfl, bounds_u8 hw⟩
theorem t_bytes {n : Nat} {cs : List Value} {y : DataW H × List MemPlace} (h : DataW.trod enc Tryz.prog w 0 sp held n 22 cs = some y) : ∃ xs, rBytes w (lt w) xs cs ∧ wfBytes xs :=
  t_slice Tryz.underlying22 (by kernel_rfl) (by omega) (fun _ _ _ h _ => t_u8 h) h
end
end Go.Proofs.YtpihighajaeabaaGreat
