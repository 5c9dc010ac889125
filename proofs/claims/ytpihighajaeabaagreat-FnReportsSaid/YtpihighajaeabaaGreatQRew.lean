/- Lines on rewritings, in both programs. -/
import Derived.Test.YtpihighajaeabaaGreatQFmtE
namespace Go.Proofs.YtpihighajaeabaaGreat
open Go.RowKit
set_option linter.unusedVariables false
set_option linter.unusedSimpArgs false
def ruleWord (k : Int) : ByteArray := if k = 1 then ⟨#[100, 117, 97, 108, 32, 111, 102, 32, 100, 117, 97, 108]⟩ else if k = 2 then ⟨#[112, 117, 115, 104, 32, 100, 117, 97, 108]⟩ else if k = 3 then ⟨#[105, 100, 101, 109, 112, 111, 116, 101, 110, 116]⟩ else if k = 4 then ⟨#[99, 111, 109, 109, 117, 116, 101]⟩ else ⟨#[]⟩
def rewLine (x : GRewriting) : ByteArray :=
  if inB x.rule 1 4 && (decide (0 ≤ x.pos) && !(exprText x.after).toList.isEmpty) then ruleWord x.rule ++ ⟨#[32, 97, 116, 32]⟩ ++ fmtInt x.pos ++ ⟨#[58, 32]⟩ ++ exprText x.after else ⟨#[]⟩
theorem ruleWord_size {k : Int} (h : 1 ≤ k ∧ k ≤ 4) : 1 ≤ (ruleWord k).size ∧ (ruleWord k).size ≤ 12 := by
  rcases (show k = 1 ∨ k = 2 ∨ k = 3 ∨ k = 4 by omega) with rfl | rfl | rfl | rfl
  all_goals (constructor <;> (show _ ≤ _; decide))
theorem exprText_size (e : List GNode) : (exprText e).size ≤ 4000 := by
  unfold exprText
  split
  · rename_i h
    have h1 := gl_size ⟨#[59, 32]⟩ (nodeList e) 0 ⟨#[]⟩
    have h2 := nodeList_gl e
    have h3 := (expr_ops h).1
    have e0 : (⟨#[]⟩ : ByteArray).size = 0 := rfl
    unfold glued
    omega
  · show 0 ≤ 4000; omega
set_option maxRecDepth 100000 in
set_option maxHeartbeats 800000 in
theorem S_l18Rule (w : World) (k : Int) : Calls Tryz.prog 137 #[.int .i64 k] w (Ret w (.string (if inB k 1 4 then ruleWord k else ⟨#[]⟩))) := by
  have c1 := S_l1In w k 1 4
  rcases Bool.eq_false_or_eq_true (inB k 1 4) with hI | hI
  · rw [hI] at c1 ⊢
    have hb := inB_iff.1 hI
    clear hI
    rcases (show k = 1 ∨ k = 2 ∨ k = 3 ∨ k = 4 by omega) with rfl | rfl | rfl | rfl
    all_goals
      clear hb
      go_enter Tryz.func137, Tryz.ntmps137
      go_wp2_with fail
      refine (c1).mono ?_
      rintro e w1 ⟨rfl, hb1⟩
      go_wp2
      go_ret
      exact Ret.str rfl (hb1.alloc _)
  · rw [hI] at c1 ⊢
    clear hI
    go_enter Tryz.func137, Tryz.ntmps137
    go_wp2_with fail
    refine (c1).mono ?_
    rintro e w1 ⟨rfl, hb1⟩
    go_wp2
    go_ret
    exact Ret.str (rfl) (hb1)
set_option maxRecDepth 100000 in
set_option maxHeartbeats 3200000 in
theorem S_RewriteLine (w : World) (x : GRewriting) (v : Value) (h : Rd rNodes w x.after [v]) (hw : (Lit.int .i64 x.pos).wf = true) :
    Calls Tryz.prog 56 #[.agg #[.int .i64 x.rule, .int .i64 x.pos, v]] w (Ret w (.string (rewLine x))) := by
  obtain ⟨Av, nv, cv, rfl, l1, l2, l3⟩ := rSl_open h
  clear l1 l2 l3
  have B0 : Bw w (w.alloc (.cells #[.int .i64 x.rule, .int .i64 x.pos, .slice Av nv cv] 64)) := (Bw.refl w).alloc _
  obtain ⟨T, hT⟩ : ∃ T, T = rewLine x := ⟨_, rfl⟩
  rw [← hT]
  have hT2 := hT
  unfold rewLine at hT2
  have c1 := S_FormatExpression _ x.after _ (h.bw rNodes_good B0)
  have c2 := fun W => S_l18Rule W x.rule
  have c3 := fun W => S_FormatInt W x.pos hw
  have z3 := (fmtInt_size hw).2
  have z1 := exprText_size x.after
  obtain ⟨E, hE⟩ : ∃ E, E = exprText x.after := ⟨_, rfl⟩
  obtain ⟨P, hP⟩ : ∃ P, P = fmtInt x.pos := ⟨_, rfl⟩
  rw [← hE] at c1 z1 hT2
  rw [← hP] at z3 hT2
  simp only [← hP] at c3
  have C3 := Lib.hid c3
  rcases Bool.eq_false_or_eq_true (inB x.rule 1 4) with hI | hI
  · simp only [hI, if_true] at c2
    have hr := ruleWord_size (inB_iff.1 hI)
    obtain ⟨R, hR⟩ : ∃ R, R = ruleWord x.rule := ⟨_, rfl⟩
    rw [← hR] at hT2 hr
    simp only [← hR] at c2
    have C2 := Lib.hid c2
    have r0 : R.toList.isEmpty = false := str_ne (by omega)
    have ea : (⟨#[32, 97, 116, 32]⟩ : ByteArray).size = 4 := rfl
    have ec : (⟨#[58, 32]⟩ : ByteArray).size = 2 := rfl
    have a1 : ∀ W, (Op.stringOp .add R ⟨#[32, 97, 116, 32]⟩).run Tryz.prog W = .ok (.string (R ++ ⟨#[32, 97, 116, 32]⟩)) W := add_sum (by omega)
    have a2 : ∀ W, (Op.stringOp .add (R ++ ⟨#[32, 97, 116, 32]⟩) P).run Tryz.prog W = .ok (.string (R ++ ⟨#[32, 97, 116, 32]⟩ ++ P)) W := add_sum (by rw [size_append]; omega)
    have a3 : ∀ W, (Op.stringOp .add (R ++ ⟨#[32, 97, 116, 32]⟩ ++ P) ⟨#[58, 32]⟩).run Tryz.prog W = .ok (.string (R ++ ⟨#[32, 97, 116, 32]⟩ ++ P ++ ⟨#[58, 32]⟩)) W := add_sum (by rw [size_append, size_append]; omega)
    have a4 : ∀ W, (Op.stringOp .add (R ++ ⟨#[32, 97, 116, 32]⟩ ++ P ++ ⟨#[58, 32]⟩) E).run Tryz.prog W = .ok (.string (R ++ ⟨#[32, 97, 116, 32]⟩ ++ P ++ ⟨#[58, 32]⟩ ++ E)) W := add_sum (by rw [size_append, size_append, size_append]; omega)
    have HT := Lib.hid hT2
    have HI := Lib.hid hI
    clear hT hT2 hE hP hR c2 c3 z3 z1 hr ea ec hI h hw
    go_enter Tryz.func56, Tryz.ntmps56
    go_wp2_with fail
    refine (c1).mono ?_
    rintro e w1 ⟨rfl, hb1⟩
    have p0 : w1.cell? ⟨w.heap.size, 0, none⟩ = some (.int .i64 x.rule) := hb1.cell (by go_simp)
    have p1 : w1.cell? ⟨w.heap.size, 1, none⟩ = some (.int .i64 x.pos) := hb1.cell (by go_simp)
    have p2 : w1.cell? ⟨w.heap.size, 2, none⟩ = some (.slice Av nv cv) := hb1.cell (by go_simp)
    have B1 := B0.then hb1
    clear c1
    go_wp2_with fail
    refine (C2.out _).mono ?_
    rintro e' w2 ⟨rfl, hb2⟩
    replace p1 := hb2.cell p1
    have B2 := B1.then hb2
    rcases Bool.eq_false_or_eq_true E.toList.isEmpty with e0 | e0
    · have HF := Lib.hid (show T = ⟨#[]⟩ by rw [HT.out, e0]; simp)
      go_wp2
      go_ret
      exact Ret.str (by rw [HF.out]) (B2)
    · by_cases hp : x.pos < 0
      · have HF := Lib.hid (show T = ⟨#[]⟩ by rw [HT.out, decide_eq_false (show ¬ 0 ≤ x.pos by omega)]; simp)
        go_wp2
        go_ret
        exact Ret.str (by rw [HF.out]) (B2)
      · have HF := Lib.hid (show T = R ++ ⟨#[32, 97, 116, 32]⟩ ++ P ++ ⟨#[58, 32]⟩ ++ E by rw [HT.out, HI.out, e0, decide_eq_true (show 0 ≤ x.pos by omega)]; rfl)
        go_wp2_with fail
        refine (C3.out _).mono ?_
        rintro e' w3 ⟨rfl, hb3⟩
        go_wp2
        go_ret
        exact Ret.str (by rw [HF.out]) (B2.then hb3)
  · simp only [hI] at c2
    have C2 := Lib.hid c2
    have HF := Lib.hid (show T = ⟨#[]⟩ by rw [hT2, hI]; rfl)
    have r0 : (⟨#[]⟩ : ByteArray).toList.isEmpty = true := by rw [ByteArray.toList_eq]; rfl
    clear hT hT2 hE hP c2 c3 z3 z1 hI h hw
    go_enter Tryz.func56, Tryz.ntmps56
    go_wp2_with fail
    refine (c1).mono ?_
    rintro e w1 ⟨rfl, hb1⟩
    have p0 : w1.cell? ⟨w.heap.size, 0, none⟩ = some (.int .i64 x.rule) := hb1.cell (by go_simp)
    have p1 : w1.cell? ⟨w.heap.size, 1, none⟩ = some (.int .i64 x.pos) := hb1.cell (by go_simp)
    have p2 : w1.cell? ⟨w.heap.size, 2, none⟩ = some (.slice Av nv cv) := hb1.cell (by go_simp)
    have B1 := B0.then hb1
    clear c1
    go_wp2_with fail
    refine (C2.out _).mono ?_
    rintro e' w2 ⟨rfl, hb2⟩
    replace p1 := hb2.cell p1
    have B2 := B1.then hb2
    rcases Bool.eq_false_or_eq_true E.toList.isEmpty with e0 | e0
    · go_wp2
      go_ret
      exact Ret.str (by rw [HF.out]) (B2)
    · go_wp2
      go_ret
      exact Ret.str (by rw [HF.out]) (B2)
set_option maxRecDepth 100000 in
set_option maxHeartbeats 6400000 in
theorem I_RewriteLine1 (w : World) (x : GRewriting) (v : Value) (h : Rd rNodes w x.after [v]) (hw : (Lit.int .i64 x.pos).wf = true) (hK : x.rule = 1) (hp : 0 ≤ x.pos) (he : (exprText x.after).toList.isEmpty = false) :
    Calls Tryz.prog 55 #[.agg #[.int .i64 1, .int .i64 x.pos, v]] w (Ret w (.string (rewLine x))) := by
  obtain ⟨Av, nv, cv, rfl, l1, l2, l3⟩ := rSl_open h
  clear l1 l2 l3
  have B0 : Bw w (w.alloc (.cells #[.int .i64 1, .int .i64 x.pos, .slice Av nv cv] 64)) := (Bw.refl w).alloc _
  obtain ⟨T, hT⟩ : ∃ T, T = rewLine x := ⟨_, rfl⟩
  rw [← hT]
  have hT2 : T = ruleWord 1 ++ ⟨#[32, 97, 116, 32]⟩ ++ fmtInt x.pos ++ ⟨#[58, 32]⟩ ++ exprText x.after := by rw [hT, rewLine, hK, he, decide_eq_true hp]; rfl
  have c1 := I_FormatExpression _ x.after _ (h.bw rNodes_good B0)
  have c2 := fun W => I_within W 1 1 4
  rw [show inB 1 1 4 = true from rfl] at c2
  have c3 := fun W => I_FormatInt W x.pos hw
  have z3 := (fmtInt_size hw).2
  have z1 := exprText_size x.after
  obtain ⟨E, hE⟩ : ∃ E, E = exprText x.after := ⟨_, rfl⟩
  obtain ⟨P, hP⟩ : ∃ P, P = fmtInt x.pos := ⟨_, rfl⟩
  rw [← hE] at c1 z1 hT2 he
  rw [← hP] at z3 hT2
  simp only [← hP] at c3
  have ea : (⟨#[32, 97, 116, 32]⟩ : ByteArray).size = 4 := rfl
  have ec : (⟨#[58, 32]⟩ : ByteArray).size = 2 := rfl
  have ew : (⟨#[100, 117, 97, 108, 32, 111, 102, 32, 100, 117, 97, 108]⟩ : ByteArray).size ≤ 12 := by show _ ≤ _; decide
  obtain ⟨G, hG⟩ : ∃ G : ByteArray, G = ⟨#[100, 117, 97, 108, 32, 111, 102, 32, 100, 117, 97, 108]⟩ ++ ⟨#[32, 97, 116, 32]⟩ := ⟨_, rfl⟩
  have hGs : G.size ≤ 16 := by rw [hG, size_append]; omega
  have a1 : ∀ W, (Op.stringOp .add ⟨#[100, 117, 97, 108, 32, 111, 102, 32, 100, 117, 97, 108]⟩ ⟨#[32, 97, 116, 32]⟩).run Tryz.prog W = .ok (.string G) W := by rw [hG]; exact add_sum (by omega)
  have a2 : ∀ W, (Op.stringOp .add G P).run Tryz.prog W = .ok (.string (G ++ P)) W := add_sum (by omega)
  have a3 : ∀ W, (Op.stringOp .add (G ++ P) ⟨#[58, 32]⟩).run Tryz.prog W = .ok (.string (G ++ P ++ ⟨#[58, 32]⟩)) W := add_sum (by rw [size_append]; omega)
  have a4 : ∀ W, (Op.stringOp .add (G ++ P ++ ⟨#[58, 32]⟩) E).run Tryz.prog W = .ok (.string (G ++ P ++ ⟨#[58, 32]⟩ ++ E)) W := add_sum (by rw [size_append, size_append]; omega)
  have HF := Lib.hid (show T = G ++ P ++ ⟨#[58, 32]⟩ ++ E by rw [hT2, hG]; rfl)
  have C2 := Lib.hid c2
  have C3 := Lib.hid c3
  have hp0 : ¬ x.pos < 0 := by omega
  clear hT hT2 hE hP c2 c3 z3 z1 ea ec ew hG hGs h hw hK hp
  go_enter Tryz.func55, Tryz.ntmps55
  go_wp2_with fail
  refine (c1).mono ?_
  rintro e wa ⟨rfl, hba⟩
  have p0 : wa.cell? ⟨w.heap.size, 0, none⟩ = some (.int .i64 1) := hba.cell (by go_simp)
  have p1 : wa.cell? ⟨w.heap.size, 1, none⟩ = some (.int .i64 x.pos) := hba.cell (by go_simp)
  have p2 : wa.cell? ⟨w.heap.size, 2, none⟩ = some (.slice Av nv cv) := hba.cell (by go_simp)
  have Ba := B0.then hba
  clear c1
  go_wp2_with fail
  refine (C2.out _).mono ?_
  rintro e' w1 ⟨rfl, hb1⟩
  replace p0 := hb1.cell p0
  replace p1 := hb1.cell p1
  have B1 := Ba.then hb1
  go_wp2_with fail
  obtain ⟨Z, hZ⟩ : ∃ Z, Z = w1.drew := ⟨_, rfl⟩
  have z0 : Z.cell? ⟨w.heap.size, 0, none⟩ = some (.int .i64 1) := by rw [hZ]; exact p0
  have z1 : Z.cell? ⟨w.heap.size, 1, none⟩ = some (.int .i64 x.pos) := by rw [hZ]; exact p1
  have BZ : Bw w1 Z := by rw [hZ]; exact (Bw.refl w1).drew
  have HZ := Lib.hid hZ
  clear hZ
  refine wp_region_held_drew (S := (fun w' => w'.cell? ⟨w.heap.size, 0, none⟩ = some (.int .i64 1) ∧ w'.cell? ⟨w.heap.size, 1, none⟩ = some (.int .i64 x.pos))) (by kernel_rfl) ?_ (fun hHeld => ?_)
  · exact ⟨p0, p1⟩
  rw [← HZ.out] at hHeld ⊢
  refine wpAnyH_take (i := 1) (oi := _) (v := ?_) rfl (by kernel_rfl) (by kernel_rfl) (by kernel_rfl) (fun _ _ _ h => h) (Or.inl ⟨by rfl, ?_⟩) (by assumption) ?_
  rotate_left 1
  · (intro wS hSw; (try dsimp only at hSw); go_simp; try with_reducible rfl)
  try simp only [Act.put, List.getElem_toArray, List.getElem_cons_zero, List.getElem_cons_succ, List.setIfInBounds_toArray, List.set_cons_zero, List.set_cons_succ]
  refine wpAnyH_take (i := 2) (oi := _) (v := ?_) rfl (by kernel_rfl) (by kernel_rfl) (by kernel_rfl) (fun _ _ _ h => h) (Or.inl ⟨by rfl, ?_⟩) (by assumption) ?_
  rotate_left 1
  · (intro wS hSw; (try dsimp only at hSw); go_simp; try with_reducible rfl)
  try simp only [Act.put, List.getElem_toArray, List.getElem_cons_zero, List.getElem_cons_succ, List.setIfInBounds_toArray, List.set_cons_zero, List.set_cons_succ]
  refine wpAnyH_take (i := 3) (oi := _) (v := ?_) rfl (by kernel_rfl) (by kernel_rfl) (by kernel_rfl) (fun _ _ _ h => h) (Or.inl ⟨by rfl, ?_⟩) (by assumption) ?_
  rotate_left 1
  · (intro wS hSw; (try dsimp only at hSw); go_simp; try with_reducible rfl)
  try simp only [Act.put, List.getElem_toArray, List.getElem_cons_zero, List.getElem_cons_succ, List.setIfInBounds_toArray, List.set_cons_zero, List.set_cons_succ]
  try simp only [show IntKind.i64.wrap 0 = 0 from rfl, show IntKind.i64.wrap 1 = 1 from rfl, show IntKind.i64.wrap 2 = 2 from rfl, show IntKind.i64.wrap 3 = 3 from rfl]
  refine wpAnyH_take (i := 7) (oi := _) (v := ?_) rfl (by kernel_rfl) (by kernel_rfl) (by kernel_rfl) (fun _ _ _ h => h) (Or.inl ⟨by rfl, ?_⟩) (by assumption) ?_
  rotate_left 1
  · (intro wS hSw; (try dsimp only at hSw); go_simp; try with_reducible rfl)
  try simp only [Act.put, List.getElem_toArray, List.getElem_cons_zero, List.getElem_cons_succ, List.setIfInBounds_toArray, List.set_cons_zero, List.set_cons_succ]
  refine wpAnyH_take (i := 8) (oi := _) (v := ?_) rfl (by kernel_rfl) (by kernel_rfl) (by kernel_rfl) (fun _ _ _ h => h) (Or.inl ⟨by rfl, ?_⟩) (by assumption) ?_
  rotate_left 1
  · (intro wS hSw; (try dsimp only at hSw); go_simp; try with_reducible rfl)
  try simp only [Act.put, List.getElem_toArray, List.getElem_cons_zero, List.getElem_cons_succ, List.setIfInBounds_toArray, List.set_cons_zero, List.set_cons_succ]
  refine wpAnyH_take (i := 12) (oi := _) (v := ?_) rfl (by kernel_rfl) (by kernel_rfl) (by kernel_rfl) (fun _ _ _ h => h) (Or.inl ⟨by rfl, ?_⟩) (by assumption) ?_
  rotate_left 1
  · (intro wS hSw; (try dsimp only at hSw); go_simp; try with_reducible rfl)
  try simp only [Act.put, List.getElem_toArray, List.getElem_cons_zero, List.getElem_cons_succ, List.setIfInBounds_toArray, List.set_cons_zero, List.set_cons_succ]
  refine wpAnyH_ready (rs := [0, 9]) (by kernel_rfl) (by simp) (AllReadyH.cons (o := _) rfl (fun K hK => ?_) (AllReadyH.cons (o := _) rfl (fun K hK => ?_) AllReadyH.nil))
  · go_simp
    have A : Bw Z (Z.alloc (.cells #[.string ⟨#[100, 117, 97, 108, 32, 111, 102, 32, 100, 117, 97, 108]⟩, .string ⟨#[112, 117, 115, 104, 32, 100, 117, 97, 108]⟩, .string ⟨#[105, 100, 101, 109, 112, 111, 116, 101, 110, 116]⟩, .string ⟨#[99, 111, 109, 109, 117, 116, 101]⟩] 9)) := (Bw.refl Z).alloc _
    have y0 := A.cell z0
    have y1 := A.cell z1
    have yr : (Z.alloc (.cells #[.string ⟨#[100, 117, 97, 108, 32, 111, 102, 32, 100, 117, 97, 108]⟩, .string ⟨#[112, 117, 115, 104, 32, 100, 117, 97, 108]⟩, .string ⟨#[105, 100, 101, 109, 112, 111, 116, 101, 110, 116]⟩, .string ⟨#[99, 111, 109, 109, 117, 116, 101]⟩] 9)).cell? ⟨Z.heap.size, 0, none⟩ = some (.string ⟨#[100, 117, 97, 108, 32, 111, 102, 32, 100, 117, 97, 108]⟩) := by go_simp
    refine hK.out _ _ ⟨y0, y1⟩ (fun hHeld => ?_)
    clear hK K
    try simp only [Act.put, List.getElem_toArray, List.getElem_cons_zero, List.getElem_cons_succ, List.setIfInBounds_toArray, List.set_cons_zero, List.set_cons_succ]
    refine wpAnyH_strong (S' := (fun w' => w'.cell? ⟨w.heap.size, 0, none⟩ = some (.int .i64 1) ∧ w'.cell? ⟨w.heap.size, 1, none⟩ = some (.int .i64 x.pos) ∧ w'.cell? ⟨Z.heap.size, 0, none⟩ = some (.string ⟨#[100, 117, 97, 108, 32, 111, 102, 32, 100, 117, 97, 108]⟩))) (fun _ h => ⟨h.1, h.2.1⟩) _ _ _ _ ?_
    replace hHeld := And.intro y0 (And.intro y1 yr)
    refine wpAnyH_take (i := 4) (oi := _) (v := ?_) rfl (by kernel_rfl) (by kernel_rfl) (by kernel_rfl) (fun _ _ _ h => h) (Or.inl ⟨by rfl, ?_⟩) (by assumption) ?_
    rotate_left 1
    · (intro wS hSw; (try dsimp only at hSw); go_simp; try with_reducible rfl)
    try simp only [Act.put, List.getElem_toArray, List.getElem_cons_zero, List.getElem_cons_succ, List.setIfInBounds_toArray, List.set_cons_zero, List.set_cons_succ]
    refine wpAnyH_take (i := 5) (oi := _) (v := ?_) rfl (by kernel_rfl) (by kernel_rfl) (by kernel_rfl) (fun _ _ _ h => h) (Or.inl ⟨by rfl, ?_⟩) (by assumption) ?_
    rotate_left 1
    · (intro wS hSw; (try dsimp only at hSw); go_simp; try with_reducible rfl)
    try simp only [Act.put, List.getElem_toArray, List.getElem_cons_zero, List.getElem_cons_succ, List.setIfInBounds_toArray, List.set_cons_zero, List.set_cons_succ]
    refine wpAnyH_take (i := 6) (oi := _) (v := ?_) rfl (by kernel_rfl) (by kernel_rfl) (by kernel_rfl) (fun _ _ _ h => h) (Or.inl ⟨by rfl, ?_⟩) (by assumption) ?_
    rotate_left 1
    · (intro wS hSw; (try dsimp only at hSw); go_simp; try with_reducible rfl)
    try simp only [Act.put, List.getElem_toArray, List.getElem_cons_zero, List.getElem_cons_succ, List.setIfInBounds_toArray, List.set_cons_zero, List.set_cons_succ]
    refine wpAnyH_ready (rs := [9]) (by kernel_rfl) (by simp) (AllReadyH.cons (o := _) rfl (fun K hK => ?_) AllReadyH.nil)
    go_simp
    refine (C3.out _).mono ?_
    rintro e' w5 ⟨rfl, hb5⟩
    have B5 := (BZ.then A).then hb5
    refine hK.out _ _ ⟨hb5.cell y0, hb5.cell y1, hb5.cell yr⟩ (fun hHeld => ?_)
    clear hK K
    try simp only [Act.put, List.getElem_toArray, List.getElem_cons_zero, List.getElem_cons_succ, List.setIfInBounds_toArray, List.set_cons_zero, List.set_cons_succ]
    refine wpAnyH_take (i := 10) (oi := _) (v := ?_) rfl (by kernel_rfl) (by kernel_rfl) (by kernel_rfl) (fun _ _ _ h => h) (Or.inl ⟨by rfl, ?_⟩) (by assumption) ?_
    rotate_left 1
    · (intro wS hSw; (try dsimp only at hSw); go_simp; try with_reducible rfl)
    try simp only [Act.put, List.getElem_toArray, List.getElem_cons_zero, List.getElem_cons_succ, List.setIfInBounds_toArray, List.set_cons_zero, List.set_cons_succ]
    refine wpAnyH_take (i := 11) (oi := _) (v := ?_) rfl (by kernel_rfl) (by kernel_rfl) (by kernel_rfl) (fun _ _ _ h => h) (Or.inl ⟨by rfl, ?_⟩) (by assumption) ?_
    rotate_left 1
    · (intro wS hSw; (try dsimp only at hSw); go_simp; try with_reducible rfl)
    try simp only [Act.put, List.getElem_toArray, List.getElem_cons_zero, List.getElem_cons_succ, List.setIfInBounds_toArray, List.set_cons_zero, List.set_cons_succ]
    refine wpAnyH_take (i := 13) (oi := _) (v := ?_) rfl (by kernel_rfl) (by kernel_rfl) (by kernel_rfl) (fun _ _ _ h => h) (Or.inl ⟨by rfl, ?_⟩) (by assumption) ?_
    rotate_left 1
    · (intro wS hSw; (try dsimp only at hSw); go_simp; try with_reducible rfl)
    try simp only [Act.put, List.getElem_toArray, List.getElem_cons_zero, List.getElem_cons_succ, List.setIfInBounds_toArray, List.set_cons_zero, List.set_cons_succ]
    refine wpAnyH_take (i := 14) (oi := _) (v := ?_) rfl (by kernel_rfl) (by kernel_rfl) (by kernel_rfl) (fun _ _ _ h => h) (Or.inl ⟨by rfl, ?_⟩) (by assumption) ?_
    rotate_left 1
    · (intro wS hSw; (try dsimp only at hSw); go_simp; try with_reducible rfl)
    try simp only [Act.put, List.getElem_toArray, List.getElem_cons_zero, List.getElem_cons_succ, List.setIfInBounds_toArray, List.set_cons_zero, List.set_cons_succ]
    refine wpAnyH_done (by kernel_rfl) ?_ _
    go_wp2
    go_ret
    exact Ret.str HF.out.symm (B1.then B5)
  · go_simp
    refine (C3.out _).mono ?_
    rintro e' w5 ⟨rfl, hb5⟩
    have y0 := hb5.cell z0
    have y1 := hb5.cell z1
    refine hK.out _ _ ⟨y0, y1⟩ (fun hHeld => ?_)
    clear hK K
    try simp only [Act.put, List.getElem_toArray, List.getElem_cons_zero, List.getElem_cons_succ, List.setIfInBounds_toArray, List.set_cons_zero, List.set_cons_succ]
    refine wpAnyH_ready (rs := [0]) (by kernel_rfl) (by simp) (AllReadyH.cons (o := _) rfl (fun K hK => ?_) AllReadyH.nil)
    go_simp
    have A : Bw w5 (w5.alloc (.cells #[.string ⟨#[100, 117, 97, 108, 32, 111, 102, 32, 100, 117, 97, 108]⟩, .string ⟨#[112, 117, 115, 104, 32, 100, 117, 97, 108]⟩, .string ⟨#[105, 100, 101, 109, 112, 111, 116, 101, 110, 116]⟩, .string ⟨#[99, 111, 109, 109, 117, 116, 101]⟩] 9)) := (Bw.refl w5).alloc _
    replace y0 := A.cell y0
    replace y1 := A.cell y1
    have yr : (w5.alloc (.cells #[.string ⟨#[100, 117, 97, 108, 32, 111, 102, 32, 100, 117, 97, 108]⟩, .string ⟨#[112, 117, 115, 104, 32, 100, 117, 97, 108]⟩, .string ⟨#[105, 100, 101, 109, 112, 111, 116, 101, 110, 116]⟩, .string ⟨#[99, 111, 109, 109, 117, 116, 101]⟩] 9)).cell? ⟨w5.heap.size, 0, none⟩ = some (.string ⟨#[100, 117, 97, 108, 32, 111, 102, 32, 100, 117, 97, 108]⟩) := by go_simp
    have B5 := BZ.then (hb5.then A)
    refine hK.out _ _ ⟨y0, y1⟩ (fun hHeld => ?_)
    clear hK K
    try simp only [Act.put, List.getElem_toArray, List.getElem_cons_zero, List.getElem_cons_succ, List.setIfInBounds_toArray, List.set_cons_zero, List.set_cons_succ]
    refine wpAnyH_strong (S' := (fun w' => w'.cell? ⟨w.heap.size, 0, none⟩ = some (.int .i64 1) ∧ w'.cell? ⟨w.heap.size, 1, none⟩ = some (.int .i64 x.pos) ∧ w'.cell? ⟨w5.heap.size, 0, none⟩ = some (.string ⟨#[100, 117, 97, 108, 32, 111, 102, 32, 100, 117, 97, 108]⟩))) (fun _ h => ⟨h.1, h.2.1⟩) _ _ _ _ ?_
    replace hHeld := And.intro y0 (And.intro y1 yr)
    refine wpAnyH_take (i := 4) (oi := _) (v := ?_) rfl (by kernel_rfl) (by kernel_rfl) (by kernel_rfl) (fun _ _ _ h => h) (Or.inl ⟨by rfl, ?_⟩) (by assumption) ?_
    rotate_left 1
    · (intro wS hSw; (try dsimp only at hSw); go_simp; try with_reducible rfl)
    try simp only [Act.put, List.getElem_toArray, List.getElem_cons_zero, List.getElem_cons_succ, List.setIfInBounds_toArray, List.set_cons_zero, List.set_cons_succ]
    refine wpAnyH_take (i := 5) (oi := _) (v := ?_) rfl (by kernel_rfl) (by kernel_rfl) (by kernel_rfl) (fun _ _ _ h => h) (Or.inl ⟨by rfl, ?_⟩) (by assumption) ?_
    rotate_left 1
    · (intro wS hSw; (try dsimp only at hSw); go_simp; try with_reducible rfl)
    try simp only [Act.put, List.getElem_toArray, List.getElem_cons_zero, List.getElem_cons_succ, List.setIfInBounds_toArray, List.set_cons_zero, List.set_cons_succ]
    refine wpAnyH_take (i := 6) (oi := _) (v := ?_) rfl (by kernel_rfl) (by kernel_rfl) (by kernel_rfl) (fun _ _ _ h => h) (Or.inl ⟨by rfl, ?_⟩) (by assumption) ?_
    rotate_left 1
    · (intro wS hSw; (try dsimp only at hSw); go_simp; try with_reducible rfl)
    try simp only [Act.put, List.getElem_toArray, List.getElem_cons_zero, List.getElem_cons_succ, List.setIfInBounds_toArray, List.set_cons_zero, List.set_cons_succ]
    refine wpAnyH_take (i := 10) (oi := _) (v := ?_) rfl (by kernel_rfl) (by kernel_rfl) (by kernel_rfl) (fun _ _ _ h => h) (Or.inl ⟨by rfl, ?_⟩) (by assumption) ?_
    rotate_left 1
    · (intro wS hSw; (try dsimp only at hSw); go_simp; try with_reducible rfl)
    try simp only [Act.put, List.getElem_toArray, List.getElem_cons_zero, List.getElem_cons_succ, List.setIfInBounds_toArray, List.set_cons_zero, List.set_cons_succ]
    refine wpAnyH_take (i := 11) (oi := _) (v := ?_) rfl (by kernel_rfl) (by kernel_rfl) (by kernel_rfl) (fun _ _ _ h => h) (Or.inl ⟨by rfl, ?_⟩) (by assumption) ?_
    rotate_left 1
    · (intro wS hSw; (try dsimp only at hSw); go_simp; try with_reducible rfl)
    try simp only [Act.put, List.getElem_toArray, List.getElem_cons_zero, List.getElem_cons_succ, List.setIfInBounds_toArray, List.set_cons_zero, List.set_cons_succ]
    refine wpAnyH_take (i := 13) (oi := _) (v := ?_) rfl (by kernel_rfl) (by kernel_rfl) (by kernel_rfl) (fun _ _ _ h => h) (Or.inl ⟨by rfl, ?_⟩) (by assumption) ?_
    rotate_left 1
    · (intro wS hSw; (try dsimp only at hSw); go_simp; try with_reducible rfl)
    try simp only [Act.put, List.getElem_toArray, List.getElem_cons_zero, List.getElem_cons_succ, List.setIfInBounds_toArray, List.set_cons_zero, List.set_cons_succ]
    refine wpAnyH_take (i := 14) (oi := _) (v := ?_) rfl (by kernel_rfl) (by kernel_rfl) (by kernel_rfl) (fun _ _ _ h => h) (Or.inl ⟨by rfl, ?_⟩) (by assumption) ?_
    rotate_left 1
    · (intro wS hSw; (try dsimp only at hSw); go_simp; try with_reducible rfl)
    try simp only [Act.put, List.getElem_toArray, List.getElem_cons_zero, List.getElem_cons_succ, List.setIfInBounds_toArray, List.set_cons_zero, List.set_cons_succ]
    refine wpAnyH_done (by kernel_rfl) ?_ _
    go_wp2
    go_ret
    exact Ret.str HF.out.symm (B1.then B5)
set_option maxRecDepth 100000 in
set_option maxHeartbeats 6400000 in
theorem I_RewriteLine2 (w : World) (x : GRewriting) (v : Value) (h : Rd rNodes w x.after [v]) (hw : (Lit.int .i64 x.pos).wf = true) (hK : x.rule = 2) (hp : 0 ≤ x.pos) (he : (exprText x.after).toList.isEmpty = false) :
    Calls Tryz.prog 55 #[.agg #[.int .i64 2, .int .i64 x.pos, v]] w (Ret w (.string (rewLine x))) := by
  obtain ⟨Av, nv, cv, rfl, l1, l2, l3⟩ := rSl_open h
  clear l1 l2 l3
  have B0 : Bw w (w.alloc (.cells #[.int .i64 2, .int .i64 x.pos, .slice Av nv cv] 64)) := (Bw.refl w).alloc _
  obtain ⟨T, hT⟩ : ∃ T, T = rewLine x := ⟨_, rfl⟩
  rw [← hT]
  have hT2 : T = ruleWord 2 ++ ⟨#[32, 97, 116, 32]⟩ ++ fmtInt x.pos ++ ⟨#[58, 32]⟩ ++ exprText x.after := by rw [hT, rewLine, hK, he, decide_eq_true hp]; rfl
  have c1 := I_FormatExpression _ x.after _ (h.bw rNodes_good B0)
  have c2 := fun W => I_within W 2 1 4
  rw [show inB 2 1 4 = true from rfl] at c2
  have c3 := fun W => I_FormatInt W x.pos hw
  have z3 := (fmtInt_size hw).2
  have z1 := exprText_size x.after
  obtain ⟨E, hE⟩ : ∃ E, E = exprText x.after := ⟨_, rfl⟩
  obtain ⟨P, hP⟩ : ∃ P, P = fmtInt x.pos := ⟨_, rfl⟩
  rw [← hE] at c1 z1 hT2 he
  rw [← hP] at z3 hT2
  simp only [← hP] at c3
  have ea : (⟨#[32, 97, 116, 32]⟩ : ByteArray).size = 4 := rfl
  have ec : (⟨#[58, 32]⟩ : ByteArray).size = 2 := rfl
  have ew : (⟨#[112, 117, 115, 104, 32, 100, 117, 97, 108]⟩ : ByteArray).size ≤ 12 := by show _ ≤ _; decide
  obtain ⟨G, hG⟩ : ∃ G : ByteArray, G = ⟨#[112, 117, 115, 104, 32, 100, 117, 97, 108]⟩ ++ ⟨#[32, 97, 116, 32]⟩ := ⟨_, rfl⟩
  have hGs : G.size ≤ 16 := by rw [hG, size_append]; omega
  have a1 : ∀ W, (Op.stringOp .add ⟨#[112, 117, 115, 104, 32, 100, 117, 97, 108]⟩ ⟨#[32, 97, 116, 32]⟩).run Tryz.prog W = .ok (.string G) W := by rw [hG]; exact add_sum (by omega)
  have a2 : ∀ W, (Op.stringOp .add G P).run Tryz.prog W = .ok (.string (G ++ P)) W := add_sum (by omega)
  have a3 : ∀ W, (Op.stringOp .add (G ++ P) ⟨#[58, 32]⟩).run Tryz.prog W = .ok (.string (G ++ P ++ ⟨#[58, 32]⟩)) W := add_sum (by rw [size_append]; omega)
  have a4 : ∀ W, (Op.stringOp .add (G ++ P ++ ⟨#[58, 32]⟩) E).run Tryz.prog W = .ok (.string (G ++ P ++ ⟨#[58, 32]⟩ ++ E)) W := add_sum (by rw [size_append, size_append]; omega)
  have HF := Lib.hid (show T = G ++ P ++ ⟨#[58, 32]⟩ ++ E by rw [hT2, hG]; rfl)
  have C2 := Lib.hid c2
  have C3 := Lib.hid c3
  have hp0 : ¬ x.pos < 0 := by omega
  clear hT hT2 hE hP c2 c3 z3 z1 ea ec ew hG hGs h hw hK hp
  go_enter Tryz.func55, Tryz.ntmps55
  go_wp2_with fail
  refine (c1).mono ?_
  rintro e wa ⟨rfl, hba⟩
  have p0 : wa.cell? ⟨w.heap.size, 0, none⟩ = some (.int .i64 2) := hba.cell (by go_simp)
  have p1 : wa.cell? ⟨w.heap.size, 1, none⟩ = some (.int .i64 x.pos) := hba.cell (by go_simp)
  have p2 : wa.cell? ⟨w.heap.size, 2, none⟩ = some (.slice Av nv cv) := hba.cell (by go_simp)
  have Ba := B0.then hba
  clear c1
  go_wp2_with fail
  refine (C2.out _).mono ?_
  rintro e' w1 ⟨rfl, hb1⟩
  replace p0 := hb1.cell p0
  replace p1 := hb1.cell p1
  have B1 := Ba.then hb1
  go_wp2_with fail
  obtain ⟨Z, hZ⟩ : ∃ Z, Z = w1.drew := ⟨_, rfl⟩
  have z0 : Z.cell? ⟨w.heap.size, 0, none⟩ = some (.int .i64 2) := by rw [hZ]; exact p0
  have z1 : Z.cell? ⟨w.heap.size, 1, none⟩ = some (.int .i64 x.pos) := by rw [hZ]; exact p1
  have BZ : Bw w1 Z := by rw [hZ]; exact (Bw.refl w1).drew
  have HZ := Lib.hid hZ
  clear hZ
  refine wp_region_held_drew (S := (fun w' => w'.cell? ⟨w.heap.size, 0, none⟩ = some (.int .i64 2) ∧ w'.cell? ⟨w.heap.size, 1, none⟩ = some (.int .i64 x.pos))) (by kernel_rfl) ?_ (fun hHeld => ?_)
  · exact ⟨p0, p1⟩
  rw [← HZ.out] at hHeld ⊢
  refine wpAnyH_take (i := 1) (oi := _) (v := ?_) rfl (by kernel_rfl) (by kernel_rfl) (by kernel_rfl) (fun _ _ _ h => h) (Or.inl ⟨by rfl, ?_⟩) (by assumption) ?_
  rotate_left 1
  · (intro wS hSw; (try dsimp only at hSw); go_simp; try with_reducible rfl)
  try simp only [Act.put, List.getElem_toArray, List.getElem_cons_zero, List.getElem_cons_succ, List.setIfInBounds_toArray, List.set_cons_zero, List.set_cons_succ]
  refine wpAnyH_take (i := 2) (oi := _) (v := ?_) rfl (by kernel_rfl) (by kernel_rfl) (by kernel_rfl) (fun _ _ _ h => h) (Or.inl ⟨by rfl, ?_⟩) (by assumption) ?_
  rotate_left 1
  · (intro wS hSw; (try dsimp only at hSw); go_simp; try with_reducible rfl)
  try simp only [Act.put, List.getElem_toArray, List.getElem_cons_zero, List.getElem_cons_succ, List.setIfInBounds_toArray, List.set_cons_zero, List.set_cons_succ]
  refine wpAnyH_take (i := 3) (oi := _) (v := ?_) rfl (by kernel_rfl) (by kernel_rfl) (by kernel_rfl) (fun _ _ _ h => h) (Or.inl ⟨by rfl, ?_⟩) (by assumption) ?_
  rotate_left 1
  · (intro wS hSw; (try dsimp only at hSw); go_simp; try with_reducible rfl)
  try simp only [Act.put, List.getElem_toArray, List.getElem_cons_zero, List.getElem_cons_succ, List.setIfInBounds_toArray, List.set_cons_zero, List.set_cons_succ]
  try simp only [show IntKind.i64.wrap 0 = 0 from rfl, show IntKind.i64.wrap 1 = 1 from rfl, show IntKind.i64.wrap 2 = 2 from rfl, show IntKind.i64.wrap 3 = 3 from rfl]
  refine wpAnyH_take (i := 7) (oi := _) (v := ?_) rfl (by kernel_rfl) (by kernel_rfl) (by kernel_rfl) (fun _ _ _ h => h) (Or.inl ⟨by rfl, ?_⟩) (by assumption) ?_
  rotate_left 1
  · (intro wS hSw; (try dsimp only at hSw); go_simp; try with_reducible rfl)
  try simp only [Act.put, List.getElem_toArray, List.getElem_cons_zero, List.getElem_cons_succ, List.setIfInBounds_toArray, List.set_cons_zero, List.set_cons_succ]
  refine wpAnyH_take (i := 8) (oi := _) (v := ?_) rfl (by kernel_rfl) (by kernel_rfl) (by kernel_rfl) (fun _ _ _ h => h) (Or.inl ⟨by rfl, ?_⟩) (by assumption) ?_
  rotate_left 1
  · (intro wS hSw; (try dsimp only at hSw); go_simp; try with_reducible rfl)
  try simp only [Act.put, List.getElem_toArray, List.getElem_cons_zero, List.getElem_cons_succ, List.setIfInBounds_toArray, List.set_cons_zero, List.set_cons_succ]
  refine wpAnyH_take (i := 12) (oi := _) (v := ?_) rfl (by kernel_rfl) (by kernel_rfl) (by kernel_rfl) (fun _ _ _ h => h) (Or.inl ⟨by rfl, ?_⟩) (by assumption) ?_
  rotate_left 1
  · (intro wS hSw; (try dsimp only at hSw); go_simp; try with_reducible rfl)
  try simp only [Act.put, List.getElem_toArray, List.getElem_cons_zero, List.getElem_cons_succ, List.setIfInBounds_toArray, List.set_cons_zero, List.set_cons_succ]
  refine wpAnyH_ready (rs := [0, 9]) (by kernel_rfl) (by simp) (AllReadyH.cons (o := _) rfl (fun K hK => ?_) (AllReadyH.cons (o := _) rfl (fun K hK => ?_) AllReadyH.nil))
  · go_simp
    have A : Bw Z (Z.alloc (.cells #[.string ⟨#[100, 117, 97, 108, 32, 111, 102, 32, 100, 117, 97, 108]⟩, .string ⟨#[112, 117, 115, 104, 32, 100, 117, 97, 108]⟩, .string ⟨#[105, 100, 101, 109, 112, 111, 116, 101, 110, 116]⟩, .string ⟨#[99, 111, 109, 109, 117, 116, 101]⟩] 9)) := (Bw.refl Z).alloc _
    have y0 := A.cell z0
    have y1 := A.cell z1
    have yr : (Z.alloc (.cells #[.string ⟨#[100, 117, 97, 108, 32, 111, 102, 32, 100, 117, 97, 108]⟩, .string ⟨#[112, 117, 115, 104, 32, 100, 117, 97, 108]⟩, .string ⟨#[105, 100, 101, 109, 112, 111, 116, 101, 110, 116]⟩, .string ⟨#[99, 111, 109, 109, 117, 116, 101]⟩] 9)).cell? ⟨Z.heap.size, 1, none⟩ = some (.string ⟨#[112, 117, 115, 104, 32, 100, 117, 97, 108]⟩) := by go_simp
    refine hK.out _ _ ⟨y0, y1⟩ (fun hHeld => ?_)
    clear hK K
    try simp only [Act.put, List.getElem_toArray, List.getElem_cons_zero, List.getElem_cons_succ, List.setIfInBounds_toArray, List.set_cons_zero, List.set_cons_succ]
    refine wpAnyH_strong (S' := (fun w' => w'.cell? ⟨w.heap.size, 0, none⟩ = some (.int .i64 2) ∧ w'.cell? ⟨w.heap.size, 1, none⟩ = some (.int .i64 x.pos) ∧ w'.cell? ⟨Z.heap.size, 1, none⟩ = some (.string ⟨#[112, 117, 115, 104, 32, 100, 117, 97, 108]⟩))) (fun _ h => ⟨h.1, h.2.1⟩) _ _ _ _ ?_
    replace hHeld := And.intro y0 (And.intro y1 yr)
    refine wpAnyH_take (i := 4) (oi := _) (v := ?_) rfl (by kernel_rfl) (by kernel_rfl) (by kernel_rfl) (fun _ _ _ h => h) (Or.inl ⟨by rfl, ?_⟩) (by assumption) ?_
    rotate_left 1
    · (intro wS hSw; (try dsimp only at hSw); go_simp; try with_reducible rfl)
    try simp only [Act.put, List.getElem_toArray, List.getElem_cons_zero, List.getElem_cons_succ, List.setIfInBounds_toArray, List.set_cons_zero, List.set_cons_succ]
    refine wpAnyH_take (i := 5) (oi := _) (v := ?_) rfl (by kernel_rfl) (by kernel_rfl) (by kernel_rfl) (fun _ _ _ h => h) (Or.inl ⟨by rfl, ?_⟩) (by assumption) ?_
    rotate_left 1
    · (intro wS hSw; (try dsimp only at hSw); go_simp; try with_reducible rfl)
    try simp only [Act.put, List.getElem_toArray, List.getElem_cons_zero, List.getElem_cons_succ, List.setIfInBounds_toArray, List.set_cons_zero, List.set_cons_succ]
    refine wpAnyH_take (i := 6) (oi := _) (v := ?_) rfl (by kernel_rfl) (by kernel_rfl) (by kernel_rfl) (fun _ _ _ h => h) (Or.inl ⟨by rfl, ?_⟩) (by assumption) ?_
    rotate_left 1
    · (intro wS hSw; (try dsimp only at hSw); go_simp; try with_reducible rfl)
    try simp only [Act.put, List.getElem_toArray, List.getElem_cons_zero, List.getElem_cons_succ, List.setIfInBounds_toArray, List.set_cons_zero, List.set_cons_succ]
    refine wpAnyH_ready (rs := [9]) (by kernel_rfl) (by simp) (AllReadyH.cons (o := _) rfl (fun K hK => ?_) AllReadyH.nil)
    go_simp
    refine (C3.out _).mono ?_
    rintro e' w5 ⟨rfl, hb5⟩
    have B5 := (BZ.then A).then hb5
    refine hK.out _ _ ⟨hb5.cell y0, hb5.cell y1, hb5.cell yr⟩ (fun hHeld => ?_)
    clear hK K
    try simp only [Act.put, List.getElem_toArray, List.getElem_cons_zero, List.getElem_cons_succ, List.setIfInBounds_toArray, List.set_cons_zero, List.set_cons_succ]
    refine wpAnyH_take (i := 10) (oi := _) (v := ?_) rfl (by kernel_rfl) (by kernel_rfl) (by kernel_rfl) (fun _ _ _ h => h) (Or.inl ⟨by rfl, ?_⟩) (by assumption) ?_
    rotate_left 1
    · (intro wS hSw; (try dsimp only at hSw); go_simp; try with_reducible rfl)
    try simp only [Act.put, List.getElem_toArray, List.getElem_cons_zero, List.getElem_cons_succ, List.setIfInBounds_toArray, List.set_cons_zero, List.set_cons_succ]
    refine wpAnyH_take (i := 11) (oi := _) (v := ?_) rfl (by kernel_rfl) (by kernel_rfl) (by kernel_rfl) (fun _ _ _ h => h) (Or.inl ⟨by rfl, ?_⟩) (by assumption) ?_
    rotate_left 1
    · (intro wS hSw; (try dsimp only at hSw); go_simp; try with_reducible rfl)
    try simp only [Act.put, List.getElem_toArray, List.getElem_cons_zero, List.getElem_cons_succ, List.setIfInBounds_toArray, List.set_cons_zero, List.set_cons_succ]
    refine wpAnyH_take (i := 13) (oi := _) (v := ?_) rfl (by kernel_rfl) (by kernel_rfl) (by kernel_rfl) (fun _ _ _ h => h) (Or.inl ⟨by rfl, ?_⟩) (by assumption) ?_
    rotate_left 1
    · (intro wS hSw; (try dsimp only at hSw); go_simp; try with_reducible rfl)
    try simp only [Act.put, List.getElem_toArray, List.getElem_cons_zero, List.getElem_cons_succ, List.setIfInBounds_toArray, List.set_cons_zero, List.set_cons_succ]
    refine wpAnyH_take (i := 14) (oi := _) (v := ?_) rfl (by kernel_rfl) (by kernel_rfl) (by kernel_rfl) (fun _ _ _ h => h) (Or.inl ⟨by rfl, ?_⟩) (by assumption) ?_
    rotate_left 1
    · (intro wS hSw; (try dsimp only at hSw); go_simp; try with_reducible rfl)
    try simp only [Act.put, List.getElem_toArray, List.getElem_cons_zero, List.getElem_cons_succ, List.setIfInBounds_toArray, List.set_cons_zero, List.set_cons_succ]
    refine wpAnyH_done (by kernel_rfl) ?_ _
    go_wp2
    go_ret
    exact Ret.str HF.out.symm (B1.then B5)
  · go_simp
    refine (C3.out _).mono ?_
    rintro e' w5 ⟨rfl, hb5⟩
    have y0 := hb5.cell z0
    have y1 := hb5.cell z1
    refine hK.out _ _ ⟨y0, y1⟩ (fun hHeld => ?_)
    clear hK K
    try simp only [Act.put, List.getElem_toArray, List.getElem_cons_zero, List.getElem_cons_succ, List.setIfInBounds_toArray, List.set_cons_zero, List.set_cons_succ]
    refine wpAnyH_ready (rs := [0]) (by kernel_rfl) (by simp) (AllReadyH.cons (o := _) rfl (fun K hK => ?_) AllReadyH.nil)
    go_simp
    have A : Bw w5 (w5.alloc (.cells #[.string ⟨#[100, 117, 97, 108, 32, 111, 102, 32, 100, 117, 97, 108]⟩, .string ⟨#[112, 117, 115, 104, 32, 100, 117, 97, 108]⟩, .string ⟨#[105, 100, 101, 109, 112, 111, 116, 101, 110, 116]⟩, .string ⟨#[99, 111, 109, 109, 117, 116, 101]⟩] 9)) := (Bw.refl w5).alloc _
    replace y0 := A.cell y0
    replace y1 := A.cell y1
    have yr : (w5.alloc (.cells #[.string ⟨#[100, 117, 97, 108, 32, 111, 102, 32, 100, 117, 97, 108]⟩, .string ⟨#[112, 117, 115, 104, 32, 100, 117, 97, 108]⟩, .string ⟨#[105, 100, 101, 109, 112, 111, 116, 101, 110, 116]⟩, .string ⟨#[99, 111, 109, 109, 117, 116, 101]⟩] 9)).cell? ⟨w5.heap.size, 1, none⟩ = some (.string ⟨#[112, 117, 115, 104, 32, 100, 117, 97, 108]⟩) := by go_simp
    have B5 := BZ.then (hb5.then A)
    refine hK.out _ _ ⟨y0, y1⟩ (fun hHeld => ?_)
    clear hK K
    try simp only [Act.put, List.getElem_toArray, List.getElem_cons_zero, List.getElem_cons_succ, List.setIfInBounds_toArray, List.set_cons_zero, List.set_cons_succ]
    refine wpAnyH_strong (S' := (fun w' => w'.cell? ⟨w.heap.size, 0, none⟩ = some (.int .i64 2) ∧ w'.cell? ⟨w.heap.size, 1, none⟩ = some (.int .i64 x.pos) ∧ w'.cell? ⟨w5.heap.size, 1, none⟩ = some (.string ⟨#[112, 117, 115, 104, 32, 100, 117, 97, 108]⟩))) (fun _ h => ⟨h.1, h.2.1⟩) _ _ _ _ ?_
    replace hHeld := And.intro y0 (And.intro y1 yr)
    refine wpAnyH_take (i := 4) (oi := _) (v := ?_) rfl (by kernel_rfl) (by kernel_rfl) (by kernel_rfl) (fun _ _ _ h => h) (Or.inl ⟨by rfl, ?_⟩) (by assumption) ?_
    rotate_left 1
    · (intro wS hSw; (try dsimp only at hSw); go_simp; try with_reducible rfl)
    try simp only [Act.put, List.getElem_toArray, List.getElem_cons_zero, List.getElem_cons_succ, List.setIfInBounds_toArray, List.set_cons_zero, List.set_cons_succ]
    refine wpAnyH_take (i := 5) (oi := _) (v := ?_) rfl (by kernel_rfl) (by kernel_rfl) (by kernel_rfl) (fun _ _ _ h => h) (Or.inl ⟨by rfl, ?_⟩) (by assumption) ?_
    rotate_left 1
    · (intro wS hSw; (try dsimp only at hSw); go_simp; try with_reducible rfl)
    try simp only [Act.put, List.getElem_toArray, List.getElem_cons_zero, List.getElem_cons_succ, List.setIfInBounds_toArray, List.set_cons_zero, List.set_cons_succ]
    refine wpAnyH_take (i := 6) (oi := _) (v := ?_) rfl (by kernel_rfl) (by kernel_rfl) (by kernel_rfl) (fun _ _ _ h => h) (Or.inl ⟨by rfl, ?_⟩) (by assumption) ?_
    rotate_left 1
    · (intro wS hSw; (try dsimp only at hSw); go_simp; try with_reducible rfl)
    try simp only [Act.put, List.getElem_toArray, List.getElem_cons_zero, List.getElem_cons_succ, List.setIfInBounds_toArray, List.set_cons_zero, List.set_cons_succ]
    refine wpAnyH_take (i := 10) (oi := _) (v := ?_) rfl (by kernel_rfl) (by kernel_rfl) (by kernel_rfl) (fun _ _ _ h => h) (Or.inl ⟨by rfl, ?_⟩) (by assumption) ?_
    rotate_left 1
    · (intro wS hSw; (try dsimp only at hSw); go_simp; try with_reducible rfl)
    try simp only [Act.put, List.getElem_toArray, List.getElem_cons_zero, List.getElem_cons_succ, List.setIfInBounds_toArray, List.set_cons_zero, List.set_cons_succ]
    refine wpAnyH_take (i := 11) (oi := _) (v := ?_) rfl (by kernel_rfl) (by kernel_rfl) (by kernel_rfl) (fun _ _ _ h => h) (Or.inl ⟨by rfl, ?_⟩) (by assumption) ?_
    rotate_left 1
    · (intro wS hSw; (try dsimp only at hSw); go_simp; try with_reducible rfl)
    try simp only [Act.put, List.getElem_toArray, List.getElem_cons_zero, List.getElem_cons_succ, List.setIfInBounds_toArray, List.set_cons_zero, List.set_cons_succ]
    refine wpAnyH_take (i := 13) (oi := _) (v := ?_) rfl (by kernel_rfl) (by kernel_rfl) (by kernel_rfl) (fun _ _ _ h => h) (Or.inl ⟨by rfl, ?_⟩) (by assumption) ?_
    rotate_left 1
    · (intro wS hSw; (try dsimp only at hSw); go_simp; try with_reducible rfl)
    try simp only [Act.put, List.getElem_toArray, List.getElem_cons_zero, List.getElem_cons_succ, List.setIfInBounds_toArray, List.set_cons_zero, List.set_cons_succ]
    refine wpAnyH_take (i := 14) (oi := _) (v := ?_) rfl (by kernel_rfl) (by kernel_rfl) (by kernel_rfl) (fun _ _ _ h => h) (Or.inl ⟨by rfl, ?_⟩) (by assumption) ?_
    rotate_left 1
    · (intro wS hSw; (try dsimp only at hSw); go_simp; try with_reducible rfl)
    try simp only [Act.put, List.getElem_toArray, List.getElem_cons_zero, List.getElem_cons_succ, List.setIfInBounds_toArray, List.set_cons_zero, List.set_cons_succ]
    refine wpAnyH_done (by kernel_rfl) ?_ _
    go_wp2
    go_ret
    exact Ret.str HF.out.symm (B1.then B5)
set_option maxRecDepth 100000 in
set_option maxHeartbeats 6400000 in
theorem I_RewriteLine3 (w : World) (x : GRewriting) (v : Value) (h : Rd rNodes w x.after [v]) (hw : (Lit.int .i64 x.pos).wf = true) (hK : x.rule = 3) (hp : 0 ≤ x.pos) (he : (exprText x.after).toList.isEmpty = false) :
    Calls Tryz.prog 55 #[.agg #[.int .i64 3, .int .i64 x.pos, v]] w (Ret w (.string (rewLine x))) := by
  obtain ⟨Av, nv, cv, rfl, l1, l2, l3⟩ := rSl_open h
  clear l1 l2 l3
  have B0 : Bw w (w.alloc (.cells #[.int .i64 3, .int .i64 x.pos, .slice Av nv cv] 64)) := (Bw.refl w).alloc _
  obtain ⟨T, hT⟩ : ∃ T, T = rewLine x := ⟨_, rfl⟩
  rw [← hT]
  have hT2 : T = ruleWord 3 ++ ⟨#[32, 97, 116, 32]⟩ ++ fmtInt x.pos ++ ⟨#[58, 32]⟩ ++ exprText x.after := by rw [hT, rewLine, hK, he, decide_eq_true hp]; rfl
  have c1 := I_FormatExpression _ x.after _ (h.bw rNodes_good B0)
  have c2 := fun W => I_within W 3 1 4
  rw [show inB 3 1 4 = true from rfl] at c2
  have c3 := fun W => I_FormatInt W x.pos hw
  have z3 := (fmtInt_size hw).2
  have z1 := exprText_size x.after
  obtain ⟨E, hE⟩ : ∃ E, E = exprText x.after := ⟨_, rfl⟩
  obtain ⟨P, hP⟩ : ∃ P, P = fmtInt x.pos := ⟨_, rfl⟩
  rw [← hE] at c1 z1 hT2 he
  rw [← hP] at z3 hT2
  simp only [← hP] at c3
  have ea : (⟨#[32, 97, 116, 32]⟩ : ByteArray).size = 4 := rfl
  have ec : (⟨#[58, 32]⟩ : ByteArray).size = 2 := rfl
  have ew : (⟨#[105, 100, 101, 109, 112, 111, 116, 101, 110, 116]⟩ : ByteArray).size ≤ 12 := by show _ ≤ _; decide
  obtain ⟨G, hG⟩ : ∃ G : ByteArray, G = ⟨#[105, 100, 101, 109, 112, 111, 116, 101, 110, 116]⟩ ++ ⟨#[32, 97, 116, 32]⟩ := ⟨_, rfl⟩
  have hGs : G.size ≤ 16 := by rw [hG, size_append]; omega
  have a1 : ∀ W, (Op.stringOp .add ⟨#[105, 100, 101, 109, 112, 111, 116, 101, 110, 116]⟩ ⟨#[32, 97, 116, 32]⟩).run Tryz.prog W = .ok (.string G) W := by rw [hG]; exact add_sum (by omega)
  have a2 : ∀ W, (Op.stringOp .add G P).run Tryz.prog W = .ok (.string (G ++ P)) W := add_sum (by omega)
  have a3 : ∀ W, (Op.stringOp .add (G ++ P) ⟨#[58, 32]⟩).run Tryz.prog W = .ok (.string (G ++ P ++ ⟨#[58, 32]⟩)) W := add_sum (by rw [size_append]; omega)
  have a4 : ∀ W, (Op.stringOp .add (G ++ P ++ ⟨#[58, 32]⟩) E).run Tryz.prog W = .ok (.string (G ++ P ++ ⟨#[58, 32]⟩ ++ E)) W := add_sum (by rw [size_append, size_append]; omega)
  have HF := Lib.hid (show T = G ++ P ++ ⟨#[58, 32]⟩ ++ E by rw [hT2, hG]; rfl)
  have C2 := Lib.hid c2
  have C3 := Lib.hid c3
  have hp0 : ¬ x.pos < 0 := by omega
  clear hT hT2 hE hP c2 c3 z3 z1 ea ec ew hG hGs h hw hK hp
  go_enter Tryz.func55, Tryz.ntmps55
  go_wp2_with fail
  refine (c1).mono ?_
  rintro e wa ⟨rfl, hba⟩
  have p0 : wa.cell? ⟨w.heap.size, 0, none⟩ = some (.int .i64 3) := hba.cell (by go_simp)
  have p1 : wa.cell? ⟨w.heap.size, 1, none⟩ = some (.int .i64 x.pos) := hba.cell (by go_simp)
  have p2 : wa.cell? ⟨w.heap.size, 2, none⟩ = some (.slice Av nv cv) := hba.cell (by go_simp)
  have Ba := B0.then hba
  clear c1
  go_wp2_with fail
  refine (C2.out _).mono ?_
  rintro e' w1 ⟨rfl, hb1⟩
  replace p0 := hb1.cell p0
  replace p1 := hb1.cell p1
  have B1 := Ba.then hb1
  go_wp2_with fail
  obtain ⟨Z, hZ⟩ : ∃ Z, Z = w1.drew := ⟨_, rfl⟩
  have z0 : Z.cell? ⟨w.heap.size, 0, none⟩ = some (.int .i64 3) := by rw [hZ]; exact p0
  have z1 : Z.cell? ⟨w.heap.size, 1, none⟩ = some (.int .i64 x.pos) := by rw [hZ]; exact p1
  have BZ : Bw w1 Z := by rw [hZ]; exact (Bw.refl w1).drew
  have HZ := Lib.hid hZ
  clear hZ
  refine wp_region_held_drew (S := (fun w' => w'.cell? ⟨w.heap.size, 0, none⟩ = some (.int .i64 3) ∧ w'.cell? ⟨w.heap.size, 1, none⟩ = some (.int .i64 x.pos))) (by kernel_rfl) ?_ (fun hHeld => ?_)
  · exact ⟨p0, p1⟩
  rw [← HZ.out] at hHeld ⊢
  refine wpAnyH_take (i := 1) (oi := _) (v := ?_) rfl (by kernel_rfl) (by kernel_rfl) (by kernel_rfl) (fun _ _ _ h => h) (Or.inl ⟨by rfl, ?_⟩) (by assumption) ?_
  rotate_left 1
  · (intro wS hSw; (try dsimp only at hSw); go_simp; try with_reducible rfl)
  try simp only [Act.put, List.getElem_toArray, List.getElem_cons_zero, List.getElem_cons_succ, List.setIfInBounds_toArray, List.set_cons_zero, List.set_cons_succ]
  refine wpAnyH_take (i := 2) (oi := _) (v := ?_) rfl (by kernel_rfl) (by kernel_rfl) (by kernel_rfl) (fun _ _ _ h => h) (Or.inl ⟨by rfl, ?_⟩) (by assumption) ?_
  rotate_left 1
  · (intro wS hSw; (try dsimp only at hSw); go_simp; try with_reducible rfl)
  try simp only [Act.put, List.getElem_toArray, List.getElem_cons_zero, List.getElem_cons_succ, List.setIfInBounds_toArray, List.set_cons_zero, List.set_cons_succ]
  refine wpAnyH_take (i := 3) (oi := _) (v := ?_) rfl (by kernel_rfl) (by kernel_rfl) (by kernel_rfl) (fun _ _ _ h => h) (Or.inl ⟨by rfl, ?_⟩) (by assumption) ?_
  rotate_left 1
  · (intro wS hSw; (try dsimp only at hSw); go_simp; try with_reducible rfl)
  try simp only [Act.put, List.getElem_toArray, List.getElem_cons_zero, List.getElem_cons_succ, List.setIfInBounds_toArray, List.set_cons_zero, List.set_cons_succ]
  try simp only [show IntKind.i64.wrap 0 = 0 from rfl, show IntKind.i64.wrap 1 = 1 from rfl, show IntKind.i64.wrap 2 = 2 from rfl, show IntKind.i64.wrap 3 = 3 from rfl]
  refine wpAnyH_take (i := 7) (oi := _) (v := ?_) rfl (by kernel_rfl) (by kernel_rfl) (by kernel_rfl) (fun _ _ _ h => h) (Or.inl ⟨by rfl, ?_⟩) (by assumption) ?_
  rotate_left 1
  · (intro wS hSw; (try dsimp only at hSw); go_simp; try with_reducible rfl)
  try simp only [Act.put, List.getElem_toArray, List.getElem_cons_zero, List.getElem_cons_succ, List.setIfInBounds_toArray, List.set_cons_zero, List.set_cons_succ]
  refine wpAnyH_take (i := 8) (oi := _) (v := ?_) rfl (by kernel_rfl) (by kernel_rfl) (by kernel_rfl) (fun _ _ _ h => h) (Or.inl ⟨by rfl, ?_⟩) (by assumption) ?_
  rotate_left 1
  · (intro wS hSw; (try dsimp only at hSw); go_simp; try with_reducible rfl)
  try simp only [Act.put, List.getElem_toArray, List.getElem_cons_zero, List.getElem_cons_succ, List.setIfInBounds_toArray, List.set_cons_zero, List.set_cons_succ]
  refine wpAnyH_take (i := 12) (oi := _) (v := ?_) rfl (by kernel_rfl) (by kernel_rfl) (by kernel_rfl) (fun _ _ _ h => h) (Or.inl ⟨by rfl, ?_⟩) (by assumption) ?_
  rotate_left 1
  · (intro wS hSw; (try dsimp only at hSw); go_simp; try with_reducible rfl)
  try simp only [Act.put, List.getElem_toArray, List.getElem_cons_zero, List.getElem_cons_succ, List.setIfInBounds_toArray, List.set_cons_zero, List.set_cons_succ]
  refine wpAnyH_ready (rs := [0, 9]) (by kernel_rfl) (by simp) (AllReadyH.cons (o := _) rfl (fun K hK => ?_) (AllReadyH.cons (o := _) rfl (fun K hK => ?_) AllReadyH.nil))
  · go_simp
    have A : Bw Z (Z.alloc (.cells #[.string ⟨#[100, 117, 97, 108, 32, 111, 102, 32, 100, 117, 97, 108]⟩, .string ⟨#[112, 117, 115, 104, 32, 100, 117, 97, 108]⟩, .string ⟨#[105, 100, 101, 109, 112, 111, 116, 101, 110, 116]⟩, .string ⟨#[99, 111, 109, 109, 117, 116, 101]⟩] 9)) := (Bw.refl Z).alloc _
    have y0 := A.cell z0
    have y1 := A.cell z1
    have yr : (Z.alloc (.cells #[.string ⟨#[100, 117, 97, 108, 32, 111, 102, 32, 100, 117, 97, 108]⟩, .string ⟨#[112, 117, 115, 104, 32, 100, 117, 97, 108]⟩, .string ⟨#[105, 100, 101, 109, 112, 111, 116, 101, 110, 116]⟩, .string ⟨#[99, 111, 109, 109, 117, 116, 101]⟩] 9)).cell? ⟨Z.heap.size, 2, none⟩ = some (.string ⟨#[105, 100, 101, 109, 112, 111, 116, 101, 110, 116]⟩) := by go_simp
    refine hK.out _ _ ⟨y0, y1⟩ (fun hHeld => ?_)
    clear hK K
    try simp only [Act.put, List.getElem_toArray, List.getElem_cons_zero, List.getElem_cons_succ, List.setIfInBounds_toArray, List.set_cons_zero, List.set_cons_succ]
    refine wpAnyH_strong (S' := (fun w' => w'.cell? ⟨w.heap.size, 0, none⟩ = some (.int .i64 3) ∧ w'.cell? ⟨w.heap.size, 1, none⟩ = some (.int .i64 x.pos) ∧ w'.cell? ⟨Z.heap.size, 2, none⟩ = some (.string ⟨#[105, 100, 101, 109, 112, 111, 116, 101, 110, 116]⟩))) (fun _ h => ⟨h.1, h.2.1⟩) _ _ _ _ ?_
    replace hHeld := And.intro y0 (And.intro y1 yr)
    refine wpAnyH_take (i := 4) (oi := _) (v := ?_) rfl (by kernel_rfl) (by kernel_rfl) (by kernel_rfl) (fun _ _ _ h => h) (Or.inl ⟨by rfl, ?_⟩) (by assumption) ?_
    rotate_left 1
    · (intro wS hSw; (try dsimp only at hSw); go_simp; try with_reducible rfl)
    try simp only [Act.put, List.getElem_toArray, List.getElem_cons_zero, List.getElem_cons_succ, List.setIfInBounds_toArray, List.set_cons_zero, List.set_cons_succ]
    refine wpAnyH_take (i := 5) (oi := _) (v := ?_) rfl (by kernel_rfl) (by kernel_rfl) (by kernel_rfl) (fun _ _ _ h => h) (Or.inl ⟨by rfl, ?_⟩) (by assumption) ?_
    rotate_left 1
    · (intro wS hSw; (try dsimp only at hSw); go_simp; try with_reducible rfl)
    try simp only [Act.put, List.getElem_toArray, List.getElem_cons_zero, List.getElem_cons_succ, List.setIfInBounds_toArray, List.set_cons_zero, List.set_cons_succ]
    refine wpAnyH_take (i := 6) (oi := _) (v := ?_) rfl (by kernel_rfl) (by kernel_rfl) (by kernel_rfl) (fun _ _ _ h => h) (Or.inl ⟨by rfl, ?_⟩) (by assumption) ?_
    rotate_left 1
    · (intro wS hSw; (try dsimp only at hSw); go_simp; try with_reducible rfl)
    try simp only [Act.put, List.getElem_toArray, List.getElem_cons_zero, List.getElem_cons_succ, List.setIfInBounds_toArray, List.set_cons_zero, List.set_cons_succ]
    refine wpAnyH_ready (rs := [9]) (by kernel_rfl) (by simp) (AllReadyH.cons (o := _) rfl (fun K hK => ?_) AllReadyH.nil)
    go_simp
    refine (C3.out _).mono ?_
    rintro e' w5 ⟨rfl, hb5⟩
    have B5 := (BZ.then A).then hb5
    refine hK.out _ _ ⟨hb5.cell y0, hb5.cell y1, hb5.cell yr⟩ (fun hHeld => ?_)
    clear hK K
    try simp only [Act.put, List.getElem_toArray, List.getElem_cons_zero, List.getElem_cons_succ, List.setIfInBounds_toArray, List.set_cons_zero, List.set_cons_succ]
    refine wpAnyH_take (i := 10) (oi := _) (v := ?_) rfl (by kernel_rfl) (by kernel_rfl) (by kernel_rfl) (fun _ _ _ h => h) (Or.inl ⟨by rfl, ?_⟩) (by assumption) ?_
    rotate_left 1
    · (intro wS hSw; (try dsimp only at hSw); go_simp; try with_reducible rfl)
    try simp only [Act.put, List.getElem_toArray, List.getElem_cons_zero, List.getElem_cons_succ, List.setIfInBounds_toArray, List.set_cons_zero, List.set_cons_succ]
    refine wpAnyH_take (i := 11) (oi := _) (v := ?_) rfl (by kernel_rfl) (by kernel_rfl) (by kernel_rfl) (fun _ _ _ h => h) (Or.inl ⟨by rfl, ?_⟩) (by assumption) ?_
    rotate_left 1
    · (intro wS hSw; (try dsimp only at hSw); go_simp; try with_reducible rfl)
    try simp only [Act.put, List.getElem_toArray, List.getElem_cons_zero, List.getElem_cons_succ, List.setIfInBounds_toArray, List.set_cons_zero, List.set_cons_succ]
    refine wpAnyH_take (i := 13) (oi := _) (v := ?_) rfl (by kernel_rfl) (by kernel_rfl) (by kernel_rfl) (fun _ _ _ h => h) (Or.inl ⟨by rfl, ?_⟩) (by assumption) ?_
    rotate_left 1
    · (intro wS hSw; (try dsimp only at hSw); go_simp; try with_reducible rfl)
    try simp only [Act.put, List.getElem_toArray, List.getElem_cons_zero, List.getElem_cons_succ, List.setIfInBounds_toArray, List.set_cons_zero, List.set_cons_succ]
    refine wpAnyH_take (i := 14) (oi := _) (v := ?_) rfl (by kernel_rfl) (by kernel_rfl) (by kernel_rfl) (fun _ _ _ h => h) (Or.inl ⟨by rfl, ?_⟩) (by assumption) ?_
    rotate_left 1
    · (intro wS hSw; (try dsimp only at hSw); go_simp; try with_reducible rfl)
    try simp only [Act.put, List.getElem_toArray, List.getElem_cons_zero, List.getElem_cons_succ, List.setIfInBounds_toArray, List.set_cons_zero, List.set_cons_succ]
    refine wpAnyH_done (by kernel_rfl) ?_ _
    go_wp2
    go_ret
    exact Ret.str HF.out.symm (B1.then B5)
  · go_simp
    refine (C3.out _).mono ?_
    rintro e' w5 ⟨rfl, hb5⟩
    have y0 := hb5.cell z0
    have y1 := hb5.cell z1
    refine hK.out _ _ ⟨y0, y1⟩ (fun hHeld => ?_)
    clear hK K
    try simp only [Act.put, List.getElem_toArray, List.getElem_cons_zero, List.getElem_cons_succ, List.setIfInBounds_toArray, List.set_cons_zero, List.set_cons_succ]
    refine wpAnyH_ready (rs := [0]) (by kernel_rfl) (by simp) (AllReadyH.cons (o := _) rfl (fun K hK => ?_) AllReadyH.nil)
    go_simp
    have A : Bw w5 (w5.alloc (.cells #[.string ⟨#[100, 117, 97, 108, 32, 111, 102, 32, 100, 117, 97, 108]⟩, .string ⟨#[112, 117, 115, 104, 32, 100, 117, 97, 108]⟩, .string ⟨#[105, 100, 101, 109, 112, 111, 116, 101, 110, 116]⟩, .string ⟨#[99, 111, 109, 109, 117, 116, 101]⟩] 9)) := (Bw.refl w5).alloc _
    replace y0 := A.cell y0
    replace y1 := A.cell y1
    have yr : (w5.alloc (.cells #[.string ⟨#[100, 117, 97, 108, 32, 111, 102, 32, 100, 117, 97, 108]⟩, .string ⟨#[112, 117, 115, 104, 32, 100, 117, 97, 108]⟩, .string ⟨#[105, 100, 101, 109, 112, 111, 116, 101, 110, 116]⟩, .string ⟨#[99, 111, 109, 109, 117, 116, 101]⟩] 9)).cell? ⟨w5.heap.size, 2, none⟩ = some (.string ⟨#[105, 100, 101, 109, 112, 111, 116, 101, 110, 116]⟩) := by go_simp
    have B5 := BZ.then (hb5.then A)
    refine hK.out _ _ ⟨y0, y1⟩ (fun hHeld => ?_)
    clear hK K
    try simp only [Act.put, List.getElem_toArray, List.getElem_cons_zero, List.getElem_cons_succ, List.setIfInBounds_toArray, List.set_cons_zero, List.set_cons_succ]
    refine wpAnyH_strong (S' := (fun w' => w'.cell? ⟨w.heap.size, 0, none⟩ = some (.int .i64 3) ∧ w'.cell? ⟨w.heap.size, 1, none⟩ = some (.int .i64 x.pos) ∧ w'.cell? ⟨w5.heap.size, 2, none⟩ = some (.string ⟨#[105, 100, 101, 109, 112, 111, 116, 101, 110, 116]⟩))) (fun _ h => ⟨h.1, h.2.1⟩) _ _ _ _ ?_
    replace hHeld := And.intro y0 (And.intro y1 yr)
    refine wpAnyH_take (i := 4) (oi := _) (v := ?_) rfl (by kernel_rfl) (by kernel_rfl) (by kernel_rfl) (fun _ _ _ h => h) (Or.inl ⟨by rfl, ?_⟩) (by assumption) ?_
    rotate_left 1
    · (intro wS hSw; (try dsimp only at hSw); go_simp; try with_reducible rfl)
    try simp only [Act.put, List.getElem_toArray, List.getElem_cons_zero, List.getElem_cons_succ, List.setIfInBounds_toArray, List.set_cons_zero, List.set_cons_succ]
    refine wpAnyH_take (i := 5) (oi := _) (v := ?_) rfl (by kernel_rfl) (by kernel_rfl) (by kernel_rfl) (fun _ _ _ h => h) (Or.inl ⟨by rfl, ?_⟩) (by assumption) ?_
    rotate_left 1
    · (intro wS hSw; (try dsimp only at hSw); go_simp; try with_reducible rfl)
    try simp only [Act.put, List.getElem_toArray, List.getElem_cons_zero, List.getElem_cons_succ, List.setIfInBounds_toArray, List.set_cons_zero, List.set_cons_succ]
    refine wpAnyH_take (i := 6) (oi := _) (v := ?_) rfl (by kernel_rfl) (by kernel_rfl) (by kernel_rfl) (fun _ _ _ h => h) (Or.inl ⟨by rfl, ?_⟩) (by assumption) ?_
    rotate_left 1
    · (intro wS hSw; (try dsimp only at hSw); go_simp; try with_reducible rfl)
    try simp only [Act.put, List.getElem_toArray, List.getElem_cons_zero, List.getElem_cons_succ, List.setIfInBounds_toArray, List.set_cons_zero, List.set_cons_succ]
    refine wpAnyH_take (i := 10) (oi := _) (v := ?_) rfl (by kernel_rfl) (by kernel_rfl) (by kernel_rfl) (fun _ _ _ h => h) (Or.inl ⟨by rfl, ?_⟩) (by assumption) ?_
    rotate_left 1
    · (intro wS hSw; (try dsimp only at hSw); go_simp; try with_reducible rfl)
    try simp only [Act.put, List.getElem_toArray, List.getElem_cons_zero, List.getElem_cons_succ, List.setIfInBounds_toArray, List.set_cons_zero, List.set_cons_succ]
    refine wpAnyH_take (i := 11) (oi := _) (v := ?_) rfl (by kernel_rfl) (by kernel_rfl) (by kernel_rfl) (fun _ _ _ h => h) (Or.inl ⟨by rfl, ?_⟩) (by assumption) ?_
    rotate_left 1
    · (intro wS hSw; (try dsimp only at hSw); go_simp; try with_reducible rfl)
    try simp only [Act.put, List.getElem_toArray, List.getElem_cons_zero, List.getElem_cons_succ, List.setIfInBounds_toArray, List.set_cons_zero, List.set_cons_succ]
    refine wpAnyH_take (i := 13) (oi := _) (v := ?_) rfl (by kernel_rfl) (by kernel_rfl) (by kernel_rfl) (fun _ _ _ h => h) (Or.inl ⟨by rfl, ?_⟩) (by assumption) ?_
    rotate_left 1
    · (intro wS hSw; (try dsimp only at hSw); go_simp; try with_reducible rfl)
    try simp only [Act.put, List.getElem_toArray, List.getElem_cons_zero, List.getElem_cons_succ, List.setIfInBounds_toArray, List.set_cons_zero, List.set_cons_succ]
    refine wpAnyH_take (i := 14) (oi := _) (v := ?_) rfl (by kernel_rfl) (by kernel_rfl) (by kernel_rfl) (fun _ _ _ h => h) (Or.inl ⟨by rfl, ?_⟩) (by assumption) ?_
    rotate_left 1
    · (intro wS hSw; (try dsimp only at hSw); go_simp; try with_reducible rfl)
    try simp only [Act.put, List.getElem_toArray, List.getElem_cons_zero, List.getElem_cons_succ, List.setIfInBounds_toArray, List.set_cons_zero, List.set_cons_succ]
    refine wpAnyH_done (by kernel_rfl) ?_ _
    go_wp2
    go_ret
    exact Ret.str HF.out.symm (B1.then B5)
set_option maxRecDepth 100000 in
set_option maxHeartbeats 6400000 in
theorem I_RewriteLine4 (w : World) (x : GRewriting) (v : Value) (h : Rd rNodes w x.after [v]) (hw : (Lit.int .i64 x.pos).wf = true) (hK : x.rule = 4) (hp : 0 ≤ x.pos) (he : (exprText x.after).toList.isEmpty = false) :
    Calls Tryz.prog 55 #[.agg #[.int .i64 4, .int .i64 x.pos, v]] w (Ret w (.string (rewLine x))) := by
  obtain ⟨Av, nv, cv, rfl, l1, l2, l3⟩ := rSl_open h
  clear l1 l2 l3
  have B0 : Bw w (w.alloc (.cells #[.int .i64 4, .int .i64 x.pos, .slice Av nv cv] 64)) := (Bw.refl w).alloc _
  obtain ⟨T, hT⟩ : ∃ T, T = rewLine x := ⟨_, rfl⟩
  rw [← hT]
  have hT2 : T = ruleWord 4 ++ ⟨#[32, 97, 116, 32]⟩ ++ fmtInt x.pos ++ ⟨#[58, 32]⟩ ++ exprText x.after := by rw [hT, rewLine, hK, he, decide_eq_true hp]; rfl
  have c1 := I_FormatExpression _ x.after _ (h.bw rNodes_good B0)
  have c2 := fun W => I_within W 4 1 4
  rw [show inB 4 1 4 = true from rfl] at c2
  have c3 := fun W => I_FormatInt W x.pos hw
  have z3 := (fmtInt_size hw).2
  have z1 := exprText_size x.after
  obtain ⟨E, hE⟩ : ∃ E, E = exprText x.after := ⟨_, rfl⟩
  obtain ⟨P, hP⟩ : ∃ P, P = fmtInt x.pos := ⟨_, rfl⟩
  rw [← hE] at c1 z1 hT2 he
  rw [← hP] at z3 hT2
  simp only [← hP] at c3
  have ea : (⟨#[32, 97, 116, 32]⟩ : ByteArray).size = 4 := rfl
  have ec : (⟨#[58, 32]⟩ : ByteArray).size = 2 := rfl
  have ew : (⟨#[99, 111, 109, 109, 117, 116, 101]⟩ : ByteArray).size ≤ 12 := by show _ ≤ _; decide
  obtain ⟨G, hG⟩ : ∃ G : ByteArray, G = ⟨#[99, 111, 109, 109, 117, 116, 101]⟩ ++ ⟨#[32, 97, 116, 32]⟩ := ⟨_, rfl⟩
  have hGs : G.size ≤ 16 := by rw [hG, size_append]; omega
  have a1 : ∀ W, (Op.stringOp .add ⟨#[99, 111, 109, 109, 117, 116, 101]⟩ ⟨#[32, 97, 116, 32]⟩).run Tryz.prog W = .ok (.string G) W := by rw [hG]; exact add_sum (by omega)
  have a2 : ∀ W, (Op.stringOp .add G P).run Tryz.prog W = .ok (.string (G ++ P)) W := add_sum (by omega)
  have a3 : ∀ W, (Op.stringOp .add (G ++ P) ⟨#[58, 32]⟩).run Tryz.prog W = .ok (.string (G ++ P ++ ⟨#[58, 32]⟩)) W := add_sum (by rw [size_append]; omega)
  have a4 : ∀ W, (Op.stringOp .add (G ++ P ++ ⟨#[58, 32]⟩) E).run Tryz.prog W = .ok (.string (G ++ P ++ ⟨#[58, 32]⟩ ++ E)) W := add_sum (by rw [size_append, size_append]; omega)
  have HF := Lib.hid (show T = G ++ P ++ ⟨#[58, 32]⟩ ++ E by rw [hT2, hG]; rfl)
  have C2 := Lib.hid c2
  have C3 := Lib.hid c3
  have hp0 : ¬ x.pos < 0 := by omega
  clear hT hT2 hE hP c2 c3 z3 z1 ea ec ew hG hGs h hw hK hp
  go_enter Tryz.func55, Tryz.ntmps55
  go_wp2_with fail
  refine (c1).mono ?_
  rintro e wa ⟨rfl, hba⟩
  have p0 : wa.cell? ⟨w.heap.size, 0, none⟩ = some (.int .i64 4) := hba.cell (by go_simp)
  have p1 : wa.cell? ⟨w.heap.size, 1, none⟩ = some (.int .i64 x.pos) := hba.cell (by go_simp)
  have p2 : wa.cell? ⟨w.heap.size, 2, none⟩ = some (.slice Av nv cv) := hba.cell (by go_simp)
  have Ba := B0.then hba
  clear c1
  go_wp2_with fail
  refine (C2.out _).mono ?_
  rintro e' w1 ⟨rfl, hb1⟩
  replace p0 := hb1.cell p0
  replace p1 := hb1.cell p1
  have B1 := Ba.then hb1
  go_wp2_with fail
  obtain ⟨Z, hZ⟩ : ∃ Z, Z = w1.drew := ⟨_, rfl⟩
  have z0 : Z.cell? ⟨w.heap.size, 0, none⟩ = some (.int .i64 4) := by rw [hZ]; exact p0
  have z1 : Z.cell? ⟨w.heap.size, 1, none⟩ = some (.int .i64 x.pos) := by rw [hZ]; exact p1
  have BZ : Bw w1 Z := by rw [hZ]; exact (Bw.refl w1).drew
  have HZ := Lib.hid hZ
  clear hZ
  refine wp_region_held_drew (S := (fun w' => w'.cell? ⟨w.heap.size, 0, none⟩ = some (.int .i64 4) ∧ w'.cell? ⟨w.heap.size, 1, none⟩ = some (.int .i64 x.pos))) (by kernel_rfl) ?_ (fun hHeld => ?_)
  · exact ⟨p0, p1⟩
  rw [← HZ.out] at hHeld ⊢
  refine wpAnyH_take (i := 1) (oi := _) (v := ?_) rfl (by kernel_rfl) (by kernel_rfl) (by kernel_rfl) (fun _ _ _ h => h) (Or.inl ⟨by rfl, ?_⟩) (by assumption) ?_
  rotate_left 1
  · (intro wS hSw; (try dsimp only at hSw); go_simp; try with_reducible rfl)
  try simp only [Act.put, List.getElem_toArray, List.getElem_cons_zero, List.getElem_cons_succ, List.setIfInBounds_toArray, List.set_cons_zero, List.set_cons_succ]
  refine wpAnyH_take (i := 2) (oi := _) (v := ?_) rfl (by kernel_rfl) (by kernel_rfl) (by kernel_rfl) (fun _ _ _ h => h) (Or.inl ⟨by rfl, ?_⟩) (by assumption) ?_
  rotate_left 1
  · (intro wS hSw; (try dsimp only at hSw); go_simp; try with_reducible rfl)
  try simp only [Act.put, List.getElem_toArray, List.getElem_cons_zero, List.getElem_cons_succ, List.setIfInBounds_toArray, List.set_cons_zero, List.set_cons_succ]
  refine wpAnyH_take (i := 3) (oi := _) (v := ?_) rfl (by kernel_rfl) (by kernel_rfl) (by kernel_rfl) (fun _ _ _ h => h) (Or.inl ⟨by rfl, ?_⟩) (by assumption) ?_
  rotate_left 1
  · (intro wS hSw; (try dsimp only at hSw); go_simp; try with_reducible rfl)
  try simp only [Act.put, List.getElem_toArray, List.getElem_cons_zero, List.getElem_cons_succ, List.setIfInBounds_toArray, List.set_cons_zero, List.set_cons_succ]
  try simp only [show IntKind.i64.wrap 0 = 0 from rfl, show IntKind.i64.wrap 1 = 1 from rfl, show IntKind.i64.wrap 2 = 2 from rfl, show IntKind.i64.wrap 3 = 3 from rfl]
  refine wpAnyH_take (i := 7) (oi := _) (v := ?_) rfl (by kernel_rfl) (by kernel_rfl) (by kernel_rfl) (fun _ _ _ h => h) (Or.inl ⟨by rfl, ?_⟩) (by assumption) ?_
  rotate_left 1
  · (intro wS hSw; (try dsimp only at hSw); go_simp; try with_reducible rfl)
  try simp only [Act.put, List.getElem_toArray, List.getElem_cons_zero, List.getElem_cons_succ, List.setIfInBounds_toArray, List.set_cons_zero, List.set_cons_succ]
  refine wpAnyH_take (i := 8) (oi := _) (v := ?_) rfl (by kernel_rfl) (by kernel_rfl) (by kernel_rfl) (fun _ _ _ h => h) (Or.inl ⟨by rfl, ?_⟩) (by assumption) ?_
  rotate_left 1
  · (intro wS hSw; (try dsimp only at hSw); go_simp; try with_reducible rfl)
  try simp only [Act.put, List.getElem_toArray, List.getElem_cons_zero, List.getElem_cons_succ, List.setIfInBounds_toArray, List.set_cons_zero, List.set_cons_succ]
  refine wpAnyH_take (i := 12) (oi := _) (v := ?_) rfl (by kernel_rfl) (by kernel_rfl) (by kernel_rfl) (fun _ _ _ h => h) (Or.inl ⟨by rfl, ?_⟩) (by assumption) ?_
  rotate_left 1
  · (intro wS hSw; (try dsimp only at hSw); go_simp; try with_reducible rfl)
  try simp only [Act.put, List.getElem_toArray, List.getElem_cons_zero, List.getElem_cons_succ, List.setIfInBounds_toArray, List.set_cons_zero, List.set_cons_succ]
  refine wpAnyH_ready (rs := [0, 9]) (by kernel_rfl) (by simp) (AllReadyH.cons (o := _) rfl (fun K hK => ?_) (AllReadyH.cons (o := _) rfl (fun K hK => ?_) AllReadyH.nil))
  · go_simp
    have A : Bw Z (Z.alloc (.cells #[.string ⟨#[100, 117, 97, 108, 32, 111, 102, 32, 100, 117, 97, 108]⟩, .string ⟨#[112, 117, 115, 104, 32, 100, 117, 97, 108]⟩, .string ⟨#[105, 100, 101, 109, 112, 111, 116, 101, 110, 116]⟩, .string ⟨#[99, 111, 109, 109, 117, 116, 101]⟩] 9)) := (Bw.refl Z).alloc _
    have y0 := A.cell z0
    have y1 := A.cell z1
    have yr : (Z.alloc (.cells #[.string ⟨#[100, 117, 97, 108, 32, 111, 102, 32, 100, 117, 97, 108]⟩, .string ⟨#[112, 117, 115, 104, 32, 100, 117, 97, 108]⟩, .string ⟨#[105, 100, 101, 109, 112, 111, 116, 101, 110, 116]⟩, .string ⟨#[99, 111, 109, 109, 117, 116, 101]⟩] 9)).cell? ⟨Z.heap.size, 3, none⟩ = some (.string ⟨#[99, 111, 109, 109, 117, 116, 101]⟩) := by go_simp
    refine hK.out _ _ ⟨y0, y1⟩ (fun hHeld => ?_)
    clear hK K
    try simp only [Act.put, List.getElem_toArray, List.getElem_cons_zero, List.getElem_cons_succ, List.setIfInBounds_toArray, List.set_cons_zero, List.set_cons_succ]
    refine wpAnyH_strong (S' := (fun w' => w'.cell? ⟨w.heap.size, 0, none⟩ = some (.int .i64 4) ∧ w'.cell? ⟨w.heap.size, 1, none⟩ = some (.int .i64 x.pos) ∧ w'.cell? ⟨Z.heap.size, 3, none⟩ = some (.string ⟨#[99, 111, 109, 109, 117, 116, 101]⟩))) (fun _ h => ⟨h.1, h.2.1⟩) _ _ _ _ ?_
    replace hHeld := And.intro y0 (And.intro y1 yr)
    refine wpAnyH_take (i := 4) (oi := _) (v := ?_) rfl (by kernel_rfl) (by kernel_rfl) (by kernel_rfl) (fun _ _ _ h => h) (Or.inl ⟨by rfl, ?_⟩) (by assumption) ?_
    rotate_left 1
    · (intro wS hSw; (try dsimp only at hSw); go_simp; try with_reducible rfl)
    try simp only [Act.put, List.getElem_toArray, List.getElem_cons_zero, List.getElem_cons_succ, List.setIfInBounds_toArray, List.set_cons_zero, List.set_cons_succ]
    refine wpAnyH_take (i := 5) (oi := _) (v := ?_) rfl (by kernel_rfl) (by kernel_rfl) (by kernel_rfl) (fun _ _ _ h => h) (Or.inl ⟨by rfl, ?_⟩) (by assumption) ?_
    rotate_left 1
    · (intro wS hSw; (try dsimp only at hSw); go_simp; try with_reducible rfl)
    try simp only [Act.put, List.getElem_toArray, List.getElem_cons_zero, List.getElem_cons_succ, List.setIfInBounds_toArray, List.set_cons_zero, List.set_cons_succ]
    refine wpAnyH_take (i := 6) (oi := _) (v := ?_) rfl (by kernel_rfl) (by kernel_rfl) (by kernel_rfl) (fun _ _ _ h => h) (Or.inl ⟨by rfl, ?_⟩) (by assumption) ?_
    rotate_left 1
    · (intro wS hSw; (try dsimp only at hSw); go_simp; try with_reducible rfl)
    try simp only [Act.put, List.getElem_toArray, List.getElem_cons_zero, List.getElem_cons_succ, List.setIfInBounds_toArray, List.set_cons_zero, List.set_cons_succ]
    refine wpAnyH_ready (rs := [9]) (by kernel_rfl) (by simp) (AllReadyH.cons (o := _) rfl (fun K hK => ?_) AllReadyH.nil)
    go_simp
    refine (C3.out _).mono ?_
    rintro e' w5 ⟨rfl, hb5⟩
    have B5 := (BZ.then A).then hb5
    refine hK.out _ _ ⟨hb5.cell y0, hb5.cell y1, hb5.cell yr⟩ (fun hHeld => ?_)
    clear hK K
    try simp only [Act.put, List.getElem_toArray, List.getElem_cons_zero, List.getElem_cons_succ, List.setIfInBounds_toArray, List.set_cons_zero, List.set_cons_succ]
    refine wpAnyH_take (i := 10) (oi := _) (v := ?_) rfl (by kernel_rfl) (by kernel_rfl) (by kernel_rfl) (fun _ _ _ h => h) (Or.inl ⟨by rfl, ?_⟩) (by assumption) ?_
    rotate_left 1
    · (intro wS hSw; (try dsimp only at hSw); go_simp; try with_reducible rfl)
    try simp only [Act.put, List.getElem_toArray, List.getElem_cons_zero, List.getElem_cons_succ, List.setIfInBounds_toArray, List.set_cons_zero, List.set_cons_succ]
    refine wpAnyH_take (i := 11) (oi := _) (v := ?_) rfl (by kernel_rfl) (by kernel_rfl) (by kernel_rfl) (fun _ _ _ h => h) (Or.inl ⟨by rfl, ?_⟩) (by assumption) ?_
    rotate_left 1
    · (intro wS hSw; (try dsimp only at hSw); go_simp; try with_reducible rfl)
    try simp only [Act.put, List.getElem_toArray, List.getElem_cons_zero, List.getElem_cons_succ, List.setIfInBounds_toArray, List.set_cons_zero, List.set_cons_succ]
    refine wpAnyH_take (i := 13) (oi := _) (v := ?_) rfl (by kernel_rfl) (by kernel_rfl) (by kernel_rfl) (fun _ _ _ h => h) (Or.inl ⟨by rfl, ?_⟩) (by assumption) ?_
    rotate_left 1
    · (intro wS hSw; (try dsimp only at hSw); go_simp; try with_reducible rfl)
    try simp only [Act.put, List.getElem_toArray, List.getElem_cons_zero, List.getElem_cons_succ, List.setIfInBounds_toArray, List.set_cons_zero, List.set_cons_succ]
    refine wpAnyH_take (i := 14) (oi := _) (v := ?_) rfl (by kernel_rfl) (by kernel_rfl) (by kernel_rfl) (fun _ _ _ h => h) (Or.inl ⟨by rfl, ?_⟩) (by assumption) ?_
    rotate_left 1
    · (intro wS hSw; (try dsimp only at hSw); go_simp; try with_reducible rfl)
    try simp only [Act.put, List.getElem_toArray, List.getElem_cons_zero, List.getElem_cons_succ, List.setIfInBounds_toArray, List.set_cons_zero, List.set_cons_succ]
    refine wpAnyH_done (by kernel_rfl) ?_ _
    go_wp2
    go_ret
    exact Ret.str HF.out.symm (B1.then B5)
  · go_simp
    refine (C3.out _).mono ?_
    rintro e' w5 ⟨rfl, hb5⟩
    have y0 := hb5.cell z0
    have y1 := hb5.cell z1
    refine hK.out _ _ ⟨y0, y1⟩ (fun hHeld => ?_)
    clear hK K
    try simp only [Act.put, List.getElem_toArray, List.getElem_cons_zero, List.getElem_cons_succ, List.setIfInBounds_toArray, List.set_cons_zero, List.set_cons_succ]
    refine wpAnyH_ready (rs := [0]) (by kernel_rfl) (by simp) (AllReadyH.cons (o := _) rfl (fun K hK => ?_) AllReadyH.nil)
    go_simp
    have A : Bw w5 (w5.alloc (.cells #[.string ⟨#[100, 117, 97, 108, 32, 111, 102, 32, 100, 117, 97, 108]⟩, .string ⟨#[112, 117, 115, 104, 32, 100, 117, 97, 108]⟩, .string ⟨#[105, 100, 101, 109, 112, 111, 116, 101, 110, 116]⟩, .string ⟨#[99, 111, 109, 109, 117, 116, 101]⟩] 9)) := (Bw.refl w5).alloc _
    replace y0 := A.cell y0
    replace y1 := A.cell y1
    have yr : (w5.alloc (.cells #[.string ⟨#[100, 117, 97, 108, 32, 111, 102, 32, 100, 117, 97, 108]⟩, .string ⟨#[112, 117, 115, 104, 32, 100, 117, 97, 108]⟩, .string ⟨#[105, 100, 101, 109, 112, 111, 116, 101, 110, 116]⟩, .string ⟨#[99, 111, 109, 109, 117, 116, 101]⟩] 9)).cell? ⟨w5.heap.size, 3, none⟩ = some (.string ⟨#[99, 111, 109, 109, 117, 116, 101]⟩) := by go_simp
    have B5 := BZ.then (hb5.then A)
    refine hK.out _ _ ⟨y0, y1⟩ (fun hHeld => ?_)
    clear hK K
    try simp only [Act.put, List.getElem_toArray, List.getElem_cons_zero, List.getElem_cons_succ, List.setIfInBounds_toArray, List.set_cons_zero, List.set_cons_succ]
    refine wpAnyH_strong (S' := (fun w' => w'.cell? ⟨w.heap.size, 0, none⟩ = some (.int .i64 4) ∧ w'.cell? ⟨w.heap.size, 1, none⟩ = some (.int .i64 x.pos) ∧ w'.cell? ⟨w5.heap.size, 3, none⟩ = some (.string ⟨#[99, 111, 109, 109, 117, 116, 101]⟩))) (fun _ h => ⟨h.1, h.2.1⟩) _ _ _ _ ?_
    replace hHeld := And.intro y0 (And.intro y1 yr)
    refine wpAnyH_take (i := 4) (oi := _) (v := ?_) rfl (by kernel_rfl) (by kernel_rfl) (by kernel_rfl) (fun _ _ _ h => h) (Or.inl ⟨by rfl, ?_⟩) (by assumption) ?_
    rotate_left 1
    · (intro wS hSw; (try dsimp only at hSw); go_simp; try with_reducible rfl)
    try simp only [Act.put, List.getElem_toArray, List.getElem_cons_zero, List.getElem_cons_succ, List.setIfInBounds_toArray, List.set_cons_zero, List.set_cons_succ]
    refine wpAnyH_take (i := 5) (oi := _) (v := ?_) rfl (by kernel_rfl) (by kernel_rfl) (by kernel_rfl) (fun _ _ _ h => h) (Or.inl ⟨by rfl, ?_⟩) (by assumption) ?_
    rotate_left 1
    · (intro wS hSw; (try dsimp only at hSw); go_simp; try with_reducible rfl)
    try simp only [Act.put, List.getElem_toArray, List.getElem_cons_zero, List.getElem_cons_succ, List.setIfInBounds_toArray, List.set_cons_zero, List.set_cons_succ]
    refine wpAnyH_take (i := 6) (oi := _) (v := ?_) rfl (by kernel_rfl) (by kernel_rfl) (by kernel_rfl) (fun _ _ _ h => h) (Or.inl ⟨by rfl, ?_⟩) (by assumption) ?_
    rotate_left 1
    · (intro wS hSw; (try dsimp only at hSw); go_simp; try with_reducible rfl)
    try simp only [Act.put, List.getElem_toArray, List.getElem_cons_zero, List.getElem_cons_succ, List.setIfInBounds_toArray, List.set_cons_zero, List.set_cons_succ]
    refine wpAnyH_take (i := 10) (oi := _) (v := ?_) rfl (by kernel_rfl) (by kernel_rfl) (by kernel_rfl) (fun _ _ _ h => h) (Or.inl ⟨by rfl, ?_⟩) (by assumption) ?_
    rotate_left 1
    · (intro wS hSw; (try dsimp only at hSw); go_simp; try with_reducible rfl)
    try simp only [Act.put, List.getElem_toArray, List.getElem_cons_zero, List.getElem_cons_succ, List.setIfInBounds_toArray, List.set_cons_zero, List.set_cons_succ]
    refine wpAnyH_take (i := 11) (oi := _) (v := ?_) rfl (by kernel_rfl) (by kernel_rfl) (by kernel_rfl) (fun _ _ _ h => h) (Or.inl ⟨by rfl, ?_⟩) (by assumption) ?_
    rotate_left 1
    · (intro wS hSw; (try dsimp only at hSw); go_simp; try with_reducible rfl)
    try simp only [Act.put, List.getElem_toArray, List.getElem_cons_zero, List.getElem_cons_succ, List.setIfInBounds_toArray, List.set_cons_zero, List.set_cons_succ]
    refine wpAnyH_take (i := 13) (oi := _) (v := ?_) rfl (by kernel_rfl) (by kernel_rfl) (by kernel_rfl) (fun _ _ _ h => h) (Or.inl ⟨by rfl, ?_⟩) (by assumption) ?_
    rotate_left 1
    · (intro wS hSw; (try dsimp only at hSw); go_simp; try with_reducible rfl)
    try simp only [Act.put, List.getElem_toArray, List.getElem_cons_zero, List.getElem_cons_succ, List.setIfInBounds_toArray, List.set_cons_zero, List.set_cons_succ]
    refine wpAnyH_take (i := 14) (oi := _) (v := ?_) rfl (by kernel_rfl) (by kernel_rfl) (by kernel_rfl) (fun _ _ _ h => h) (Or.inl ⟨by rfl, ?_⟩) (by assumption) ?_
    rotate_left 1
    · (intro wS hSw; (try dsimp only at hSw); go_simp; try with_reducible rfl)
    try simp only [Act.put, List.getElem_toArray, List.getElem_cons_zero, List.getElem_cons_succ, List.setIfInBounds_toArray, List.set_cons_zero, List.set_cons_succ]
    refine wpAnyH_done (by kernel_rfl) ?_ _
    go_wp2
    go_ret
    exact Ret.str HF.out.symm (B1.then B5)
set_option maxRecDepth 100000 in
set_option maxHeartbeats 3200000 in
theorem I_RewriteLine_no (w : World) (x : GRewriting) (v : Value) (h : Rd rNodes w x.after [v]) (hn : (inB x.rule 1 4 && (decide (0 ≤ x.pos) && !(exprText x.after).toList.isEmpty)) = false) :
    Calls Tryz.prog 55 #[.agg #[.int .i64 x.rule, .int .i64 x.pos, v]] w (Ret w (.string ⟨#[]⟩)) := by
  obtain ⟨Av, nv, cv, rfl, l1, l2, l3⟩ := rSl_open h
  clear l1 l2 l3
  have B0 : Bw w (w.alloc (.cells #[.int .i64 x.rule, .int .i64 x.pos, .slice Av nv cv] 64)) := (Bw.refl w).alloc _
  have c1 := I_FormatExpression _ x.after _ (h.bw rNodes_good B0)
  have c2 := fun W => I_within W x.rule 1 4
  obtain ⟨E, hE⟩ : ∃ E, E = exprText x.after := ⟨_, rfl⟩
  obtain ⟨b, hb⟩ : ∃ b, b = inB x.rule 1 4 := ⟨_, rfl⟩
  rw [← hE] at c1 hn
  rw [← hb] at hn
  simp only [← hb] at c2
  have HN := Lib.hid hn
  have C2 := Lib.hid c2
  clear hE hb hn c2 h
  go_enter Tryz.func55, Tryz.ntmps55
  go_wp2_with fail
  refine (c1).mono ?_
  rintro e wa ⟨rfl, hba⟩
  have p0 : wa.cell? ⟨w.heap.size, 0, none⟩ = some (.int .i64 x.rule) := hba.cell (by go_simp)
  have p1 : wa.cell? ⟨w.heap.size, 1, none⟩ = some (.int .i64 x.pos) := hba.cell (by go_simp)
  have p2 : wa.cell? ⟨w.heap.size, 2, none⟩ = some (.slice Av nv cv) := hba.cell (by go_simp)
  have Ba := B0.then hba
  clear c1
  go_wp2_with fail
  refine (C2.out _).mono ?_
  rintro e' w1 ⟨rfl, hb1⟩
  replace p0 := hb1.cell p0
  replace p1 := hb1.cell p1
  have B1 := Ba.then hb1
  cases b with
  | false =>
    go_wp2
    go_ret
    exact Ret.str (rfl) (B1)
  | true =>
    by_cases hp : x.pos < 0
    · go_wp2
      go_ret
      exact Ret.str (rfl) (B1)
    · have e0 : E.toList.isEmpty = true := by
        have := HN.out
        rw [decide_eq_true (show 0 ≤ x.pos by omega)] at this
        simpa using this
      go_wp2
      go_ret
      exact Ret.str (rfl) (B1)
theorem I_RewriteLine (w : World) (x : GRewriting) (v : Value) (h : Rd rNodes w x.after [v]) (hw : (Lit.int .i64 x.pos).wf = true) :
    Calls Tryz.prog 55 #[.agg #[.int .i64 x.rule, .int .i64 x.pos, v]] w (Ret w (.string (rewLine x))) := by
  rcases Bool.eq_false_or_eq_true (inB x.rule 1 4 && (decide (0 ≤ x.pos) && !(exprText x.after).toList.isEmpty)) with hn | hn
  · have hn2 := hn
    simp only [Bool.and_eq_true, decide_eq_true_eq, Bool.not_eq_true'] at hn2
    obtain ⟨h1, h2, h3⟩ := hn2
    have hk := inB_iff.1 h1
    rcases (show x.rule = 1 ∨ x.rule = 2 ∨ x.rule = 3 ∨ x.rule = 4 by omega) with h0 | h0 | h0 | h0
    · rw [h0]; exact I_RewriteLine1 w x v h hw h0 h2 h3
    · rw [h0]; exact I_RewriteLine2 w x v h hw h0 h2 h3
    · rw [h0]; exact I_RewriteLine3 w x v h hw h0 h2 h3
    · rw [h0]; exact I_RewriteLine4 w x v h hw h0 h2 h3
  · rw [show rewLine x = ⟨#[]⟩ by unfold rewLine; rw [hn]; rfl]
    exact I_RewriteLine_no w x v h hn
end Go.Proofs.YtpihighajaeabaaGreat
