/- Lines on comparisons and standings, and valid standings, in both programs. -/
import Derived.Test.YtpihighajaeabaaGreatQBestI
import Derived.Test.YtpihighajaeabaaGreatQChangeM
import Derived.Test.YtpihighajaeabaaGreatQLines3
namespace Go.Proofs.YtpihighajaeabaaGreat
open Go.RowKit
set_option linter.unusedVariables false
set_option linter.unusedSimpArgs false
def codeStr (c : Int) : ByteArray :=
  if c = -1 then ⟨#[119, 111, 114, 115, 101]⟩ else if c = 0 then ⟨#[101, 113, 117, 97, 108]⟩ else if c = 1 then ⟨#[98, 101, 116, 116, 101, 114]⟩ else ⟨#[117, 110, 114, 101, 108, 97, 116, 101, 100]⟩
theorem codeStr_size (c : Int) : (codeStr c).size ≤ 9 := by
  unfold codeStr
  repeat' split
  all_goals decide
theorem wf_small {n : Int} (h : 0 ≤ n ∧ n ≤ 1000000000) : (Lit.int .i64 n).wf = true := by
  simp [Lit.wf, IntKind.min, IntKind.max, IntKind.signed, IntKind.bits]; omega
theorem cmpBy_code {e : List GNode} {p q : GItem} (h : isExpr e = true) : -1 ≤ cmpBy e p q ∧ cmpBy e p q ≤ 2 := by
  have key : ∀ (k : Nat), k ≤ e.length → codes (stackAt e p q k) ∧ depthOf (e.drop k) (stackAt e p q k).length = some 1 := fun k => by
    induction k with
    | zero => intro _; exact ⟨fun v hv => by simp [stackAt] at hv, by simpa [stackAt] using isExpr_depth h⟩
    | succ k ih =>
      intro hk
      obtain ⟨h1, h2⟩ := ih (by omega)
      obtain ⟨x, hx⟩ := get_of_lt (xs := e) (k := k) (by omega)
      obtain ⟨hok, hd⟩ := depth_step h2 hx
      have hge := nodeOk_ge hok
      have hop := nodeOk_op hok
      rw [stackAt_next hx]
      by_cases o0 : x.op = 0
      · rw [stack_base o0]
        refine ⟨codes_snoc h1 (cmpItem_code _ _ _), ?_⟩
        rw [← hd, o0]; congr 1; simp [opnds]
      · by_cases o3 : x.op = 3
        · rw [show opnds x.op = 1 by rw [o3]; rfl] at hge hd
          obtain ⟨T, a, hT⟩ := snoc1 (l := stackAt e p q k) (by omega)
          rw [hT] at h1 hd ⊢
          rw [stack_dual o3]
          refine ⟨codes_snoc (codes_left h1) (neg2_code (h1 a (by simp))), ?_⟩
          rw [← hd]; congr 1; simp; try omega
        · rw [show opnds x.op = 2 by unfold opnds; rw [if_neg o0, if_neg o3]] at hge hd
          obtain ⟨T, a, b, hT⟩ := snoc2 (l := stackAt e p q k) (by omega)
          rw [hT] at h1 hd ⊢
          rw [stack_two o0 o3]
          refine ⟨codes_snoc (codes_left h1) (comb_code (h1 a (by simp)) (h1 b (by simp))), ?_⟩
          rw [← hd]; congr 1; simp; try omega
  obtain ⟨h1, h2⟩ := key e.length (Nat.le_refl _)
  rw [← stackAt_end (k := e.length) (Nat.le_refl _)]
  rw [List.drop_of_length_le (Nat.le_refl _), depthOf] at h2
  injection h2 with h2
  obtain ⟨T, a, hT⟩ := snoc1 (l := stackAt e p q e.length) (by omega)
  have hT0 : T = [] := List.eq_nil_of_length_eq_zero (by rw [hT, List.length_append] at h2; simp only [List.length_singleton] at h2; omega)
  rw [hT, hT0]
  exact h1 a (by rw [hT]; simp)
set_option maxRecDepth 100000 in
theorem S_CodeName (w : World) (c : Int) (hc : -1 ≤ c ∧ c ≤ 2) : Calls Tryz.prog 135 #[.int .i64 c] w (Ret w (.string (codeStr c))) := by
  have ec : c = -1 ∨ c = 0 ∨ c = 1 ∨ c = 2 := by omega
  clear hc
  rcases ec with rfl | rfl | rfl | rfl
  all_goals
    go_enter Tryz.func135, Tryz.ntmps135
    go_wp2
    go_ret
    exact Ret.str rfl (Bw.refl _)
set_option maxRecDepth 100000 in
theorem I_CodeName (w : World) (c : Int) (hc : -1 ≤ c ∧ c ≤ 2) : Calls Tryz.prog 134 #[.int .i64 c] w (Ret w (.string (codeStr c))) := by
  have ec : c = -1 ∨ c = 0 ∨ c = 1 ∨ c = 2 := by omega
  clear hc
  rcases ec with rfl | rfl | rfl | rfl
  all_goals
    go_enter Tryz.func134, Tryz.ntmps134
    go_wp2_with fail
    refine (I_within _ _ _ _).mono ?_
    rintro e w2 ⟨rfl, hb2⟩
    rw [show inB _ (-1) 2 = true from rfl]
    go_wp2
    go_ret
    exact Ret.str rfl (hb2.alloc _)
def cmpLine (e : List GNode) (p q : GItem) : ByteArray := if isExpr e && (isItem p && isItem q) then fmtInt p.id ++ ⟨#[32]⟩ ++ codeStr (cmpBy e p q) ++ ⟨#[32]⟩ ++ fmtInt q.id else ⟨#[]⟩
set_option maxRecDepth 100000 in
set_option maxHeartbeats 1600000 in
theorem I_CompareLine (w : World) (e : List GNode) (p q : GItem) (ve v1 v2 : Value) (h : Rd rNodes w e [ve]) (h1 : Rd rInts w p.vals [v1]) (h2 : Rd rInts w q.vals [v2]) :
    Calls Tryz.prog 53 #[ve, .agg #[.int .i64 p.id, v1], .agg #[.int .i64 q.id, v2]] w (Ret w (.string (cmpLine e p q))) := by
  have B0 : Bw w ((w.alloc (.cells #[.int .i64 p.id, v1] 30)).alloc (.cells #[.int .i64 q.id, v2] 30)) := ((Bw.refl w).alloc _).alloc _
  go_enter Tryz.func53, Tryz.ntmps53
  go_wp2_with fail
  refine (I_IsExpression _ e _ (h.bw rNodes_good B0)).mono ?_
  rintro e w3 ⟨rfl, hb3⟩
  have p0 : w3.cell? ⟨w.heap.size, 0, none⟩ = some (.int .i64 p.id) := hb3.cell (by go_simp)
  have p1 : w3.cell? ⟨w.heap.size, 1, none⟩ = some (v1) := hb3.cell (by go_simp)
  have q0 : w3.cell? ⟨w.heap.size + 1, 0, none⟩ = some (.int .i64 q.id) := hb3.cell (by go_simp)
  have q1 : w3.cell? ⟨w.heap.size + 1, 1, none⟩ = some (v2) := hb3.cell (by go_simp)
  have B3 := B0.then hb3
  rcases Bool.eq_false_or_eq_true (isExpr e) with e1 | e1
  · have E1 := Lib.hid e1
    rw [e1]
    clear e1
    go_wp2_with fail
    refine (I_IsItem _ p _ (h1.bw rInts_good B3)).mono ?_
    rintro e w4 ⟨rfl, hb4⟩
    replace p0 := hb4.cell p0
    replace p1 := hb4.cell p1
    replace q0 := hb4.cell q0
    replace q1 := hb4.cell q1
    replace B3 := B3.then hb4
    rcases Bool.eq_false_or_eq_true (isItem p) with e2 | e2
    · have E2 := Lib.hid e2
      rw [e2]
      clear e2
      go_wp2_with fail
      refine (I_IsItem _ q _ (h2.bw rInts_good B3)).mono ?_
      rintro e w5 ⟨rfl, hb5⟩
      replace p0 := hb5.cell p0
      replace p1 := hb5.cell p1
      replace q0 := hb5.cell q0
      replace q1 := hb5.cell q1
      replace B3 := B3.then hb5
      rcases Bool.eq_false_or_eq_true (isItem q) with e3 | e3
      · have E3 := Lib.hid e3
        rw [e3]
        clear e3
        have hp := Lib.hid (wf_small (n := p.id) (by have := isItem_id E2.out; omega))
        have hq := Lib.hid (wf_small (n := q.id) (by have := isItem_id E3.out; omega))
        have hc := Lib.hid (cmpBy_code (p := p) (q := q) E1.out)
        have HF := Lib.hid (show fmtInt p.id ++ ⟨#[32]⟩ ++ codeStr (cmpBy e p q) ++ ⟨#[32]⟩ ++ fmtInt q.id = cmpLine e p q by rw [cmpLine, E1.out, E2.out, E3.out]; rfl)
        have s0 := since_cell p0
        have s1 := since_cell p1
        have s2 := since_cell q0
        have s3 := since_cell q1
        have k0 := h.bw rNodes_good B3
        have k1 := h1.bw rInts_good B3
        have k2 := h2.bw rInts_good B3
        obtain ⟨P, hP⟩ : ∃ P, P = fmtInt p.id := ⟨_, rfl⟩
        obtain ⟨Q, hQ⟩ : ∃ Q, Q = fmtInt q.id := ⟨_, rfl⟩
        obtain ⟨C, hC⟩ : ∃ C, C = codeStr (cmpBy e p q) := ⟨_, rfl⟩
        have szP : P.size ≤ 20 := by rw [hP]; exact (fmtInt_size hp.out).2
        have szQ : Q.size ≤ 20 := by rw [hQ]; exact (fmtInt_size hq.out).2
        have szC : C.size ≤ 9 := by rw [hC]; exact codeStr_size _
        have cP : ∀ W, Calls Tryz.prog 125 #[.int .i64 p.id] W (Ret W (.string P)) := fun W => by rw [hP]; exact I_FormatInt W p.id hp.out
        have cQ : ∀ W, Calls Tryz.prog 125 #[.int .i64 q.id] W (Ret W (.string Q)) := fun W => by rw [hQ]; exact I_FormatInt W q.id hq.out
        have cC : ∀ W, Calls Tryz.prog 134 #[.int .i64 (cmpBy e p q)] W (Ret W (.string C)) := fun W => by rw [hC]; exact I_CodeName W _ hc.out
        rw [← hP, ← hQ, ← hC] at HF
        have e1 : (⟨#[32]⟩ : ByteArray).size = 1 := rfl
        have a1 : ∀ W, (Op.stringOp .add P ⟨#[32]⟩).run Tryz.prog W = .ok (.string (P ++ ⟨#[32]⟩)) W := fun W => run_string_add_sum W _ _ (by omega)
        have a2 : ∀ W, (Op.stringOp .add (P ++ ⟨#[32]⟩) C).run Tryz.prog W = .ok (.string (P ++ ⟨#[32]⟩ ++ C)) W := fun W => run_string_add_sum W _ _ (by rw [size_append]; omega)
        have a3 : ∀ W, (Op.stringOp .add (P ++ ⟨#[32]⟩ ++ C) ⟨#[32]⟩).run Tryz.prog W = .ok (.string (P ++ ⟨#[32]⟩ ++ C ++ ⟨#[32]⟩)) W := fun W => run_string_add_sum W _ _ (by rw [size_append, size_append]; omega)
        have a4 : ∀ W, (Op.stringOp .add (P ++ ⟨#[32]⟩ ++ C ++ ⟨#[32]⟩) Q).run Tryz.prog W = .ok (.string (P ++ ⟨#[32]⟩ ++ C ++ ⟨#[32]⟩ ++ Q)) W := fun W => run_string_add_sum W _ _ (by rw [size_append, size_append, size_append]; omega)
        clear p0 p1 q0 q1 hP hQ hC szP szQ szC e1
        go_wp2
        refine wp_region_since (by kernel_rfl) (by kernel_rfl) ?_
        repeat (first | go_big_quiet_skip | (go_big_quiet_want; go_big_quiet_op; first | go_big_quiet_on | (apply Exists.intro; refine ⟨fun _ => ?_, ?_⟩; (· (((first | (go_at_call 125; first | (with_reducible exact Calls_since (cP _)) | (with_reducible exact Calls_since (cQ _))) | (go_at_call 78; exact Calls_since (I_compareBy _ e p q _ _ _ (k0.bw rNodes_good (Since.bw _)) (k1.bw rInts_good (Since.bw _)) (k2.bw rInts_good (Since.bw _)) E1.out E2.out E3.out)) | (go_at_call 134; exact Calls_since (cC _)))))); go_big_quiet_on)))
        refine wpQuiet_nil ?_
        rintro ⟨wq, hbq⟩
        dsimp only at *
        go_wp2
        go_ret
        exact Ret.str HF.out (B3.then hbq)
      · have E3 := Lib.hid e3
        rw [e3]
        clear e3
        go_wp2
        go_ret
        exact Ret.str (by rw [cmpLine, E1.out, E2.out, E3.out]; rfl) (B3)
    · have E2 := Lib.hid e2
      rw [e2]
      clear e2
      go_wp2
      go_ret
      exact Ret.str (by rw [cmpLine, E1.out, E2.out]; rfl) (B3)
  · have E1 := Lib.hid e1
    rw [e1]
    clear e1
    go_wp2
    go_ret
    exact Ret.str (by rw [cmpLine, E1.out]; rfl) (B3)
set_option maxRecDepth 100000 in
set_option maxHeartbeats 1600000 in
theorem S_CompareLine (w : World) (e : List GNode) (p q : GItem) (ve v1 v2 : Value) (h : Rd rNodes w e [ve]) (h1 : Rd rInts w p.vals [v1]) (h2 : Rd rInts w q.vals [v2]) :
    Calls Tryz.prog 54 #[ve, .agg #[.int .i64 p.id, v1], .agg #[.int .i64 q.id, v2]] w (Ret w (.string (cmpLine e p q))) := by
  have B0 : Bw w ((w.alloc (.cells #[.int .i64 p.id, v1] 30)).alloc (.cells #[.int .i64 q.id, v2] 30)) := ((Bw.refl w).alloc _).alloc _
  go_enter Tryz.func54, Tryz.ntmps54
  go_wp2_with fail
  refine (S_IsExpression _ e _ (h.bw rNodes_good B0)).mono ?_
  rintro e w3 ⟨rfl, hb3⟩
  have p0 : w3.cell? ⟨w.heap.size, 0, none⟩ = some (.int .i64 p.id) := hb3.cell (by go_simp)
  have p1 : w3.cell? ⟨w.heap.size, 1, none⟩ = some (v1) := hb3.cell (by go_simp)
  have q0 : w3.cell? ⟨w.heap.size + 1, 0, none⟩ = some (.int .i64 q.id) := hb3.cell (by go_simp)
  have q1 : w3.cell? ⟨w.heap.size + 1, 1, none⟩ = some (v2) := hb3.cell (by go_simp)
  have B3 := B0.then hb3
  rcases Bool.eq_false_or_eq_true (isExpr e) with e1 | e1
  · have E1 := Lib.hid e1
    rw [e1]
    clear e1
    go_wp2_with fail
    refine (S_IsItem _ p _ (h1.bw rInts_good B3)).mono ?_
    rintro e w4 ⟨rfl, hb4⟩
    replace p0 := hb4.cell p0
    replace p1 := hb4.cell p1
    replace q0 := hb4.cell q0
    replace q1 := hb4.cell q1
    replace B3 := B3.then hb4
    rcases Bool.eq_false_or_eq_true (isItem p) with e2 | e2
    · have E2 := Lib.hid e2
      rw [e2]
      clear e2
      go_wp2_with fail
      refine (S_IsItem _ q _ (h2.bw rInts_good B3)).mono ?_
      rintro e w5 ⟨rfl, hb5⟩
      replace p0 := hb5.cell p0
      replace p1 := hb5.cell p1
      replace q0 := hb5.cell q0
      replace q1 := hb5.cell q1
      replace B3 := B3.then hb5
      rcases Bool.eq_false_or_eq_true (isItem q) with e3 | e3
      · have E3 := Lib.hid e3
        rw [e3]
        clear e3
        have hp := Lib.hid (wf_small (n := p.id) (by have := isItem_id E2.out; omega))
        have hq := Lib.hid (wf_small (n := q.id) (by have := isItem_id E3.out; omega))
        have hc := Lib.hid (cmpBy_code (p := p) (q := q) E1.out)
        have HF := Lib.hid (show fmtInt p.id ++ ⟨#[32]⟩ ++ codeStr (cmpBy e p q) ++ ⟨#[32]⟩ ++ fmtInt q.id = cmpLine e p q by rw [cmpLine, E1.out, E2.out, E3.out]; rfl)
        have s0 := since_cell p0
        have s1 := since_cell p1
        have s2 := since_cell q0
        have s3 := since_cell q1
        have k0 := h.bw rNodes_good B3
        have k1 := h1.bw rInts_good B3
        have k2 := h2.bw rInts_good B3
        obtain ⟨P, hP⟩ : ∃ P, P = fmtInt p.id := ⟨_, rfl⟩
        obtain ⟨Q, hQ⟩ : ∃ Q, Q = fmtInt q.id := ⟨_, rfl⟩
        obtain ⟨C, hC⟩ : ∃ C, C = codeStr (cmpBy e p q) := ⟨_, rfl⟩
        have szP : P.size ≤ 20 := by rw [hP]; exact (fmtInt_size hp.out).2
        have szQ : Q.size ≤ 20 := by rw [hQ]; exact (fmtInt_size hq.out).2
        have szC : C.size ≤ 9 := by rw [hC]; exact codeStr_size _
        have cP : ∀ W, Calls Tryz.prog 64 #[.int .i64 p.id] W (Ret W (.string P)) := fun W => by rw [hP]; exact S_FormatInt W p.id hp.out
        have cQ : ∀ W, Calls Tryz.prog 64 #[.int .i64 q.id] W (Ret W (.string Q)) := fun W => by rw [hQ]; exact S_FormatInt W q.id hq.out
        have cC : ∀ W, Calls Tryz.prog 135 #[.int .i64 (cmpBy e p q)] W (Ret W (.string C)) := fun W => by rw [hC]; exact S_CodeName W _ hc.out
        rw [← hP, ← hQ, ← hC] at HF
        have e1 : (⟨#[32]⟩ : ByteArray).size = 1 := rfl
        have a1 : ∀ W, (Op.stringOp .add P ⟨#[32]⟩).run Tryz.prog W = .ok (.string (P ++ ⟨#[32]⟩)) W := fun W => run_string_add_sum W _ _ (by omega)
        have a2 : ∀ W, (Op.stringOp .add (P ++ ⟨#[32]⟩) C).run Tryz.prog W = .ok (.string (P ++ ⟨#[32]⟩ ++ C)) W := fun W => run_string_add_sum W _ _ (by rw [size_append]; omega)
        have a3 : ∀ W, (Op.stringOp .add (P ++ ⟨#[32]⟩ ++ C) ⟨#[32]⟩).run Tryz.prog W = .ok (.string (P ++ ⟨#[32]⟩ ++ C ++ ⟨#[32]⟩)) W := fun W => run_string_add_sum W _ _ (by rw [size_append, size_append]; omega)
        have a4 : ∀ W, (Op.stringOp .add (P ++ ⟨#[32]⟩ ++ C ++ ⟨#[32]⟩) Q).run Tryz.prog W = .ok (.string (P ++ ⟨#[32]⟩ ++ C ++ ⟨#[32]⟩ ++ Q)) W := fun W => run_string_add_sum W _ _ (by rw [size_append, size_append, size_append]; omega)
        clear p0 p1 q0 q1 hP hQ hC szP szQ szC e1
        go_wp2
        refine wp_region_since (by kernel_rfl) (by kernel_rfl) ?_
        repeat (first | go_big_quiet_skip | (go_big_quiet_want; go_big_quiet_op; first | go_big_quiet_on | (apply Exists.intro; refine ⟨fun _ => ?_, ?_⟩; (· (((first | (go_at_call 64; first | (with_reducible exact Calls_since (cP _)) | (with_reducible exact Calls_since (cQ _))) | (go_at_call 85; exact Calls_since (S_l5Compare _ e p q _ _ _ (k0.bw rNodes_good (Since.bw _)) (k1.bw rInts_good (Since.bw _)) (k2.bw rInts_good (Since.bw _)) E1.out E2.out E3.out)) | (go_at_call 135; exact Calls_since (cC _)))))); go_big_quiet_on)))
        refine wpQuiet_nil ?_
        rintro ⟨wq, hbq⟩
        dsimp only at *
        go_wp2
        go_ret
        exact Ret.str HF.out (B3.then hbq)
      · have E3 := Lib.hid e3
        rw [e3]
        clear e3
        go_wp2
        go_ret
        exact Ret.str (by rw [cmpLine, E1.out, E2.out, E3.out]; rfl) (B3)
    · have E2 := Lib.hid e2
      rw [e2]
      clear e2
      go_wp2
      go_ret
      exact Ret.str (by rw [cmpLine, E1.out, E2.out]; rfl) (B3)
  · have E1 := Lib.hid e1
    rw [e1]
    clear e1
    go_wp2
    go_ret
    exact Ret.str (by rw [cmpLine, E1.out]; rfl) (B3)
end Go.Proofs.YtpihighajaeabaaGreat
