/- Lines on standings in both programs. -/
import Derived.Test.YtdfmgpmfalnffaaStanding
import Derived.Test.YtdfmgpmfalnffaaLines
namespace Go.Proofs.Ytdfmgpmfalnffaa
open Go.RowKit
set_option linter.unusedVariables false
set_option linter.unusedSimpArgs false
def standLine (x : GStanding) : ByteArray :=
  if isStand x then ⟨#[105, 116, 101, 109, 115, 32]⟩ ++ fmtInt x.items.length ++ ⟨#[32, 98, 101, 115, 116, 32]⟩ ++ idLine x.best ++ ⟨#[32, 116, 101, 115, 116, 115, 32]⟩ ++ fmtInt x.tests else ⟨#[]⟩
theorem wf_small' {n : Int} (h : 0 ≤ n ∧ n ≤ 1000000000) : (Lit.int .i64 n).wf = true := by
  simp [Lit.wf, IntKind.min, IntKind.max, IntKind.signed, IntKind.bits]; omega
theorem bestM_ids {l : List GItem} {e : List GNode} (h : areItems l = true) : ∀ v ∈ bestM l e, 0 ≤ v ∧ v ≤ 99 := fun v hv => by
  unfold bestM at hv
  obtain ⟨x, hx, rfl⟩ := List.mem_map.1 hv
  exact isItem_id (areItems_mem h (List.mem_filter.1 hx).1)
theorem idLine_size {l : List Int} (hw : ∀ x ∈ l, (Lit.int .i64 x).wf = true) : (idLine l).size ≤ 4 + l.length * 21 := by
  unfold idLine
  split
  · show 4 ≤ _; omega
  · unfold numText glued
    have h1 := gl_size ⟨#[32]⟩ (numList l) 0 ⟨#[]⟩
    have h2 := numList_size (l := l) ⟨#[32]⟩ hw
    have e : (⟨#[32]⟩ : ByteArray).size = 1 := rfl
    have e0 : (⟨#[]⟩ : ByteArray).size = 0 := rfl
    rw [e] at h2
    omega
set_option maxRecDepth 100000 in
set_option maxHeartbeats 1600000 in
theorem I_StandingLine (w : World) (x : GStanding) (va vb vc : Value) (ha : Rd rItems w x.items [va]) (hb : Rd rNodes w x.wanted [vb]) (hc : Rd rInts w x.best [vc]) :
    Calls Try.prog 56 #[.agg #[va, vb, vc, .int .i64 x.tests]] w (Ret w (.string (standLine x))) := by
  obtain ⟨A, n, c, rfl, L0, Lc, Lm⟩ := rSl_open ha
  unfold maxLen at Lm
  have L := Lib.hid L0
  clear L0
  have B0 : Bw w (w.alloc (.cells #[.slice A n c, vb, vc, .int .i64 x.tests] 61)) := (Bw.refl w).alloc _
  go_enter Try.func56, Try.ntmps56
  go_wp2_with fail
  refine (I_IsStanding _ x _ _ _ (ha.bw rItems_good B0) (hb.bw rNodes_good B0) (hc.bw rInts_good B0)).mono ?_
  rintro e w2 ⟨rfl, hb2⟩
  have p0 : w2.cell? ⟨w.heap.size, 0, none⟩ = some (.slice A n c) := hb2.cell (by go_simp)
  have p1 : w2.cell? ⟨w.heap.size, 1, none⟩ = some (vb) := hb2.cell (by go_simp)
  have p2 : w2.cell? ⟨w.heap.size, 2, none⟩ = some (vc) := hb2.cell (by go_simp)
  have p3 : w2.cell? ⟨w.heap.size, 3, none⟩ = some (.int .i64 x.tests) := hb2.cell (by go_simp)
  have B2 := B0.then hb2
  rcases Bool.eq_false_or_eq_true (isStand x) with e1 | e1
  · have E1 := Lib.hid e1
    rw [e1]
    clear e1
    have hst := E1.out
    unfold isStand at hst
    simp only [Bool.and_eq_true, decide_eq_true_iff] at hst
    obtain ⟨h1, h2, h3⟩ := hst
    have hI := areBoth_items h1
    have hn16 := areItems_len hI
    rw [← L.out] at hn16
    have ht := inB_iff.1 h3
    have hids : ∀ v ∈ x.best, (Lit.int .i64 v).wf = true := fun v hv => wf_small' (by rw [h2] at hv; have := bestM_ids hI v hv; omega)
    have hbl : x.best.length ≤ 16 := by rw [h2]; have := bestM_len x.items x.wanted; rw [← L.out] at this; omega
    have hsz := idLine_size hids
    have HF := Lib.hid (show ⟨#[105, 116, 101, 109, 115, 32]⟩ ++ fmtInt x.items.length ++ ⟨#[32, 98, 101, 115, 116, 32]⟩ ++ idLine x.best ++ ⟨#[32, 116, 101, 115, 116, 115, 32]⟩ ++ fmtInt x.tests = standLine x by rw [standLine, if_pos E1.out])
    rw [← L.out] at HF
    have wn := wf_small' (n := (n : Int)) (by omega)
    have wt := wf_small' (n := x.tests) (by omega)
    have k2 := hc.bw rInts_good B2
    obtain ⟨P, hP⟩ : ∃ P, P = fmtInt n := ⟨_, rfl⟩
    obtain ⟨Q, hQ⟩ : ∃ Q, Q = fmtInt x.tests := ⟨_, rfl⟩
    obtain ⟨C, hC⟩ : ∃ C, C = idLine x.best := ⟨_, rfl⟩
    have szP : P.size ≤ 20 := by rw [hP]; exact (fmtInt_size wn).2
    have szQ : Q.size ≤ 20 := by rw [hQ]; exact (fmtInt_size wt).2
    have szC : C.size ≤ 400 := by rw [hC]; omega
    have cP : ∀ W, Calls Try.prog 75 #[.int .i64 (n : Int)] W (Ret W (.string P)) := fun W => by rw [hP]; exact I_FormatInt W n wn
    have cQ : ∀ W, Calls Try.prog 75 #[.int .i64 x.tests] W (Ret W (.string Q)) := fun W => by rw [hQ]; exact I_FormatInt W x.tests wt
    have cC : ∀ s : Since w2, Calls Try.prog 110 #[vc] s.1 (Ret s.1 (.string C)) := fun s => by rw [hC]; exact I_IdLine s.1 x.best vc (k2.bw rInts_good s.bw) hids (by omega)
    rw [← hP, ← hQ, ← hC] at HF
    have a1 : ∀ W, (Op.stringOp .add ⟨#[105, 116, 101, 109, 115, 32]⟩ P).run Try.prog W = .ok (.string (⟨#[105, 116, 101, 109, 115, 32]⟩ ++ P)) W := fun W => run_string_add_sum W _ _ (by have : (⟨#[105, 116, 101, 109, 115, 32]⟩ : ByteArray).size = 6 := rfl; omega)
    have a2 : ∀ W, (Op.stringOp .add (⟨#[105, 116, 101, 109, 115, 32]⟩ ++ P) ⟨#[32, 98, 101, 115, 116, 32]⟩).run Try.prog W = .ok (.string (⟨#[105, 116, 101, 109, 115, 32]⟩ ++ P ++ ⟨#[32, 98, 101, 115, 116, 32]⟩)) W := fun W => run_string_add_sum W _ _ (by have : (⟨#[105, 116, 101, 109, 115, 32]⟩ : ByteArray).size = 6 := rfl; have : (⟨#[32, 98, 101, 115, 116, 32]⟩ : ByteArray).size = 6 := rfl; rw [size_append]; omega)
    have a3 : ∀ W, (Op.stringOp .add (⟨#[105, 116, 101, 109, 115, 32]⟩ ++ P ++ ⟨#[32, 98, 101, 115, 116, 32]⟩) C).run Try.prog W = .ok (.string (⟨#[105, 116, 101, 109, 115, 32]⟩ ++ P ++ ⟨#[32, 98, 101, 115, 116, 32]⟩ ++ C)) W := fun W => run_string_add_sum W _ _ (by have : (⟨#[105, 116, 101, 109, 115, 32]⟩ : ByteArray).size = 6 := rfl; have : (⟨#[32, 98, 101, 115, 116, 32]⟩ : ByteArray).size = 6 := rfl; rw [size_append, size_append]; omega)
    have a4 : ∀ W, (Op.stringOp .add (⟨#[105, 116, 101, 109, 115, 32]⟩ ++ P ++ ⟨#[32, 98, 101, 115, 116, 32]⟩ ++ C) ⟨#[32, 116, 101, 115, 116, 115, 32]⟩).run Try.prog W = .ok (.string (⟨#[105, 116, 101, 109, 115, 32]⟩ ++ P ++ ⟨#[32, 98, 101, 115, 116, 32]⟩ ++ C ++ ⟨#[32, 116, 101, 115, 116, 115, 32]⟩)) W := fun W => run_string_add_sum W _ _ (by have : (⟨#[105, 116, 101, 109, 115, 32]⟩ : ByteArray).size = 6 := rfl; have : (⟨#[32, 98, 101, 115, 116, 32]⟩ : ByteArray).size = 6 := rfl; have : (⟨#[32, 116, 101, 115, 116, 115, 32]⟩ : ByteArray).size = 7 := rfl; rw [size_append, size_append, size_append]; omega)
    have a5 : ∀ W, (Op.stringOp .add (⟨#[105, 116, 101, 109, 115, 32]⟩ ++ P ++ ⟨#[32, 98, 101, 115, 116, 32]⟩ ++ C ++ ⟨#[32, 116, 101, 115, 116, 115, 32]⟩) Q).run Try.prog W = .ok (.string (⟨#[105, 116, 101, 109, 115, 32]⟩ ++ P ++ ⟨#[32, 98, 101, 115, 116, 32]⟩ ++ C ++ ⟨#[32, 116, 101, 115, 116, 115, 32]⟩ ++ Q)) W := fun W => run_string_add_sum W _ _ (by have : (⟨#[105, 116, 101, 109, 115, 32]⟩ : ByteArray).size = 6 := rfl; have : (⟨#[32, 98, 101, 115, 116, 32]⟩ : ByteArray).size = 6 := rfl; have : (⟨#[32, 116, 101, 115, 116, 115, 32]⟩ : ByteArray).size = 7 := rfl; rw [size_append, size_append, size_append, size_append]; omega)
    have s0 := since_cell p0
    have s2 := since_cell p2
    have s3 := since_cell p3
    clear p0 p1 p2 p3 hP hQ hC szP szQ szC h1 h2 h3 hI hn16 ht hids hbl hsz wn wt k2
    go_wp2
    refine wp_region_since (by kernel_rfl) (by kernel_rfl) ?_
    repeat (first | go_big_quiet_skip | (go_big_quiet_want; go_big_quiet_op; first | go_big_quiet_on | (apply Exists.intro; refine ⟨fun _ => ?_, ?_⟩; (· (((first | (go_at_call 75; first | (with_reducible exact Calls_since (cP _)) | (with_reducible exact Calls_since (cQ _))) | (go_at_call 110; exact Calls_since (cC _)))))); go_big_quiet_on)))
    refine wpQuiet_nil ?_
    rintro ⟨wq, hbq⟩
    dsimp only at *
    go_wp2
    go_ret
    exact Ret.str HF.out (B2.then hbq)
  · have E1 := Lib.hid e1
    rw [e1]
    clear e1
    go_wp2
    go_ret
    exact Ret.str (by rw [standLine, E1.out]; rfl) (B2)
set_option maxRecDepth 100000 in
set_option maxHeartbeats 1600000 in
theorem S_StandingLine (w : World) (x : GStanding) (va vb vc : Value) (ha : Rd rItems w x.items [va]) (hb : Rd rNodes w x.wanted [vb]) (hc : Rd rInts w x.best [vc]) :
    Calls Try.prog 55 #[.agg #[va, vb, vc, .int .i64 x.tests]] w (Ret w (.string (standLine x))) := by
  obtain ⟨A, n, c, rfl, L0, Lc, Lm⟩ := rSl_open ha
  unfold maxLen at Lm
  have L := Lib.hid L0
  clear L0
  have B0 : Bw w (w.alloc (.cells #[.slice A n c, vb, vc, .int .i64 x.tests] 61)) := (Bw.refl w).alloc _
  go_enter Try.func55, Try.ntmps55
  go_wp2_with fail
  refine (S_IsStanding _ x _ _ _ (ha.bw rItems_good B0) (hb.bw rNodes_good B0) (hc.bw rInts_good B0)).mono ?_
  rintro e w2 ⟨rfl, hb2⟩
  have p0 : w2.cell? ⟨w.heap.size, 0, none⟩ = some (.slice A n c) := hb2.cell (by go_simp)
  have p1 : w2.cell? ⟨w.heap.size, 1, none⟩ = some (vb) := hb2.cell (by go_simp)
  have p2 : w2.cell? ⟨w.heap.size, 2, none⟩ = some (vc) := hb2.cell (by go_simp)
  have p3 : w2.cell? ⟨w.heap.size, 3, none⟩ = some (.int .i64 x.tests) := hb2.cell (by go_simp)
  have B2 := B0.then hb2
  rcases Bool.eq_false_or_eq_true (isStand x) with e1 | e1
  · have E1 := Lib.hid e1
    rw [e1]
    clear e1
    have hst := E1.out
    unfold isStand at hst
    simp only [Bool.and_eq_true, decide_eq_true_iff] at hst
    obtain ⟨h1, h2, h3⟩ := hst
    have hI := areBoth_items h1
    have hn16 := areItems_len hI
    rw [← L.out] at hn16
    have ht := inB_iff.1 h3
    have hids : ∀ v ∈ x.best, (Lit.int .i64 v).wf = true := fun v hv => wf_small' (by rw [h2] at hv; have := bestM_ids hI v hv; omega)
    have hbl : x.best.length ≤ 16 := by rw [h2]; have := bestM_len x.items x.wanted; rw [← L.out] at this; omega
    have hsz := idLine_size hids
    have HF := Lib.hid (show ⟨#[105, 116, 101, 109, 115, 32]⟩ ++ fmtInt x.items.length ++ ⟨#[32, 98, 101, 115, 116, 32]⟩ ++ idLine x.best ++ ⟨#[32, 116, 101, 115, 116, 115, 32]⟩ ++ fmtInt x.tests = standLine x by rw [standLine, if_pos E1.out])
    rw [← L.out] at HF
    have wn := wf_small' (n := (n : Int)) (by omega)
    have wt := wf_small' (n := x.tests) (by omega)
    have k2 := hc.bw rInts_good B2
    obtain ⟨P, hP⟩ : ∃ P, P = fmtInt n := ⟨_, rfl⟩
    obtain ⟨Q, hQ⟩ : ∃ Q, Q = fmtInt x.tests := ⟨_, rfl⟩
    obtain ⟨C, hC⟩ : ∃ C, C = idLine x.best := ⟨_, rfl⟩
    have szP : P.size ≤ 20 := by rw [hP]; exact (fmtInt_size wn).2
    have szQ : Q.size ≤ 20 := by rw [hQ]; exact (fmtInt_size wt).2
    have szC : C.size ≤ 400 := by rw [hC]; omega
    have cP : ∀ W, Calls Try.prog 72 #[.int .i64 (n : Int)] W (Ret W (.string P)) := fun W => by rw [hP]; exact S_FormatInt W n wn
    have cQ : ∀ W, Calls Try.prog 72 #[.int .i64 x.tests] W (Ret W (.string Q)) := fun W => by rw [hQ]; exact S_FormatInt W x.tests wt
    have cC : ∀ s : Since w2, Calls Try.prog 109 #[vc] s.1 (Ret s.1 (.string C)) := fun s => by rw [hC]; exact S_IdLine s.1 x.best vc (k2.bw rInts_good s.bw) hids (by omega)
    rw [← hP, ← hQ, ← hC] at HF
    have a1 : ∀ W, (Op.stringOp .add ⟨#[105, 116, 101, 109, 115, 32]⟩ P).run Try.prog W = .ok (.string (⟨#[105, 116, 101, 109, 115, 32]⟩ ++ P)) W := fun W => run_string_add_sum W _ _ (by have : (⟨#[105, 116, 101, 109, 115, 32]⟩ : ByteArray).size = 6 := rfl; omega)
    have a2 : ∀ W, (Op.stringOp .add (⟨#[105, 116, 101, 109, 115, 32]⟩ ++ P) ⟨#[32, 98, 101, 115, 116, 32]⟩).run Try.prog W = .ok (.string (⟨#[105, 116, 101, 109, 115, 32]⟩ ++ P ++ ⟨#[32, 98, 101, 115, 116, 32]⟩)) W := fun W => run_string_add_sum W _ _ (by have : (⟨#[105, 116, 101, 109, 115, 32]⟩ : ByteArray).size = 6 := rfl; have : (⟨#[32, 98, 101, 115, 116, 32]⟩ : ByteArray).size = 6 := rfl; rw [size_append]; omega)
    have a3 : ∀ W, (Op.stringOp .add (⟨#[105, 116, 101, 109, 115, 32]⟩ ++ P ++ ⟨#[32, 98, 101, 115, 116, 32]⟩) C).run Try.prog W = .ok (.string (⟨#[105, 116, 101, 109, 115, 32]⟩ ++ P ++ ⟨#[32, 98, 101, 115, 116, 32]⟩ ++ C)) W := fun W => run_string_add_sum W _ _ (by have : (⟨#[105, 116, 101, 109, 115, 32]⟩ : ByteArray).size = 6 := rfl; have : (⟨#[32, 98, 101, 115, 116, 32]⟩ : ByteArray).size = 6 := rfl; rw [size_append, size_append]; omega)
    have a4 : ∀ W, (Op.stringOp .add (⟨#[105, 116, 101, 109, 115, 32]⟩ ++ P ++ ⟨#[32, 98, 101, 115, 116, 32]⟩ ++ C) ⟨#[32, 116, 101, 115, 116, 115, 32]⟩).run Try.prog W = .ok (.string (⟨#[105, 116, 101, 109, 115, 32]⟩ ++ P ++ ⟨#[32, 98, 101, 115, 116, 32]⟩ ++ C ++ ⟨#[32, 116, 101, 115, 116, 115, 32]⟩)) W := fun W => run_string_add_sum W _ _ (by have : (⟨#[105, 116, 101, 109, 115, 32]⟩ : ByteArray).size = 6 := rfl; have : (⟨#[32, 98, 101, 115, 116, 32]⟩ : ByteArray).size = 6 := rfl; have : (⟨#[32, 116, 101, 115, 116, 115, 32]⟩ : ByteArray).size = 7 := rfl; rw [size_append, size_append, size_append]; omega)
    have a5 : ∀ W, (Op.stringOp .add (⟨#[105, 116, 101, 109, 115, 32]⟩ ++ P ++ ⟨#[32, 98, 101, 115, 116, 32]⟩ ++ C ++ ⟨#[32, 116, 101, 115, 116, 115, 32]⟩) Q).run Try.prog W = .ok (.string (⟨#[105, 116, 101, 109, 115, 32]⟩ ++ P ++ ⟨#[32, 98, 101, 115, 116, 32]⟩ ++ C ++ ⟨#[32, 116, 101, 115, 116, 115, 32]⟩ ++ Q)) W := fun W => run_string_add_sum W _ _ (by have : (⟨#[105, 116, 101, 109, 115, 32]⟩ : ByteArray).size = 6 := rfl; have : (⟨#[32, 98, 101, 115, 116, 32]⟩ : ByteArray).size = 6 := rfl; have : (⟨#[32, 116, 101, 115, 116, 115, 32]⟩ : ByteArray).size = 7 := rfl; rw [size_append, size_append, size_append, size_append]; omega)
    have s0 := since_cell p0
    have s2 := since_cell p2
    have s3 := since_cell p3
    clear p0 p1 p2 p3 hP hQ hC szP szQ szC h1 h2 h3 hI hn16 ht hids hbl hsz wn wt k2
    go_wp2
    refine wp_region_since (by kernel_rfl) (by kernel_rfl) ?_
    repeat (first | go_big_quiet_skip | (go_big_quiet_want; go_big_quiet_op; first | go_big_quiet_on | (apply Exists.intro; refine ⟨fun _ => ?_, ?_⟩; (· (((first | (go_at_call 72; first | (with_reducible exact Calls_since (cP _)) | (with_reducible exact Calls_since (cQ _))) | (go_at_call 109; exact Calls_since (cC _)))))); go_big_quiet_on)))
    refine wpQuiet_nil ?_
    rintro ⟨wq, hbq⟩
    dsimp only at *
    go_wp2
    go_ret
    exact Ret.str HF.out (B2.then hbq)
  · have E1 := Lib.hid e1
    rw [e1]
    clear e1
    go_wp2
    go_ret
    exact Ret.str (by rw [standLine, E1.out]; rfl) (B2)
end Go.Proofs.Ytdfmgpmfalnffaa
