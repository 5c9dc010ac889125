/- Lines on standings in both programs. -/
import Derived.Test.YtpihighajaeabaaGreatQText
import Derived.Test.YtpihighajaeabaaGreatQStanding
namespace Go.Proofs.YtpihighajaeabaaGreat
open Go.RowKit
set_option linter.unusedVariables false
theorem info_str : (Tryz.prog.info? 9).map (fun i => (i.zero, i.size, i.bytes)) = some (some (.string ⟨#[]⟩), 1, 16) := by kernel_rfl
abbrev fStrs : Fp (List ByteArray) := fSl 9 1 fStr
theorem fStrs_good {B : Nat} : GoodF B fStrs := fSl_good fStr_good
theorem fStrs_rd {B : Nat} {w : World} {xs : List ByteArray} {cs : List Value} {F : List Nat} (h : fStrs w xs cs F) : rStrs w (fun b => b ∈ F ∨ b < B) xs cs := fSl_rd rStr_good (fun _ _ _ h => fStr_rd h) h
theorem fStrs_Rd {w : World} {xs : List ByteArray} {cs : List Value} {F : List Nat} (h : fStrs w xs cs F) : Rd rStrs w xs cs := Rd.of rStrs_good (B := 0) (fStrs_rd h) ((fStrs_good (B := 0)).lt h) (Nat.zero_le _)
def numList (l : List Int) : List ByteArray := l.map fmtInt
theorem numList_snoc {l : List Int} {k : Nat} {x : Int} (h : l[k]? = some x) : numList (l.take (k + 1)) = numList (l.take k) ++ [fmtInt x] := by
  rw [List.take_add_one, h]; simp [numList]
theorem numList_size {l : List Int} (sep : ByteArray) (hw : ∀ x ∈ l, (Lit.int .i64 x).wf = true) : glSize sep (numList l) ≤ l.length * (20 + sep.size) := by
  induction l with
  | nil => simp [numList, glSize, sumL]
  | cons x l ih =>
    have h1 := (fmtInt_size (hw x (by simp))).2
    have h2 := ih (fun y hy => hw y (by simp [hy]))
    simp only [numList, List.map_cons, glSize, sumL, List.length_cons, Nat.succ_mul] at h2 ⊢
    omega
def numText (l : List Int) (sep : ByteArray) : ByteArray := glued (numList l) sep
set_option maxHeartbeats 800000 in
theorem I_numbers (w : World) (l : List Int) (sep : ByteArray) (v : Value) (h : Rd rInts w l [v]) (hw : ∀ x ∈ l, (Lit.int .i64 x).wf = true) (hn : l.length ≤ 1048576) (hp : sep.size ≤ 1024) :
    Calls Tryz.prog 132 #[v, .string sep] w (Ret w (.string (numText l sep))) := by
  obtain ⟨i0, hi, hz0, hz1, hz2⟩ := info_parts info_str
  obtain ⟨A, n, c, rfl, a1, a2, a3⟩ := rSl_open h
  have L1 := Lib.hid a1
  rw [← a1] at hn
  clear a1
  have hv0 := fSl_empty (e := 9) (sz := 1) (R := fStr) w
  go_enter Tryz.func132, Tryz.ntmps132
  go_wp2
  go_loopw [5, 11] (fun s i w' => ∃ (k : Nat) (F : List Nat), k ≤ n ∧ i = .int .i64 k ∧ fStrs w' (numList (l.take k)) [s] F ∧ Fresh w.heap.size F ∧ Bw w w') (fun s i _ => n - (intOf i).toNat)
  case atStart => exact ⟨0, _, by omega, rfl, hv0, ⟨by simp, by simp⟩, (Bw.refl _).alloc _⟩
  case round =>
    obtain ⟨k, F, hk, rfl, hv, hF, hb⟩ := hrel
    by_cases hlt : k < n
    · obtain ⟨x, hx⟩ := get_of_lt (xs := l) (k := k) (by rw [← L1.out]; exact hlt)
      obtain ⟨ba, oa, rfl, _, hcx⟩ := rInts_at (h.bw rInts_good hb) hx
      have hwx := hw x (List.mem_of_getElem? hx)
      have HS := Lib.hid (numList_snoc hx)
      have hkl : (numList (l.take k)).length = k := by rw [numList, List.length_map, List.length_take]; have := L1.out; omega
      have HK := Lib.hid hkl
      clear hx h hw hv0 hkl
      go_wp2_with fail
      refine (I_FormatInt _ x hwx).mono ?_
      rintro e w1 ⟨rfl, hb1⟩
      have hv1 := (fStrs_good (B := w.heap.size)).bw hb1 hb.size hv
      have hbb := hb.then hb1
      have hvW := (fStrs_good (B := w.heap.size)).bw ((Bw.refl w1).alloc (.cells #[.string (fmtInt x)] 9)) hbb.size hv1
      have hFm := (fStrs_good (B := 0)).lt hv1
      have hbW := hbb.alloc (.cells #[.string (fmtInt x)] 9)
      have hcl := cell_one_new w1 (.string (fmtInt x)) 9
      clear hv hv1 hwx
      go_wp2_with (at_builtin; refine wpList_push _ rfl (.tmp 15) (.tmp 18) 58 rfl w 9 i0 _ 1 16 Tryz.underlying58 hi hz0 hz1 hz2 rfl (by omega) fStr_good _ (numList (l.take k)) F rfl hvW hF ⟨w1.heap.size, 0, none⟩ 1 rfl (fmtInt x) [.string (fmtInt x)] [] hcl ⟨rfl, rfl⟩ rfl w1.heap.size hFm Fresh.nil hbb.size (by rw [HK.out]; omega) (by rw [HK.out]; omega) hbW ?_; intro v' w' F' hv' hF' hb')
      go_roundw
      case rel => exact ⟨k + 1, F', by omega, by go_num, by rw [HS.out]; exact hv', hF', hb'⟩
      case measure => simp [intOf]; omega
    · obtain rfl : k = n := by omega
      rw [List.take_of_length_le (by rw [← L1.out]; exact Nat.le_refl _)] at hv
      have hsz := numList_size sep hw
      rw [← L1.out] at hsz
      have hm : k * (20 + sep.size) ≤ 1048576 * 1044 := Nat.mul_le_mul hn (by omega)
      go_wp2_with fail
      refine (I_glued _ (numList l) sep _ (fStrs_Rd hv) (by omega) hp).mono ?_
      rintro e w1 ⟨rfl, hb1⟩
      go_wp2
      go_ret
      exact Ret.str rfl (hb.then hb1)
def sp : ByteArray := ⟨#[32]⟩
def idLine (l : List Int) : ByteArray := if l = [] then ⟨#[110, 111, 110, 101]⟩ else numText l ⟨#[32]⟩
set_option maxHeartbeats 800000 in
theorem I_IdLine (w : World) (l : List Int) (v : Value) (h : Rd rInts w l [v]) (hw : ∀ x ∈ l, (Lit.int .i64 x).wf = true) (hn : l.length ≤ 1048576) :
    Calls Tryz.prog 51 #[v] w (Ret w (.string (idLine l))) := by
  obtain ⟨A, n, c, rfl, a1, a2, a3⟩ := rSl_open h
  have L1 := Lib.hid a1
  clear a1
  by_cases h0 : n = 0
  · have ht : ((n : Int) == 0) = true := by simp [h0]
    have e : idLine l = ⟨#[110, 111, 110, 101]⟩ := by rw [idLine, if_pos (List.eq_nil_of_length_eq_zero (by rw [← L1.out]; exact h0))]
    have E := Lib.hid e
    clear e h0
    go_enter Tryz.func51, Tryz.ntmps51
    go_wp2
    go_ret
    exact Ret.str E.out.symm (Bw.refl _)
  · have ht : ((n : Int) == 0) = false := by simp; omega
    have e : idLine l = numText l ⟨#[32]⟩ := by rw [idLine, if_neg (fun hl => h0 (by rw [L1.out, hl]; rfl))]
    have E := Lib.hid e
    clear e h0
    go_enter Tryz.func51, Tryz.ntmps51
    go_wp2_with fail
    refine (I_numbers _ l ⟨#[32]⟩ _ h hw hn (by show (1 : Nat) ≤ 1024; omega)).mono ?_
    rintro e w1 ⟨rfl, hb1⟩
    go_wp2
    go_ret
    exact Ret.str E.out.symm hb1
theorem str_ne {s : ByteArray} (h : 0 < s.size) : s.toList.isEmpty = false := by
  rw [ByteArray.toList_eq]
  have : s.data.toList.length = s.size := by rw [Array.length_toList]; rfl
  cases e : s.data.toList with
  | nil => rw [e] at this; simp at this; omega
  | cons => rfl
theorem gl_ne (sep : ByteArray) : ∀ (l : List ByteArray) (i : Nat) (acc : ByteArray), acc.size ≤ (gl sep i acc l).size
  | [], _, _ => Nat.le_refl _
  | t :: ts, i, acc => by
    rw [gl]
    by_cases h : 0 < i
    · have := gl_ne sep ts (i + 1) (acc ++ sep ++ t)
      rw [size_append, size_append] at this
      rw [if_pos h]; omega
    · have := gl_ne sep ts (i + 1) (acc ++ t)
      rw [size_append] at this
      rw [if_neg h]; omega
theorem numText_ne {l : List Int} (sep : ByteArray) (hw : ∀ x ∈ l, (Lit.int .i64 x).wf = true) (h : l ≠ []) : 0 < (numText l sep).size := by
  cases l with
  | nil => exact absurd rfl h
  | cons x l =>
    have h1 := fmtInt_size (hw x (by simp))
    have h2 := gl_ne sep (numList l) 1 (⟨#[]⟩ ++ fmtInt x)
    rw [size_append] at h2
    have e : numText (x :: l) sep = gl sep 1 (⟨#[]⟩ ++ fmtInt x) (numList l) := rfl
    rw [e]; omega
theorem numText_step {sep acc : ByteArray} {l : List Int} {k : Nat} {x : Int} (h : l[k]? = some x) : gl sep k acc (numList (l.drop k)) = gl sep (k + 1) ((if 0 < k then acc ++ sep else acc) ++ fmtInt x) (numList (l.drop (k + 1))) := by
  rw [drop_cons h]; rfl
set_option maxHeartbeats 1600000 in
theorem S_IdLine (w : World) (l : List Int) (v : Value) (h : Rd rInts w l [v]) (hw : ∀ x ∈ l, (Lit.int .i64 x).wf = true) (hn : l.length ≤ 1048576) :
    Calls Tryz.prog 52 #[v] w (Ret w (.string (idLine l))) := by
  obtain ⟨A, n, c, rfl, a1, a2, a3⟩ := rSl_open h
  have L1 := Lib.hid a1
  rw [← a1] at hn
  clear a1
  go_enter Tryz.func52, Tryz.ntmps52
  go_wp2
  go_loopw [3, 4] (fun s i w' => ∃ (k : Nat) (acc : ByteArray), k ≤ n ∧ i = .int .i64 k ∧ s = .string acc ∧ Hid (numText l ⟨#[32]⟩ = gl ⟨#[32]⟩ k acc (numList (l.drop k))) ∧ acc.size ≤ 21 * k ∧ Bw w w') (fun s i _ => n - (intOf i).toNat)
  case atStart => exact ⟨0, _, by omega, rfl, rfl, rfl, Nat.zero_le _, Bw.refl _⟩
  case round =>
    obtain ⟨k, acc, hk, rfl, rfl, HE, g1, hb⟩ := hrel
    by_cases hlt : k < n
    · obtain ⟨x, hx⟩ := get_of_lt (xs := l) (k := k) (by rw [← L1.out]; exact hlt)
      obtain ⟨ba, oa, rfl, _, hcx⟩ := rInts_at (h.bw rInts_good hb) hx
      have hwx := hw x (List.mem_of_getElem? hx)
      have HS := Lib.hid (numText_step (sep := ⟨#[32]⟩) (acc := acc) hx)
      have ⟨hsz1, hsz⟩ := fmtInt_size hwx
      clear hx h hw hsz1
      by_cases h0 : 0 < k
      · have hadd : ∀ W, (Op.stringOp .add acc ⟨#[32]⟩).run Tryz.prog W = .ok (.string (acc ++ ⟨#[32]⟩)) W := fun W => run_string_add_sum W _ _ (by have e : (⟨#[32]⟩ : ByteArray).size = 1 := rfl; omega)
        have hadd2 : ∀ W, (Op.stringOp .add (acc ++ ⟨#[32]⟩) (fmtInt x)).run Tryz.prog W = .ok (.string (acc ++ ⟨#[32]⟩ ++ fmtInt x)) W := fun W => run_string_add_sum W _ _ (by have e : (⟨#[32]⟩ : ByteArray).size = 1 := rfl; rw [size_append]; omega)
        go_wp2_with fail
        refine (S_FormatInt _ x hwx).mono ?_
        rintro e w1 ⟨rfl, hb1⟩
        go_wp2
        go_roundw
        case rel => exact ⟨k + 1, _, by omega, by go_num, rfl, by show _ = _; rw [HE.out, HS.out, if_pos h0], by have e : (⟨#[32]⟩ : ByteArray).size = 1 := rfl; rw [size_append, size_append]; omega, hb.then hb1⟩
        case measure => simp [intOf]; omega
      · have hadd2 : ∀ W, (Op.stringOp .add acc (fmtInt x)).run Tryz.prog W = .ok (.string (acc ++ fmtInt x)) W := fun W => run_string_add_sum W _ _ (by omega)
        go_wp2_with fail
        refine (S_FormatInt _ x hwx).mono ?_
        rintro e w1 ⟨rfl, hb1⟩
        go_wp2
        go_roundw
        case rel => exact ⟨k + 1, _, by omega, by go_num, rfl, by show _ = _; rw [HE.out, HS.out, if_neg (by omega)], by rw [size_append]; omega, hb.then hb1⟩
        case measure => simp [intOf]; omega
    · have hacc : Hid (acc = numText l ⟨#[32]⟩) := by show _ = _; rw [HE.out, List.drop_of_length_le (by rw [← L1.out]; omega)]; rfl
      by_cases hl : l = []
      · have ha : acc = ⟨#[]⟩ := by rw [hacc.out, hl]; rfl
        have e : idLine l = ⟨#[110, 111, 110, 101]⟩ := by rw [idLine, if_pos hl]
        have E := Lib.hid e
        clear e hl
        subst ha
        go_wp2
        go_ret
        exact Ret.str E.out.symm hb
      · have hpos := numText_ne (l := l) ⟨#[32]⟩ hw hl
        rw [← hacc.out] at hpos
        have e : idLine l = acc := by rw [idLine, if_neg hl, hacc.out]
        have E := Lib.hid e
        clear e hl
        have hne : acc.toList.isEmpty = false := str_ne hpos
        have hne' : (!acc.toList.isEmpty) = true := by rw [hne]; rfl
        go_wp2
        go_ret
        exact Ret.str E.out.symm hb
end Go.Proofs.YtpihighajaeabaaGreat

namespace Go.Proofs.YtpihighajaeabaaGreat
open Go.RowKit
set_option linter.unusedVariables false
set_option linter.unusedSimpArgs false
def standLine (x : GStanding) : ByteArray :=
  if isStand x then ⟨#[105, 116, 101, 109, 115, 32]⟩ ++ fmtInt x.items.length ++ ⟨#[32, 98, 101, 115, 116, 32]⟩ ++ idLine x.best ++ ⟨#[32, 116, 101, 115, 116, 115, 32]⟩ ++ fmtInt x.tests else ⟨#[]⟩
theorem wf_small' {n : Int} (h : 0 ≤ n ∧ n ≤ 1000000000) : (Lit.int .i64 n).wf = true := by
  simp [Lit.wf, IntKind.min, IntKind.max, IntKind.signed, IntKind.bits]; omega
theorem bestM_ids {l : List GItem} {e : List GNode} (h : areItems l = true) : ∀ v ∈ bestM l e, 0 ≤ v ∧ v ≤ 99 := fun v hv => by
  unfold bestM at hv
  obtain ⟨x, hx, rfl⟩ := List.mem_map.1 hv
  exact isItem_id (areItems_mem h (List.mem_filter.1 hx).1)
theorem idLine_size {l : List Int} (hw : ∀ x ∈ l, (Lit.int .i64 x).wf = true) : (idLine l).size ≤ 4 + l.length * 21 := by
  unfold idLine
  split
  · show 4 ≤ _; omega
  · unfold numText glued
    have h1 := gl_size ⟨#[32]⟩ (numList l) 0 ⟨#[]⟩
    have h2 := numList_size (l := l) ⟨#[32]⟩ hw
    have e : (⟨#[32]⟩ : ByteArray).size = 1 := rfl
    have e0 : (⟨#[]⟩ : ByteArray).size = 0 := rfl
    rw [e] at h2
    omega
set_option maxRecDepth 100000 in
set_option maxHeartbeats 1600000 in
theorem I_StandingLine (w : World) (x : GStanding) (va vb vc : Value) (ha : Rd rItems w x.items [va]) (hb : Rd rNodes w x.wanted [vb]) (hc : Rd rInts w x.best [vc]) :
    Calls Tryz.prog 59 #[.agg #[va, vb, vc, .int .i64 x.tests]] w (Ret w (.string (standLine x))) := by
  obtain ⟨A, n, c, rfl, L0, Lc, Lm⟩ := rSl_open ha
  unfold maxLen at Lm
  have L := Lib.hid L0
  clear L0
  have B0 : Bw w (w.alloc (.cells #[.slice A n c, vb, vc, .int .i64 x.tests] 28)) := (Bw.refl w).alloc _
  go_enter Tryz.func59, Tryz.ntmps59
  go_wp2_with fail
  refine (I_IsStanding _ x _ _ _ (ha.bw rItems_good B0) (hb.bw rNodes_good B0) (hc.bw rInts_good B0)).mono ?_
  rintro e w2 ⟨rfl, hb2⟩
  have p0 : w2.cell? ⟨w.heap.size, 0, none⟩ = some (.slice A n c) := hb2.cell (by go_simp)
  have p1 : w2.cell? ⟨w.heap.size, 1, none⟩ = some (vb) := hb2.cell (by go_simp)
  have p2 : w2.cell? ⟨w.heap.size, 2, none⟩ = some (vc) := hb2.cell (by go_simp)
  have p3 : w2.cell? ⟨w.heap.size, 3, none⟩ = some (.int .i64 x.tests) := hb2.cell (by go_simp)
  have B2 := B0.then hb2
  rcases Bool.eq_false_or_eq_true (isStand x) with e1 | e1
  · have E1 := Lib.hid e1
    rw [e1]
    clear e1
    have hst := E1.out
    unfold isStand at hst
    simp only [Bool.and_eq_true, decide_eq_true_iff] at hst
    obtain ⟨h1, h2, h3⟩ := hst
    have hI := areBoth_items h1
    have hn16 := areItems_len hI
    rw [← L.out] at hn16
    have ht := inB_iff.1 h3
    have hids : ∀ v ∈ x.best, (Lit.int .i64 v).wf = true := fun v hv => wf_small' (by rw [h2] at hv; have := bestM_ids hI v hv; omega)
    have hbl : x.best.length ≤ 16 := by rw [h2]; have := bestM_len x.items x.wanted; rw [← L.out] at this; omega
    have hsz := idLine_size hids
    have HF := Lib.hid (show ⟨#[105, 116, 101, 109, 115, 32]⟩ ++ fmtInt x.items.length ++ ⟨#[32, 98, 101, 115, 116, 32]⟩ ++ idLine x.best ++ ⟨#[32, 116, 101, 115, 116, 115, 32]⟩ ++ fmtInt x.tests = standLine x by rw [standLine, if_pos E1.out])
    rw [← L.out] at HF
    have wn := wf_small' (n := (n : Int)) (by omega)
    have wt := wf_small' (n := x.tests) (by omega)
    have k2 := hc.bw rInts_good B2
    obtain ⟨P, hP⟩ : ∃ P, P = fmtInt n := ⟨_, rfl⟩
    obtain ⟨Q, hQ⟩ : ∃ Q, Q = fmtInt x.tests := ⟨_, rfl⟩
    obtain ⟨C, hC⟩ : ∃ C, C = idLine x.best := ⟨_, rfl⟩
    have szP : P.size ≤ 20 := by rw [hP]; exact (fmtInt_size wn).2
    have szQ : Q.size ≤ 20 := by rw [hQ]; exact (fmtInt_size wt).2
    have szC : C.size ≤ 400 := by rw [hC]; omega
    have cP : ∀ W, Calls Tryz.prog 125 #[.int .i64 (n : Int)] W (Ret W (.string P)) := fun W => by rw [hP]; exact I_FormatInt W n wn
    have cQ : ∀ W, Calls Tryz.prog 125 #[.int .i64 x.tests] W (Ret W (.string Q)) := fun W => by rw [hQ]; exact I_FormatInt W x.tests wt
    have cC : ∀ s : Since w2, Calls Tryz.prog 51 #[vc] s.1 (Ret s.1 (.string C)) := fun s => by rw [hC]; exact I_IdLine s.1 x.best vc (k2.bw rInts_good s.bw) hids (by omega)
    rw [← hP, ← hQ, ← hC] at HF
    have a1 : ∀ W, (Op.stringOp .add ⟨#[105, 116, 101, 109, 115, 32]⟩ P).run Tryz.prog W = .ok (.string (⟨#[105, 116, 101, 109, 115, 32]⟩ ++ P)) W := fun W => run_string_add_sum W _ _ (by have : (⟨#[105, 116, 101, 109, 115, 32]⟩ : ByteArray).size = 6 := rfl; omega)
    have a2 : ∀ W, (Op.stringOp .add (⟨#[105, 116, 101, 109, 115, 32]⟩ ++ P) ⟨#[32, 98, 101, 115, 116, 32]⟩).run Tryz.prog W = .ok (.string (⟨#[105, 116, 101, 109, 115, 32]⟩ ++ P ++ ⟨#[32, 98, 101, 115, 116, 32]⟩)) W := fun W => run_string_add_sum W _ _ (by have : (⟨#[105, 116, 101, 109, 115, 32]⟩ : ByteArray).size = 6 := rfl; have : (⟨#[32, 98, 101, 115, 116, 32]⟩ : ByteArray).size = 6 := rfl; rw [size_append]; omega)
    have a3 : ∀ W, (Op.stringOp .add (⟨#[105, 116, 101, 109, 115, 32]⟩ ++ P ++ ⟨#[32, 98, 101, 115, 116, 32]⟩) C).run Tryz.prog W = .ok (.string (⟨#[105, 116, 101, 109, 115, 32]⟩ ++ P ++ ⟨#[32, 98, 101, 115, 116, 32]⟩ ++ C)) W := fun W => run_string_add_sum W _ _ (by have : (⟨#[105, 116, 101, 109, 115, 32]⟩ : ByteArray).size = 6 := rfl; have : (⟨#[32, 98, 101, 115, 116, 32]⟩ : ByteArray).size = 6 := rfl; rw [size_append, size_append]; omega)
    have a4 : ∀ W, (Op.stringOp .add (⟨#[105, 116, 101, 109, 115, 32]⟩ ++ P ++ ⟨#[32, 98, 101, 115, 116, 32]⟩ ++ C) ⟨#[32, 116, 101, 115, 116, 115, 32]⟩).run Tryz.prog W = .ok (.string (⟨#[105, 116, 101, 109, 115, 32]⟩ ++ P ++ ⟨#[32, 98, 101, 115, 116, 32]⟩ ++ C ++ ⟨#[32, 116, 101, 115, 116, 115, 32]⟩)) W := fun W => run_string_add_sum W _ _ (by have : (⟨#[105, 116, 101, 109, 115, 32]⟩ : ByteArray).size = 6 := rfl; have : (⟨#[32, 98, 101, 115, 116, 32]⟩ : ByteArray).size = 6 := rfl; have : (⟨#[32, 116, 101, 115, 116, 115, 32]⟩ : ByteArray).size = 7 := rfl; rw [size_append, size_append, size_append]; omega)
    have a5 : ∀ W, (Op.stringOp .add (⟨#[105, 116, 101, 109, 115, 32]⟩ ++ P ++ ⟨#[32, 98, 101, 115, 116, 32]⟩ ++ C ++ ⟨#[32, 116, 101, 115, 116, 115, 32]⟩) Q).run Tryz.prog W = .ok (.string (⟨#[105, 116, 101, 109, 115, 32]⟩ ++ P ++ ⟨#[32, 98, 101, 115, 116, 32]⟩ ++ C ++ ⟨#[32, 116, 101, 115, 116, 115, 32]⟩ ++ Q)) W := fun W => run_string_add_sum W _ _ (by have : (⟨#[105, 116, 101, 109, 115, 32]⟩ : ByteArray).size = 6 := rfl; have : (⟨#[32, 98, 101, 115, 116, 32]⟩ : ByteArray).size = 6 := rfl; have : (⟨#[32, 116, 101, 115, 116, 115, 32]⟩ : ByteArray).size = 7 := rfl; rw [size_append, size_append, size_append, size_append]; omega)
    have s0 := since_cell p0
    have s2 := since_cell p2
    have s3 := since_cell p3
    clear p0 p1 p2 p3 hP hQ hC szP szQ szC h1 h2 h3 hI hn16 ht hids hbl hsz wn wt k2
    go_wp2
    refine wp_region_since (by kernel_rfl) (by kernel_rfl) ?_
    repeat (first | go_big_quiet_skip | (go_big_quiet_want; go_big_quiet_op; first | go_big_quiet_on | (apply Exists.intro; refine ⟨fun _ => ?_, ?_⟩; (· (((first | (go_at_call 125; first | (with_reducible exact Calls_since (cP _)) | (with_reducible exact Calls_since (cQ _))) | (go_at_call 51; exact Calls_since (cC _)))))); go_big_quiet_on)))
    refine wpQuiet_nil ?_
    rintro ⟨wq, hbq⟩
    dsimp only at *
    go_wp2
    go_ret
    exact Ret.str HF.out (B2.then hbq)
  · have E1 := Lib.hid e1
    rw [e1]
    clear e1
    go_wp2
    go_ret
    exact Ret.str (by rw [standLine, E1.out]; rfl) (B2)
set_option maxRecDepth 100000 in
set_option maxHeartbeats 1600000 in
theorem S_StandingLine (w : World) (x : GStanding) (va vb vc : Value) (ha : Rd rItems w x.items [va]) (hb : Rd rNodes w x.wanted [vb]) (hc : Rd rInts w x.best [vc]) :
    Calls Tryz.prog 60 #[.agg #[va, vb, vc, .int .i64 x.tests]] w (Ret w (.string (standLine x))) := by
  obtain ⟨A, n, c, rfl, L0, Lc, Lm⟩ := rSl_open ha
  unfold maxLen at Lm
  have L := Lib.hid L0
  clear L0
  have B0 : Bw w (w.alloc (.cells #[.slice A n c, vb, vc, .int .i64 x.tests] 28)) := (Bw.refl w).alloc _
  go_enter Tryz.func60, Tryz.ntmps60
  go_wp2_with fail
  refine (S_IsStanding _ x _ _ _ (ha.bw rItems_good B0) (hb.bw rNodes_good B0) (hc.bw rInts_good B0)).mono ?_
  rintro e w2 ⟨rfl, hb2⟩
  have p0 : w2.cell? ⟨w.heap.size, 0, none⟩ = some (.slice A n c) := hb2.cell (by go_simp)
  have p1 : w2.cell? ⟨w.heap.size, 1, none⟩ = some (vb) := hb2.cell (by go_simp)
  have p2 : w2.cell? ⟨w.heap.size, 2, none⟩ = some (vc) := hb2.cell (by go_simp)
  have p3 : w2.cell? ⟨w.heap.size, 3, none⟩ = some (.int .i64 x.tests) := hb2.cell (by go_simp)
  have B2 := B0.then hb2
  rcases Bool.eq_false_or_eq_true (isStand x) with e1 | e1
  · have E1 := Lib.hid e1
    rw [e1]
    clear e1
    have hst := E1.out
    unfold isStand at hst
    simp only [Bool.and_eq_true, decide_eq_true_iff] at hst
    obtain ⟨h1, h2, h3⟩ := hst
    have hI := areBoth_items h1
    have hn16 := areItems_len hI
    rw [← L.out] at hn16
    have ht := inB_iff.1 h3
    have hids : ∀ v ∈ x.best, (Lit.int .i64 v).wf = true := fun v hv => wf_small' (by rw [h2] at hv; have := bestM_ids hI v hv; omega)
    have hbl : x.best.length ≤ 16 := by rw [h2]; have := bestM_len x.items x.wanted; rw [← L.out] at this; omega
    have hsz := idLine_size hids
    have HF := Lib.hid (show ⟨#[105, 116, 101, 109, 115, 32]⟩ ++ fmtInt x.items.length ++ ⟨#[32, 98, 101, 115, 116, 32]⟩ ++ idLine x.best ++ ⟨#[32, 116, 101, 115, 116, 115, 32]⟩ ++ fmtInt x.tests = standLine x by rw [standLine, if_pos E1.out])
    rw [← L.out] at HF
    have wn := wf_small' (n := (n : Int)) (by omega)
    have wt := wf_small' (n := x.tests) (by omega)
    have k2 := hc.bw rInts_good B2
    obtain ⟨P, hP⟩ : ∃ P, P = fmtInt n := ⟨_, rfl⟩
    obtain ⟨Q, hQ⟩ : ∃ Q, Q = fmtInt x.tests := ⟨_, rfl⟩
    obtain ⟨C, hC⟩ : ∃ C, C = idLine x.best := ⟨_, rfl⟩
    have szP : P.size ≤ 20 := by rw [hP]; exact (fmtInt_size wn).2
    have szQ : Q.size ≤ 20 := by rw [hQ]; exact (fmtInt_size wt).2
    have szC : C.size ≤ 400 := by rw [hC]; omega
    have cP : ∀ W, Calls Tryz.prog 64 #[.int .i64 (n : Int)] W (Ret W (.string P)) := fun W => by rw [hP]; exact S_FormatInt W n wn
    have cQ : ∀ W, Calls Tryz.prog 64 #[.int .i64 x.tests] W (Ret W (.string Q)) := fun W => by rw [hQ]; exact S_FormatInt W x.tests wt
    have cC : ∀ s : Since w2, Calls Tryz.prog 52 #[vc] s.1 (Ret s.1 (.string C)) := fun s => by rw [hC]; exact S_IdLine s.1 x.best vc (k2.bw rInts_good s.bw) hids (by omega)
    rw [← hP, ← hQ, ← hC] at HF
    have a1 : ∀ W, (Op.stringOp .add ⟨#[105, 116, 101, 109, 115, 32]⟩ P).run Tryz.prog W = .ok (.string (⟨#[105, 116, 101, 109, 115, 32]⟩ ++ P)) W := fun W => run_string_add_sum W _ _ (by have : (⟨#[105, 116, 101, 109, 115, 32]⟩ : ByteArray).size = 6 := rfl; omega)
    have a2 : ∀ W, (Op.stringOp .add (⟨#[105, 116, 101, 109, 115, 32]⟩ ++ P) ⟨#[32, 98, 101, 115, 116, 32]⟩).run Tryz.prog W = .ok (.string (⟨#[105, 116, 101, 109, 115, 32]⟩ ++ P ++ ⟨#[32, 98, 101, 115, 116, 32]⟩)) W := fun W => run_string_add_sum W _ _ (by have : (⟨#[105, 116, 101, 109, 115, 32]⟩ : ByteArray).size = 6 := rfl; have : (⟨#[32, 98, 101, 115, 116, 32]⟩ : ByteArray).size = 6 := rfl; rw [size_append]; omega)
    have a3 : ∀ W, (Op.stringOp .add (⟨#[105, 116, 101, 109, 115, 32]⟩ ++ P ++ ⟨#[32, 98, 101, 115, 116, 32]⟩) C).run Tryz.prog W = .ok (.string (⟨#[105, 116, 101, 109, 115, 32]⟩ ++ P ++ ⟨#[32, 98, 101, 115, 116, 32]⟩ ++ C)) W := fun W => run_string_add_sum W _ _ (by have : (⟨#[105, 116, 101, 109, 115, 32]⟩ : ByteArray).size = 6 := rfl; have : (⟨#[32, 98, 101, 115, 116, 32]⟩ : ByteArray).size = 6 := rfl; rw [size_append, size_append]; omega)
    have a4 : ∀ W, (Op.stringOp .add (⟨#[105, 116, 101, 109, 115, 32]⟩ ++ P ++ ⟨#[32, 98, 101, 115, 116, 32]⟩ ++ C) ⟨#[32, 116, 101, 115, 116, 115, 32]⟩).run Tryz.prog W = .ok (.string (⟨#[105, 116, 101, 109, 115, 32]⟩ ++ P ++ ⟨#[32, 98, 101, 115, 116, 32]⟩ ++ C ++ ⟨#[32, 116, 101, 115, 116, 115, 32]⟩)) W := fun W => run_string_add_sum W _ _ (by have : (⟨#[105, 116, 101, 109, 115, 32]⟩ : ByteArray).size = 6 := rfl; have : (⟨#[32, 98, 101, 115, 116, 32]⟩ : ByteArray).size = 6 := rfl; have : (⟨#[32, 116, 101, 115, 116, 115, 32]⟩ : ByteArray).size = 7 := rfl; rw [size_append, size_append, size_append]; omega)
    have a5 : ∀ W, (Op.stringOp .add (⟨#[105, 116, 101, 109, 115, 32]⟩ ++ P ++ ⟨#[32, 98, 101, 115, 116, 32]⟩ ++ C ++ ⟨#[32, 116, 101, 115, 116, 115, 32]⟩) Q).run Tryz.prog W = .ok (.string (⟨#[105, 116, 101, 109, 115, 32]⟩ ++ P ++ ⟨#[32, 98, 101, 115, 116, 32]⟩ ++ C ++ ⟨#[32, 116, 101, 115, 116, 115, 32]⟩ ++ Q)) W := fun W => run_string_add_sum W _ _ (by have : (⟨#[105, 116, 101, 109, 115, 32]⟩ : ByteArray).size = 6 := rfl; have : (⟨#[32, 98, 101, 115, 116, 32]⟩ : ByteArray).size = 6 := rfl; have : (⟨#[32, 116, 101, 115, 116, 115, 32]⟩ : ByteArray).size = 7 := rfl; rw [size_append, size_append, size_append, size_append]; omega)
    have s0 := since_cell p0
    have s2 := since_cell p2
    have s3 := since_cell p3
    clear p0 p1 p2 p3 hP hQ hC szP szQ szC h1 h2 h3 hI hn16 ht hids hbl hsz wn wt k2
    go_wp2
    refine wp_region_since (by kernel_rfl) (by kernel_rfl) ?_
    repeat (first | go_big_quiet_skip | (go_big_quiet_want; go_big_quiet_op; first | go_big_quiet_on | (apply Exists.intro; refine ⟨fun _ => ?_, ?_⟩; (· (((first | (go_at_call 64; first | (with_reducible exact Calls_since (cP _)) | (with_reducible exact Calls_since (cQ _))) | (go_at_call 52; exact Calls_since (cC _)))))); go_big_quiet_on)))
    refine wpQuiet_nil ?_
    rintro ⟨wq, hbq⟩
    dsimp only at *
    go_wp2
    go_ret
    exact Ret.str HF.out (B2.then hbq)
  · have E1 := Lib.hid e1
    rw [e1]
    clear e1
    go_wp2
    go_ret
    exact Ret.str (by rw [standLine, E1.out]; rfl) (B2)
end Go.Proofs.YtpihighajaeabaaGreat
