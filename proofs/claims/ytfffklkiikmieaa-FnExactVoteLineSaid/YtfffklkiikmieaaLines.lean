/- Lists of numbers as one text: numbers, IdLine. -/
import Derived.Test.YtfffklkiikmieaaText
namespace Go.Proofs.Ytfffklkiikmieaa
open Go.RowKit
set_option linter.unusedVariables false
theorem info_str : (Try.prog.info? 9).map (fun i => (i.zero, i.size, i.bytes)) = some (some (.string ⟨#[]⟩), 1, 16) := by kernel_rfl
abbrev fStrs : Fp (List ByteArray) := fSl 9 1 fStr
theorem fStrs_good {B : Nat} : GoodF B fStrs := fSl_good fStr_good
theorem fStrs_rd {B : Nat} {w : World} {xs : List ByteArray} {cs : List Value} {F : List Nat} (h : fStrs w xs cs F) : rStrs w (fun b => b ∈ F ∨ b < B) xs cs := fSl_rd rStr_good (fun _ _ _ h => fStr_rd h) h
theorem fStrs_Rd {w : World} {xs : List ByteArray} {cs : List Value} {F : List Nat} (h : fStrs w xs cs F) : Rd rStrs w xs cs := Rd.of rStrs_good (B := 0) (fStrs_rd h) ((fStrs_good (B := 0)).lt h) (Nat.zero_le _)
def numList (l : List Int) : List ByteArray := l.map fmtInt
theorem numList_snoc {l : List Int} {k : Nat} {x : Int} (h : l[k]? = some x) : numList (l.take (k + 1)) = numList (l.take k) ++ [fmtInt x] := by
  rw [List.take_add_one, h]; simp [numList]
theorem numList_size {l : List Int} (sep : ByteArray) (hw : ∀ x ∈ l, (Lit.int .i64 x).wf = true) : glSize sep (numList l) ≤ l.length * (20 + sep.size) := by
  induction l with
  | nil => simp [numList, glSize, sumL]
  | cons x l ih =>
    have h1 := (fmtInt_size (hw x (by simp))).2
    have h2 := ih (fun y hy => hw y (by simp [hy]))
    simp only [numList, List.map_cons, glSize, sumL, List.length_cons, Nat.succ_mul] at h2 ⊢
    omega
def numText (l : List Int) (sep : ByteArray) : ByteArray := glued (numList l) sep
set_option maxHeartbeats 800000 in
theorem I_numbers (w : World) (l : List Int) (sep : ByteArray) (v : Value) (h : Rd rInts w l [v]) (hw : ∀ x ∈ l, (Lit.int .i64 x).wf = true) (hn : l.length ≤ 1048576) (hp : sep.size ≤ 1024) :
    Calls Try.prog 106 #[v, .string sep] w (Ret w (.string (numText l sep))) := by
  obtain ⟨i0, hi, hz0, hz1, hz2⟩ := info_parts info_str
  obtain ⟨A, n, c, rfl, a1, a2, a3⟩ := rSl_open h
  have L1 := Lib.hid a1
  rw [← a1] at hn
  clear a1
  have hv0 := fSl_empty (e := 9) (sz := 1) (R := fStr) w
  go_enter Try.func106, Try.ntmps106
  go_wp2
  go_loopw [5, 11] (fun s i w' => ∃ (k : Nat) (F : List Nat), k ≤ n ∧ i = .int .i64 k ∧ fStrs w' (numList (l.take k)) [s] F ∧ Fresh w.heap.size F ∧ Bw w w') (fun s i _ => n - (intOf i).toNat)
  case atStart => exact ⟨0, _, by omega, rfl, hv0, ⟨by simp, by simp⟩, (Bw.refl _).alloc _⟩
  case round =>
    obtain ⟨k, F, hk, rfl, hv, hF, hb⟩ := hrel
    by_cases hlt : k < n
    · obtain ⟨x, hx⟩ := get_of_lt (xs := l) (k := k) (by rw [← L1.out]; exact hlt)
      obtain ⟨ba, oa, rfl, _, hcx⟩ := rInts_at (h.bw rInts_good hb) hx
      have hwx := hw x (List.mem_of_getElem? hx)
      have HS := Lib.hid (numList_snoc hx)
      have hkl : (numList (l.take k)).length = k := by rw [numList, List.length_map, List.length_take]; have := L1.out; omega
      have HK := Lib.hid hkl
      clear hx h hw hv0 hkl
      go_wp2_with fail
      refine (I_FormatInt _ x hwx).mono ?_
      rintro e w1 ⟨rfl, hb1⟩
      have hv1 := (fStrs_good (B := w.heap.size)).bw hb1 hb.size hv
      have hbb := hb.then hb1
      have hvW := (fStrs_good (B := w.heap.size)).bw ((Bw.refl w1).alloc (.cells #[.string (fmtInt x)] 9)) hbb.size hv1
      have hFm := (fStrs_good (B := 0)).lt hv1
      have hbW := hbb.alloc (.cells #[.string (fmtInt x)] 9)
      have hcl := cell_one_new w1 (.string (fmtInt x)) 9
      clear hv hv1 hwx
      go_wp2_with (at_builtin; refine wpList_push _ rfl (.tmp 15) (.tmp 18) 50 rfl w 9 i0 _ 1 16 Try.underlying50 hi hz0 hz1 hz2 rfl (by omega) fStr_good _ (numList (l.take k)) F rfl hvW hF ⟨w1.heap.size, 0, none⟩ 1 rfl (fmtInt x) [.string (fmtInt x)] [] hcl ⟨rfl, rfl⟩ rfl w1.heap.size hFm Fresh.nil hbb.size (by rw [HK.out]; omega) (by rw [HK.out]; omega) hbW ?_; intro v' w' F' hv' hF' hb')
      go_roundw
      case rel => exact ⟨k + 1, F', by omega, by go_num, by rw [HS.out]; exact hv', hF', hb'⟩
      case measure => simp [intOf]; omega
    · obtain rfl : k = n := by omega
      rw [List.take_of_length_le (by rw [← L1.out]; exact Nat.le_refl _)] at hv
      have hsz := numList_size sep hw
      rw [← L1.out] at hsz
      have hm : k * (20 + sep.size) ≤ 1048576 * 1044 := Nat.mul_le_mul hn (by omega)
      go_wp2_with fail
      refine (I_glued _ (numList l) sep _ (fStrs_Rd hv) (by omega) hp).mono ?_
      rintro e w1 ⟨rfl, hb1⟩
      go_wp2
      go_ret
      exact Ret.str rfl (hb.then hb1)
def sp : ByteArray := ⟨#[32]⟩
def idLine (l : List Int) : ByteArray := if l = [] then ⟨#[110, 111, 110, 101]⟩ else numText l ⟨#[32]⟩
set_option maxHeartbeats 800000 in
theorem I_IdLine (w : World) (l : List Int) (v : Value) (h : Rd rInts w l [v]) (hw : ∀ x ∈ l, (Lit.int .i64 x).wf = true) (hn : l.length ≤ 1048576) :
    Calls Try.prog 122 #[v] w (Ret w (.string (idLine l))) := by
  obtain ⟨A, n, c, rfl, a1, a2, a3⟩ := rSl_open h
  have L1 := Lib.hid a1
  clear a1
  by_cases h0 : n = 0
  · have ht : ((n : Int) == 0) = true := by simp [h0]
    have e : idLine l = ⟨#[110, 111, 110, 101]⟩ := by rw [idLine, if_pos (List.eq_nil_of_length_eq_zero (by rw [← L1.out]; exact h0))]
    have E := Lib.hid e
    clear e h0
    go_enter Try.func122, Try.ntmps122
    go_wp2
    go_ret
    exact Ret.str E.out.symm (Bw.refl _)
  · have ht : ((n : Int) == 0) = false := by simp; omega
    have e : idLine l = numText l ⟨#[32]⟩ := by rw [idLine, if_neg (fun hl => h0 (by rw [L1.out, hl]; rfl))]
    have E := Lib.hid e
    clear e h0
    go_enter Try.func122, Try.ntmps122
    go_wp2_with fail
    refine (I_numbers _ l ⟨#[32]⟩ _ h hw hn (by show (1 : Nat) ≤ 1024; omega)).mono ?_
    rintro e w1 ⟨rfl, hb1⟩
    go_wp2
    go_ret
    exact Ret.str E.out.symm hb1
theorem str_ne {s : ByteArray} (h : 0 < s.size) : s.toList.isEmpty = false := by
  rw [ByteArray.toList_eq]
  have : s.data.toList.length = s.size := by rw [Array.length_toList]; rfl
  cases e : s.data.toList with
  | nil => rw [e] at this; simp at this; omega
  | cons => rfl
theorem gl_ne (sep : ByteArray) : ∀ (l : List ByteArray) (i : Nat) (acc : ByteArray), acc.size ≤ (gl sep i acc l).size
  | [], _, _ => Nat.le_refl _
  | t :: ts, i, acc => by
    rw [gl]
    by_cases h : 0 < i
    · have := gl_ne sep ts (i + 1) (acc ++ sep ++ t)
      rw [size_append, size_append] at this
      rw [if_pos h]; omega
    · have := gl_ne sep ts (i + 1) (acc ++ t)
      rw [size_append] at this
      rw [if_neg h]; omega
theorem numText_ne {l : List Int} (sep : ByteArray) (hw : ∀ x ∈ l, (Lit.int .i64 x).wf = true) (h : l ≠ []) : 0 < (numText l sep).size := by
  cases l with
  | nil => exact absurd rfl h
  | cons x l =>
    have h1 := fmtInt_size (hw x (by simp))
    have h2 := gl_ne sep (numList l) 1 (⟨#[]⟩ ++ fmtInt x)
    rw [size_append] at h2
    have e : numText (x :: l) sep = gl sep 1 (⟨#[]⟩ ++ fmtInt x) (numList l) := rfl
    rw [e]; omega
theorem numText_step {sep acc : ByteArray} {l : List Int} {k : Nat} {x : Int} (h : l[k]? = some x) : gl sep k acc (numList (l.drop k)) = gl sep (k + 1) ((if 0 < k then acc ++ sep else acc) ++ fmtInt x) (numList (l.drop (k + 1))) := by
  rw [drop_cons h]; rfl
set_option maxHeartbeats 1600000 in
theorem S_IdLine (w : World) (l : List Int) (v : Value) (h : Rd rInts w l [v]) (hw : ∀ x ∈ l, (Lit.int .i64 x).wf = true) (hn : l.length ≤ 1048576) :
    Calls Try.prog 120 #[v] w (Ret w (.string (idLine l))) := by
  obtain ⟨A, n, c, rfl, a1, a2, a3⟩ := rSl_open h
  have L1 := Lib.hid a1
  rw [← a1] at hn
  clear a1
  go_enter Try.func120, Try.ntmps120
  go_wp2
  go_loopw [3, 4] (fun s i w' => ∃ (k : Nat) (acc : ByteArray), k ≤ n ∧ i = .int .i64 k ∧ s = .string acc ∧ Hid (numText l ⟨#[32]⟩ = gl ⟨#[32]⟩ k acc (numList (l.drop k))) ∧ acc.size ≤ 21 * k ∧ Bw w w') (fun s i _ => n - (intOf i).toNat)
  case atStart => exact ⟨0, _, by omega, rfl, rfl, rfl, Nat.zero_le _, Bw.refl _⟩
  case round =>
    obtain ⟨k, acc, hk, rfl, rfl, HE, g1, hb⟩ := hrel
    by_cases hlt : k < n
    · obtain ⟨x, hx⟩ := get_of_lt (xs := l) (k := k) (by rw [← L1.out]; exact hlt)
      obtain ⟨ba, oa, rfl, _, hcx⟩ := rInts_at (h.bw rInts_good hb) hx
      have hwx := hw x (List.mem_of_getElem? hx)
      have HS := Lib.hid (numText_step (sep := ⟨#[32]⟩) (acc := acc) hx)
      have ⟨hsz1, hsz⟩ := fmtInt_size hwx
      clear hx h hw hsz1
      by_cases h0 : 0 < k
      · have hadd : ∀ W, (Op.stringOp .add acc ⟨#[32]⟩).run Try.prog W = .ok (.string (acc ++ ⟨#[32]⟩)) W := fun W => run_string_add_sum W _ _ (by have e : (⟨#[32]⟩ : ByteArray).size = 1 := rfl; omega)
        have hadd2 : ∀ W, (Op.stringOp .add (acc ++ ⟨#[32]⟩) (fmtInt x)).run Try.prog W = .ok (.string (acc ++ ⟨#[32]⟩ ++ fmtInt x)) W := fun W => run_string_add_sum W _ _ (by have e : (⟨#[32]⟩ : ByteArray).size = 1 := rfl; rw [size_append]; omega)
        go_wp2_with fail
        refine (S_FormatInt _ x hwx).mono ?_
        rintro e w1 ⟨rfl, hb1⟩
        go_wp2
        go_roundw
        case rel => exact ⟨k + 1, _, by omega, by go_num, rfl, by show _ = _; rw [HE.out, HS.out, if_pos h0], by have e : (⟨#[32]⟩ : ByteArray).size = 1 := rfl; rw [size_append, size_append]; omega, hb.then hb1⟩
        case measure => simp [intOf]; omega
      · have hadd2 : ∀ W, (Op.stringOp .add acc (fmtInt x)).run Try.prog W = .ok (.string (acc ++ fmtInt x)) W := fun W => run_string_add_sum W _ _ (by omega)
        go_wp2_with fail
        refine (S_FormatInt _ x hwx).mono ?_
        rintro e w1 ⟨rfl, hb1⟩
        go_wp2
        go_roundw
        case rel => exact ⟨k + 1, _, by omega, by go_num, rfl, by show _ = _; rw [HE.out, HS.out, if_neg (by omega)], by rw [size_append]; omega, hb.then hb1⟩
        case measure => simp [intOf]; omega
    · have hacc : Hid (acc = numText l ⟨#[32]⟩) := by show _ = _; rw [HE.out, List.drop_of_length_le (by rw [← L1.out]; omega)]; rfl
      by_cases hl : l = []
      · have ha : acc = ⟨#[]⟩ := by rw [hacc.out, hl]; rfl
        have e : idLine l = ⟨#[110, 111, 110, 101]⟩ := by rw [idLine, if_pos hl]
        have E := Lib.hid e
        clear e hl
        subst ha
        go_wp2
        go_ret
        exact Ret.str E.out.symm hb
      · have hpos := numText_ne (l := l) ⟨#[32]⟩ hw hl
        rw [← hacc.out] at hpos
        have e : idLine l = acc := by rw [idLine, if_neg hl, hacc.out]
        have E := Lib.hid e
        clear e hl
        have hne : acc.toList.isEmpty = false := str_ne hpos
        have hne' : (!acc.toList.isEmpty) = true := by rw [hne]; rfl
        go_wp2
        go_ret
        exact Ret.str E.out.symm hb
end Go.Proofs.Ytfffklkiikmieaa
