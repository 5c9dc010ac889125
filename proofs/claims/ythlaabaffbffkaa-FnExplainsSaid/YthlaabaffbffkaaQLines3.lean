/- Lines on standings in both programs. -/
import Derived.Test.YthlaabaffbffkaaQBestS
import Derived.Test.YthlaabaffbffkaaQText
namespace Go.Proofs.Ythlaabaffbffkaa
open Go.RowKit
set_option linter.unusedVariables false
set_option linter.unusedSimpArgs false
theorem bestItems_yes {l : List GItem} {e : List GNode} (h : areBoth l e = true) : bestItems l e = bestM l e := by rw [bestItems, if_pos h]


end Go.Proofs.Ythlaabaffbffkaa

namespace Go.Proofs.Ythlaabaffbffkaa
open Go.RowKit
set_option linter.unusedVariables false
theorem info_str : (Try.prog.info? 9).map (fun i => (i.zero, i.size, i.bytes)) = some (some (.string ⟨#[]⟩), 1, 16) := by kernel_rfl
abbrev fStrs : Fp (List ByteArray) := fSl 9 1 fStr
theorem fStrs_good {B : Nat} : GoodF B fStrs := fSl_good fStr_good
theorem fStrs_rd {B : Nat} {w : World} {xs : List ByteArray} {cs : List Value} {F : List Nat} (h : fStrs w xs cs F) : rStrs w (fun b => b ∈ F ∨ b < B) xs cs := fSl_rd rStr_good (fun _ _ _ h => fStr_rd h) h
theorem fStrs_Rd {w : World} {xs : List ByteArray} {cs : List Value} {F : List Nat} (h : fStrs w xs cs F) : Rd rStrs w xs cs := Rd.of rStrs_good (B := 0) (fStrs_rd h) ((fStrs_good (B := 0)).lt h) (Nat.zero_le _)
def numList (l : List Int) : List ByteArray := l.map fmtInt
theorem numList_snoc {l : List Int} {k : Nat} {x : Int} (h : l[k]? = some x) : numList (l.take (k + 1)) = numList (l.take k) ++ [fmtInt x] := by
  rw [List.take_add_one, h]; simp [numList]
theorem numList_size {l : List Int} (sep : ByteArray) (hw : ∀ x ∈ l, (Lit.int .i64 x).wf = true) : glSize sep (numList l) ≤ l.length * (20 + sep.size) := by
  induction l with
  | nil => simp [numList, glSize, sumL]
  | cons x l ih =>
    have h1 := (fmtInt_size (hw x (by simp))).2
    have h2 := ih (fun y hy => hw y (by simp [hy]))
    simp only [numList, List.map_cons, glSize, sumL, List.length_cons, Nat.succ_mul] at h2 ⊢
    omega
def numText (l : List Int) (sep : ByteArray) : ByteArray := glued (numList l) sep
set_option maxHeartbeats 800000 in
theorem I_numbers (w : World) (l : List Int) (sep : ByteArray) (v : Value) (h : Rd rInts w l [v]) (hw : ∀ x ∈ l, (Lit.int .i64 x).wf = true) (hn : l.length ≤ 1048576) (hp : sep.size ≤ 1024) :
    Calls Try.prog 28 #[v, .string sep] w (Ret w (.string (numText l sep))) := by
  obtain ⟨i0, hi, hz0, hz1, hz2⟩ := info_parts info_str
  obtain ⟨A, n, c, rfl, a1, a2, a3⟩ := rSl_open h
  have L1 := Lib.hid a1
  rw [← a1] at hn
  clear a1
  have hv0 := fSl_empty (e := 9) (sz := 1) (R := fStr) w
  go_enter Try.func28, Try.ntmps28
  go_wp2
  go_loopw [5, 11] (fun s i w' => ∃ (k : Nat) (F : List Nat), k ≤ n ∧ i = .int .i64 k ∧ fStrs w' (numList (l.take k)) [s] F ∧ Fresh w.heap.size F ∧ Bw w w') (fun s i _ => n - (intOf i).toNat)
  case atStart => exact ⟨0, _, by omega, rfl, hv0, ⟨by simp, by simp⟩, (Bw.refl _).alloc _⟩
  case round =>
    obtain ⟨k, F, hk, rfl, hv, hF, hb⟩ := hrel
    by_cases hlt : k < n
    · obtain ⟨x, hx⟩ := get_of_lt (xs := l) (k := k) (by rw [← L1.out]; exact hlt)
      obtain ⟨ba, oa, rfl, _, hcx⟩ := rInts_at (h.bw rInts_good hb) hx
      have hwx := hw x (List.mem_of_getElem? hx)
      have HS := Lib.hid (numList_snoc hx)
      have hkl : (numList (l.take k)).length = k := by rw [numList, List.length_map, List.length_take]; have := L1.out; omega
      have HK := Lib.hid hkl
      clear hx h hw hv0 hkl
      go_wp2_with fail
      refine (I_FormatInt _ x hwx).mono ?_
      rintro e w1 ⟨rfl, hb1⟩
      have hv1 := (fStrs_good (B := w.heap.size)).bw hb1 hb.size hv
      have hbb := hb.then hb1
      have hvW := (fStrs_good (B := w.heap.size)).bw ((Bw.refl w1).alloc (.cells #[.string (fmtInt x)] 9)) hbb.size hv1
      have hFm := (fStrs_good (B := 0)).lt hv1
      have hbW := hbb.alloc (.cells #[.string (fmtInt x)] 9)
      have hcl := cell_one_new w1 (.string (fmtInt x)) 9
      clear hv hv1 hwx
      go_wp2_with (at_builtin; refine wpList_push _ rfl (.tmp 15) (.tmp 18) 76 rfl w 9 i0 _ 1 16 Try.underlying76 hi hz0 hz1 hz2 rfl (by omega) fStr_good _ (numList (l.take k)) F rfl hvW hF ⟨w1.heap.size, 0, none⟩ 1 rfl (fmtInt x) [.string (fmtInt x)] [] hcl ⟨rfl, rfl⟩ rfl w1.heap.size hFm Fresh.nil hbb.size (by rw [HK.out]; omega) (by rw [HK.out]; omega) hbW ?_; intro v' w' F' hv' hF' hb')
      go_roundw
      case rel => exact ⟨k + 1, F', by omega, by go_num, by rw [HS.out]; exact hv', hF', hb'⟩
      case measure => simp [intOf]; omega
    · obtain rfl : k = n := by omega
      rw [List.take_of_length_le (by rw [← L1.out]; exact Nat.le_refl _)] at hv
      have hsz := numList_size sep hw
      rw [← L1.out] at hsz
      have hm : k * (20 + sep.size) ≤ 1048576 * 1044 := Nat.mul_le_mul hn (by omega)
      go_wp2_with fail
      refine (I_glued _ (numList l) sep _ (fStrs_Rd hv) (by omega) hp).mono ?_
      rintro e w1 ⟨rfl, hb1⟩
      go_wp2
      go_ret
      exact Ret.str rfl (hb.then hb1)
def sp : ByteArray := ⟨#[32]⟩
def idLine (l : List Int) : ByteArray := if l = [] then ⟨#[110, 111, 110, 101]⟩ else numText l ⟨#[32]⟩
theorem str_ne {s : ByteArray} (h : 0 < s.size) : s.toList.isEmpty = false := by
  rw [ByteArray.toList_eq]
  have : s.data.toList.length = s.size := by rw [Array.length_toList]; rfl
  cases e : s.data.toList with
  | nil => rw [e] at this; simp at this; omega
  | cons => rfl
theorem gl_ne (sep : ByteArray) : ∀ (l : List ByteArray) (i : Nat) (acc : ByteArray), acc.size ≤ (gl sep i acc l).size
  | [], _, _ => Nat.le_refl _
  | t :: ts, i, acc => by
    rw [gl]
    by_cases h : 0 < i
    · have := gl_ne sep ts (i + 1) (acc ++ sep ++ t)
      rw [size_append, size_append] at this
      rw [if_pos h]; omega
    · have := gl_ne sep ts (i + 1) (acc ++ t)
      rw [size_append] at this
      rw [if_neg h]; omega
theorem numText_ne {l : List Int} (sep : ByteArray) (hw : ∀ x ∈ l, (Lit.int .i64 x).wf = true) (h : l ≠ []) : 0 < (numText l sep).size := by
  cases l with
  | nil => exact absurd rfl h
  | cons x l =>
    have h1 := fmtInt_size (hw x (by simp))
    have h2 := gl_ne sep (numList l) 1 (⟨#[]⟩ ++ fmtInt x)
    rw [size_append] at h2
    have e : numText (x :: l) sep = gl sep 1 (⟨#[]⟩ ++ fmtInt x) (numList l) := rfl
    rw [e]; omega
theorem numText_step {sep acc : ByteArray} {l : List Int} {k : Nat} {x : Int} (h : l[k]? = some x) : gl sep k acc (numList (l.drop k)) = gl sep (k + 1) ((if 0 < k then acc ++ sep else acc) ++ fmtInt x) (numList (l.drop (k + 1))) := by
  rw [drop_cons h]; rfl
end Go.Proofs.Ythlaabaffbffkaa


namespace Go.Proofs.Ythlaabaffbffkaa
open Go.RowKit
set_option linter.unusedVariables false
set_option linter.unusedSimpArgs false
def standLine (x : GStanding) : ByteArray :=
  if isStand x then ⟨#[105, 116, 101, 109, 115, 32]⟩ ++ fmtInt x.items.length ++ ⟨#[32, 98, 101, 115, 116, 32]⟩ ++ idLine x.best ++ ⟨#[32, 116, 101, 115, 116, 115, 32]⟩ ++ fmtInt x.tests else ⟨#[]⟩
theorem wf_small' {n : Int} (h : 0 ≤ n ∧ n ≤ 1000000000) : (Lit.int .i64 n).wf = true := by
  simp [Lit.wf, IntKind.min, IntKind.max, IntKind.signed, IntKind.bits]; omega
theorem bestM_ids {l : List GItem} {e : List GNode} (h : areItems l = true) : ∀ v ∈ bestM l e, 0 ≤ v ∧ v ≤ 99 := fun v hv => by
  unfold bestM at hv
  obtain ⟨x, hx, rfl⟩ := List.mem_map.1 hv
  exact isItem_id (areItems_mem h (List.mem_filter.1 hx).1)
theorem idLine_size {l : List Int} (hw : ∀ x ∈ l, (Lit.int .i64 x).wf = true) : (idLine l).size ≤ 4 + l.length * 21 := by
  unfold idLine
  split
  · show 4 ≤ _; omega
  · unfold numText glued
    have h1 := gl_size ⟨#[32]⟩ (numList l) 0 ⟨#[]⟩
    have h2 := numList_size (l := l) ⟨#[32]⟩ hw
    have e : (⟨#[32]⟩ : ByteArray).size = 1 := rfl
    have e0 : (⟨#[]⟩ : ByteArray).size = 0 := rfl
    rw [e] at h2
    omega


end Go.Proofs.Ythlaabaffbffkaa
