/- Numbers and lists of numbers as text, in both programs. -/
import Derived.Test.YtpihighajaeabaaGreatQItems
import Derived.Test.YtpihighajaeabaaGreatQOwn3
import Derived.Laws.BytesArg
import Derived.Laws.Concat
import Derived.OpenShut
namespace Go.Proofs.YtpihighajaeabaaGreat
open Go.RowKit
set_option linter.unusedVariables false
theorem conv_one (W : World) (d : Int) : (convert 22 9 (.slice (some ⟨W.heap.size, 0, none⟩) 1 1)).run Tryz.prog (W.alloc (.cells #[.int .u8 d] 5)) = .ok (.string (strOfNums [d])) (W.alloc (.cells #[.int .u8 d] 5)) :=
  run_convert_bytes_arg (P := Tryz.prog) _ 22 5 Tryz.underlying22 Tryz.underlying5 W.heap.size 0 1 1 [d] rfl (fun i hi => by
    obtain rfl : i = 0 := by omega
    go_simp) 9 Tryz.underlying9
theorem strOf_append (a b : List Int) : strOfNums a ++ strOfNums b = strOfNums (a ++ b) := by
  apply ByteArray.ext
  simp [strOfNums, ByteArray.data_append]
def digs : Nat → Nat → List Int → List Int
  | 0, _, acc => acc
  | f + 1, m, acc => if m = 0 then acc else digs f (m / 10) ((48 + (m : Int) % 10) :: acc)
theorem digs_step (f m : Nat) (acc : List Int) (h : 0 < m) (hf : m ≤ f) : digs f m acc = digs (f - 1) (m / 10) ((48 + (m : Int) % 10) :: acc) := by
  obtain ⟨g, rfl⟩ : ∃ g, f = g + 1 := ⟨f - 1, by omega⟩
  rw [digs, if_neg (by omega)]; rfl
theorem digs_done (f : Nat) (acc : List Int) : digs f 0 acc = acc := by cases f <;> simp [digs]
def fmtL (n : Int) : List Int := if n = 0 then [48] else if n < 0 then 45 :: digs n.natAbs n.natAbs [] else digs n.natAbs n.natAbs []
def fmtInt (n : Int) : ByteArray := strOfNums (fmtL n)
set_option maxRecDepth 100000 in
set_option maxHeartbeats 400000 in
theorem S_FormatInt_pos (w : World) (N : Nat) (h0 : 0 < N) (h1 : Hid ((N : Int) ≤ 9223372036854775807)) :
    Calls Tryz.prog 64 #[.int .i64 N] w (Ret w (.string (fmtInt N))) := by
  have hne0 : ((N : Int) == 0) = false := by simp; omega
  have hge : decide ((N : Int) < 0) = false := by simp
  have hcv := conv_one
  have FIN : Hid (fmtInt N = strOfNums (digs N N [])) := by show _ = _; simp only [fmtInt, fmtL, Int.natAbs_natCast]; rw [if_neg (by omega), if_neg (by omega)]
  go_enter Tryz.func64, Tryz.ntmps64
  go_wp2
  go_loopw [0, 3] (fun a s w' => ∃ (f m : Nat) (acc : List Int), m ≤ f ∧ a = .int .i64 m ∧ s = .string (strOfNums acc) ∧ Hid (digs f m acc = digs N N []) ∧ acc.length + m ≤ N ∧ Bw w w') (fun a s _ => (intOf a).toNat)
  case atStart => exact ⟨N, N, [], by omega, rfl, rfl, rfl, by simp, Bw.refl _⟩
  case round =>
    obtain ⟨f, m, acc, g1, rfl, rfl, HE, g2, hb⟩ := hrel
    by_cases hm : 0 < m
    · have hmb : (m : Int) ≤ 9223372036854775807 := by have := h1.out; omega
      have hne : ((m : Int) != 0) = true := by simp; omega
      have hadd : ∀ W, (Op.stringOp .add (strOfNums [48 + (m : Int) % 10]) (strOfNums acc)).run Tryz.prog W = .ok (.string (strOfNums ((48 + (m : Int) % 10) :: acc))) W := fun W => by
        rw [run_string_add_sum W _ _ (by rw [strOfNums_size, strOfNums_size]; have := h1.out; simp; omega), strOf_append]; rfl
      have HS := Lib.hid (digs_step f m acc hm g1)
      go_wp2
      go_roundw
      case rel => exact ⟨f - 1, m / 10, (48 + (m : Int) % 10) :: acc, by omega, by go_num, rfl, by show _ = _; rw [← HE.out, HS.out], by simp; omega, hb.alloc _⟩
      case measure => simp [intOf]; omega
    · obtain rfl : m = 0 := by omega
      go_wp2
      go_ret
      exact Ret.str (by rw [FIN.out, ← HE.out, digs_done]) hb

set_option maxRecDepth 100000 in
set_option maxHeartbeats 400000 in
theorem S_FormatInt_neg (w : World) (N : Nat) (h0 : 0 < N) (h1 : Hid ((N : Int) ≤ 9223372036854775808)) :
    Calls Tryz.prog 64 #[.int .i64 (-(N : Int))] w (Ret w (.string (fmtInt (-(N : Int))))) := by
  have hne0 : (-(N : Int) == 0) = false := by simp; omega
  have hge : decide (-(N : Int) < 0) = true := by simp; omega
  have hcv := conv_one
  have FIN : Hid (fmtInt (-(N : Int)) = strOfNums (45 :: digs N N [])) := by show _ = _; simp only [fmtInt, fmtL, Int.natAbs_neg, Int.natAbs_natCast]; rw [if_neg (by omega), if_pos (by omega)]
  go_enter Tryz.func64, Tryz.ntmps64
  go_wp2
  go_loopw [0, 3] (fun a s w' => ∃ (f m : Nat) (acc : List Int), m ≤ f ∧ a = .int .i64 (-(m : Int)) ∧ s = .string (strOfNums acc) ∧ Hid (digs f m acc = digs N N []) ∧ 2 * acc.length ≤ N + 3 ∧ (0 < m → 2 * acc.length + m ≤ N + 1) ∧ m ≤ N ∧ Bw w w') (fun a s _ => (-(intOf a)).toNat)
  case atStart => exact ⟨N, N, [], by omega, rfl, rfl, rfl, by simp, by simp, by omega, Bw.refl _⟩
  case round =>
    obtain ⟨f, m, acc, g1, rfl, rfl, HE, g2, g3, g4, hb⟩ := hrel
    by_cases hm : 0 < m
    · have g5 := g3 hm
      clear g3
      have hmb : (m : Int) ≤ 9223372036854775808 := by have := h1.out; omega
      have hne : (-(m : Int) != 0) = true := by simp; omega
      have hadd : ∀ W, (Op.stringOp .add (strOfNums [48 + (m : Int) % 10]) (strOfNums acc)).run Tryz.prog W = .ok (.string (strOfNums ((48 + (m : Int) % 10) :: acc))) W := fun W => by
        rw [run_string_add_sum W _ _ (by rw [strOfNums_size, strOfNums_size]; have := h1.out; simp; omega), strOf_append]; rfl
      have HS := Lib.hid (digs_step f m acc hm g1)
      by_cases hd : (m : Int) % 10 = 0
      · rw [hd] at hadd HS
        rw [show (48 : Int) + 0 = 48 from rfl] at hadd HS
        go_wp2
        go_roundw
        case rel => exact ⟨f - 1, m / 10, 48 :: acc, by omega, by go_num, rfl, by show _ = _; rw [← HE.out, HS.out], by simp; omega, by simp; omega, by omega, hb.alloc _⟩
        case measure => simp [intOf]; omega
      · have hd' : 0 < (m : Int) % 10 := by omega
        clear hd
        go_wp2
        go_roundw
        case rel => exact ⟨f - 1, m / 10, (48 + (m : Int) % 10) :: acc, by omega, by go_num, rfl, by show _ = _; rw [← HE.out, HS.out], by simp; omega, by simp; omega, by omega, hb.alloc _⟩
        case measure => simp [intOf]; omega
    · obtain rfl : m = 0 := by omega
      have hadd : ∀ W, (Op.stringOp .add ⟨#[45]⟩ (strOfNums acc)).run Tryz.prog W = .ok (.string (strOfNums (45 :: acc))) W := fun W => by
        rw [run_string_add_sum W _ _ (by rw [strOfNums_size]; have := h1.out; simp [ByteArray.size]; omega)]
        exact congrArg (fun b => Result.ok (Value.string b) W) (strOf_append [45] acc)
      go_wp2
      go_ret
      exact Ret.str (by rw [FIN.out, ← HE.out, digs_done]) hb

theorem fmtInt_zero : fmtInt 0 = ⟨#[48]⟩ := rfl
theorem S_FormatInt (w : World) (n : Int) (hn : (Lit.int .i64 n).wf = true) : Calls Tryz.prog 64 #[.int .i64 n] w (Ret w (.string (fmtInt n))) := by
  have ⟨b1, b2⟩ := Go.bounds_i64 hn
  rcases Int.lt_trichotomy n 0 with h | h | h
  · obtain ⟨N, rfl⟩ : ∃ N : Nat, n = -(N : Int) := ⟨n.natAbs, by omega⟩
    exact S_FormatInt_neg w N (by omega) (by show (N : Int) ≤ 9223372036854775808; omega)
  · subst h
    go_enter Tryz.func64, Tryz.ntmps64
    go_wp2
    go_ret
    exact Ret.str fmtInt_zero.symm (Bw.refl _)
  · obtain ⟨N, rfl⟩ : ∃ N : Nat, n = (N : Int) := ⟨n.natAbs, by omega⟩
    exact S_FormatInt_pos w N (by omega) (by show (N : Int) ≤ 9223372036854775807; omega)
def fU8 : Fp Int := fun _ n cs F => cs = [.int .u8 n] ∧ F = []
def rU8 : Rep Int := fun _ _ n cs => cs = [.int .u8 n]
theorem rU8_good : Good rU8 := ⟨fun _ h => h⟩
theorem fU8_good {B : Nat} : GoodF B fU8 := ⟨fun _ h => h, fun h b hb => by rw [h.2] at hb; simp at hb, fun h u hu => by rw [h.1] at hu; simp at hu; rw [hu]; rfl⟩
theorem fU8_rd {B : Nat} {w : World} {x : Int} {u : List Value} {f : List Nat} (h : fU8 w x u f) : rU8 w (fun b => b ∈ f ∨ b < B) x u := h.1
abbrev fU8s : Fp (List Int) := fSl 5 1 fU8
theorem fU8s_good {B : Nat} : GoodF B fU8s := fSl_good fU8_good
theorem fU8s_rd {B : Nat} {w : World} {xs : List Int} {cs : List Value} {F : List Nat} (h : fU8s w xs cs F) : rSl 1 rU8 w (fun b => b ∈ F ∨ b < B) xs cs := fSl_rd rU8_good (fun _ _ _ h => fU8_rd h) h
theorem rU8s_at {w : World} {S : Blocks} {A : Option Addr} {n c k : Nat} {xs : List Int} (h : rSl 1 rU8 w S xs [.slice A n c]) {x : Int} (hx : xs[k]? = some x) : ∃ b o, A = some ⟨b, o, none⟩ ∧ S b ∧ w.cell? ⟨b, o + k, none⟩ = some (.int .u8 x) := by
  obtain ⟨b, o, us, e, hS, _, hc, rfl⟩ := rSl_at h hx
  exact ⟨b, o, e, hS, by simpa using hc 0 _ rfl⟩
theorem info_u8 : (Tryz.prog.info? 5).map (fun i => (i.zero, i.size, i.bytes)) = some (some (.int .u8 0), 1, 1) := by kernel_rfl
def swapped (l : List Int) (i : Nat) (ys : List Int) : Prop := ys.length = l.length ∧ ∀ p, p < l.length → ys[p]? = if p < i ∨ l.length - 1 - i < p then l[l.length - 1 - p]? else l[p]?
theorem swapped_zero (l : List Int) : swapped l 0 l := ⟨rfl, fun p hp => by rw [if_neg]; omega⟩
theorem swapped_done {l ys : List Int} {i : Nat} (h : swapped l i ys) (hi : l.length - 1 ≤ 2 * i) : ys = l.reverse := by
  apply List.ext_getElem?
  intro p
  by_cases hp : p < l.length
  · rw [h.2 p hp, List.getElem?_reverse hp]
    by_cases h1 : p < i ∨ l.length - 1 - i < p
    · rw [if_pos h1]
    · rw [if_neg h1]; congr 1; omega
  · rw [List.getElem?_eq_none (by rw [h.1]; omega), List.getElem?_eq_none (by simp; omega)]
theorem swapped_step {l ys : List Int} {i : Nat} {a b : Int} (h : swapped l i ys) (hi : 2 * i + 1 < l.length) (ha : ys[i]? = some a) (hb : ys[l.length - 1 - i]? = some b) : swapped l (i + 1) ((ys.set i b).set (l.length - 1 - i) a) := by
  refine ⟨by simp [h.1], fun p hp => ?_⟩
  have e1 := h.2 i (by omega)
  have e2 := h.2 (l.length - 1 - i) (by omega)
  rw [if_neg (by omega)] at e1
  rw [if_neg (by omega)] at e2
  have hl := h.1
  by_cases h1 : l.length - 1 - i = p
  · subst h1
    rw [List.getElem?_set_self (by simp; omega), if_pos (by omega), ← ha, e1]
    congr 1; omega
  · rw [List.getElem?_set_ne h1]
    by_cases h2 : i = p
    · subst h2
      rw [List.getElem?_set_self (by omega), if_pos (by omega), ← hb, e2]
    · rw [List.getElem?_set_ne h2, h.2 p hp]
      by_cases h3 : p < i ∨ l.length - 1 - i < p
      · rw [if_pos h3, if_pos (by omega)]
      · rw [if_neg h3, if_neg (by omega)]
theorem pow_bound {k m N : Nat} (hm : 0 < m) (h : 10 ^ k * m ≤ N) (hN : N ≤ 9223372036854775808) : k ≤ 18 := by
  rcases Nat.lt_or_ge 18 k with hk | hk
  · have h1 : 10 ^ 19 ≤ 10 ^ k := Nat.pow_le_pow_right (by omega) hk
    have h2 : 10 ^ k * 1 ≤ 10 ^ k * m := Nat.mul_le_mul_left _ hm
    have h3 : (10 : Nat) ^ 19 = 10000000000000000000 := by decide
    omega
  · exact hk
theorem pow_step {k m N : Nat} (h : 10 ^ k * m ≤ N) : 10 ^ (k + 1) * (m / 10) ≤ N := by
  have h1 : 10 ^ (k + 1) * (m / 10) = 10 ^ k * (10 * (m / 10)) := by rw [Nat.pow_succ, Nat.mul_assoc]
  have h2 : 10 ^ k * (10 * (m / 10)) ≤ 10 ^ k * m := Nat.mul_le_mul_left _ (by omega)
  omega
set_option maxRecDepth 100000 in
set_option maxHeartbeats 800000 in
theorem I_FormatInt_pos (w : World) (N : Nat) (h0 : 0 < N) (h1 : Hid ((N : Int) ≤ 9223372036854775807)) :
    Calls Tryz.prog 125 #[.int .i64 N] w (Ret w (.string (fmtInt N))) := by
  obtain ⟨i0, hi, hz0, hz1, hz2⟩ := info_parts info_u8
  have hne0 : ((N : Int) == 0) = false := by simp; omega
  have hge : decide ((N : Int) < 0) = false := by simp
  have FIN : Hid (fmtInt N = strOfNums (digs N N [])) := by show _ = _; simp only [fmtInt, fmtL, Int.natAbs_natCast]; rw [if_neg (by omega), if_neg (by omega)]
  have hv0 := fSl_empty (e := 5) (sz := 1) (R := fU8) w
  go_enter Tryz.func125, Tryz.ntmps125
  go_wp2
  go_loopw [3, 4] (fun s a w' => ∃ (f m : Nat) (acc : List Int) (F : List Nat), m ≤ f ∧ a = .int .i64 m ∧ fU8s w' acc [s] F ∧ Fresh w.heap.size F ∧ Hid (digs f m acc.reverse = digs N N []) ∧ Hid (10 ^ acc.length * m ≤ N) ∧ acc.length ≤ 20 ∧ m ≤ N ∧ (acc.length = 0 → 0 < m) ∧ Bw w w') (fun s a _ => (intOf a).toNat)
  case atStart => exact ⟨N, N, [], _, by omega, rfl, hv0, ⟨by simp, by simp⟩, rfl, by show _ ≤ _; simp, by simp, by simp, fun _ => h0, (Bw.refl _).alloc _⟩
  case round =>
    obtain ⟨f, m, acc, F, g1, rfl, hv, hF, HE, g2, g3, g4, g5, hb⟩ := hrel
    by_cases hm : 0 < m
    · have hmb : (m : Int) ≤ 9223372036854775807 := by have := h1.out; omega
      have hk := pow_bound hm g2.out (by have := h1.out; omega)
      have hne : ((m : Int) != 0) = true := by simp; omega
      have HS := Lib.hid (digs_step f m acc.reverse hm g1)
      have hvW := (fU8s_good (B := w.heap.size)).bw ((Bw.refl wr).alloc (.cells #[.int .u8 (48 + (m : Int) % 10)] 5)) hb.size hv
      have hFm := (fU8s_good (B := 0)).lt hv
      have hbW := hb.alloc (.cells #[.int .u8 (48 + (m : Int) % 10)] 5)
      have hcl := cell_one_new wr (.int .u8 (48 + (m : Int) % 10)) 5
      clear hv hv0
      go_wp2_with (at_builtin; refine wpList_push _ rfl (.tmp 22) (.tmp 26) 22 rfl w 5 i0 _ 1 1 Tryz.underlying22 hi hz0 hz1 hz2 rfl (by omega) fU8_good _ acc F rfl hvW hF ⟨wr.heap.size, 0, none⟩ 1 rfl (48 + (m : Int) % 10) [.int .u8 (48 + (m : Int) % 10)] [] hcl ⟨rfl, rfl⟩ rfl wr.heap.size hFm Fresh.nil hb.size (by omega) (by omega) hbW ?_; intro v' w' F' hv' hF' hb')
      go_roundw
      case rel => exact ⟨f - 1, m / 10, _, F', by omega, by go_num, hv', hF', by show _ = _; rw [← HE.out, HS.out]; simp, by show _ ≤ _; rw [List.length_append]; exact pow_step g2.out, by simp; omega, by omega, by simp, hb'⟩
      case measure => simp [intOf]; omega
    · obtain rfl : m = 0 := by omega
      rw [show (((0 : Nat) : Int)) = 0 from rfl]
      have hpos : 0 < acc.length := by omega
      obtain ⟨g, L, c, rfl, HL, hc1, hc2, hL0⟩ := fSl_lit' hv hpos
      have RES : Hid (digs N N [] = acc.reverse) := by show _ = _; rw [← HE.out, digs_done]
      have hL2 : L ≤ 21 := by have := HL.out; omega
      clear HE g2 g3 hpos g5
      go_wp2
      go_loopw [6, 7] (fun i j w' => ∃ (k q : Nat) (ys : List Int) (F : List Nat), i = .int .i64 k ∧ j = .int .i64 q ∧ q + k + 1 ≤ L ∧ L ≤ q + k + 1 ∧ swapped acc k ys ∧ fU8s w' ys [.slice (some ⟨g, 0, none⟩) L c] F ∧ Fresh w.heap.size F ∧ Bw w w') (fun i j _ => L - (intOf i).toNat)
      case atStart => exact ⟨0, L - 1, acc, _, rfl, by go_num, by omega, by omega, swapped_zero _, hv, hF, hb⟩
      case round =>
        clear hv hF hb
        obtain ⟨k, q, ys, F', rfl, rfl, q1, q2, hsw, hv, hF, hb⟩ := hrel
        have hyl : ys.length = L := hsw.1.trans HL.out
        have HYL := Lib.hid hyl
        clear hyl
        by_cases hlt : k < q
        · obtain ⟨a, ha⟩ := get_of_lt (xs := ys) (k := k) (by rw [HYL.out]; omega)
          obtain ⟨b, hbq⟩ := get_of_lt (xs := ys) (k := q) (by rw [HYL.out]; omega)
          obtain ⟨_, _, e, _, ca⟩ := rU8s_at (fU8s_rd (B := 0) hv) ha
          injection e with e
          injection e with e1 e2
          subst e1 e2
          obtain ⟨_, _, e, _, cb⟩ := rU8s_at (fU8s_rd (B := 0) hv) hbq
          injection e with e
          injection e with e1 e2
          subst e1 e2
          have fa := fSl_frozen hv k
          have fb := fSl_frozen hv q
          obtain ⟨F1, hv1, hF1, hg1, hBg, _⟩ := fSl_put (fU8_good (B := w.heap.size)) hv hF (k := k) (y := b) (u := [.int .u8 b]) ⟨rfl, rfl⟩ rfl (m := wr.heap.size) ((fU8s_good (B := 0)).lt hv) Fresh.nil hb.size (by rw [HYL.out]; omega)
          obtain ⟨F2, hv2, hF2, hg2, _, _⟩ := fSl_put (fU8_good (B := w.heap.size)) hv1 hF1 (k := q) (y := a) (u := [.int .u8 a]) ⟨rfl, rfl⟩ rfl (m := (putCells wr g (k * 1) [.int .u8 b]).heap.size) ((fU8s_good (B := 0)).lt hv1) Fresh.nil (by have := hb.size; have := hg1.size; omega) (by rw [List.length_set, HYL.out]; omega)
          simp only [putCells, Nat.mul_one] at hv2
          simp only [Nat.zero_add] at ca cb
          have e3 : acc.length - 1 - k = q := by rw [HL.out]; omega
          have hst := swapped_step hsw (by rw [HL.out]; omega) ha (by rw [e3]; exact hbq)
          rw [e3] at hst
          clear e3
          have HA := Lib.hid ha
          have HB := Lib.hid hbq
          have hbb : Bw w ((wr.setCell ⟨g, k, none⟩ (.int .u8 b)).setCell ⟨g, q, none⟩ (.int .u8 a)) := (hb.set hBg _).set hBg _
          clear ha hbq hv hv1 hF hF1 hg1 hg2
          go_wp2
          go_region
          all_goals
            go_wp2
            go_roundw
            case rel => exact ⟨k + 1, q - 1, _, F2, by go_num, by go_num, by omega, by omega, hst, hv2, hF2, hbb.drew⟩
            case measure => simp [intOf]; omega
        · have e1 : ys = acc.reverse := swapped_done hsw (by rw [HL.out]; omega)
          subst e1
          have hcv := run_convert_bytes_arg (P := Tryz.prog) wr 22 5 Tryz.underlying22 Tryz.underlying5 g 0 L c acc.reverse HYL.out (fun i hi => by
            obtain ⟨x, hx⟩ := get_of_lt (xs := acc.reverse) (k := i) (by rw [HYL.out]; exact hi)
            obtain ⟨_, _, e, _, ca⟩ := rU8s_at (fU8s_rd (B := 0) hv) hx
            injection e with e
            injection e with e1 e2
            subst e1 e2
            rw [ca, List.getD, hx]; rfl) 9 Tryz.underlying9
          clear hsw hv
          go_wp2
          go_ret
          exact Ret.str (by rw [FIN.out, RES.out]) hb
set_option maxRecDepth 100000 in
set_option maxHeartbeats 800000 in
theorem I_FormatInt_neg (w : World) (N : Nat) (h0 : 0 < N) (h1 : Hid ((N : Int) ≤ 9223372036854775808)) :
    Calls Tryz.prog 125 #[.int .i64 (-(N : Int))] w (Ret w (.string (fmtInt (-(N : Int))))) := by
  obtain ⟨i0, hi, hz0, hz1, hz2⟩ := info_parts info_u8
  have hne0 : (-(N : Int) == 0) = false := by simp; omega
  have hge : decide (-(N : Int) < 0) = true := by simp; omega
  have FIN : Hid (fmtInt (-(N : Int)) = strOfNums (45 :: digs N N [])) := by show _ = _; simp only [fmtInt, fmtL, Int.natAbs_neg, Int.natAbs_natCast]; rw [if_neg (by omega), if_pos (by omega)]
  have hv0 := fSl_empty (e := 5) (sz := 1) (R := fU8) w
  go_enter Tryz.func125, Tryz.ntmps125
  go_wp2
  go_loopw [3, 4] (fun s a w' => ∃ (f m : Nat) (acc : List Int) (F : List Nat), m ≤ f ∧ a = .int .i64 (-(m : Int)) ∧ fU8s w' acc [s] F ∧ Fresh w.heap.size F ∧ Hid (digs f m acc.reverse = digs N N []) ∧ Hid (10 ^ acc.length * m ≤ N) ∧ acc.length ≤ 20 ∧ m ≤ N ∧ (acc.length = 0 → 0 < m) ∧ Bw w w') (fun s a _ => (-(intOf a)).toNat)
  case atStart => exact ⟨N, N, [], _, by omega, rfl, hv0, ⟨by simp, by simp⟩, rfl, by show _ ≤ _; simp, by simp, by simp, fun _ => h0, (Bw.refl _).alloc _⟩
  case round =>
    obtain ⟨f, m, acc, F, g1, rfl, hv, hF, HE, g2, g3, g4, g5, hb⟩ := hrel
    by_cases hm : 0 < m
    · have hmb : (m : Int) ≤ 9223372036854775808 := by have := h1.out; omega
      have hk := pow_bound hm g2.out (by have := h1.out; omega)
      have hne : (-(m : Int) != 0) = true := by simp; omega
      have HS := Lib.hid (digs_step f m acc.reverse hm g1)
      by_cases hd : (m : Int) % 10 = 0
      · have HD := Lib.hid hd
        rw [hd] at HS
        rw [show (48 : Int) + 0 = 48 from rfl] at HS
        have hvW := (fU8s_good (B := w.heap.size)).bw ((Bw.refl wr).alloc (.cells #[.int .u8 48] 5)) hb.size hv
        have hFm := (fU8s_good (B := 0)).lt hv
        have hbW := hb.alloc (.cells #[.int .u8 48] 5)
        have hcl := cell_one_new wr (.int .u8 48) 5
        clear hv hv0
        go_wp2_with (at_builtin; refine wpList_push _ rfl (.tmp 22) (.tmp 26) 22 rfl w 5 i0 _ 1 1 Tryz.underlying22 hi hz0 hz1 hz2 rfl (by omega) fU8_good _ acc F rfl hvW hF ⟨wr.heap.size, 0, none⟩ 1 rfl 48 [.int .u8 48] [] hcl ⟨rfl, rfl⟩ rfl wr.heap.size hFm Fresh.nil hb.size (by omega) (by omega) hbW ?_; intro v' w' F' hv' hF' hb')
        go_roundw
        case rel => exact ⟨f - 1, m / 10, _, F', by omega, by go_num, hv', hF', by show _ = _; rw [← HE.out, HS.out]; simp, by show _ ≤ _; rw [List.length_append]; exact pow_step g2.out, by simp; omega, by omega, by simp, hb'⟩
        case measure => simp [intOf]; omega
      · have hd' : 0 < (m : Int) % 10 := by omega
        clear hd
        have hvW := (fU8s_good (B := w.heap.size)).bw ((Bw.refl wr).alloc (.cells #[.int .u8 (48 + (m : Int) % 10)] 5)) hb.size hv
        have hFm := (fU8s_good (B := 0)).lt hv
        have hbW := hb.alloc (.cells #[.int .u8 (48 + (m : Int) % 10)] 5)
        have hcl := cell_one_new wr (.int .u8 (48 + (m : Int) % 10)) 5
        clear hv hv0
        go_wp2_with (at_builtin; refine wpList_push _ rfl (.tmp 22) (.tmp 26) 22 rfl w 5 i0 _ 1 1 Tryz.underlying22 hi hz0 hz1 hz2 rfl (by omega) fU8_good _ acc F rfl hvW hF ⟨wr.heap.size, 0, none⟩ 1 rfl (48 + (m : Int) % 10) [.int .u8 (48 + (m : Int) % 10)] [] hcl ⟨rfl, rfl⟩ rfl wr.heap.size hFm Fresh.nil hb.size (by omega) (by omega) hbW ?_; intro v' w' F' hv' hF' hb')
        go_roundw
        case rel => exact ⟨f - 1, m / 10, _, F', by omega, by go_num, hv', hF', by show _ = _; rw [← HE.out, HS.out]; simp, by show _ ≤ _; rw [List.length_append]; exact pow_step g2.out, by simp; omega, by omega, by simp, hb'⟩
        case measure => simp [intOf]; omega
    · obtain rfl : m = 0 := by omega
      rw [show (((0 : Nat) : Int)) = 0 from rfl]
      have hpos : 0 < acc.length := by omega
      have RES : Hid (45 :: digs N N [] = (acc ++ [45]).reverse) := by show _ = _; rw [List.reverse_append, ← HE.out, digs_done]; rfl
      have hvW := (fU8s_good (B := w.heap.size)).bw ((Bw.refl wr).alloc (.cells #[.int .u8 45] 5)) hb.size hv
      have hFm := (fU8s_good (B := 0)).lt hv
      have hbW := hb.alloc (.cells #[.int .u8 45] 5)
      have hcl := cell_one_new wr (.int .u8 45) 5
      clear hv hv0 HE g2
      go_wp2_with (at_builtin; refine wpList_push _ rfl (.tmp 30) (.tmp 31) 22 rfl w 5 i0 _ 1 1 Tryz.underlying22 hi hz0 hz1 hz2 rfl (by omega) fU8_good _ acc F rfl hvW hF ⟨wr.heap.size, 0, none⟩ 1 rfl 45 [.int .u8 45] [] hcl ⟨rfl, rfl⟩ rfl wr.heap.size hFm Fresh.nil hb.size (by omega) (by omega) hbW ?_; intro v' w1 F1 hv1 hF1 hb1; obtain ⟨g, L, c, rfl, HL, hc1, hc2, hL0⟩ := fSl_lit' hv1 (by simp); have hL2 : L ≤ 21 := by (have := HL.out; rw [List.length_append, List.length_singleton] at this; omega))
      clear hvW hFm hbW hcl hF hb
      have hF := hF1
      have hb := hb1
      have hv := hv1
      clear hF1 hb1 hv1
      clear hpos g3 g5
      generalize acc ++ [45] = acc at RES hv HL
      go_loopw [6, 7] (fun i j w' => ∃ (k q : Nat) (ys : List Int) (F : List Nat), i = .int .i64 k ∧ j = .int .i64 q ∧ q + k + 1 ≤ L ∧ L ≤ q + k + 1 ∧ swapped acc k ys ∧ fU8s w' ys [.slice (some ⟨g, 0, none⟩) L c] F ∧ Fresh w.heap.size F ∧ Bw w w') (fun i j _ => L - (intOf i).toNat)
      case atStart => exact ⟨0, L - 1, acc, _, rfl, by go_num, by omega, by omega, swapped_zero _, hv, hF, hb⟩
      case round =>
        clear hv hF hb
        obtain ⟨k, q, ys, F', rfl, rfl, q1, q2, hsw, hv, hF, hb⟩ := hrel
        have hyl : ys.length = L := hsw.1.trans HL.out
        have HYL := Lib.hid hyl
        clear hyl
        by_cases hlt : k < q
        · obtain ⟨a, ha⟩ := get_of_lt (xs := ys) (k := k) (by rw [HYL.out]; omega)
          obtain ⟨b, hbq⟩ := get_of_lt (xs := ys) (k := q) (by rw [HYL.out]; omega)
          obtain ⟨_, _, e, _, ca⟩ := rU8s_at (fU8s_rd (B := 0) hv) ha
          injection e with e
          injection e with e1 e2
          subst e1 e2
          obtain ⟨_, _, e, _, cb⟩ := rU8s_at (fU8s_rd (B := 0) hv) hbq
          injection e with e
          injection e with e1 e2
          subst e1 e2
          have fa := fSl_frozen hv k
          have fb := fSl_frozen hv q
          obtain ⟨F1, hv1, hF1, hg1, hBg, _⟩ := fSl_put (fU8_good (B := w.heap.size)) hv hF (k := k) (y := b) (u := [.int .u8 b]) ⟨rfl, rfl⟩ rfl (m := wr.heap.size) ((fU8s_good (B := 0)).lt hv) Fresh.nil hb.size (by rw [HYL.out]; omega)
          obtain ⟨F2, hv2, hF2, hg2, _, _⟩ := fSl_put (fU8_good (B := w.heap.size)) hv1 hF1 (k := q) (y := a) (u := [.int .u8 a]) ⟨rfl, rfl⟩ rfl (m := (putCells wr g (k * 1) [.int .u8 b]).heap.size) ((fU8s_good (B := 0)).lt hv1) Fresh.nil (by have := hb.size; have := hg1.size; omega) (by rw [List.length_set, HYL.out]; omega)
          simp only [putCells, Nat.mul_one] at hv2
          simp only [Nat.zero_add] at ca cb
          have e3 : acc.length - 1 - k = q := by rw [HL.out]; omega
          have hst := swapped_step hsw (by rw [HL.out]; omega) ha (by rw [e3]; exact hbq)
          rw [e3] at hst
          clear e3
          have HA := Lib.hid ha
          have HB := Lib.hid hbq
          have hbb : Bw w ((wr.setCell ⟨g, k, none⟩ (.int .u8 b)).setCell ⟨g, q, none⟩ (.int .u8 a)) := (hb.set hBg _).set hBg _
          clear ha hbq hv hv1 hF hF1 hg1 hg2
          go_wp2
          go_region
          all_goals
            go_wp2
            go_roundw
            case rel => exact ⟨k + 1, q - 1, _, F2, by go_num, by go_num, by omega, by omega, hst, hv2, hF2, hbb.drew⟩
            case measure => simp [intOf]; omega
        · have e1 : ys = acc.reverse := swapped_done hsw (by rw [HL.out]; omega)
          subst e1
          have hcv := run_convert_bytes_arg (P := Tryz.prog) wr 22 5 Tryz.underlying22 Tryz.underlying5 g 0 L c acc.reverse HYL.out (fun i hi => by
            obtain ⟨x, hx⟩ := get_of_lt (xs := acc.reverse) (k := i) (by rw [HYL.out]; exact hi)
            obtain ⟨_, _, e, _, ca⟩ := rU8s_at (fU8s_rd (B := 0) hv) hx
            injection e with e
            injection e with e1 e2
            subst e1 e2
            rw [ca, List.getD, hx]; rfl) 9 Tryz.underlying9
          clear hsw hv
          go_wp2
          go_ret
          exact Ret.str (by rw [FIN.out, RES.out]) hb

theorem I_FormatInt (w : World) (n : Int) (hn : (Lit.int .i64 n).wf = true) : Calls Tryz.prog 125 #[.int .i64 n] w (Ret w (.string (fmtInt n))) := by
  have ⟨b1, b2⟩ := Go.bounds_i64 hn
  rcases Int.lt_trichotomy n 0 with h | h | h
  · obtain ⟨N, rfl⟩ : ∃ N : Nat, n = -(N : Int) := ⟨n.natAbs, by omega⟩
    exact I_FormatInt_neg w N (by omega) (by show (N : Int) ≤ 9223372036854775808; omega)
  · subst h
    go_enter Tryz.func125, Tryz.ntmps125
    go_wp2
    go_ret
    exact Ret.str fmtInt_zero.symm (Bw.refl _)
  · obtain ⟨N, rfl⟩ : ∃ N : Nat, n = (N : Int) := ⟨n.natAbs, by omega⟩
    exact I_FormatInt_pos w N (by omega) (by show (N : Int) ≤ 9223372036854775807; omega)

theorem digs_len : ∀ (f m : Nat) (acc : List Int) (k : Nat), m < 10 ^ k → (digs f m acc).length ≤ acc.length + k
  | 0, _, acc, k, _ => by simp [digs]
  | f + 1, m, acc, k, h => by
    rw [digs]
    by_cases hm : m = 0
    · rw [if_pos hm]; omega
    · rw [if_neg hm]
      cases k with
      | zero => simp at h; omega
      | succ k =>
        have := digs_len f (m / 10) ((48 + (m : Int) % 10) :: acc) k (by rw [Nat.pow_succ] at h; omega)
        simp at this ⊢; omega
theorem digs_ge : ∀ (f m : Nat) (acc : List Int), acc.length ≤ (digs f m acc).length
  | 0, _, acc => by simp [digs]
  | f + 1, m, acc => by
    rw [digs]
    by_cases hm : m = 0
    · rw [if_pos hm]; omega
    · rw [if_neg hm]
      have := digs_ge f (m / 10) ((48 + (m : Int) % 10) :: acc)
      simp at this; omega
theorem digs_pos {m : Nat} (h : 0 < m) : 0 < (digs m m []).length := by
  rw [digs_step m m [] h (Nat.le_refl _)]
  have := digs_ge (m - 1) (m / 10) [48 + (m : Int) % 10]
  simp at this; omega
theorem fmtInt_size {n : Int} (hn : (Lit.int .i64 n).wf = true) : 1 ≤ (fmtInt n).size ∧ (fmtInt n).size ≤ 20 := by
  have ⟨b1, b2⟩ := Go.bounds_i64 hn
  have hb : n.natAbs < 10 ^ 19 := by
    have : (10 : Nat) ^ 19 = 10000000000000000000 := by decide
    omega
  have h1 := digs_len n.natAbs n.natAbs [] 19 hb
  unfold fmtInt
  rw [strOfNums_size]
  unfold fmtL
  by_cases h0 : n = 0
  · rw [if_pos h0]; simp
  · rw [if_neg h0]
    have h2 := digs_pos (m := n.natAbs) (by omega)
    simp at h1
    by_cases h3 : n < 0
    · rw [if_pos h3]; simp; omega
    · rw [if_neg h3]; omega
/-- texts joined, from the i-th on -/
def gl (sep : ByteArray) : Nat → ByteArray → List ByteArray → ByteArray
  | _, acc, [] => acc
  | i, acc, t :: ts => gl sep (i + 1) ((if 0 < i then acc ++ sep else acc) ++ t) ts
def glued (l : List ByteArray) (sep : ByteArray) : ByteArray := gl sep 0 ⟨#[]⟩ l
theorem gl_step {sep acc : ByteArray} {l : List ByteArray} {k : Nat} {t : ByteArray} (h : l[k]? = some t) : gl sep k acc (l.drop k) = gl sep (k + 1) ((if 0 < k then acc ++ sep else acc) ++ t) (l.drop (k + 1)) := by rw [drop_cons h, gl]
def glSize (sep : ByteArray) (l : List ByteArray) : Nat := sumL (fun t => t.size + sep.size) l
theorem size_append (a b : ByteArray) : (a ++ b).size = a.size + b.size := ByteArray.size_append
theorem gl_size (sep : ByteArray) : ∀ (l : List ByteArray) (i : Nat) (acc : ByteArray), (gl sep i acc l).size ≤ acc.size + glSize sep l
  | [], _, acc => by simp [gl, glSize, sumL]
  | t :: ts, i, acc => by
    have e : glSize sep (t :: ts) = t.size + sep.size + glSize sep ts := rfl
    by_cases h : 0 < i
    · have := gl_size sep ts (i + 1) (acc ++ sep ++ t)
      rw [size_append, size_append] at this
      rw [gl, if_pos h, e]; omega
    · have := gl_size sep ts (i + 1) (acc ++ t)
      rw [size_append] at this
      rw [gl, if_neg h, e]; omega
set_option maxHeartbeats 800000 in
theorem I_glued (w : World) (l : List ByteArray) (sep : ByteArray) (v : Value) (h : Rd rStrs w l [v]) (hs : glSize sep l ≤ 1099511627776) (hp : sep.size ≤ 1024) : Calls Tryz.prog 183 #[v, .string sep] w (Ret w (.string (glued l sep))) := by
  obtain ⟨A, n, c, rfl, a1, a2, a3⟩ := rSl_open h
  unfold maxLen at a3
  have L1 := Lib.hid a1
  clear a1
  go_enter Tryz.func183, Tryz.ntmps183
  go_wp2
  go_loopw [5, 10] (fun s i w' => ∃ (k : Nat) (acc : ByteArray), k ≤ n ∧ i = .int .i64 k ∧ s = .string acc ∧ Hid (glued l sep = gl sep k acc (l.drop k)) ∧ acc.size + glSize sep (l.drop k) ≤ 1099511627776 ∧ Bw w w') (fun s i _ => n - (intOf i).toNat)
  case atStart => exact ⟨0, _, by omega, rfl, rfl, rfl, by simpa [ByteArray.size] using hs, Bw.refl _⟩
  case round =>
    obtain ⟨k, acc, hk, rfl, rfl, HE, g1, hb⟩ := hrel
    by_cases hlt : k < n
    · obtain ⟨t, hx⟩ := get_of_lt (xs := l) (k := k) (by rw [← L1.out]; exact hlt)
      obtain ⟨ba, oa, rfl, _, hcx⟩ := rStrs_at (h.bw rStrs_good hb) hx
      have HS := Lib.hid (gl_step (sep := sep) (acc := acc) hx)
      have g2 : glSize sep (l.drop k) = t.size + sep.size + glSize sep (l.drop (k + 1)) := sumL_drop _ hx
      rw [g2] at g1
      clear g2 hx h hs
      by_cases h0 : 0 < k
      · have hadd : ∀ W, (Op.stringOp .add acc sep).run Tryz.prog W = .ok (.string (acc ++ sep)) W := fun W => run_string_add_sum W _ _ (by omega)
        have hadd2 : ∀ W, (Op.stringOp .add (acc ++ sep) t).run Tryz.prog W = .ok (.string (acc ++ sep ++ t)) W := fun W => run_string_add_sum W _ _ (by rw [size_append]; omega)
        go_wp2
        go_roundw
        case rel => exact ⟨k + 1, _, by omega, by go_num, rfl, by show _ = _; rw [HE.out, HS.out, if_pos h0], by rw [size_append, size_append]; omega, hb⟩
        case measure => simp [intOf]; omega
      · have hadd2 : ∀ W, (Op.stringOp .add acc t).run Tryz.prog W = .ok (.string (acc ++ t)) W := fun W => run_string_add_sum W _ _ (by omega)
        go_wp2
        go_roundw
        case rel => exact ⟨k + 1, _, by omega, by go_num, rfl, by show _ = _; rw [HE.out, HS.out, if_neg (by omega)], by rw [size_append]; omega, hb⟩
        case measure => simp [intOf]; omega
    · go_wp2
      go_ret
      exact Ret.str (by rw [HE.out, List.drop_of_length_le (by rw [← L1.out]; omega), gl]) hb
end Go.Proofs.YtpihighajaeabaaGreat
