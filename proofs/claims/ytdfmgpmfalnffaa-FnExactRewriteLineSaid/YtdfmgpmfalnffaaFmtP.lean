/- Pairs as text, in both programs. -/
import Derived.Test.YtdfmgpmfalnffaaStrF
import Derived.Test.YtdfmgpmfalnffaaLines3
import Derived.Test.YtdfmgpmfalnffaaArePairs
import Derived.Test.YtdfmgpmfalnffaaArePairsS
import Derived.Test.YtdfmgpmfalnffaaOnlyP
namespace Go.Proofs.Ytdfmgpmfalnffaa
open Go.RowKit
set_option linter.unusedVariables false
set_option linter.unusedSimpArgs false
def pairText (p : GPair) : ByteArray := fmtInt p.fst ++ ⟨#[62]⟩ ++ fmtInt p.snd
def pairList (l : List GPair) : List ByteArray := l.map pairText
def pairsText (l : List GPair) : ByteArray := if arePairs l then (if l = [] then ⟨#[110, 111, 110, 101]⟩ else glued (pairList l) ⟨#[44]⟩) else ⟨#[]⟩
theorem bytes_assoc (a b c : ByteArray) : a ++ b ++ c = a ++ (b ++ c) := by
  apply ByteArray.ext; simp [ByteArray.data_append, Array.append_assoc]
theorem wf_digit {n : Int} (h : 0 ≤ n ∧ n ≤ 9) : (Lit.int .i64 n).wf = true := wf_small' (by omega)
theorem pairText_size {p : GPair} (h : (0 ≤ p.fst ∧ p.fst ≤ 9) ∧ 0 ≤ p.snd ∧ p.snd ≤ 9) : 1 ≤ (pairText p).size ∧ (pairText p).size ≤ 41 := by
  unfold pairText
  rw [size_append, size_append]
  have h1 := fmtInt_size (wf_digit h.1)
  have h2 := fmtInt_size (wf_digit h.2)
  have e : (⟨#[62]⟩ : ByteArray).size = 1 := rfl
  omega
theorem pairList_snoc {l : List GPair} {k : Nat} {x : GPair} (h : l[k]? = some x) : pairList (l.take (k + 1)) = pairList (l.take k) ++ [pairText x] := by
  unfold pairList; rw [List.take_add_one, h]; simp
theorem pairList_gl : ∀ {l : List GPair}, (∀ p ∈ l, (0 ≤ p.fst ∧ p.fst ≤ 9) ∧ 0 ≤ p.snd ∧ p.snd ≤ 9) → glSize ⟨#[44]⟩ (pairList l) ≤ 42 * l.length
  | [], _ => by simp [pairList, glSize, sumL]
  | p :: l, h => by
    have h1 := (pairText_size (h p (by simp))).2
    have h2 := pairList_gl (l := l) (fun q hq => h q (by simp [hq]))
    have e : glSize ⟨#[44]⟩ (pairList (p :: l)) = (pairText p).size + 1 + glSize ⟨#[44]⟩ (pairList l) := rfl
    rw [e, List.length_cons]; omega
theorem pairsText_size (l : List GPair) : (pairsText l).size ≤ 400 := by
  unfold pairsText
  split
  · rename_i h
    split
    · show 4 ≤ 400; omega
    · have h1 := gl_size ⟨#[44]⟩ (pairList l) 0 ⟨#[]⟩
      have h2 := pairList_gl (fun p hp => pairsIn_mem (arePairs_in h) hp)
      have h3 := arePairs_len h
      have e0 : (⟨#[]⟩ : ByteArray).size = 0 := rfl
      unfold glued
      omega
  · show 0 ≤ 400; omega
theorem pair_sums {x y : Int} (hx : 0 ≤ x ∧ x ≤ 9) (hy : 0 ≤ y ∧ y ≤ 9) :
    (∀ W, (Op.stringOp .add (fmtInt x) ⟨#[62]⟩).run Try.prog W = .ok (.string (fmtInt x ++ ⟨#[62]⟩)) W) ∧
    (∀ W, (Op.stringOp .add (fmtInt x ++ ⟨#[62]⟩) (fmtInt y)).run Try.prog W = .ok (.string (fmtInt x ++ ⟨#[62]⟩ ++ fmtInt y)) W) := by
  have h1 := (fmtInt_size (wf_digit hx)).2
  have h2 := (fmtInt_size (wf_digit hy)).2
  have e : (⟨#[62]⟩ : ByteArray).size = 1 := rfl
  exact ⟨fun W => run_string_add_sum W _ _ (by omega), fun W => run_string_add_sum W _ _ (by rw [size_append]; omega)⟩
theorem add_sum {a b : ByteArray} (h : a.size + b.size ≤ 100000) : ∀ W, (Op.stringOp .add a b).run Try.prog W = .ok (.string (a ++ b)) W := fun W => run_string_add_sum W _ _ (by omega)
set_option maxRecDepth 100000 in
set_option maxHeartbeats 3200000 in
theorem I_FormatPairs (w : World) (l : List GPair) (v : Value) (h : Rd rPairs w l [v]) : Calls Try.prog 163 #[v] w (Ret w (.string (pairsText l))) := by
  obtain ⟨i0, hi, hz0, hz1, hz2⟩ := info_parts info_str
  obtain ⟨T, hT⟩ : ∃ T, T = pairsText l := ⟨_, rfl⟩
  rw [← hT]
  have HT := Lib.hid hT
  clear hT
  obtain ⟨A, n, c, rfl, L0, Lc, Lm⟩ := rSl_open h
  unfold maxLen at Lm
  have L := Lib.hid L0
  clear L0
  go_enter Try.func163, Try.ntmps163
  go_wp2_with fail
  refine (I_ArePairs _ l _ h).mono ?_
  rintro e w1 ⟨rfl, hb1⟩
  rcases Bool.eq_false_or_eq_true (arePairs l) with e1 | e1
  · have E1 := Lib.hid e1
    rw [e1]
    clear e1
    by_cases hn : n = 0
    · have HF := Lib.hid (show T = ⟨#[110, 111, 110, 101]⟩ by rw [HT.out, pairsText, if_pos E1.out, if_pos (List.eq_nil_of_length_eq_zero (by rw [← L.out]; exact hn))])
      subst hn
      go_wp2
      go_ret
      exact Ret.str (by rw [HF.out]) (hb1)
    · have e0 : ((n : Int) == 0) = false := by rw [beq_eq_false_iff_ne]; omega
      have n8 : n ≤ 8 := by rw [L.out]; exact arePairs_len E1.out
      have HM := Lib.hid (fun p (hp : p ∈ l) => pairsIn_mem (arePairs_in E1.out) hp)
      have HF := Lib.hid (show T = glued (pairList l) ⟨#[44]⟩ by rw [HT.out, pairsText, if_pos E1.out, if_neg (fun hh => hn (by rw [L.out, hh]; rfl))])
      have hv0 := fSl_empty (e := 9) (sz := 1) (R := fStr) w1
      have hs := hb1.size
      have hB0 := hb1.alloc (.cells #[] 9)
      have HH := Lib.hid h
      clear hn HT h
      go_wp2
      go_loopg [3, 15] n (fun g s i w' => ∃ (k : Nat) (F : List Nat), k ≤ n ∧ g = n - k ∧ i = .int .i64 k ∧ fStrs w' (pairList (l.take k)) [s] F ∧ Fresh w.heap.size F ∧ Bw w w')
      case atStart => exact ⟨0, _, by omega, rfl, rfl, hv0, ⟨by simp, by simpa using hs⟩, hB0⟩
      case round =>
        clear hv0 hB0
        obtain ⟨k, F, hk, rfl, rfl, hv, hF, hb⟩ := hrel
        have h := HH.out
        by_cases hlt : k < n
        · obtain ⟨p, hx⟩ := get_of_lt (xs := l) (k := k) (by have := L.out; omega)
          obtain ⟨ba, oa, rfl, _, d0, d1⟩ := rPairs_at h hx
          replace d0 := hb.cell d0
          replace d1 := hb.cell d1
          have i1 : (0 : Int) ≤ (k : Int) := by omega
          have i2 : (k : Int) < (n : Int) := by omega
          obtain ⟨m1, m2⟩ := HM.out p (List.mem_of_getElem? hx)
          have HS := Lib.hid (pairList_snoc hx)
          have HLEN := Lib.hid (show (pairList (l.take k)).length ≤ 8 by unfold pairList; rw [List.length_map, List.length_take]; omega)
          obtain ⟨x, hx1⟩ : ∃ x, x = p.fst := ⟨_, rfl⟩
          obtain ⟨y, hy1⟩ : ∃ y, y = p.snd := ⟨_, rfl⟩
          rw [← hx1] at m1 d0
          rw [← hy1] at m2 d1
          obtain ⟨a1, a2⟩ := pair_sums m1 m2
          have c1 := fun W => I_FormatInt W x (wf_digit m1)
          have c2 := fun W => I_FormatInt W y (wf_digit m2)
          obtain ⟨P, hP⟩ : ∃ P, P = fmtInt x := ⟨_, rfl⟩
          obtain ⟨Q, hQ⟩ : ∃ Q, Q = fmtInt y := ⟨_, rfl⟩
          have HPT := Lib.hid (show pairText p = P ++ ⟨#[62]⟩ ++ Q by rw [hP, hQ, hx1, hy1]; rfl)
          simp only [← hP] at c1
          simp only [← hQ] at c2
          rw [← hP] at a1 a2
          rw [← hQ] at a2
          have C1 := Lib.hid c1
          have C2 := Lib.hid c2
          obtain ⟨W, hW⟩ : ∃ W, W = wr.alloc (.cells #[.int .i64 x, .int .i64 y] 151) := ⟨_, rfl⟩
          have D1 : Bw wr W.drew := by rw [hW]; exact ((Bw.refl wr).alloc _).drew
          have q0 : W.drew.cell? ⟨wr.heap.size, 0, none⟩ = some (.int .i64 x) := by rw [hW]; go_simp
          have q1 : W.drew.cell? ⟨wr.heap.size, 1, none⟩ = some (.int .i64 y) := by rw [hW]; go_simp
          have HW := Lib.hid hW
          have hFm0 := (fStrs_good (B := 0)).lt hv
          have hFn : wr.heap.size ∉ F := fun e => by have := hFm0 _ e; omega
          have hvd := (fStrs_good (B := w.heap.size)).bw D1 hb.size hv
          have hbd := hb.then D1
          have hB := Bw.refl W.drew
          clear hx m1 m2 hx1 hy1 hP hQ c1 c2 hW hv h
          go_wp2_with fail
          rw [← HW.out]
          go_region_held3 (fun w' => w'.cell? ⟨wr.heap.size, 0, none⟩ = some (.int .i64 x) ∧ w'.cell? ⟨wr.heap.size, 1, none⟩ = some (.int .i64 y)) (first | exact ⟨q0, q1⟩ | exact ⟨hB.cell q0, hB.cell q1⟩ | exact ⟨(hB.then ((Bw.refl _).alloc _)).cell q0, (hB.then ((Bw.refl _).alloc _)).cell q1⟩ | exact ⟨n0, n1⟩)
            (first
              | (go_at_call_of 75 (Value.int IntKind.i64 x); refine (C1.out _).mono ?_; rintro e' w5 ⟨rfl, hb5⟩; replace hB := hB.then hb5)
              | (go_at_call_of 75 (Value.int IntKind.i64 y); refine (C2.out _).mono ?_; rintro e' w5 ⟨rfl, hb5⟩; replace hB := hB.then hb5)
              | (have hA := (Bw.refl w5).alloc (.cells #[.string (P ++ ⟨#[62]⟩ ++ Q)] 9); have hBA := hB.then hA; have hvW := (fStrs_good (B := w.heap.size)).bw hBA hbd.size hvd; have hFm := (fStrs_good (B := 0)).lt hvd; have hbW := hbd.then hBA; have hcl := cell_one_new w5 (.string (P ++ ⟨#[62]⟩ ++ Q)) 9; refine step_push2 _ (by rfl) (.tmp 19) (.tmp 28) 95 (by rfl) w 9 i0 _ 1 16 Try.underlying95 hi hz0 hz1 hz2 rfl (by omega) fStr_good _ (pairList (l.take k)) F (by rfl) hvW hF ⟨w5.heap.size, 0, none⟩ 1 (by rfl) (P ++ ⟨#[62]⟩ ++ Q) [.string (P ++ ⟨#[62]⟩ ++ Q)] [] hcl ⟨rfl, rfl⟩ rfl W.drew.heap.size hFm Fresh.nil hbd.size (by have := HLEN.out; omega) (by have := HLEN.out; omega) hbW ?_; intro v' w' F' hv' hF' hb' hO' hs'; have n0 := hO'.cell (hBA.cell q0) hFn; have n1 := hO'.cell (hBA.cell q1) hFn)
              | fail)
          all_goals
            go_wp2
            go_roundg (n - (k + 1))
            case measure => omega
            case rel => exact ⟨k + 1, F', by omega, rfl, by go_num, by rw [HS.out, HPT.out]; exact hv', hF', hb'⟩
        · obtain rfl : k = n := by omega
          rw [List.take_of_length_le (by rw [← L.out]; exact Nat.le_refl _)] at hv
          have hsz := pairList_gl HM.out
          rw [← L.out] at hsz
          go_wp2_with fail
          refine (I_glued _ (pairList l) ⟨#[44]⟩ _ (fStrs_Rd hv) (by omega) (by show 1 ≤ 1024; omega)).mono ?_
          rintro e w3 ⟨rfl, hb3⟩
          go_wp2
          go_ret
          exact Ret.str (by rw [HF.out]) (hb.then hb3)
  · have HF := Lib.hid (show T = ⟨#[]⟩ by rw [HT.out, pairsText, e1]; rfl)
    rw [e1]
    clear e1
    go_wp2
    go_ret
    exact Ret.str (by rw [HF.out]) (hb1)
set_option maxRecDepth 100000 in
set_option maxHeartbeats 3200000 in
theorem S_FormatPairs (w : World) (l : List GPair) (v : Value) (h : Rd rPairs w l [v]) : Calls Try.prog 162 #[v] w (Ret w (.string (pairsText l))) := by
  obtain ⟨T, hT⟩ : ∃ T, T = pairsText l := ⟨_, rfl⟩
  rw [← hT]
  have HT := Lib.hid hT
  clear hT
  obtain ⟨A, n, c, rfl, L0, Lc, Lm⟩ := rSl_open h
  unfold maxLen at Lm
  have L := Lib.hid L0
  clear L0
  go_enter Try.func162, Try.ntmps162
  go_wp2_with fail
  refine (S_ArePairs _ l _ h).mono ?_
  rintro e w1 ⟨rfl, hb1⟩
  rcases Bool.eq_false_or_eq_true (arePairs l) with e1 | e1
  · have E1 := Lib.hid e1
    rw [e1]
    clear e1
    have n8 : n ≤ 8 := by rw [L.out]; exact arePairs_len E1.out
    have HM := Lib.hid (fun p (hp : p ∈ l) => pairsIn_mem (arePairs_in E1.out) hp)
    have HH := Lib.hid h
    clear h
    go_wp2
    go_loopg [3, 4] n (fun g s i w' => ∃ (k : Nat) (acc : ByteArray), k ≤ n ∧ g = n - k ∧ i = .int .i64 k ∧ s = .string acc ∧ Hid (glued (pairList l) ⟨#[44]⟩ = gl ⟨#[44]⟩ k acc ((pairList l).drop k)) ∧ acc.size ≤ 42 * k ∧ (0 < k → 1 ≤ acc.size) ∧ Bw w w')
    case atStart => exact ⟨0, _, by omega, rfl, rfl, rfl, rfl, Nat.zero_le _, by omega, hb1⟩
    case round =>
      clear hb1
      obtain ⟨k, acc, hk, rfl, rfl, rfl, HE, g1, g2, hb⟩ := hrel
      have h := HH.out
      by_cases hlt : k < n
      · obtain ⟨p, hx⟩ := get_of_lt (xs := l) (k := k) (by have := L.out; omega)
        obtain ⟨ba, oa, rfl, _, d0, d1⟩ := rPairs_at h hx
        replace d0 := hb.cell d0
        replace d1 := hb.cell d1
        have i1 : (0 : Int) ≤ (k : Int) := by omega
        have i2 : (k : Int) < (n : Int) := by omega
        have hpm := HM.out p (List.mem_of_getElem? hx)
        have hpz := pairText_size hpm
        obtain ⟨m1, m2⟩ := hpm
        have HS := Lib.hid (gl_step (sep := ⟨#[44]⟩) (acc := acc) (l := pairList l) (k := k) (t := pairText p) (by unfold pairList; rw [List.getElem?_map, hx]; rfl))
        obtain ⟨x, hx1⟩ : ∃ x, x = p.fst := ⟨_, rfl⟩
        obtain ⟨y, hy1⟩ : ∃ y, y = p.snd := ⟨_, rfl⟩
        rw [← hx1] at m1 d0
        rw [← hy1] at m2 d1
        have z1 := (fmtInt_size (wf_digit m1)).2
        have z2 := (fmtInt_size (wf_digit m2)).2
        have c1 := fun W => S_FormatInt W x (wf_digit m1)
        have c2 := fun W => S_FormatInt W y (wf_digit m2)
        obtain ⟨P, hP⟩ : ∃ P, P = fmtInt x := ⟨_, rfl⟩
        obtain ⟨Q, hQ⟩ : ∃ Q, Q = fmtInt y := ⟨_, rfl⟩
        have hpt : pairText p = P ++ ⟨#[62]⟩ ++ Q := by rw [hP, hQ, hx1, hy1]; rfl
        have HPT := Lib.hid hpt
        simp only [← hP] at c1 z1
        simp only [← hQ] at c2 z2
        have eg : (⟨#[62]⟩ : ByteArray).size = 1 := rfl
        have ec : (⟨#[44]⟩ : ByteArray).size = 1 := rfl
        obtain ⟨B, hBt⟩ : ∃ B, B = (if 0 < k then acc ++ ⟨#[44]⟩ else acc) := ⟨_, rfl⟩
        have hBs : B.size ≤ 42 * k + 1 := by rw [hBt]; split; (rw [size_append]; omega); omega
        have b1 : ∀ W, (Op.stringOp .add B P).run Try.prog W = .ok (.string (B ++ P)) W := add_sum (by omega)
        have b2 : ∀ W, (Op.stringOp .add (B ++ P) ⟨#[62]⟩).run Try.prog W = .ok (.string (B ++ P ++ ⟨#[62]⟩)) W := add_sum (by rw [size_append]; omega)
        have b3 : ∀ W, (Op.stringOp .add (B ++ P ++ ⟨#[62]⟩) Q).run Try.prog W = .ok (.string (B ++ P ++ ⟨#[62]⟩ ++ Q)) W := add_sum (by rw [size_append, size_append]; omega)
        have b0 : ∀ W, (Op.stringOp .add acc ⟨#[44]⟩).run Try.prog W = .ok (.string (acc ++ ⟨#[44]⟩)) W := add_sum (by omega)
        have HN := Lib.hid (show gl ⟨#[44]⟩ k acc ((pairList l).drop k) = gl ⟨#[44]⟩ (k + 1) (B ++ P ++ ⟨#[62]⟩ ++ Q) ((pairList l).drop (k + 1)) by
          have hq : ∀ X : ByteArray, X ++ (P ++ ⟨#[62]⟩ ++ Q) = X ++ P ++ ⟨#[62]⟩ ++ Q := fun X => by rw [bytes_assoc X P, bytes_assoc X (P ++ _)]
          rw [HS.out, hpt, hq, hBt])
        have hNs : (B ++ P ++ ⟨#[62]⟩ ++ Q).size ≤ 42 * (k + 1) ∧ 1 ≤ (B ++ P ++ ⟨#[62]⟩ ++ Q).size := by
          rw [hpt, size_append, size_append] at hpz
          rw [size_append, size_append, size_append]; omega
        have s0 := since_cell d0
        have s1 := since_cell d1
        have f1 : ∀ s : Since wr, Calls Try.prog 72 #[.int .i64 x] s.1 (Ret s.1 (.string P)) := fun s => c1 s.1
        have f2 : ∀ s : Since wr, Calls Try.prog 72 #[.int .i64 y] s.1 (Ret s.1 (.string Q)) := fun s => c2 s.1
        have hNN := hNs
        clear hx m1 m2 hx1 hy1 hP hQ c1 c2 hpz hpt z1 z2 eg ec hBs g1 g2 HS hNs
        by_cases hk0 : 0 < k
        · have k0 : (0 : Int) < (k : Int) := by omega
          rw [if_pos hk0] at hBt
          subst hBt
          clear hk0
          go_wp2
          refine wp_region_since (by kernel_rfl) (by kernel_rfl) ?_
          repeat (first | go_big_quiet_skip | (go_big_quiet_want; go_big_quiet_op; first | go_big_quiet_on | (apply Exists.intro; refine ⟨fun _ => ?_, ?_⟩; (· (((go_at_call 72; first | (with_reducible exact Calls_since (f1 _)) | (with_reducible exact Calls_since (f2 _)))))); go_big_quiet_on)))
          refine wpQuiet_nil ?_
          rintro ⟨wq, hbq⟩
          dsimp only at *
          have h := HH.out
          have hbz := hb.then hbq
          clear f1 f2 s0 s1 d0 d1
          go_wp2
          go_roundg (n - (k + 1))
          case measure => omega
          case rel => exact ⟨k + 1, _, by omega, rfl, by go_num, rfl, by show _ = _; rw [HE.out, HN.out], hNN.1, fun _ => hNN.2, hbz⟩
        · have k0 : ¬ (0 : Int) < (k : Int) := by omega
          rw [if_neg hk0] at hBt
          subst hBt
          clear hk0
          go_wp2
          refine wp_region_since (by kernel_rfl) (by kernel_rfl) ?_
          repeat (first | go_big_quiet_skip | (go_big_quiet_want; go_big_quiet_op; first | go_big_quiet_on | (apply Exists.intro; refine ⟨fun _ => ?_, ?_⟩; (· (((go_at_call 72; first | (with_reducible exact Calls_since (f1 _)) | (with_reducible exact Calls_since (f2 _)))))); go_big_quiet_on)))
          refine wpQuiet_nil ?_
          rintro ⟨wq, hbq⟩
          dsimp only at *
          have h := HH.out
          have hbz := hb.then hbq
          clear f1 f2 s0 s1 d0 d1
          go_wp2
          go_roundg (n - (k + 1))
          case measure => omega
          case rel => exact ⟨k + 1, _, by omega, rfl, by go_num, rfl, by show _ = _; rw [HE.out, HN.out], hNN.1, fun _ => hNN.2, hbz⟩
      · obtain rfl : k = n := by omega
        have hacc : glued (pairList l) ⟨#[44]⟩ = acc := by rw [HE.out, List.drop_of_length_le (by unfold pairList; rw [List.length_map, ← L.out]; exact Nat.le_refl _)]; rfl
        by_cases hk0 : k = 0
        · have hl : l = [] := List.eq_nil_of_length_eq_zero (by rw [← L.out]; exact hk0)
          have ha : acc = ⟨#[]⟩ := by rw [← hacc, hl]; rfl
          have HF := Lib.hid (show T = ⟨#[110, 111, 110, 101]⟩ by rw [HT.out, pairsText, if_pos E1.out, if_pos hl])
          have b1 : acc.toList.isEmpty = true := by rw [ha, ByteArray.toList_eq]; rfl
          clear hl ha hacc hk0 HE
          go_wp2
          go_ret
          exact Ret.str (by rw [HF.out]) (hb)
        · have hl : ¬ l = [] := fun hh => hk0 (by rw [L.out, hh]; rfl)
          have HF := Lib.hid (show T = acc by rw [HT.out, pairsText, if_pos E1.out, if_neg hl, hacc])
          have b1 : acc.toList.isEmpty = false := str_ne (by have := g2 (by omega); omega)
          clear hl hacc hk0 HE g1 g2
          go_wp2
          go_ret
          exact Ret.str (by rw [HF.out]) (hb)
  · have HF := Lib.hid (show T = ⟨#[]⟩ by rw [HT.out, pairsText, e1]; rfl)
    rw [e1]
    clear e1
    go_wp2
    go_ret
    exact Ret.str (by rw [HF.out]) (hb1)
end Go.Proofs.Ytdfmgpmfalnffaa
