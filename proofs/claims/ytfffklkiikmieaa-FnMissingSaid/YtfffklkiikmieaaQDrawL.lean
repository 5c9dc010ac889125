/- Draws: what the laws ask for. -/
import Derived.Test.YtfffklkiikmieaaQCoupI
import Derived.Test.YtfffklkiikmieaaQCoupS
import Derived.Test.YtfffklkiikmieaaQDrawJ
import Derived.Test.YtfffklkiikmieaaQCoupF
import Derived.Test.YtfffklkiikmieaaQCouples
namespace Go.Proofs.Ytfffklkiikmieaa
open Go.RowKit
set_option linter.unusedVariables false
set_option linter.unusedSimpArgs false
set_option maxRecDepth 100000 in
set_option maxHeartbeats 1600000 in
theorem I_BestCouples (w : World) (a b : List GItem) (f g : Int) (p q : List GNode) (va vb vp vq : Value) (ha : Rd rItems w a [va]) (hb : Rd rItems w b [vb]) (hp : Rd rNodes w p [vp]) (hq : Rd rNodes w q [vq]) :
    Calls Try.prog 53 #[va, vb, .int .i64 f, .int .i64 g, vp, vq] w (RetV w (Made fCouples w.heap.size (bestCoup a b f g p q))) := by
  go_enter Try.func53, Try.ntmps53
  go_wp2_with fail
  refine (I_IsExpression _ p _ hp).mono ?_
  rintro e w1 ⟨rfl, hb1⟩
  rcases Bool.eq_false_or_eq_true (isExpr p) with e1 | e1
  · have E1 := Lib.hid e1
    rw [e1]
    clear e1
    go_wp2_with fail
    refine (I_IsExpression _ q _ (hq.bw rNodes_good hb1)).mono ?_
    rintro e w2 ⟨rfl, hb2⟩
    have B2 := hb1.then hb2
    rcases Bool.eq_false_or_eq_true (isExpr q) with e2 | e2
    · have E2 := Lib.hid e2
      rw [e2]
      clear e2
      go_wp2_with fail
      refine (I_Couples _ a b f g _ _ (ha.bw rItems_good B2) (hb.bw rItems_good B2)).mono ?_
      rintro e w3 ⟨v3, rfl, ⟨F3, o3, f3⟩, hb3⟩
      have B3 := B2.then hb3
      have hl := couples_len a b f g
      go_wp2_with fail
      refine (I_bestOf _ a b p q (couples a b f g) _ _ _ _ _ (ha.bw rItems_good B3) (hb.bw rItems_good B3) (hp.bw rNodes_good B3) (hq.bw rNodes_good B3) (fCouples_Rd o3) (by omega) couples_fit E1.out E2.out).mono ?_
      rintro e w4 ⟨v4, rfl, ⟨F4, o4, f4⟩, hb4⟩
      rw [show bestC a b p q (couples a b f g) = bestCoup a b f g p q by rw [bestCoup, E1.out, E2.out]; rfl] at o4
      go_wp2
      go_ret
      exact ⟨_, rfl, ⟨F4, o4, f4.mono B3.size⟩, B3.then hb4⟩
    · have E2 := Lib.hid e2
      rw [e2]
      clear e2
      have hv0 := fSl_empty (e := 83) (sz := 2) (R := fPair) w2
      rw [show ([] : List GPair) = bestCoup a b f g p q by rw [bestCoup, E1.out, E2.out]; rfl] at hv0
      have hz := B2.size
      go_wp2
      go_ret
      exact ⟨_, rfl, ⟨_, hv0, ⟨by simp, by simpa using hz⟩⟩, B2.alloc _⟩
  · have E1 := Lib.hid e1
    rw [e1]
    clear e1
    have hv0 := fSl_empty (e := 83) (sz := 2) (R := fPair) w1
    rw [show ([] : List GPair) = bestCoup a b f g p q by rw [bestCoup, E1.out]; rfl] at hv0
    have hz := hb1.size
    go_wp2
    go_ret
    exact ⟨_, rfl, ⟨_, hv0, ⟨by simp, by simpa using hz⟩⟩, hb1.alloc _⟩
set_option maxRecDepth 100000 in
set_option maxHeartbeats 1600000 in
theorem S_BestCouples (w : World) (a b : List GItem) (f g : Int) (p q : List GNode) (va vb vp vq : Value) (ha : Rd rItems w a [va]) (hb : Rd rItems w b [vb]) (hp : Rd rNodes w p [vp]) (hq : Rd rNodes w q [vq]) :
    Calls Try.prog 146 #[va, vb, .int .i64 f, .int .i64 g, vp, vq] w (RetV w (Made fCouples w.heap.size (bestCoup a b f g p q))) := by
  go_enter Try.func146, Try.ntmps146
  go_wp2_with fail
  refine (S_IsExpression _ p _ hp).mono ?_
  rintro e w1 ⟨rfl, hb1⟩
  rcases Bool.eq_false_or_eq_true (isExpr p) with e1 | e1
  · have E1 := Lib.hid e1
    rw [e1]
    clear e1
    go_wp2_with fail
    refine (S_IsExpression _ q _ (hq.bw rNodes_good hb1)).mono ?_
    rintro e w2 ⟨rfl, hb2⟩
    have B2 := hb1.then hb2
    rcases Bool.eq_false_or_eq_true (isExpr q) with e2 | e2
    · have E2 := Lib.hid e2
      rw [e2]
      clear e2
      go_wp2_with fail
      refine (S_Couples _ a b f g _ _ (ha.bw rItems_good B2) (hb.bw rItems_good B2)).mono ?_
      rintro e w3 ⟨v3, rfl, ⟨F3, o3, f3⟩, hb3⟩
      have B3 := B2.then hb3
      have hl := couples_len a b f g
      go_wp2_with fail
      refine (S_l17Best _ a b p q (couples a b f g) _ _ _ _ _ (ha.bw rItems_good B3) (hb.bw rItems_good B3) (hp.bw rNodes_good B3) (hq.bw rNodes_good B3) (fCouples_Rd o3) (by omega) couples_fit E1.out E2.out).mono ?_
      rintro e w4 ⟨v4, rfl, ⟨F4, o4, f4⟩, hb4⟩
      rw [show bestC a b p q (couples a b f g) = bestCoup a b f g p q by rw [bestCoup, E1.out, E2.out]; rfl] at o4
      go_wp2
      go_ret
      exact ⟨_, rfl, ⟨F4, o4, f4.mono B3.size⟩, B3.then hb4⟩
    · have E2 := Lib.hid e2
      rw [e2]
      clear e2
      have hv0 := fSl_empty (e := 83) (sz := 2) (R := fPair) w2
      rw [show ([] : List GPair) = bestCoup a b f g p q by rw [bestCoup, E1.out, E2.out]; rfl] at hv0
      have hz := B2.size
      go_wp2
      go_ret
      exact ⟨_, rfl, ⟨_, hv0, ⟨by simp, by simpa using hz⟩⟩, B2.alloc _⟩
  · have E1 := Lib.hid e1
    rw [e1]
    clear e1
    have hv0 := fSl_empty (e := 83) (sz := 2) (R := fPair) w1
    rw [show ([] : List GPair) = bestCoup a b f g p q by rw [bestCoup, E1.out]; rfl] at hv0
    have hz := hb1.size
    go_wp2
    go_ret
    exact ⟨_, rfl, ⟨_, hv0, ⟨by simp, by simpa using hz⟩⟩, hb1.alloc _⟩
end Go.Proofs.Ytfffklkiikmieaa

namespace Go.Proofs.Ytfffklkiikmieaa
open Go.RowKit
set_option linter.unusedVariables false
set_option linter.unusedSimpArgs false
set_option maxRecDepth 100000 in
set_option maxHeartbeats 3200000 in
theorem D_l17Draw (w : World) (xs : List Int) (v : Value) (h : Rd rBytes w xs [v]) (hx : wfBytes xs) : Calls Try.prog 142 #[v] w fun e W =>
    ∃ va vb f g vp vq, e = .returned (.tuple #[va, vb, .int .i64 f, .int .i64 g, vp, vq]) ∧ T rItems (gItems 8) W va ∧ T rItems (gItems 8) W vb ∧ T rNodes (gNodes 8) W vp ∧ T rNodes (gNodes 8) W vq ∧ in100 f ∧ in100 g ∧ Bw w W := by
  have hcall0 := D_l1New w xs v h hx
  clear h
  go_enter Try.func142, Try.ntmps142
  go_wp2_with fail
  refine hcall0.mono ?_
  rintro e w1 ⟨p, rfl, hA1⟩
  clear hcall0
  have hp := hA1.lt
  have hcall := D_l2Items w w1 p hA1 6 (by omega) (by omega)
  go_wp2_with fail
  refine hcall.mono ?_
  rintro e w2 ⟨va, rfl, ha, hO2, hA2⟩
  clear hcall
  replace ha := ha.gi (Nat.le_refl _) (by omega)
  have z2 := hO2.1
  have hcall := D_l2Items w w2 p hA2 6 (by omega) (by omega)
  go_wp2_with fail
  refine hcall.mono ?_
  rintro e w3 ⟨vb, rfl, hb, hO3, hA3⟩
  clear hcall
  replace ha := hO3.read rItems_good hp ha
  replace hb := hb.gi z2 (by omega)
  have z3 := hO3.1
  have hcall := D_l1Below w w3 p hA3 3 (by omega) (by omega)
  go_wp2_with fail
  refine hcall.mono ?_
  rintro e w4 ⟨v4, rfl, ⟨f, rfl, f1, f2⟩, hO4, hA4⟩
  clear hcall
  replace ha := hO4.read rItems_good hp ha
  replace hb := hO4.read rItems_good hp hb
  have z4 := hO4.1
  have hcall := D_l1Below w w4 p hA4 3 (by omega) (by omega)
  go_wp2_with fail
  refine hcall.mono ?_
  rintro e w5 ⟨v5, rfl, ⟨g, rfl, g1, g2⟩, hO5, hA5⟩
  clear hcall
  replace ha := hO5.read rItems_good hp ha
  replace hb := hO5.read rItems_good hp hb
  have z5 := hO5.1
  have hf : in100 f := ⟨by omega, by omega⟩
  have hg : in100 g := ⟨by omega, by omega⟩
  have HF := Lib.hid hf
  have HG := Lib.hid hg
  clear f1 f2 g1 g2 hf hg
  have hcall := D_l5Expression w w5 p hA5
  go_wp2_with fail
  refine hcall.mono ?_
  rintro e w6 ⟨vp, rfl, hpp, hO6, hA6⟩
  clear hcall
  replace ha := hO6.read rItems_good hp ha
  replace hb := hO6.read rItems_good hp hb
  replace hpp := hpp.ge (B' := w1.heap.size) (by omega)
  have z6 := hO6.1
  have hcall := D_l5Expression w w6 p hA6
  go_wp2_with fail
  refine hcall.mono ?_
  rintro e w7 ⟨vq, rfl, hqq, hO7, hA7⟩
  clear hcall
  replace ha := hO7.read rItems_good hp ha
  replace hb := hO7.read rItems_good hp hb
  replace hpp := hO7.read rNodes_good hp hpp
  replace hqq := hqq.ge (B' := w1.heap.size) (by omega)
  have z7 := hO7.1
  have hcall := D_l1Below w w7 p hA7 16 (by omega) (by omega)
  go_wp2_with fail
  refine hcall.mono ?_
  rintro e w8 ⟨v8, rfl, ⟨sw, rfl, s1, s2⟩, hO8, hA8⟩
  clear hcall
  replace ha := hO8.read rItems_good hp ha
  replace hb := hO8.read rItems_good hp hb
  replace hpp := hO8.read rNodes_good hp hpp
  replace hqq := hO8.read rNodes_good hp hqq
  have z8 := hO8.1
  have z18 : w1.heap.size ≤ w8.heap.size := by omega
  clear hO2 hO3 hO4 hO5 hO6 hO7 hO8 hA2 hA3 hA4 hA5 hA6 hA7 z2 z3 z4 z5 z6 z7 z8
  by_cases h0 : sw = 0
  · subst h0
    have hcall := D_l2Any w w8 p hA8
    go_wp2_with fail
    refine hcall.mono ?_
    rintro e w9 ⟨va2, rfl, ha2, hO9, hA9⟩
    clear hcall
    replace ha2 := ha2.items.low rItems_good z18 (fun _ h => h)
    replace hb := hO9.read rItems_good hp hb
    replace hpp := hO9.read rNodes_good hp hpp
    replace hqq := hO9.read rNodes_good hp hqq
    go_wp2
    refine bodyPost_ret (v := .tuple #[va2, vb, .int .i64 f, .int .i64 g, vp, vq]) (by simp [results, Try.results142, go_sem]) rfl ?_
    exact ⟨_, _, _, _, _, _, rfl, (ha2).rd rItems_good, (hb).rd rItems_good, (hpp).rd rNodes_good, (hqq).rd rNodes_good, HF.out, HG.out, (hA9).bw⟩
  · by_cases h1 : sw = 1
    · subst h1
      have DW := (Dn.start hA8).alloc (.cells #[.int .i64 (-1), .int .i64 3] 3)
      have hl := fInts_two w8 (-1) 3
      have hAl := (Bw.refl w8).alloc (.cells #[.int .i64 (-1), .int .i64 3] 3)
      have hcall := D_l1PickInt w _ p DW.at' [-1, 3] _ _ hl (by have := DW.lt; simp; omega) (by decide) (by decide)
      clear hl h0
      go_wp2_with fail
      refine hcall.mono ?_
      rintro e w9 ⟨v9, rfl, ⟨y, hy, rfl⟩, hO9, hA9⟩
      clear hcall
      replace ha := hO9.read rItems_good hp (ha.bw rItems_good hAl)
      replace hb := hO9.read rItems_good hp (hb.bw rItems_good hAl)
      replace hpp := hO9.read rNodes_good hp (hpp.bw rNodes_good hAl)
      replace hqq := hO9.read rNodes_good hp (hqq.bw rNodes_good hAl)
      have HY := Lib.hid (show in100 y from by unfold in100; simp at hy; omega)
      clear hy
      go_wp2
      refine bodyPost_ret (v := .tuple #[va, vb, .int .i64 y, .int .i64 g, vp, vq]) (by simp [results, Try.results142, go_sem]) rfl ?_
      exact ⟨_, _, _, _, _, _, rfl, (ha).rd rItems_good, (hb).rd rItems_good, (hpp).rd rNodes_good, (hqq).rd rNodes_good, HY.out, HG.out, (hA9).bw⟩
    · by_cases h2 : sw = 2
      · subst h2
        clear h0 h1
        have hcall := D_l5Any w w8 p hA8
        go_wp2_with fail
        refine hcall.mono ?_
        rintro e w9 ⟨vp2, rfl, hp2, hO9, hA9⟩
        clear hcall
        replace hp2 := hp2.low rNodes_good z18 (fun _ h => h)
        replace ha := hO9.read rItems_good hp ha
        replace hb := hO9.read rItems_good hp hb
        replace hqq := hO9.read rNodes_good hp hqq
        go_wp2
        refine bodyPost_ret (v := .tuple #[va, vb, .int .i64 f, .int .i64 g, vp2, vq]) (by simp [results, Try.results142, go_sem]) rfl ?_
        exact ⟨_, _, _, _, _, _, rfl, (ha).rd rItems_good, (hb).rd rItems_good, (hp2).rd rNodes_good, (hqq).rd rNodes_good, HF.out, HG.out, (hA9).bw⟩
      · have e0 : (sw == 0) = false := by simpa using h0
        have e1 : (sw == 1) = false := by simpa using h1
        have e2 : (sw == 2) = false := by simpa using h2
        clear h0 h1 h2
        go_wp2
        refine bodyPost_ret (v := .tuple #[va, vb, .int .i64 f, .int .i64 g, vp, vq]) (by simp [results, Try.results142, go_sem]) rfl ?_
        exact ⟨_, _, _, _, _, _, rfl, (ha).rd rItems_good, (hb).rd rItems_good, (hpp).rd rNodes_good, (hqq).rd rNodes_good, HF.out, HG.out, (hA8).bw⟩
set_option maxHeartbeats 1600000 in
theorem D_DrawFastCouples (w : World) (xs : List Int) (v : Value) (h : Rd rBytes w xs [v]) (hx : wfBytes xs) : Calls Try.prog 52 #[v] w fun e W =>
    ∃ va vb f g vp vq, e = .returned (.tuple #[va, vb, .int .i64 f, .int .i64 g, vp, vq]) ∧ T rItems (gItems 8) W va ∧ T rItems (gItems 8) W vb ∧ T rNodes (gNodes 8) W vp ∧ T rNodes (gNodes 8) W vq ∧ in100 f ∧ in100 g ∧ Bw w W := by
  have hcall := D_l17Draw w xs v h hx
  clear h
  go_enter Try.func52, Try.ntmps52
  go_wp2_with fail
  refine hcall.mono ?_
  rintro e W ⟨va, vb, f, g, vp, vq, rfl, ha, hb, hp, hq, hf, hg, hB⟩
  have HF := Lib.hid hf
  have HG := Lib.hid hg
  clear hcall hf hg
  go_wp2
  refine bodyPost_ret (v := .tuple #[va, vb, .int .i64 f, .int .i64 g, vp, vq]) (by simp [results, Try.results52, go_sem]) rfl ?_
  exact ⟨_, _, _, _, _, _, rfl, ha, hb, hp, hq, HF.out, HG.out, hB⟩
set_option maxHeartbeats 1600000 in
theorem D_DrawLocalBest (w : World) (xs : List Int) (v : Value) (h : Rd rBytes w xs [v]) (hx : wfBytes xs) : Calls Try.prog 58 #[v] w fun e W =>
    ∃ va f vp, e = .returned (.tuple #[va, .int .i64 f, vp]) ∧ T rItems (gItems 8) W va ∧ T rNodes (gNodes 8) W vp ∧ in100 f ∧ Bw w W := by
  have hcall := D_l17Draw w xs v h hx
  clear h
  go_enter Try.func58, Try.ntmps58
  go_wp2_with fail
  refine hcall.mono ?_
  rintro e W ⟨va, vb, f, g, vp, vq, rfl, ha, hb, hp, hq, hf, hg, hB⟩
  have HF := Lib.hid hf
  have HG := Lib.hid hg
  clear hcall hf hg
  go_wp2
  refine bodyPost_ret (v := .tuple #[va, .int .i64 f, vp]) (by simp [results, Try.results58, go_sem]) rfl ?_
  exact ⟨_, _, _, rfl, ha, hp, HF.out, hB⟩
set_option maxHeartbeats 1600000 in
theorem D_DrawEqualCouples (w : World) (xs : List Int) (v : Value) (h : Rd rBytes w xs [v]) (hx : wfBytes xs) : Calls Try.prog 59 #[v] w fun e W =>
    ∃ va vb, e = .returned (.tuple #[va, vb]) ∧ T rPairs (fun _ => True) W va ∧ T rPairs (fun _ => True) W vb ∧ Bw w W := by
  have hcall := D_l17Draw w xs v h hx
  obtain ⟨A, n, c, rfl, L0, Lc, Lm⟩ := rSl_open h
  unfold maxLen at Lm
  have L := Lib.hid L0
  clear L0
  clear h
  go_enter Try.func59, Try.ntmps59
  go_wp2_with fail
  refine hcall.mono ?_
  rintro e W ⟨va, vb, f, g, vp, vq, rfl, ⟨a, ha, qa⟩, ⟨b, hb, qb⟩, ⟨p, hp, qp⟩, ⟨q, hq, qq⟩, hf, hg, hB⟩
  have HF := Lib.hid hf
  have HG := Lib.hid hg
  clear hcall hf hg qa qb qp qq
  have hcall := S_Couples W a b f g va vb ha hb
  go_wp2_with fail
  refine hcall.mono ?_
  rintro e W2 ⟨v1, rfl, ⟨F1, o1, f1⟩, hB2⟩
  have hB12 := hB.then hB2
  clear hcall
  have r1 := fCouples_Rd o1
  by_cases h0 : (n : Int).tmod 2 = 0
  · have hm : ((n : Int) % 2 == 0) = true := by rw [Int.tmod_eq_emod_of_nonneg (by omega)] at h0; simpa using h0
    have hm2 : ((n : Int).tmod 2 == 0) = true := by simpa using h0
    have hcall := S_Couples W2 a b f g va vb (ha.bw rItems_good hB2) (hb.bw rItems_good hB2)
    clear h0
    go_wp2_with fail
    refine hcall.mono ?_
    rintro e W3 ⟨v3, rfl, ⟨F3, o3, f3⟩, hB3⟩
    have r3 := fCouples_Rd o3
    clear hcall
    go_wp2
    refine bodyPost_ret (v := .tuple #[v1, v3]) (by simp [results, Try.results59, go_sem]) rfl ?_
    exact ⟨_, _, rfl, ⟨_, r1.bw rPairs_good hB3, trivial⟩, ⟨_, r3, trivial⟩, hB12.then hB3⟩
  · have hm : ((n : Int) % 2 == 0) = false := by rw [Int.tmod_eq_emod_of_nonneg (by omega)] at h0; simpa using h0
    have hm2 : ((n : Int).tmod 2 == 0) = false := by simpa using h0
    have hcall := S_BestCouples W2 a b f g p q va vb vp vq (ha.bw rItems_good hB2) (hb.bw rItems_good hB2) (hp.bw rNodes_good hB2) (hq.bw rNodes_good hB2)
    clear h0
    go_wp2_with fail
    refine hcall.mono ?_
    rintro e W3 ⟨v3, rfl, ⟨F3, o3, f3⟩, hB3⟩
    have r3 := fCouples_Rd o3
    clear hcall
    go_wp2
    refine bodyPost_ret (v := .tuple #[v1, v3]) (by simp [results, Try.results59, go_sem]) rfl ?_
    exact ⟨_, _, rfl, ⟨_, r1.bw rPairs_good hB3, trivial⟩, ⟨_, r3, trivial⟩, hB12.then hB3⟩
set_option maxHeartbeats 1600000 in
theorem D_DrawParetoOf (w : World) (xs : List Int) (v : Value) (h : Rd rBytes w xs [v]) (hx : wfBytes xs) : Calls Try.prog 46 #[v] w fun e W =>
    ∃ va, e = .returned va ∧ T rWishes (gWishes 5) W va ∧ Bw w W := by
  have hcall0 := D_l1New w xs v h hx
  clear h
  go_enter Try.func46, Try.ntmps46
  go_wp2_with fail
  refine hcall0.mono ?_
  rintro e w1 ⟨p, rfl, hA1⟩
  clear hcall0
  have hcall := D_l14Wishes w w1 p hA1
  go_wp2_with fail
  refine hcall.mono ?_
  rintro e w2 ⟨va, rfl, ha, hO2, hA2⟩
  clear hcall
  go_wp2
  go_ret
  exact ⟨_, rfl, ha.wishes.rd rWishes_good, hA2.bw⟩
set_option maxHeartbeats 1600000 in
theorem D_DrawSmallestDrop (w : World) (xs : List Int) (v : Value) (h : Rd rBytes w xs [v]) (hx : wfBytes xs) : Calls Try.prog 42 #[v] w fun e W =>
    ∃ va vb id, e = .returned (.tuple #[va, vb, .int .i64 id]) ∧ T rItems (gItems 8) W va ∧ T rWishes (gWishes 5) W vb ∧ in100 id ∧ Bw w W := by
  have hcall0 := D_l1New w xs v h hx
  clear h
  go_enter Try.func42, Try.ntmps42
  go_wp2_with fail
  refine hcall0.mono ?_
  rintro e w1 ⟨p, rfl, hA1⟩
  clear hcall0
  have hp := hA1.lt
  have hcall := D_l2Items w w1 p hA1 6 (by omega) (by omega)
  go_wp2_with fail
  refine hcall.mono ?_
  rintro e w2 ⟨va, rfl, ha, hO2, hA2⟩
  clear hcall
  replace ha := ha.gi (Nat.le_refl _) (by omega)
  have z2 := hO2.1
  have hcall := D_l14Wishes w w2 p hA2
  go_wp2_with fail
  refine hcall.mono ?_
  rintro e w3 ⟨vb, rfl, hb, hO3, hA3⟩
  clear hcall
  replace ha := hO3.read rItems_good hp ha
  replace hb := hb.wishes.low rWishes_good z2 (fun _ h => h)
  have hcall := D_l1Below w w3 p hA3 8 (by omega) (by omega)
  go_wp2_with fail
  refine hcall.mono ?_
  rintro e w4 ⟨v4, rfl, ⟨id, rfl, i1, i2⟩, hO4, hA4⟩
  clear hcall
  replace ha := hO4.read rItems_good hp ha
  replace hb := hO4.read rWishes_good hp hb
  have HI := Lib.hid (show in100 (id - 1) from ⟨by omega, by omega⟩)
  go_wp2
  refine bodyPost_ret (v := .tuple #[va, vb, .int .i64 (id - 1)]) (by simp [results, Try.results42, go_sem]) rfl ?_
  exact ⟨_, _, _, rfl, ha.rd rItems_good, hb.rd rWishes_good, HI.out, hA4.bw⟩
set_option maxHeartbeats 1600000 in
theorem D_DrawPossibleBest (w : World) (xs : List Int) (v : Value) (h : Rd rBytes w xs [v]) (hx : wfBytes xs) : Calls Try.prog 63 #[v] w fun e W =>
    ∃ va vb, e = .returned (.tuple #[va, vb]) ∧ T rItems (gItems 8) W va ∧ T rNodes (gNodes 8) W vb ∧ Bw w W := by
  have hcall0 := D_l1New w xs v h hx
  clear h
  go_enter Try.func63, Try.ntmps63
  go_wp2_with fail
  refine hcall0.mono ?_
  rintro e w1 ⟨p, rfl, hA1⟩
  clear hcall0
  have hp := hA1.lt
  have hcall := D_l13Partial w w1 p hA1
  go_wp2_with fail
  refine hcall.mono ?_
  rintro e w2 ⟨va, rfl, ha, hO2, hA2⟩
  clear hcall
  have z2 := hO2.1
  have hcall := D_l5Any w w2 p hA2
  go_wp2_with fail
  refine hcall.mono ?_
  rintro e w3 ⟨vb, rfl, hb, hO3, hA3⟩
  clear hcall
  have ha3 := hO3.read rItems_good hp ha.items
  go_wp2
  refine bodyPost_ret (v := .tuple #[va, vb]) (by simp [results, Try.results63, go_sem]) rfl ?_
  exact ⟨_, _, rfl, ha3.rd rItems_good, hb.rd rNodes_good, hA3.bw⟩
set_option maxHeartbeats 1600000 in
theorem D_DrawCompletionAt (w : World) (xs : List Int) (v : Value) (h : Rd rBytes w xs [v]) (hx : wfBytes xs) : Calls Try.prog 77 #[v] w fun e W =>
    ∃ va n, e = .returned (.tuple #[va, .int .i64 n]) ∧ T rItems (gItems 8) W va ∧ in100 n ∧ Bw w W := by
  have hcall0 := D_l1New w xs v h hx
  clear h
  go_enter Try.func77, Try.ntmps77
  go_wp2_with fail
  refine hcall0.mono ?_
  rintro e w1 ⟨p, rfl, hA1⟩
  clear hcall0
  have hp := hA1.lt
  have hcall := D_l13Partial w w1 p hA1
  go_wp2_with fail
  refine hcall.mono ?_
  rintro e w2 ⟨va, rfl, ha, hO2, hA2⟩
  clear hcall
  have hcall := D_l1Below w w2 p hA2 66 (by omega) (by omega)
  go_wp2_with fail
  refine hcall.mono ?_
  rintro e w3 ⟨v3, rfl, ⟨n, rfl, n1, n2⟩, hO3, hA3⟩
  clear hcall
  have ha3 := hO3.read rItems_good hp ha.items
  have HI := Lib.hid (show in100 (n - 1) from ⟨by omega, by omega⟩)
  go_wp2
  refine bodyPost_ret (v := .tuple #[va, .int .i64 (n - 1)]) (by simp [results, Try.results77, go_sem]) rfl ?_
  exact ⟨_, _, rfl, ha3.rd rItems_good, HI.out, hA3.bw⟩
end Go.Proofs.Ytfffklkiikmieaa
