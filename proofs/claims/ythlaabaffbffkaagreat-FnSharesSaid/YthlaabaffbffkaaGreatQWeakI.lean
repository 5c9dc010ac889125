/- IsWeaker in the program. -/
import Derived.Test.YthlaabaffbffkaaGreatQParts
import Derived.Test.YthlaabaffbffkaaGreatQEqLists
import Derived.Test.YthlaabaffbffkaaGreatQDrawF
namespace Go.Proofs.YthlaabaffbffkaaGreat
open Go.RowKit
set_option linter.unusedVariables false
set_option linter.unusedSimpArgs false
def swapB (a0 a1 b0 b1 : XT) : Bool := (decide (flat a0 = flat b0) && decide (flat a1 = flat b1)) || (decide (flat a0 = flat b1) && decide (flat a1 = flat b0))
theorem opOf_two {t : XT} {k : Int} (h : opOf t = k) (h0 : k ≠ 0) (h3 : k ≠ 3) : ∃ a b, t = .two k a b := by
  cases t with
  | base w => exact absurd h.symm h0
  | dual t => exact absurd h.symm h3
  | two op a b => subst h; exact ⟨a, b, rfl⟩
theorem not_two {t : XT} {k : Int} (h : opOf t ≠ k) (a b : XT) : t ≠ .two k a b := fun e => h (by rw [e]; rfl)
theorem weak_AX (a0 a1 : XT) (b0 b1 : XT) : weakT (.two 4 a0 a1) (.two 2 b0 b1) = (decide (flat (.two 4 a0 a1) = flat (.two 2 b0 b1)) || (weakT (.two 4 a0 a1) b0 || (weakT a0 (.two 2 b0 b1) || weakT a1 (.two 2 b0 b1)))) := by
  rw [weakT]; simp [swapT, swapB]
theorem weak_AY (a0 a1 : XT) (b0 b1 : XT) : weakT (.two 4 a0 a1) (.two 1 b0 b1) = (decide (flat (.two 4 a0 a1) = flat (.two 1 b0 b1)) || ((weakT a0 (.two 1 b0 b1) || weakT a1 (.two 1 b0 b1)) || swapB a0 a1 b0 b1)) := by
  rw [weakT]; simp [swapT, swapB]
theorem weak_AZ (a0 a1 : XT) (q : XT) (hq1 : opOf q ≠ 1) (hq2 : opOf q ≠ 2) : weakT (.two 4 a0 a1) q = (decide (flat (.two 4 a0 a1) = flat q) || ((weakT a0 q || weakT a1 q))) := by
  cases q <;> rw [weakT] <;> simp_all [swapT, swapB, opOf]
theorem weak_BX (a0 a1 : XT) (b0 b1 : XT) : weakT (.two 1 a0 a1) (.two 2 b0 b1) = (decide (flat (.two 1 a0 a1) = flat (.two 2 b0 b1)) || (weakT (.two 1 a0 a1) b0 || swapB a0 a1 b0 b1)) := by
  rw [weakT]; simp [swapT, swapB]
theorem weak_BY (a0 a1 : XT) (b0 b1 : XT) : weakT (.two 1 a0 a1) (.two 1 b0 b1) = (decide (flat (.two 1 a0 a1) = flat (.two 1 b0 b1)) || (false)) := by
  rw [weakT]; simp [swapT, swapB]
theorem weak_BZ (a0 a1 : XT) (q : XT) (hq1 : opOf q ≠ 1) (hq2 : opOf q ≠ 2) : weakT (.two 1 a0 a1) q = (decide (flat (.two 1 a0 a1) = flat q) || (false)) := by
  cases q <;> rw [weakT] <;> simp_all [swapT, swapB, opOf]
theorem weak_CX (p : XT) (b0 b1 : XT) (hp1 : opOf p ≠ 1) (hp4 : opOf p ≠ 4) : weakT p (.two 2 b0 b1) = (decide (flat p = flat (.two 2 b0 b1)) || (weakT p b0)) := by
  cases p <;> rw [weakT] <;> simp_all [swapT, swapB, opOf]
theorem weak_CY (p : XT) (b0 b1 : XT) (hp1 : opOf p ≠ 1) (hp4 : opOf p ≠ 4) : weakT p (.two 1 b0 b1) = (decide (flat p = flat (.two 1 b0 b1)) || (false)) := by
  cases p <;> rw [weakT] <;> simp_all [swapT, swapB, opOf]
theorem weak_CZ (p : XT) (q : XT) (hp1 : opOf p ≠ 1) (hp4 : opOf p ≠ 4) (hq1 : opOf q ≠ 1) (hq2 : opOf q ≠ 2) : weakT p q = (decide (flat p = flat q) || (false)) := by
  cases p <;> cases q <;> rw [weakT] <;> simp_all [swapT, swapB, opOf]
def WeakIH (p q : XT) : Prop := ∀ p' q' : XT, SizeOf.sizeOf p' + SizeOf.sizeOf q' < SizeOf.sizeOf p + SizeOf.sizeOf q → okT p' → okT q' → (flat p').length ≤ 9 → (flat q').length ≤ 9 → ∀ (w : World) (v u : Value), Rd rNodes w (flat p') [v] → Rd rNodes w (flat q') [u] → Calls Tryz.prog 13 #[v, u] w (Ret w (.bool (weakT p' q')))
set_option maxRecDepth 100000 in
set_option maxHeartbeats 3200000 in
theorem I_weak_AX (a0 a1 : XT) (b0 b1 : XT) (IH : WeakIH (.two 4 a0 a1) (.two 2 b0 b1)) (okp : okT (.two 4 a0 a1)) (okq : okT (.two 2 b0 b1)) (lp : (flat (.two 4 a0 a1)).length ≤ 9) (lq : (flat (.two 2 b0 b1)).length ≤ 9) (w : World) (v u : Value) (h : Rd rNodes w (flat (.two 4 a0 a1)) [v]) (h' : Rd rNodes w (flat (.two 2 b0 b1)) [u]) :
    Calls Tryz.prog 13 #[v, u] w (Ret w (.bool (weakT (.two 4 a0 a1) (.two 2 b0 b1)))) := by
  have HW := Lib.hid (weak_AX a0 a1 b0 b1)
  have c1 := I_IsExpression w (flat (.two 4 a0 a1)) v h
  rw [isExpr_flat okp lp] at c1
  have c2 := fun W (B : Bw w W) => I_IsExpression W (flat (.two 2 b0 b1)) u (h'.bw rNodes_good B)
  simp only [isExpr_flat okq lq] at c2
  have c3 := fun W (B : Bw w W) => I_EqualExpressions W (flat (.two 4 a0 a1)) (flat (.two 2 b0 b1)) v u (h.bw rNodes_good B) (h'.bw rNodes_good B)
  have c4 := fun W (B : Bw w W) => I_parts W (.two 4 a0 a1) v (h.bw rNodes_good B) okp lp
  have c5 := fun W (B : Bw w W) => I_parts W (.two 2 b0 b1) u (h'.bw rNodes_good B) okq lq
  have l1 := flat_two_len 4 a0 a1
  have l2 := flat_two_len 2 b0 b1
  have i1 := fun W (B : Bw w W) y (hy : Rd rNodes W (flat b0) [y]) => IH (.two 4 a0 a1) b0 (by first | (simp; omega) | simp) okp okq.2.1 lp (by omega) W v y (h.bw rNodes_good B) hy
  have i2 := fun W (B : Bw w W) y (hy : Rd rNodes W (flat a0) [y]) => IH a0 (.two 2 b0 b1) (by first | (simp; omega) | simp) okp.2.1 okq (by omega) lq W y u hy (h'.bw rNodes_good B)
  have i3 := fun W (B : Bw w W) y (hy : Rd rNodes W (flat a1) [y]) => IH a1 (.two 2 b0 b1) (by first | (simp; omega) | simp) okp.2.2 okq (by omega) lq W y u hy (h'.bw rNodes_good B)
  obtain ⟨T, hT⟩ : ∃ T, T = weakT (.two 4 a0 a1) (.two 2 b0 b1) := ⟨_, rfl⟩
  rw [← hT] at HW ⊢
  obtain ⟨E, hE⟩ : ∃ E, E = decide (flat (.two 4 a0 a1) = flat (.two 2 b0 b1)) := ⟨_, rfl⟩
  rw [← hE] at HW
  simp only [← hE] at c3
  obtain ⟨y1, hy1⟩ : ∃ y, y = weakT (.two 4 a0 a1) b0 := ⟨_, rfl⟩
  rw [← hy1] at HW
  simp only [← hy1] at i1
  have J1 := Lib.hid i1
  clear hy1 i1
  obtain ⟨y2, hy2⟩ : ∃ y, y = weakT a0 (.two 2 b0 b1) := ⟨_, rfl⟩
  rw [← hy2] at HW
  simp only [← hy2] at i2
  have J2 := Lib.hid i2
  clear hy2 i2
  obtain ⟨y3, hy3⟩ : ∃ y, y = weakT a1 (.two 2 b0 b1) := ⟨_, rfl⟩
  rw [← hy3] at HW
  simp only [← hy3] at i3
  have J3 := Lib.hid i3
  clear hy3 i3
  have C2 := Lib.hid c2
  have C3 := Lib.hid c3
  have C4 := Lib.hid c4
  have C5 := Lib.hid c5
  clear hT hE c2 c3 c4 c5 okp okq lp lq l1 l2
  go_enter Tryz.func13, Tryz.ntmps13
  go_wp2_with fail
  refine (c1).mono ?_
  rintro e w1 ⟨rfl, hb1⟩
  go_wp2_with fail
  refine (C2.out _ hb1).mono ?_
  rintro e w2 ⟨rfl, hb2⟩
  have B2 := hb1.then hb2
  go_wp2_with fail
  refine (C3.out _ B2).mono ?_
  rintro e w3 ⟨rfl, hb3⟩
  have B3 := B2.then hb3
  rcases Bool.eq_false_or_eq_true (E) with eE | eE
  · have HT := Lib.hid (show T = true by rw [HW.out, eE]; rfl)
    rw [eE]
    clear eE
    go_wp2
    go_ret
    exact Ret.bool (by rw [HT.out]) (B3)
  · have HWE := Lib.hid (HW.out.trans (by rw [eE, Bool.false_or]))
    rw [eE]
    clear eE HW c1
    go_wp2_with fail
    refine (C4.out _ B3).mono ?_
    rintro e' w4 ⟨sv1, rfl, hb4, hs1⟩
    have B4 := B3.then hb4
    obtain ⟨g1, va0, va1, rfl, s0, s1, ra0, ra1⟩ := hs1
    rw [show opOf (.two 4 a0 a1) = 4 from rfl]
    replace ra0 := ra0.bw rNodes_good hb4
    replace ra1 := ra1.bw rNodes_good hb4
    go_wp2_with fail
    refine (C5.out _ B4).mono ?_
    rintro e' w5 ⟨sv2, rfl, hb5, hs2⟩
    have B5 := B4.then hb5
    replace s0 := hb5.cell s0
    replace s1 := hb5.cell s1
    replace ra0 := ra0.bw rNodes_good hb5
    replace ra1 := ra1.bw rNodes_good hb5
    obtain ⟨g2, vb0, vb1, rfl, t0, t1, rb0, rb1⟩ := hs2
    rw [show opOf (.two 2 b0 b1) = 2 from rfl]
    replace rb0 := rb0.bw rNodes_good hb5
    replace rb1 := rb1.bw rNodes_good hb5
    clear C2 C3 C4 C5
    go_wp2_with fail
    refine (J1.out _ B5 _ rb0).mono ?_
    rintro e w6 ⟨rfl, hbw6⟩
    have B6 := B5.then hbw6
    replace s0 := hbw6.cell s0
    replace s1 := hbw6.cell s1
    replace ra0 := ra0.bw rNodes_good hbw6
    replace ra1 := ra1.bw rNodes_good hbw6
    replace t0 := hbw6.cell t0
    replace t1 := hbw6.cell t1
    replace rb0 := rb0.bw rNodes_good hbw6
    replace rb1 := rb1.bw rNodes_good hbw6
    rcases Bool.eq_false_or_eq_true (y1) with q1 | q1
    · have HT := Lib.hid (show T = true by simp [HWE.out, q1])
      rw [q1]
      clear q1
      go_wp2
      go_ret
      exact Ret.bool (by rw [HT.out]) (B6)
    · replace HWE := Lib.hid (HWE.out.trans (by rw [q1]))
      rw [q1]
      clear q1 J1
      go_wp2_with fail
      refine (J2.out _ B6 _ ra0).mono ?_
      rintro e w7 ⟨rfl, hbw7⟩
      have B7 := B6.then hbw7
      replace s0 := hbw7.cell s0
      replace s1 := hbw7.cell s1
      replace ra0 := ra0.bw rNodes_good hbw7
      replace ra1 := ra1.bw rNodes_good hbw7
      replace t0 := hbw7.cell t0
      replace t1 := hbw7.cell t1
      replace rb0 := rb0.bw rNodes_good hbw7
      replace rb1 := rb1.bw rNodes_good hbw7
      rcases Bool.eq_false_or_eq_true (y2) with q2 | q2
      · have HT := Lib.hid (show T = true by simp [HWE.out, q2])
        rw [q2]
        clear q2
        go_wp2
        go_ret
        exact Ret.bool (by rw [HT.out]) (B7)
      · replace HWE := Lib.hid (HWE.out.trans (by rw [q2]))
        rw [q2]
        clear q2 J2
        go_wp2_with fail
        refine (J3.out _ B7 _ ra1).mono ?_
        rintro e w8 ⟨rfl, hbw8⟩
        have B8 := B7.then hbw8
        replace s0 := hbw8.cell s0
        replace s1 := hbw8.cell s1
        replace ra0 := ra0.bw rNodes_good hbw8
        replace ra1 := ra1.bw rNodes_good hbw8
        replace t0 := hbw8.cell t0
        replace t1 := hbw8.cell t1
        replace rb0 := rb0.bw rNodes_good hbw8
        replace rb1 := rb1.bw rNodes_good hbw8
        rcases Bool.eq_false_or_eq_true (y3) with q3 | q3
        · have HT := Lib.hid (show T = true by simp [HWE.out, q3])
          rw [q3]
          clear q3
          go_wp2
          go_ret
          exact Ret.bool (by rw [HT.out]) (B8)
        · replace HWE := Lib.hid (HWE.out.trans (by rw [q3]))
          rw [q3]
          clear q3 J3
          have HT := Lib.hid (show T = false by simp [HWE.out])
          go_wp2
          go_ret
          exact Ret.bool (by rw [HT.out]) (B8)
set_option maxRecDepth 100000 in
set_option maxHeartbeats 3200000 in
theorem I_weak_AY (a0 a1 : XT) (b0 b1 : XT) (IH : WeakIH (.two 4 a0 a1) (.two 1 b0 b1)) (okp : okT (.two 4 a0 a1)) (okq : okT (.two 1 b0 b1)) (lp : (flat (.two 4 a0 a1)).length ≤ 9) (lq : (flat (.two 1 b0 b1)).length ≤ 9) (w : World) (v u : Value) (h : Rd rNodes w (flat (.two 4 a0 a1)) [v]) (h' : Rd rNodes w (flat (.two 1 b0 b1)) [u]) :
    Calls Tryz.prog 13 #[v, u] w (Ret w (.bool (weakT (.two 4 a0 a1) (.two 1 b0 b1)))) := by
  have HW := Lib.hid (weak_AY a0 a1 b0 b1)
  have c1 := I_IsExpression w (flat (.two 4 a0 a1)) v h
  rw [isExpr_flat okp lp] at c1
  have c2 := fun W (B : Bw w W) => I_IsExpression W (flat (.two 1 b0 b1)) u (h'.bw rNodes_good B)
  simp only [isExpr_flat okq lq] at c2
  have c3 := fun W (B : Bw w W) => I_EqualExpressions W (flat (.two 4 a0 a1)) (flat (.two 1 b0 b1)) v u (h.bw rNodes_good B) (h'.bw rNodes_good B)
  have c4 := fun W (B : Bw w W) => I_parts W (.two 4 a0 a1) v (h.bw rNodes_good B) okp lp
  have c5 := fun W (B : Bw w W) => I_parts W (.two 1 b0 b1) u (h'.bw rNodes_good B) okq lq
  have l1 := flat_two_len 4 a0 a1
  have i2 := fun W (B : Bw w W) y (hy : Rd rNodes W (flat a0) [y]) => IH a0 (.two 1 b0 b1) (by first | (simp; omega) | simp) okp.2.1 okq (by omega) lq W y u hy (h'.bw rNodes_good B)
  have i3 := fun W (B : Bw w W) y (hy : Rd rNodes W (flat a1) [y]) => IH a1 (.two 1 b0 b1) (by first | (simp; omega) | simp) okp.2.2 okq (by omega) lq W y u hy (h'.bw rNodes_good B)
  obtain ⟨T, hT⟩ : ∃ T, T = weakT (.two 4 a0 a1) (.two 1 b0 b1) := ⟨_, rfl⟩
  rw [← hT] at HW ⊢
  obtain ⟨E, hE⟩ : ∃ E, E = decide (flat (.two 4 a0 a1) = flat (.two 1 b0 b1)) := ⟨_, rfl⟩
  rw [← hE] at HW
  simp only [← hE] at c3
  obtain ⟨y2, hy2⟩ : ∃ y, y = weakT a0 (.two 1 b0 b1) := ⟨_, rfl⟩
  rw [← hy2] at HW
  simp only [← hy2] at i2
  have J2 := Lib.hid i2
  clear hy2 i2
  obtain ⟨y3, hy3⟩ : ∃ y, y = weakT a1 (.two 1 b0 b1) := ⟨_, rfl⟩
  rw [← hy3] at HW
  simp only [← hy3] at i3
  have J3 := Lib.hid i3
  clear hy3 i3
  rw [swapB] at HW
  obtain ⟨d00, hd00⟩ : ∃ d, d = decide (flat a0 = flat b0) := ⟨_, rfl⟩
  rw [← hd00] at HW
  have e00 := fun W x y (hx : Rd rNodes W (flat a0) [x]) (hy : Rd rNodes W (flat b0) [y]) => I_EqualExpressions W (flat a0) (flat b0) x y hx hy
  simp only [← hd00] at e00
  have D00 := Lib.hid e00
  clear hd00 e00
  obtain ⟨d01, hd01⟩ : ∃ d, d = decide (flat a0 = flat b1) := ⟨_, rfl⟩
  rw [← hd01] at HW
  have e01 := fun W x y (hx : Rd rNodes W (flat a0) [x]) (hy : Rd rNodes W (flat b1) [y]) => I_EqualExpressions W (flat a0) (flat b1) x y hx hy
  simp only [← hd01] at e01
  have D01 := Lib.hid e01
  clear hd01 e01
  obtain ⟨d10, hd10⟩ : ∃ d, d = decide (flat a1 = flat b0) := ⟨_, rfl⟩
  rw [← hd10] at HW
  have e10 := fun W x y (hx : Rd rNodes W (flat a1) [x]) (hy : Rd rNodes W (flat b0) [y]) => I_EqualExpressions W (flat a1) (flat b0) x y hx hy
  simp only [← hd10] at e10
  have D10 := Lib.hid e10
  clear hd10 e10
  obtain ⟨d11, hd11⟩ : ∃ d, d = decide (flat a1 = flat b1) := ⟨_, rfl⟩
  rw [← hd11] at HW
  have e11 := fun W x y (hx : Rd rNodes W (flat a1) [x]) (hy : Rd rNodes W (flat b1) [y]) => I_EqualExpressions W (flat a1) (flat b1) x y hx hy
  simp only [← hd11] at e11
  have D11 := Lib.hid e11
  clear hd11 e11
  have C2 := Lib.hid c2
  have C3 := Lib.hid c3
  have C4 := Lib.hid c4
  have C5 := Lib.hid c5
  clear hT hE c2 c3 c4 c5 okp okq lp lq l1
  go_enter Tryz.func13, Tryz.ntmps13
  go_wp2_with fail
  refine (c1).mono ?_
  rintro e w1 ⟨rfl, hb1⟩
  go_wp2_with fail
  refine (C2.out _ hb1).mono ?_
  rintro e w2 ⟨rfl, hb2⟩
  have B2 := hb1.then hb2
  go_wp2_with fail
  refine (C3.out _ B2).mono ?_
  rintro e w3 ⟨rfl, hb3⟩
  have B3 := B2.then hb3
  rcases Bool.eq_false_or_eq_true (E) with eE | eE
  · have HT := Lib.hid (show T = true by rw [HW.out, eE]; rfl)
    rw [eE]
    clear eE
    go_wp2
    go_ret
    exact Ret.bool (by rw [HT.out]) (B3)
  · have HWE := Lib.hid (HW.out.trans (by rw [eE, Bool.false_or]))
    rw [eE]
    clear eE HW c1
    go_wp2_with fail
    refine (C4.out _ B3).mono ?_
    rintro e' w4 ⟨sv1, rfl, hb4, hs1⟩
    have B4 := B3.then hb4
    obtain ⟨g1, va0, va1, rfl, s0, s1, ra0, ra1⟩ := hs1
    rw [show opOf (.two 4 a0 a1) = 4 from rfl]
    replace ra0 := ra0.bw rNodes_good hb4
    replace ra1 := ra1.bw rNodes_good hb4
    go_wp2_with fail
    refine (C5.out _ B4).mono ?_
    rintro e' w5 ⟨sv2, rfl, hb5, hs2⟩
    have B5 := B4.then hb5
    replace s0 := hb5.cell s0
    replace s1 := hb5.cell s1
    replace ra0 := ra0.bw rNodes_good hb5
    replace ra1 := ra1.bw rNodes_good hb5
    obtain ⟨g2, vb0, vb1, rfl, t0, t1, rb0, rb1⟩ := hs2
    rw [show opOf (.two 1 b0 b1) = 1 from rfl]
    replace rb0 := rb0.bw rNodes_good hb5
    replace rb1 := rb1.bw rNodes_good hb5
    clear C2 C3 C4 C5
    go_wp2_with fail
    refine (J2.out _ B5 _ ra0).mono ?_
    rintro e w7 ⟨rfl, hbw7⟩
    have B7 := B5.then hbw7
    replace s0 := hbw7.cell s0
    replace s1 := hbw7.cell s1
    replace ra0 := ra0.bw rNodes_good hbw7
    replace ra1 := ra1.bw rNodes_good hbw7
    replace t0 := hbw7.cell t0
    replace t1 := hbw7.cell t1
    replace rb0 := rb0.bw rNodes_good hbw7
    replace rb1 := rb1.bw rNodes_good hbw7
    rcases Bool.eq_false_or_eq_true (y2) with q2 | q2
    · have HT := Lib.hid (show T = true by simp [HWE.out, q2])
      rw [q2]
      clear q2
      go_wp2
      go_ret
      exact Ret.bool (by rw [HT.out]) (B7)
    · replace HWE := Lib.hid (HWE.out.trans (by rw [q2]))
      rw [q2]
      clear q2 J2
      go_wp2_with fail
      refine (J3.out _ B7 _ ra1).mono ?_
      rintro e w8 ⟨rfl, hbw8⟩
      have B8 := B7.then hbw8
      replace s0 := hbw8.cell s0
      replace s1 := hbw8.cell s1
      replace ra0 := ra0.bw rNodes_good hbw8
      replace ra1 := ra1.bw rNodes_good hbw8
      replace t0 := hbw8.cell t0
      replace t1 := hbw8.cell t1
      replace rb0 := rb0.bw rNodes_good hbw8
      replace rb1 := rb1.bw rNodes_good hbw8
      rcases Bool.eq_false_or_eq_true (y3) with q3 | q3
      · have HT := Lib.hid (show T = true by simp [HWE.out, q3])
        rw [q3]
        clear q3
        go_wp2
        go_ret
        exact Ret.bool (by rw [HT.out]) (B8)
      · replace HWE := Lib.hid (HWE.out.trans (by rw [q3]))
        rw [q3]
        clear q3 J3
        have z0 := since_cell s0
        have z1 := since_cell s1
        have z2 := since_cell t0
        have z3 := since_cell t1
        have f00 : ∀ s : Since w8, Calls Tryz.prog 72 #[va0, vb0] s.1 (Ret s.1 (.bool d00)) := fun s => D00.out s.1 va0 vb0 (ra0.bw rNodes_good s.bw) (rb0.bw rNodes_good s.bw)
        have f01 : ∀ s : Since w8, Calls Tryz.prog 72 #[va0, vb1] s.1 (Ret s.1 (.bool d01)) := fun s => D01.out s.1 va0 vb1 (ra0.bw rNodes_good s.bw) (rb1.bw rNodes_good s.bw)
        have f10 : ∀ s : Since w8, Calls Tryz.prog 72 #[va1, vb0] s.1 (Ret s.1 (.bool d10)) := fun s => D10.out s.1 va1 vb0 (ra1.bw rNodes_good s.bw) (rb0.bw rNodes_good s.bw)
        have f11 : ∀ s : Since w8, Calls Tryz.prog 72 #[va1, vb1] s.1 (Ret s.1 (.bool d11)) := fun s => D11.out s.1 va1 vb1 (ra1.bw rNodes_good s.bw) (rb1.bw rNodes_good s.bw)
        clear s0 s1 t0 t1 ra0 ra1 rb0 rb1 D00 D01 D10 D11 h h' IH
        cases d00 <;> cases d01 <;> cases d10 <;> cases d11
        all_goals
          have HT := Lib.hid (HWE.out.trans (by simp; rfl))
          clear HWE
          go_wp2
          refine wp_region_since (by kernel_rfl) (by kernel_rfl) ?_
          repeat (first | go_big_quiet_skip | (go_big_quiet_want; go_big_quiet_op; first | go_big_quiet_on | (apply Exists.intro; refine ⟨fun _ => ?_, ?_⟩; (· (((go_at_call 72; first | (with_reducible exact Calls_since (f00 _)) | (with_reducible exact Calls_since (f01 _)) | (with_reducible exact Calls_since (f10 _)) | (with_reducible exact Calls_since (f11 _)))))); go_big_quiet_on)))
          refine wpQuiet_nil ?_
          rintro ⟨wq, hbq⟩
          dsimp only at *
          go_wp2
          go_ret
          exact Ret.bool (by rw [HT.out]) (B8.then hbq)
set_option maxRecDepth 100000 in
set_option maxHeartbeats 3200000 in
theorem I_weak_AZ (a0 a1 : XT) (q : XT) (hq1 : opOf q ≠ 1) (hq2 : opOf q ≠ 2) (IH : WeakIH (.two 4 a0 a1) q) (okp : okT (.two 4 a0 a1)) (okq : okT q) (lp : (flat (.two 4 a0 a1)).length ≤ 9) (lq : (flat q).length ≤ 9) (w : World) (v u : Value) (h : Rd rNodes w (flat (.two 4 a0 a1)) [v]) (h' : Rd rNodes w (flat q) [u]) :
    Calls Tryz.prog 13 #[v, u] w (Ret w (.bool (weakT (.two 4 a0 a1) q))) := by
  have HW := Lib.hid (weak_AZ a0 a1 q hq1 hq2)
  have c1 := I_IsExpression w (flat (.two 4 a0 a1)) v h
  rw [isExpr_flat okp lp] at c1
  have c2 := fun W (B : Bw w W) => I_IsExpression W (flat q) u (h'.bw rNodes_good B)
  simp only [isExpr_flat okq lq] at c2
  have c3 := fun W (B : Bw w W) => I_EqualExpressions W (flat (.two 4 a0 a1)) (flat q) v u (h.bw rNodes_good B) (h'.bw rNodes_good B)
  have c4 := fun W (B : Bw w W) => I_parts W (.two 4 a0 a1) v (h.bw rNodes_good B) okp lp
  have c5 := fun W (B : Bw w W) => I_parts W q u (h'.bw rNodes_good B) okq lq
  have l1 := flat_two_len 4 a0 a1
  have i2 := fun W (B : Bw w W) y (hy : Rd rNodes W (flat a0) [y]) => IH a0 q (by first | (simp; omega) | simp) okp.2.1 okq (by omega) lq W y u hy (h'.bw rNodes_good B)
  have i3 := fun W (B : Bw w W) y (hy : Rd rNodes W (flat a1) [y]) => IH a1 q (by first | (simp; omega) | simp) okp.2.2 okq (by omega) lq W y u hy (h'.bw rNodes_good B)
  obtain ⟨T, hT⟩ : ∃ T, T = weakT (.two 4 a0 a1) q := ⟨_, rfl⟩
  rw [← hT] at HW ⊢
  obtain ⟨E, hE⟩ : ∃ E, E = decide (flat (.two 4 a0 a1) = flat q) := ⟨_, rfl⟩
  rw [← hE] at HW
  simp only [← hE] at c3
  obtain ⟨y2, hy2⟩ : ∃ y, y = weakT a0 q := ⟨_, rfl⟩
  rw [← hy2] at HW
  simp only [← hy2] at i2
  have J2 := Lib.hid i2
  clear hy2 i2
  obtain ⟨y3, hy3⟩ : ∃ y, y = weakT a1 q := ⟨_, rfl⟩
  rw [← hy3] at HW
  simp only [← hy3] at i3
  have J3 := Lib.hid i3
  clear hy3 i3
  obtain ⟨r, hr⟩ : ∃ r, r = opOf q := ⟨_, rfl⟩
  rw [← hr] at hq1 hq2
  have n1 : (r == 1) = false := by simpa using hq1
  have n2 : (r == 2) = false := by simpa using hq2
  have HR := Lib.hid hr
  clear hr hq1 hq2
  have C2 := Lib.hid c2
  have C3 := Lib.hid c3
  have C4 := Lib.hid c4
  have C5 := Lib.hid c5
  clear hT hE c2 c3 c4 c5 okp okq lp lq l1
  go_enter Tryz.func13, Tryz.ntmps13
  go_wp2_with fail
  refine (c1).mono ?_
  rintro e w1 ⟨rfl, hb1⟩
  go_wp2_with fail
  refine (C2.out _ hb1).mono ?_
  rintro e w2 ⟨rfl, hb2⟩
  have B2 := hb1.then hb2
  go_wp2_with fail
  refine (C3.out _ B2).mono ?_
  rintro e w3 ⟨rfl, hb3⟩
  have B3 := B2.then hb3
  rcases Bool.eq_false_or_eq_true (E) with eE | eE
  · have HT := Lib.hid (show T = true by rw [HW.out, eE]; rfl)
    rw [eE]
    clear eE
    go_wp2
    go_ret
    exact Ret.bool (by rw [HT.out]) (B3)
  · have HWE := Lib.hid (HW.out.trans (by rw [eE, Bool.false_or]))
    rw [eE]
    clear eE HW c1
    go_wp2_with fail
    refine (C4.out _ B3).mono ?_
    rintro e' w4 ⟨sv1, rfl, hb4, hs1⟩
    have B4 := B3.then hb4
    obtain ⟨g1, va0, va1, rfl, s0, s1, ra0, ra1⟩ := hs1
    rw [show opOf (.two 4 a0 a1) = 4 from rfl]
    replace ra0 := ra0.bw rNodes_good hb4
    replace ra1 := ra1.bw rNodes_good hb4
    go_wp2_with fail
    refine (C5.out _ B4).mono ?_
    rintro e' w5 ⟨sv2, rfl, hb5, hs2⟩
    have B5 := B4.then hb5
    replace s0 := hb5.cell s0
    replace s1 := hb5.cell s1
    replace ra0 := ra0.bw rNodes_good hb5
    replace ra1 := ra1.bw rNodes_good hb5
    rw [← HR.out]
    clear hs2
    clear C2 C3 C4 C5
    go_wp2_with fail
    refine (J2.out _ B5 _ ra0).mono ?_
    rintro e w7 ⟨rfl, hbw7⟩
    have B7 := B5.then hbw7
    replace s0 := hbw7.cell s0
    replace s1 := hbw7.cell s1
    replace ra0 := ra0.bw rNodes_good hbw7
    replace ra1 := ra1.bw rNodes_good hbw7
    rcases Bool.eq_false_or_eq_true (y2) with q2 | q2
    · have HT := Lib.hid (show T = true by simp [HWE.out, q2])
      rw [q2]
      clear q2
      go_wp2
      go_ret
      exact Ret.bool (by rw [HT.out]) (B7)
    · replace HWE := Lib.hid (HWE.out.trans (by rw [q2]))
      rw [q2]
      clear q2 J2
      go_wp2_with fail
      refine (J3.out _ B7 _ ra1).mono ?_
      rintro e w8 ⟨rfl, hbw8⟩
      have B8 := B7.then hbw8
      replace s0 := hbw8.cell s0
      replace s1 := hbw8.cell s1
      replace ra0 := ra0.bw rNodes_good hbw8
      replace ra1 := ra1.bw rNodes_good hbw8
      rcases Bool.eq_false_or_eq_true (y3) with q3 | q3
      · have HT := Lib.hid (show T = true by simp [HWE.out, q3])
        rw [q3]
        clear q3
        go_wp2
        go_ret
        exact Ret.bool (by rw [HT.out]) (B8)
      · replace HWE := Lib.hid (HWE.out.trans (by rw [q3]))
        rw [q3]
        clear q3 J3
        have HT := Lib.hid (show T = false by simp [HWE.out])
        go_wp2
        go_ret
        exact Ret.bool (by rw [HT.out]) (B8)
set_option maxRecDepth 100000 in
set_option maxHeartbeats 3200000 in
theorem I_weak_BX (a0 a1 : XT) (b0 b1 : XT) (IH : WeakIH (.two 1 a0 a1) (.two 2 b0 b1)) (okp : okT (.two 1 a0 a1)) (okq : okT (.two 2 b0 b1)) (lp : (flat (.two 1 a0 a1)).length ≤ 9) (lq : (flat (.two 2 b0 b1)).length ≤ 9) (w : World) (v u : Value) (h : Rd rNodes w (flat (.two 1 a0 a1)) [v]) (h' : Rd rNodes w (flat (.two 2 b0 b1)) [u]) :
    Calls Tryz.prog 13 #[v, u] w (Ret w (.bool (weakT (.two 1 a0 a1) (.two 2 b0 b1)))) := by
  have HW := Lib.hid (weak_BX a0 a1 b0 b1)
  have c1 := I_IsExpression w (flat (.two 1 a0 a1)) v h
  rw [isExpr_flat okp lp] at c1
  have c2 := fun W (B : Bw w W) => I_IsExpression W (flat (.two 2 b0 b1)) u (h'.bw rNodes_good B)
  simp only [isExpr_flat okq lq] at c2
  have c3 := fun W (B : Bw w W) => I_EqualExpressions W (flat (.two 1 a0 a1)) (flat (.two 2 b0 b1)) v u (h.bw rNodes_good B) (h'.bw rNodes_good B)
  have c4 := fun W (B : Bw w W) => I_parts W (.two 1 a0 a1) v (h.bw rNodes_good B) okp lp
  have c5 := fun W (B : Bw w W) => I_parts W (.two 2 b0 b1) u (h'.bw rNodes_good B) okq lq
  have l2 := flat_two_len 2 b0 b1
  have i1 := fun W (B : Bw w W) y (hy : Rd rNodes W (flat b0) [y]) => IH (.two 1 a0 a1) b0 (by first | (simp; omega) | simp) okp okq.2.1 lp (by omega) W v y (h.bw rNodes_good B) hy
  obtain ⟨T, hT⟩ : ∃ T, T = weakT (.two 1 a0 a1) (.two 2 b0 b1) := ⟨_, rfl⟩
  rw [← hT] at HW ⊢
  obtain ⟨E, hE⟩ : ∃ E, E = decide (flat (.two 1 a0 a1) = flat (.two 2 b0 b1)) := ⟨_, rfl⟩
  rw [← hE] at HW
  simp only [← hE] at c3
  obtain ⟨y1, hy1⟩ : ∃ y, y = weakT (.two 1 a0 a1) b0 := ⟨_, rfl⟩
  rw [← hy1] at HW
  simp only [← hy1] at i1
  have J1 := Lib.hid i1
  clear hy1 i1
  rw [swapB] at HW
  obtain ⟨d00, hd00⟩ : ∃ d, d = decide (flat a0 = flat b0) := ⟨_, rfl⟩
  rw [← hd00] at HW
  have e00 := fun W x y (hx : Rd rNodes W (flat a0) [x]) (hy : Rd rNodes W (flat b0) [y]) => I_EqualExpressions W (flat a0) (flat b0) x y hx hy
  simp only [← hd00] at e00
  have D00 := Lib.hid e00
  clear hd00 e00
  obtain ⟨d01, hd01⟩ : ∃ d, d = decide (flat a0 = flat b1) := ⟨_, rfl⟩
  rw [← hd01] at HW
  have e01 := fun W x y (hx : Rd rNodes W (flat a0) [x]) (hy : Rd rNodes W (flat b1) [y]) => I_EqualExpressions W (flat a0) (flat b1) x y hx hy
  simp only [← hd01] at e01
  have D01 := Lib.hid e01
  clear hd01 e01
  obtain ⟨d10, hd10⟩ : ∃ d, d = decide (flat a1 = flat b0) := ⟨_, rfl⟩
  rw [← hd10] at HW
  have e10 := fun W x y (hx : Rd rNodes W (flat a1) [x]) (hy : Rd rNodes W (flat b0) [y]) => I_EqualExpressions W (flat a1) (flat b0) x y hx hy
  simp only [← hd10] at e10
  have D10 := Lib.hid e10
  clear hd10 e10
  obtain ⟨d11, hd11⟩ : ∃ d, d = decide (flat a1 = flat b1) := ⟨_, rfl⟩
  rw [← hd11] at HW
  have e11 := fun W x y (hx : Rd rNodes W (flat a1) [x]) (hy : Rd rNodes W (flat b1) [y]) => I_EqualExpressions W (flat a1) (flat b1) x y hx hy
  simp only [← hd11] at e11
  have D11 := Lib.hid e11
  clear hd11 e11
  have C2 := Lib.hid c2
  have C3 := Lib.hid c3
  have C4 := Lib.hid c4
  have C5 := Lib.hid c5
  clear hT hE c2 c3 c4 c5 okp okq lp lq l2
  go_enter Tryz.func13, Tryz.ntmps13
  go_wp2_with fail
  refine (c1).mono ?_
  rintro e w1 ⟨rfl, hb1⟩
  go_wp2_with fail
  refine (C2.out _ hb1).mono ?_
  rintro e w2 ⟨rfl, hb2⟩
  have B2 := hb1.then hb2
  go_wp2_with fail
  refine (C3.out _ B2).mono ?_
  rintro e w3 ⟨rfl, hb3⟩
  have B3 := B2.then hb3
  rcases Bool.eq_false_or_eq_true (E) with eE | eE
  · have HT := Lib.hid (show T = true by rw [HW.out, eE]; rfl)
    rw [eE]
    clear eE
    go_wp2
    go_ret
    exact Ret.bool (by rw [HT.out]) (B3)
  · have HWE := Lib.hid (HW.out.trans (by rw [eE, Bool.false_or]))
    rw [eE]
    clear eE HW c1
    go_wp2_with fail
    refine (C4.out _ B3).mono ?_
    rintro e' w4 ⟨sv1, rfl, hb4, hs1⟩
    have B4 := B3.then hb4
    obtain ⟨g1, va0, va1, rfl, s0, s1, ra0, ra1⟩ := hs1
    rw [show opOf (.two 1 a0 a1) = 1 from rfl]
    replace ra0 := ra0.bw rNodes_good hb4
    replace ra1 := ra1.bw rNodes_good hb4
    go_wp2_with fail
    refine (C5.out _ B4).mono ?_
    rintro e' w5 ⟨sv2, rfl, hb5, hs2⟩
    have B5 := B4.then hb5
    replace s0 := hb5.cell s0
    replace s1 := hb5.cell s1
    replace ra0 := ra0.bw rNodes_good hb5
    replace ra1 := ra1.bw rNodes_good hb5
    obtain ⟨g2, vb0, vb1, rfl, t0, t1, rb0, rb1⟩ := hs2
    rw [show opOf (.two 2 b0 b1) = 2 from rfl]
    replace rb0 := rb0.bw rNodes_good hb5
    replace rb1 := rb1.bw rNodes_good hb5
    clear C2 C3 C4 C5
    go_wp2_with fail
    refine (J1.out _ B5 _ rb0).mono ?_
    rintro e w6 ⟨rfl, hbw6⟩
    have B6 := B5.then hbw6
    replace s0 := hbw6.cell s0
    replace s1 := hbw6.cell s1
    replace ra0 := ra0.bw rNodes_good hbw6
    replace ra1 := ra1.bw rNodes_good hbw6
    replace t0 := hbw6.cell t0
    replace t1 := hbw6.cell t1
    replace rb0 := rb0.bw rNodes_good hbw6
    replace rb1 := rb1.bw rNodes_good hbw6
    rcases Bool.eq_false_or_eq_true (y1) with q1 | q1
    · have HT := Lib.hid (show T = true by simp [HWE.out, q1])
      rw [q1]
      clear q1
      go_wp2
      go_ret
      exact Ret.bool (by rw [HT.out]) (B6)
    · replace HWE := Lib.hid (HWE.out.trans (by rw [q1]))
      rw [q1]
      clear q1 J1
      have z0 := since_cell s0
      have z1 := since_cell s1
      have z2 := since_cell t0
      have z3 := since_cell t1
      have f00 : ∀ s : Since w6, Calls Tryz.prog 72 #[va0, vb0] s.1 (Ret s.1 (.bool d00)) := fun s => D00.out s.1 va0 vb0 (ra0.bw rNodes_good s.bw) (rb0.bw rNodes_good s.bw)
      have f01 : ∀ s : Since w6, Calls Tryz.prog 72 #[va0, vb1] s.1 (Ret s.1 (.bool d01)) := fun s => D01.out s.1 va0 vb1 (ra0.bw rNodes_good s.bw) (rb1.bw rNodes_good s.bw)
      have f10 : ∀ s : Since w6, Calls Tryz.prog 72 #[va1, vb0] s.1 (Ret s.1 (.bool d10)) := fun s => D10.out s.1 va1 vb0 (ra1.bw rNodes_good s.bw) (rb0.bw rNodes_good s.bw)
      have f11 : ∀ s : Since w6, Calls Tryz.prog 72 #[va1, vb1] s.1 (Ret s.1 (.bool d11)) := fun s => D11.out s.1 va1 vb1 (ra1.bw rNodes_good s.bw) (rb1.bw rNodes_good s.bw)
      clear s0 s1 t0 t1 ra0 ra1 rb0 rb1 D00 D01 D10 D11 h h' IH
      cases d00 <;> cases d01 <;> cases d10 <;> cases d11
      all_goals
        have HT := Lib.hid (HWE.out.trans (by simp; rfl))
        clear HWE
        go_wp2
        refine wp_region_since (by kernel_rfl) (by kernel_rfl) ?_
        repeat (first | go_big_quiet_skip | (go_big_quiet_want; go_big_quiet_op; first | go_big_quiet_on | (apply Exists.intro; refine ⟨fun _ => ?_, ?_⟩; (· (((go_at_call 72; first | (with_reducible exact Calls_since (f00 _)) | (with_reducible exact Calls_since (f01 _)) | (with_reducible exact Calls_since (f10 _)) | (with_reducible exact Calls_since (f11 _)))))); go_big_quiet_on)))
        refine wpQuiet_nil ?_
        rintro ⟨wq, hbq⟩
        dsimp only at *
        go_wp2
        go_ret
        exact Ret.bool (by rw [HT.out]) (B6.then hbq)
set_option maxRecDepth 100000 in
set_option maxHeartbeats 3200000 in
theorem I_weak_BY (a0 a1 : XT) (b0 b1 : XT) (IH : WeakIH (.two 1 a0 a1) (.two 1 b0 b1)) (okp : okT (.two 1 a0 a1)) (okq : okT (.two 1 b0 b1)) (lp : (flat (.two 1 a0 a1)).length ≤ 9) (lq : (flat (.two 1 b0 b1)).length ≤ 9) (w : World) (v u : Value) (h : Rd rNodes w (flat (.two 1 a0 a1)) [v]) (h' : Rd rNodes w (flat (.two 1 b0 b1)) [u]) :
    Calls Tryz.prog 13 #[v, u] w (Ret w (.bool (weakT (.two 1 a0 a1) (.two 1 b0 b1)))) := by
  have HW := Lib.hid (weak_BY a0 a1 b0 b1)
  have c1 := I_IsExpression w (flat (.two 1 a0 a1)) v h
  rw [isExpr_flat okp lp] at c1
  have c2 := fun W (B : Bw w W) => I_IsExpression W (flat (.two 1 b0 b1)) u (h'.bw rNodes_good B)
  simp only [isExpr_flat okq lq] at c2
  have c3 := fun W (B : Bw w W) => I_EqualExpressions W (flat (.two 1 a0 a1)) (flat (.two 1 b0 b1)) v u (h.bw rNodes_good B) (h'.bw rNodes_good B)
  have c4 := fun W (B : Bw w W) => I_parts W (.two 1 a0 a1) v (h.bw rNodes_good B) okp lp
  have c5 := fun W (B : Bw w W) => I_parts W (.two 1 b0 b1) u (h'.bw rNodes_good B) okq lq
  obtain ⟨T, hT⟩ : ∃ T, T = weakT (.two 1 a0 a1) (.two 1 b0 b1) := ⟨_, rfl⟩
  rw [← hT] at HW ⊢
  obtain ⟨E, hE⟩ : ∃ E, E = decide (flat (.two 1 a0 a1) = flat (.two 1 b0 b1)) := ⟨_, rfl⟩
  rw [← hE] at HW
  simp only [← hE] at c3
  have C2 := Lib.hid c2
  have C3 := Lib.hid c3
  have C4 := Lib.hid c4
  have C5 := Lib.hid c5
  clear hT hE c2 c3 c4 c5 okp okq lp lq
  go_enter Tryz.func13, Tryz.ntmps13
  go_wp2_with fail
  refine (c1).mono ?_
  rintro e w1 ⟨rfl, hb1⟩
  go_wp2_with fail
  refine (C2.out _ hb1).mono ?_
  rintro e w2 ⟨rfl, hb2⟩
  have B2 := hb1.then hb2
  go_wp2_with fail
  refine (C3.out _ B2).mono ?_
  rintro e w3 ⟨rfl, hb3⟩
  have B3 := B2.then hb3
  rcases Bool.eq_false_or_eq_true (E) with eE | eE
  · have HT := Lib.hid (show T = true by rw [HW.out, eE]; rfl)
    rw [eE]
    clear eE
    go_wp2
    go_ret
    exact Ret.bool (by rw [HT.out]) (B3)
  · have HWE := Lib.hid (HW.out.trans (by rw [eE, Bool.false_or]))
    rw [eE]
    clear eE HW c1
    go_wp2_with fail
    refine (C4.out _ B3).mono ?_
    rintro e' w4 ⟨sv1, rfl, hb4, hs1⟩
    have B4 := B3.then hb4
    obtain ⟨g1, va0, va1, rfl, s0, s1, ra0, ra1⟩ := hs1
    rw [show opOf (.two 1 a0 a1) = 1 from rfl]
    replace ra0 := ra0.bw rNodes_good hb4
    replace ra1 := ra1.bw rNodes_good hb4
    go_wp2_with fail
    refine (C5.out _ B4).mono ?_
    rintro e' w5 ⟨sv2, rfl, hb5, hs2⟩
    have B5 := B4.then hb5
    replace s0 := hb5.cell s0
    replace s1 := hb5.cell s1
    replace ra0 := ra0.bw rNodes_good hb5
    replace ra1 := ra1.bw rNodes_good hb5
    obtain ⟨g2, vb0, vb1, rfl, t0, t1, rb0, rb1⟩ := hs2
    rw [show opOf (.two 1 b0 b1) = 1 from rfl]
    replace rb0 := rb0.bw rNodes_good hb5
    replace rb1 := rb1.bw rNodes_good hb5
    clear C2 C3 C4 C5
    have HT := Lib.hid (show T = false by simp [HWE.out])
    go_wp2
    go_ret
    exact Ret.bool (by rw [HT.out]) (B5)
set_option maxRecDepth 100000 in
set_option maxHeartbeats 3200000 in
theorem I_weak_BZ (a0 a1 : XT) (q : XT) (hq1 : opOf q ≠ 1) (hq2 : opOf q ≠ 2) (IH : WeakIH (.two 1 a0 a1) q) (okp : okT (.two 1 a0 a1)) (okq : okT q) (lp : (flat (.two 1 a0 a1)).length ≤ 9) (lq : (flat q).length ≤ 9) (w : World) (v u : Value) (h : Rd rNodes w (flat (.two 1 a0 a1)) [v]) (h' : Rd rNodes w (flat q) [u]) :
    Calls Tryz.prog 13 #[v, u] w (Ret w (.bool (weakT (.two 1 a0 a1) q))) := by
  have HW := Lib.hid (weak_BZ a0 a1 q hq1 hq2)
  have c1 := I_IsExpression w (flat (.two 1 a0 a1)) v h
  rw [isExpr_flat okp lp] at c1
  have c2 := fun W (B : Bw w W) => I_IsExpression W (flat q) u (h'.bw rNodes_good B)
  simp only [isExpr_flat okq lq] at c2
  have c3 := fun W (B : Bw w W) => I_EqualExpressions W (flat (.two 1 a0 a1)) (flat q) v u (h.bw rNodes_good B) (h'.bw rNodes_good B)
  have c4 := fun W (B : Bw w W) => I_parts W (.two 1 a0 a1) v (h.bw rNodes_good B) okp lp
  have c5 := fun W (B : Bw w W) => I_parts W q u (h'.bw rNodes_good B) okq lq
  obtain ⟨T, hT⟩ : ∃ T, T = weakT (.two 1 a0 a1) q := ⟨_, rfl⟩
  rw [← hT] at HW ⊢
  obtain ⟨E, hE⟩ : ∃ E, E = decide (flat (.two 1 a0 a1) = flat q) := ⟨_, rfl⟩
  rw [← hE] at HW
  simp only [← hE] at c3
  obtain ⟨r, hr⟩ : ∃ r, r = opOf q := ⟨_, rfl⟩
  rw [← hr] at hq1 hq2
  have n1 : (r == 1) = false := by simpa using hq1
  have n2 : (r == 2) = false := by simpa using hq2
  have HR := Lib.hid hr
  clear hr hq1 hq2
  have C2 := Lib.hid c2
  have C3 := Lib.hid c3
  have C4 := Lib.hid c4
  have C5 := Lib.hid c5
  clear hT hE c2 c3 c4 c5 okp okq lp lq
  go_enter Tryz.func13, Tryz.ntmps13
  go_wp2_with fail
  refine (c1).mono ?_
  rintro e w1 ⟨rfl, hb1⟩
  go_wp2_with fail
  refine (C2.out _ hb1).mono ?_
  rintro e w2 ⟨rfl, hb2⟩
  have B2 := hb1.then hb2
  go_wp2_with fail
  refine (C3.out _ B2).mono ?_
  rintro e w3 ⟨rfl, hb3⟩
  have B3 := B2.then hb3
  rcases Bool.eq_false_or_eq_true (E) with eE | eE
  · have HT := Lib.hid (show T = true by rw [HW.out, eE]; rfl)
    rw [eE]
    clear eE
    go_wp2
    go_ret
    exact Ret.bool (by rw [HT.out]) (B3)
  · have HWE := Lib.hid (HW.out.trans (by rw [eE, Bool.false_or]))
    rw [eE]
    clear eE HW c1
    go_wp2_with fail
    refine (C4.out _ B3).mono ?_
    rintro e' w4 ⟨sv1, rfl, hb4, hs1⟩
    have B4 := B3.then hb4
    obtain ⟨g1, va0, va1, rfl, s0, s1, ra0, ra1⟩ := hs1
    rw [show opOf (.two 1 a0 a1) = 1 from rfl]
    replace ra0 := ra0.bw rNodes_good hb4
    replace ra1 := ra1.bw rNodes_good hb4
    go_wp2_with fail
    refine (C5.out _ B4).mono ?_
    rintro e' w5 ⟨sv2, rfl, hb5, hs2⟩
    have B5 := B4.then hb5
    replace s0 := hb5.cell s0
    replace s1 := hb5.cell s1
    replace ra0 := ra0.bw rNodes_good hb5
    replace ra1 := ra1.bw rNodes_good hb5
    rw [← HR.out]
    clear hs2
    clear C2 C3 C4 C5
    have HT := Lib.hid (show T = false by simp [HWE.out])
    go_wp2
    go_ret
    exact Ret.bool (by rw [HT.out]) (B5)
set_option maxRecDepth 100000 in
set_option maxHeartbeats 3200000 in
theorem I_weak_CX (p : XT) (b0 b1 : XT) (hp1 : opOf p ≠ 1) (hp4 : opOf p ≠ 4) (IH : WeakIH p (.two 2 b0 b1)) (okp : okT p) (okq : okT (.two 2 b0 b1)) (lp : (flat p).length ≤ 9) (lq : (flat (.two 2 b0 b1)).length ≤ 9) (w : World) (v u : Value) (h : Rd rNodes w (flat p) [v]) (h' : Rd rNodes w (flat (.two 2 b0 b1)) [u]) :
    Calls Tryz.prog 13 #[v, u] w (Ret w (.bool (weakT p (.two 2 b0 b1)))) := by
  have HW := Lib.hid (weak_CX p b0 b1 hp1 hp4)
  have c1 := I_IsExpression w (flat p) v h
  rw [isExpr_flat okp lp] at c1
  have c2 := fun W (B : Bw w W) => I_IsExpression W (flat (.two 2 b0 b1)) u (h'.bw rNodes_good B)
  simp only [isExpr_flat okq lq] at c2
  have c3 := fun W (B : Bw w W) => I_EqualExpressions W (flat p) (flat (.two 2 b0 b1)) v u (h.bw rNodes_good B) (h'.bw rNodes_good B)
  have c4 := fun W (B : Bw w W) => I_parts W p v (h.bw rNodes_good B) okp lp
  have c5 := fun W (B : Bw w W) => I_parts W (.two 2 b0 b1) u (h'.bw rNodes_good B) okq lq
  have l2 := flat_two_len 2 b0 b1
  have i1 := fun W (B : Bw w W) y (hy : Rd rNodes W (flat b0) [y]) => IH p b0 (by first | (simp; omega) | simp) okp okq.2.1 lp (by omega) W v y (h.bw rNodes_good B) hy
  obtain ⟨T, hT⟩ : ∃ T, T = weakT p (.two 2 b0 b1) := ⟨_, rfl⟩
  rw [← hT] at HW ⊢
  obtain ⟨E, hE⟩ : ∃ E, E = decide (flat p = flat (.two 2 b0 b1)) := ⟨_, rfl⟩
  rw [← hE] at HW
  simp only [← hE] at c3
  obtain ⟨y1, hy1⟩ : ∃ y, y = weakT p b0 := ⟨_, rfl⟩
  rw [← hy1] at HW
  simp only [← hy1] at i1
  have J1 := Lib.hid i1
  clear hy1 i1
  obtain ⟨o, ho⟩ : ∃ o, o = opOf p := ⟨_, rfl⟩
  rw [← ho] at hp1 hp4
  have m1 : (o == 1) = false := by simpa using hp1
  have m4 : (o == 4) = false := by simpa using hp4
  have HO := Lib.hid ho
  clear ho hp1 hp4
  have C2 := Lib.hid c2
  have C3 := Lib.hid c3
  have C4 := Lib.hid c4
  have C5 := Lib.hid c5
  clear hT hE c2 c3 c4 c5 okp okq lp lq l2
  go_enter Tryz.func13, Tryz.ntmps13
  go_wp2_with fail
  refine (c1).mono ?_
  rintro e w1 ⟨rfl, hb1⟩
  go_wp2_with fail
  refine (C2.out _ hb1).mono ?_
  rintro e w2 ⟨rfl, hb2⟩
  have B2 := hb1.then hb2
  go_wp2_with fail
  refine (C3.out _ B2).mono ?_
  rintro e w3 ⟨rfl, hb3⟩
  have B3 := B2.then hb3
  rcases Bool.eq_false_or_eq_true (E) with eE | eE
  · have HT := Lib.hid (show T = true by rw [HW.out, eE]; rfl)
    rw [eE]
    clear eE
    go_wp2
    go_ret
    exact Ret.bool (by rw [HT.out]) (B3)
  · have HWE := Lib.hid (HW.out.trans (by rw [eE, Bool.false_or]))
    rw [eE]
    clear eE HW c1
    go_wp2_with fail
    refine (C4.out _ B3).mono ?_
    rintro e' w4 ⟨sv1, rfl, hb4, hs1⟩
    have B4 := B3.then hb4
    rw [← HO.out]
    clear hs1
    go_wp2_with fail
    refine (C5.out _ B4).mono ?_
    rintro e' w5 ⟨sv2, rfl, hb5, hs2⟩
    have B5 := B4.then hb5
    obtain ⟨g2, vb0, vb1, rfl, t0, t1, rb0, rb1⟩ := hs2
    rw [show opOf (.two 2 b0 b1) = 2 from rfl]
    replace rb0 := rb0.bw rNodes_good hb5
    replace rb1 := rb1.bw rNodes_good hb5
    clear C2 C3 C4 C5
    go_wp2_with fail
    refine (J1.out _ B5 _ rb0).mono ?_
    rintro e w6 ⟨rfl, hbw6⟩
    have B6 := B5.then hbw6
    replace t0 := hbw6.cell t0
    replace t1 := hbw6.cell t1
    replace rb0 := rb0.bw rNodes_good hbw6
    replace rb1 := rb1.bw rNodes_good hbw6
    rcases Bool.eq_false_or_eq_true (y1) with q1 | q1
    · have HT := Lib.hid (show T = true by simp [HWE.out, q1])
      rw [q1]
      clear q1
      go_wp2
      go_ret
      exact Ret.bool (by rw [HT.out]) (B6)
    · replace HWE := Lib.hid (HWE.out.trans (by rw [q1]))
      rw [q1]
      clear q1 J1
      have HT := Lib.hid (show T = false by simp [HWE.out])
      go_wp2
      go_ret
      exact Ret.bool (by rw [HT.out]) (B6)
set_option maxRecDepth 100000 in
set_option maxHeartbeats 3200000 in
theorem I_weak_CY (p : XT) (b0 b1 : XT) (hp1 : opOf p ≠ 1) (hp4 : opOf p ≠ 4) (IH : WeakIH p (.two 1 b0 b1)) (okp : okT p) (okq : okT (.two 1 b0 b1)) (lp : (flat p).length ≤ 9) (lq : (flat (.two 1 b0 b1)).length ≤ 9) (w : World) (v u : Value) (h : Rd rNodes w (flat p) [v]) (h' : Rd rNodes w (flat (.two 1 b0 b1)) [u]) :
    Calls Tryz.prog 13 #[v, u] w (Ret w (.bool (weakT p (.two 1 b0 b1)))) := by
  have HW := Lib.hid (weak_CY p b0 b1 hp1 hp4)
  have c1 := I_IsExpression w (flat p) v h
  rw [isExpr_flat okp lp] at c1
  have c2 := fun W (B : Bw w W) => I_IsExpression W (flat (.two 1 b0 b1)) u (h'.bw rNodes_good B)
  simp only [isExpr_flat okq lq] at c2
  have c3 := fun W (B : Bw w W) => I_EqualExpressions W (flat p) (flat (.two 1 b0 b1)) v u (h.bw rNodes_good B) (h'.bw rNodes_good B)
  have c4 := fun W (B : Bw w W) => I_parts W p v (h.bw rNodes_good B) okp lp
  have c5 := fun W (B : Bw w W) => I_parts W (.two 1 b0 b1) u (h'.bw rNodes_good B) okq lq
  obtain ⟨T, hT⟩ : ∃ T, T = weakT p (.two 1 b0 b1) := ⟨_, rfl⟩
  rw [← hT] at HW ⊢
  obtain ⟨E, hE⟩ : ∃ E, E = decide (flat p = flat (.two 1 b0 b1)) := ⟨_, rfl⟩
  rw [← hE] at HW
  simp only [← hE] at c3
  obtain ⟨o, ho⟩ : ∃ o, o = opOf p := ⟨_, rfl⟩
  rw [← ho] at hp1 hp4
  have m1 : (o == 1) = false := by simpa using hp1
  have m4 : (o == 4) = false := by simpa using hp4
  have HO := Lib.hid ho
  clear ho hp1 hp4
  have C2 := Lib.hid c2
  have C3 := Lib.hid c3
  have C4 := Lib.hid c4
  have C5 := Lib.hid c5
  clear hT hE c2 c3 c4 c5 okp okq lp lq
  go_enter Tryz.func13, Tryz.ntmps13
  go_wp2_with fail
  refine (c1).mono ?_
  rintro e w1 ⟨rfl, hb1⟩
  go_wp2_with fail
  refine (C2.out _ hb1).mono ?_
  rintro e w2 ⟨rfl, hb2⟩
  have B2 := hb1.then hb2
  go_wp2_with fail
  refine (C3.out _ B2).mono ?_
  rintro e w3 ⟨rfl, hb3⟩
  have B3 := B2.then hb3
  rcases Bool.eq_false_or_eq_true (E) with eE | eE
  · have HT := Lib.hid (show T = true by rw [HW.out, eE]; rfl)
    rw [eE]
    clear eE
    go_wp2
    go_ret
    exact Ret.bool (by rw [HT.out]) (B3)
  · have HWE := Lib.hid (HW.out.trans (by rw [eE, Bool.false_or]))
    rw [eE]
    clear eE HW c1
    go_wp2_with fail
    refine (C4.out _ B3).mono ?_
    rintro e' w4 ⟨sv1, rfl, hb4, hs1⟩
    have B4 := B3.then hb4
    rw [← HO.out]
    clear hs1
    go_wp2_with fail
    refine (C5.out _ B4).mono ?_
    rintro e' w5 ⟨sv2, rfl, hb5, hs2⟩
    have B5 := B4.then hb5
    obtain ⟨g2, vb0, vb1, rfl, t0, t1, rb0, rb1⟩ := hs2
    rw [show opOf (.two 1 b0 b1) = 1 from rfl]
    replace rb0 := rb0.bw rNodes_good hb5
    replace rb1 := rb1.bw rNodes_good hb5
    clear C2 C3 C4 C5
    have HT := Lib.hid (show T = false by simp [HWE.out])
    go_wp2
    go_ret
    exact Ret.bool (by rw [HT.out]) (B5)
set_option maxRecDepth 100000 in
set_option maxHeartbeats 3200000 in
theorem I_weak_CZ (p : XT) (q : XT) (hp1 : opOf p ≠ 1) (hp4 : opOf p ≠ 4) (hq1 : opOf q ≠ 1) (hq2 : opOf q ≠ 2) (IH : WeakIH p q) (okp : okT p) (okq : okT q) (lp : (flat p).length ≤ 9) (lq : (flat q).length ≤ 9) (w : World) (v u : Value) (h : Rd rNodes w (flat p) [v]) (h' : Rd rNodes w (flat q) [u]) :
    Calls Tryz.prog 13 #[v, u] w (Ret w (.bool (weakT p q))) := by
  have HW := Lib.hid (weak_CZ p q hp1 hp4 hq1 hq2)
  have c1 := I_IsExpression w (flat p) v h
  rw [isExpr_flat okp lp] at c1
  have c2 := fun W (B : Bw w W) => I_IsExpression W (flat q) u (h'.bw rNodes_good B)
  simp only [isExpr_flat okq lq] at c2
  have c3 := fun W (B : Bw w W) => I_EqualExpressions W (flat p) (flat q) v u (h.bw rNodes_good B) (h'.bw rNodes_good B)
  have c4 := fun W (B : Bw w W) => I_parts W p v (h.bw rNodes_good B) okp lp
  have c5 := fun W (B : Bw w W) => I_parts W q u (h'.bw rNodes_good B) okq lq
  obtain ⟨T, hT⟩ : ∃ T, T = weakT p q := ⟨_, rfl⟩
  rw [← hT] at HW ⊢
  obtain ⟨E, hE⟩ : ∃ E, E = decide (flat p = flat q) := ⟨_, rfl⟩
  rw [← hE] at HW
  simp only [← hE] at c3
  obtain ⟨o, ho⟩ : ∃ o, o = opOf p := ⟨_, rfl⟩
  rw [← ho] at hp1 hp4
  have m1 : (o == 1) = false := by simpa using hp1
  have m4 : (o == 4) = false := by simpa using hp4
  have HO := Lib.hid ho
  clear ho hp1 hp4
  obtain ⟨r, hr⟩ : ∃ r, r = opOf q := ⟨_, rfl⟩
  rw [← hr] at hq1 hq2
  have n1 : (r == 1) = false := by simpa using hq1
  have n2 : (r == 2) = false := by simpa using hq2
  have HR := Lib.hid hr
  clear hr hq1 hq2
  have C2 := Lib.hid c2
  have C3 := Lib.hid c3
  have C4 := Lib.hid c4
  have C5 := Lib.hid c5
  clear hT hE c2 c3 c4 c5 okp okq lp lq
  go_enter Tryz.func13, Tryz.ntmps13
  go_wp2_with fail
  refine (c1).mono ?_
  rintro e w1 ⟨rfl, hb1⟩
  go_wp2_with fail
  refine (C2.out _ hb1).mono ?_
  rintro e w2 ⟨rfl, hb2⟩
  have B2 := hb1.then hb2
  go_wp2_with fail
  refine (C3.out _ B2).mono ?_
  rintro e w3 ⟨rfl, hb3⟩
  have B3 := B2.then hb3
  rcases Bool.eq_false_or_eq_true (E) with eE | eE
  · have HT := Lib.hid (show T = true by rw [HW.out, eE]; rfl)
    rw [eE]
    clear eE
    go_wp2
    go_ret
    exact Ret.bool (by rw [HT.out]) (B3)
  · have HWE := Lib.hid (HW.out.trans (by rw [eE, Bool.false_or]))
    rw [eE]
    clear eE HW c1
    go_wp2_with fail
    refine (C4.out _ B3).mono ?_
    rintro e' w4 ⟨sv1, rfl, hb4, hs1⟩
    have B4 := B3.then hb4
    rw [← HO.out]
    clear hs1
    go_wp2_with fail
    refine (C5.out _ B4).mono ?_
    rintro e' w5 ⟨sv2, rfl, hb5, hs2⟩
    have B5 := B4.then hb5
    rw [← HR.out]
    clear hs2
    clear C2 C3 C4 C5
    have HT := Lib.hid (show T = false by simp [HWE.out])
    go_wp2
    go_ret
    exact Ret.bool (by rw [HT.out]) (B5)
theorem I_weakT : ∀ (N : Nat) (p q : XT), SizeOf.sizeOf p + SizeOf.sizeOf q < N → okT p → okT q → (flat p).length ≤ 9 → (flat q).length ≤ 9 → ∀ (w : World) (v u : Value), Rd rNodes w (flat p) [v] → Rd rNodes w (flat q) [u] → Calls Tryz.prog 13 #[v, u] w (Ret w (.bool (weakT p q)))
  | 0, _, _, h => absurd h (Nat.not_lt_zero _)
  | N + 1, p, q, h => fun okp okq lp lq w v u hp hq => by
    have IH : WeakIH p q := fun p' q' hlt => I_weakT N p' q' (by omega)
    by_cases p4 : opOf p = 4
    · obtain ⟨a0, a1, rfl⟩ := opOf_two p4 (by omega) (by omega)
      by_cases q2 : opOf q = 2
      · obtain ⟨b0, b1, rfl⟩ := opOf_two q2 (by omega) (by omega)
        exact I_weak_AX a0 a1 b0 b1 IH okp okq lp lq w v u hp hq
      · by_cases q1 : opOf q = 1
        · obtain ⟨b0, b1, rfl⟩ := opOf_two q1 (by omega) (by omega)
          exact I_weak_AY a0 a1 b0 b1 IH okp okq lp lq w v u hp hq
        · exact I_weak_AZ a0 a1 q q1 q2 IH okp okq lp lq w v u hp hq
    · by_cases p1 : opOf p = 1
      · obtain ⟨a0, a1, rfl⟩ := opOf_two p1 (by omega) (by omega)
        by_cases q2 : opOf q = 2
        · obtain ⟨b0, b1, rfl⟩ := opOf_two q2 (by omega) (by omega)
          exact I_weak_BX a0 a1 b0 b1 IH okp okq lp lq w v u hp hq
        · by_cases q1 : opOf q = 1
          · obtain ⟨b0, b1, rfl⟩ := opOf_two q1 (by omega) (by omega)
            exact I_weak_BY a0 a1 b0 b1 IH okp okq lp lq w v u hp hq
          · exact I_weak_BZ a0 a1 q q1 q2 IH okp okq lp lq w v u hp hq
      · by_cases q2 : opOf q = 2
        · obtain ⟨b0, b1, rfl⟩ := opOf_two q2 (by omega) (by omega)
          exact I_weak_CX p b0 b1 p1 p4 IH okp okq lp lq w v u hp hq
        · by_cases q1 : opOf q = 1
          · obtain ⟨b0, b1, rfl⟩ := opOf_two q1 (by omega) (by omega)
            exact I_weak_CY p b0 b1 p1 p4 IH okp okq lp lq w v u hp hq
          · exact I_weak_CZ p q p1 p4 q1 q2 IH okp okq lp lq w v u hp hq
/-- what IsWeaker answers; the trees are looked up -/
noncomputable def isWeaker (p q : List GNode) : Bool := open Classical in if h : ∃ s t, okT s ∧ okT t ∧ flat s = p ∧ flat t = q ∧ isExpr p = true ∧ isExpr q = true then weakT (Classical.choose h) (Classical.choose (Classical.choose_spec h)) else false
theorem expr_len {e : List GNode} (h : isExpr e = true) : e.length ≤ 9 := by
  unfold isExpr at h
  rw [Bool.and_eq_true, decide_eq_true_eq, decide_eq_true_eq] at h
  exact h.2
theorem weak_no {p q : List GNode} (h : (isExpr p && isExpr q) = false) : isWeaker p q = false := by
  unfold isWeaker
  rw [dif_neg]
  rintro ⟨s, t, _, _, _, _, e1, e2⟩
  rw [e1, e2] at h; cases h
theorem weak_trees {p q : List GNode} (e1 : isExpr p = true) (e2 : isExpr q = true) : ∃ s t, okT s ∧ okT t ∧ p = flat s ∧ q = flat t ∧ isWeaker p q = weakT s t := by
  obtain ⟨s, hs, es⟩ := tree_of e1
  obtain ⟨t, ht, et⟩ := tree_of e2
  have h : ∃ s t, okT s ∧ okT t ∧ flat s = p ∧ flat t = q ∧ isExpr p = true ∧ isExpr q = true := ⟨s, t, hs, ht, es.symm, et.symm, e1, e2⟩
  have hc := Classical.choose_spec (Classical.choose_spec h)
  refine ⟨_, _, hc.1, hc.2.1, hc.2.2.1.symm, hc.2.2.2.1.symm, ?_⟩
  unfold isWeaker
  rw [dif_pos h]
set_option maxHeartbeats 800000 in
theorem I_IsWeaker_no (w : World) (p q : List GNode) (v u : Value) (h : Rd rNodes w p [v]) (h' : Rd rNodes w q [u]) (hn : (isExpr p && isExpr q) = false) : Calls Tryz.prog 13 #[v, u] w (Ret w (.bool false)) := by
  have c1 := I_IsExpression w p v h
  have c2 := Lib.hid (fun W (B : Bw w W) => I_IsExpression W q u (h'.bw rNodes_good B))
  have HN := Lib.hid hn
  clear hn h h'
  go_enter Tryz.func13, Tryz.ntmps13
  go_wp2_with fail
  refine (c1).mono ?_
  rintro e w1 ⟨rfl, hb1⟩
  rcases Bool.eq_false_or_eq_true (isExpr p) with e1 | e1
  · have E1 := Lib.hid e1
    rw [e1]
    clear e1 c1
    go_wp2_with fail
    refine (c2.out _ hb1).mono ?_
    rintro e w2 ⟨rfl, hb2⟩
    have B2 := hb1.then hb2
    have E2 := Lib.hid (show isExpr q = false by have := HN.out; rw [E1.out, Bool.true_and] at this; exact this)
    rw [E2.out]
    go_wp2
    go_ret
    exact Ret.bool (rfl) (B2)
  · rw [e1]
    clear e1
    go_wp2
    go_ret
    exact Ret.bool (rfl) (hb1)
theorem I_IsWeaker (w : World) (p q : List GNode) (v u : Value) (h : Rd rNodes w p [v]) (h' : Rd rNodes w q [u]) : Calls Tryz.prog 13 #[v, u] w (Ret w (.bool (isWeaker p q))) := by
  by_cases hb : (isExpr p && isExpr q) = true
  · rw [Bool.and_eq_true] at hb
    obtain ⟨s, t, hs, ht, rfl, rfl, e⟩ := weak_trees hb.1 hb.2
    rw [e]
    exact I_weakT _ s t (Nat.lt_succ_self _) hs ht (expr_len hb.1) (expr_len hb.2) w v u h h'
  · have hn : (isExpr p && isExpr q) = false := by simpa using hb
    rw [weak_no hn]
    exact I_IsWeaker_no w p q v u h h' hn
end Go.Proofs.YthlaabaffbffkaaGreat
