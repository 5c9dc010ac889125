/- IsWeaker in the reference. -/
import Derived.Test.YthlaabaffbffkaaGreatQWeakI
namespace Go.Proofs.YthlaabaffbffkaaGreat
open Go.RowKit
set_option linter.unusedVariables false
set_option linter.unusedSimpArgs false
def WeakIHS (p q : XT) : Prop := ∀ p' q' : XT, SizeOf.sizeOf p' + SizeOf.sizeOf q' < SizeOf.sizeOf p + SizeOf.sizeOf q → okT p' → okT q' → (flat p').length ≤ 9 → (flat q').length ≤ 9 → ∀ (w : World) (v u : Value), Rd rNodes w (flat p') [v] → Rd rNodes w (flat q') [u] → Calls Tryz.prog 80 #[v, u] w (Ret w (.bool (weakT p' q')))
set_option maxRecDepth 100000 in
set_option maxHeartbeats 3200000 in
theorem S_weak_AX (a0 a1 : XT) (b0 b1 : XT) (IH : WeakIHS (.two 4 a0 a1) (.two 2 b0 b1)) (okp : okT (.two 4 a0 a1)) (okq : okT (.two 2 b0 b1)) (lp : (flat (.two 4 a0 a1)).length ≤ 9) (lq : (flat (.two 2 b0 b1)).length ≤ 9) (w : World) (v u : Value) (h : Rd rNodes w (flat (.two 4 a0 a1)) [v]) (h' : Rd rNodes w (flat (.two 2 b0 b1)) [u]) :
    Calls Tryz.prog 80 #[v, u] w (Ret w (.bool (weakT (.two 4 a0 a1) (.two 2 b0 b1)))) := by
  have HW := Lib.hid (weak_AX a0 a1 b0 b1)
  obtain ⟨bp, op, m, cp, rfl, hm, mp1, mp2, x0⟩ := flat_open h
  obtain ⟨bq, oq, n, cq, rfl, hn, nq1, nq2, y0⟩ := flat_open h'
  rw [show opOf (.two 4 a0 a1) = 4 from rfl] at x0
  rw [show opOf (.two 2 b0 b1) = 2 from rfl] at y0
  have c3 := S_EqualExpressions w (flat (.two 4 a0 a1)) (flat (.two 2 b0 b1)) _ _ h h'
  have PP := Lib.hid (fun W (B : Bw w W) => S_l6Parts W 4 a0 a1 bp op m cp (h.bw rNodes_good B) okp lp hm.out mp1 mp2)
  have PQ := Lib.hid (fun W (B : Bw w W) => S_l6Parts W 2 b0 b1 bq oq n cq (h'.bw rNodes_good B) okq lq hn.out nq1 nq2)
  have l1 := flat_two_len 4 a0 a1
  have l2 := flat_two_len 2 b0 b1
  have i1 := fun W (B : Bw w W) y (hy : Rd rNodes W (flat b0) [y]) => IH (.two 4 a0 a1) b0 (by first | (simp; omega) | simp) okp okq.2.1 lp (by omega) W _ y (h.bw rNodes_good B) hy
  have i2 := fun W (B : Bw w W) y (hy : Rd rNodes W (flat a0) [y]) => IH a0 (.two 2 b0 b1) (by first | (simp; omega) | simp) okp.2.1 okq (by omega) lq W y _ hy (h'.bw rNodes_good B)
  have i3 := fun W (B : Bw w W) y (hy : Rd rNodes W (flat a1) [y]) => IH a1 (.two 2 b0 b1) (by first | (simp; omega) | simp) okp.2.2 okq (by omega) lq W y _ hy (h'.bw rNodes_good B)
  obtain ⟨T, hT⟩ : ∃ T, T = weakT (.two 4 a0 a1) (.two 2 b0 b1) := ⟨_, rfl⟩
  rw [← hT] at HW ⊢
  obtain ⟨E, hE⟩ : ∃ E, E = decide (flat (.two 4 a0 a1) = flat (.two 2 b0 b1)) := ⟨_, rfl⟩
  rw [← hE] at HW c3
  obtain ⟨y1, hy1⟩ : ∃ y, y = weakT (.two 4 a0 a1) b0 := ⟨_, rfl⟩
  rw [← hy1] at HW
  simp only [← hy1] at i1
  have J1 := Lib.hid i1
  clear hy1 i1
  obtain ⟨y2, hy2⟩ : ∃ y, y = weakT a0 (.two 2 b0 b1) := ⟨_, rfl⟩
  rw [← hy2] at HW
  simp only [← hy2] at i2
  have J2 := Lib.hid i2
  clear hy2 i2
  obtain ⟨y3, hy3⟩ : ∃ y, y = weakT a1 (.two 2 b0 b1) := ⟨_, rfl⟩
  rw [← hy3] at HW
  simp only [← hy3] at i3
  have J3 := Lib.hid i3
  clear hy3 i3
  have km : (0 : Int) ≤ (m : Int) := by omega
  have kn : (0 : Int) ≤ (n : Int) := by omega
  have km2 : (m : Int) < (m : Int) + 1 := by omega
  have kn2 : (n : Int) < (n : Int) + 1 := by omega
  clear hT hE okp okq lp lq hm hn h h' IH l1 l2
  go_enter Tryz.func80, Tryz.ntmps80
  go_wp2_with fail
  refine (c3).mono ?_
  rintro e w3 ⟨rfl, hb3⟩
  have B3 := hb3
  replace x0 := hb3.cell x0
  replace y0 := hb3.cell y0
  clear c3
  rcases Bool.eq_false_or_eq_true (E) with eE | eE
  · have HT := Lib.hid (show T = true by rw [HW.out, eE]; rfl)
    rw [eE]
    clear eE
    go_wp2
    go_ret
    exact Ret.bool (by rw [HT.out]) (B3)
  · have HWE := Lib.hid (HW.out.trans (by rw [eE, Bool.false_or]))
    rw [eE]
    clear eE HW
    go_wp2_with fail
    refine (PQ.out _ B3).mono ?_
    rintro e' w10 ⟨vb0, vb1, rfl, rb0, rb1, hb10⟩
    have B10 := B3.then hb10
    replace x0 := hb10.cell x0
    replace y0 := hb10.cell y0
    go_wp2_with fail
    refine (J1.out _ B10 _ rb0).mono ?_
    rintro e w11 ⟨rfl, hb11⟩
    have B11 := B10.then hb11
    replace x0 := hb11.cell x0
    replace y0 := hb11.cell y0
    rcases Bool.eq_false_or_eq_true (y1) with q1 | q1
    · have HT := Lib.hid (show T = true by simp [HWE.out, q1])
      rw [q1]
      clear q1
      go_wp2
      go_ret
      exact Ret.bool (by rw [HT.out]) (B11)
    · replace HWE := Lib.hid (HWE.out.trans (by rw [q1]))
      rw [q1]
      clear q1 J1
      clear rb0 rb1
      go_wp2_with fail
      refine (PP.out _ B11).mono ?_
      rintro e' w12 ⟨va0, va1, rfl, ra0, ra1, hb12⟩
      have B12 := B11.then hb12
      replace x0 := hb12.cell x0
      replace y0 := hb12.cell y0
      go_wp2_with fail
      refine (J2.out _ B12 _ ra0).mono ?_
      rintro e w13 ⟨rfl, hb13⟩
      have B13 := B12.then hb13
      replace x0 := hb13.cell x0
      replace y0 := hb13.cell y0
      replace ra1 := ra1.bw rNodes_good hb13
      rcases Bool.eq_false_or_eq_true (y2) with q2 | q2
      · have HT := Lib.hid (show T = true by simp [HWE.out, q2])
        rw [q2]
        clear q2
        go_wp2
        go_ret
        exact Ret.bool (by rw [HT.out]) (B13)
      · replace HWE := Lib.hid (HWE.out.trans (by rw [q2]))
        rw [q2]
        clear q2 J2
        go_wp2_with fail
        refine (J3.out _ B13 _ ra1).mono ?_
        rintro e w14 ⟨rfl, hb14⟩
        have B14 := B13.then hb14
        replace x0 := hb14.cell x0
        replace y0 := hb14.cell y0
        rcases Bool.eq_false_or_eq_true (y3) with q3 | q3
        · have HT := Lib.hid (show T = true by simp [HWE.out, q3])
          rw [q3]
          clear q3
          go_wp2
          go_ret
          exact Ret.bool (by rw [HT.out]) (B14)
        · replace HWE := Lib.hid (HWE.out.trans (by rw [q3]))
          rw [q3]
          clear q3 J3
          clear ra0 ra1
          have HT := Lib.hid (show T = false by simp [HWE.out])
          go_wp2
          go_ret
          exact Ret.bool (by rw [HT.out]) (B14)
set_option maxRecDepth 100000 in
set_option maxHeartbeats 3200000 in
theorem S_weak_AY (a0 a1 : XT) (b0 b1 : XT) (IH : WeakIHS (.two 4 a0 a1) (.two 1 b0 b1)) (okp : okT (.two 4 a0 a1)) (okq : okT (.two 1 b0 b1)) (lp : (flat (.two 4 a0 a1)).length ≤ 9) (lq : (flat (.two 1 b0 b1)).length ≤ 9) (w : World) (v u : Value) (h : Rd rNodes w (flat (.two 4 a0 a1)) [v]) (h' : Rd rNodes w (flat (.two 1 b0 b1)) [u]) :
    Calls Tryz.prog 80 #[v, u] w (Ret w (.bool (weakT (.two 4 a0 a1) (.two 1 b0 b1)))) := by
  have HW := Lib.hid (weak_AY a0 a1 b0 b1)
  obtain ⟨bp, op, m, cp, rfl, hm, mp1, mp2, x0⟩ := flat_open h
  obtain ⟨bq, oq, n, cq, rfl, hn, nq1, nq2, y0⟩ := flat_open h'
  rw [show opOf (.two 4 a0 a1) = 4 from rfl] at x0
  rw [show opOf (.two 1 b0 b1) = 1 from rfl] at y0
  have c3 := S_EqualExpressions w (flat (.two 4 a0 a1)) (flat (.two 1 b0 b1)) _ _ h h'
  have PP := Lib.hid (fun W (B : Bw w W) => S_l6Parts W 4 a0 a1 bp op m cp (h.bw rNodes_good B) okp lp hm.out mp1 mp2)
  have PQ := Lib.hid (fun W (B : Bw w W) => S_l6Parts W 1 b0 b1 bq oq n cq (h'.bw rNodes_good B) okq lq hn.out nq1 nq2)
  have l1 := flat_two_len 4 a0 a1
  have i2 := fun W (B : Bw w W) y (hy : Rd rNodes W (flat a0) [y]) => IH a0 (.two 1 b0 b1) (by first | (simp; omega) | simp) okp.2.1 okq (by omega) lq W y _ hy (h'.bw rNodes_good B)
  have i3 := fun W (B : Bw w W) y (hy : Rd rNodes W (flat a1) [y]) => IH a1 (.two 1 b0 b1) (by first | (simp; omega) | simp) okp.2.2 okq (by omega) lq W y _ hy (h'.bw rNodes_good B)
  obtain ⟨T, hT⟩ : ∃ T, T = weakT (.two 4 a0 a1) (.two 1 b0 b1) := ⟨_, rfl⟩
  rw [← hT] at HW ⊢
  obtain ⟨E, hE⟩ : ∃ E, E = decide (flat (.two 4 a0 a1) = flat (.two 1 b0 b1)) := ⟨_, rfl⟩
  rw [← hE] at HW c3
  obtain ⟨y2, hy2⟩ : ∃ y, y = weakT a0 (.two 1 b0 b1) := ⟨_, rfl⟩
  rw [← hy2] at HW
  simp only [← hy2] at i2
  have J2 := Lib.hid i2
  clear hy2 i2
  obtain ⟨y3, hy3⟩ : ∃ y, y = weakT a1 (.two 1 b0 b1) := ⟨_, rfl⟩
  rw [← hy3] at HW
  simp only [← hy3] at i3
  have J3 := Lib.hid i3
  clear hy3 i3
  rw [swapB] at HW
  obtain ⟨d00, hd00⟩ : ∃ d, d = decide (flat a0 = flat b0) := ⟨_, rfl⟩
  rw [← hd00] at HW
  have e00 := fun W x y (hx : Rd rNodes W (flat a0) [x]) (hy : Rd rNodes W (flat b0) [y]) => S_EqualExpressions W (flat a0) (flat b0) x y hx hy
  simp only [← hd00] at e00
  have D00 := Lib.hid e00
  clear hd00 e00
  obtain ⟨d01, hd01⟩ : ∃ d, d = decide (flat a0 = flat b1) := ⟨_, rfl⟩
  rw [← hd01] at HW
  have e01 := fun W x y (hx : Rd rNodes W (flat a0) [x]) (hy : Rd rNodes W (flat b1) [y]) => S_EqualExpressions W (flat a0) (flat b1) x y hx hy
  simp only [← hd01] at e01
  have D01 := Lib.hid e01
  clear hd01 e01
  obtain ⟨d10, hd10⟩ : ∃ d, d = decide (flat a1 = flat b0) := ⟨_, rfl⟩
  rw [← hd10] at HW
  have e10 := fun W x y (hx : Rd rNodes W (flat a1) [x]) (hy : Rd rNodes W (flat b0) [y]) => S_EqualExpressions W (flat a1) (flat b0) x y hx hy
  simp only [← hd10] at e10
  have D10 := Lib.hid e10
  clear hd10 e10
  obtain ⟨d11, hd11⟩ : ∃ d, d = decide (flat a1 = flat b1) := ⟨_, rfl⟩
  rw [← hd11] at HW
  have e11 := fun W x y (hx : Rd rNodes W (flat a1) [x]) (hy : Rd rNodes W (flat b1) [y]) => S_EqualExpressions W (flat a1) (flat b1) x y hx hy
  simp only [← hd11] at e11
  have D11 := Lib.hid e11
  clear hd11 e11
  have km : (0 : Int) ≤ (m : Int) := by omega
  have kn : (0 : Int) ≤ (n : Int) := by omega
  have km2 : (m : Int) < (m : Int) + 1 := by omega
  have kn2 : (n : Int) < (n : Int) + 1 := by omega
  clear hT hE okp okq lp lq hm hn h h' IH l1
  go_enter Tryz.func80, Tryz.ntmps80
  go_wp2_with fail
  refine (c3).mono ?_
  rintro e w3 ⟨rfl, hb3⟩
  have B3 := hb3
  replace x0 := hb3.cell x0
  replace y0 := hb3.cell y0
  clear c3
  rcases Bool.eq_false_or_eq_true (E) with eE | eE
  · have HT := Lib.hid (show T = true by rw [HW.out, eE]; rfl)
    rw [eE]
    clear eE
    go_wp2
    go_ret
    exact Ret.bool (by rw [HT.out]) (B3)
  · have HWE := Lib.hid (HW.out.trans (by rw [eE, Bool.false_or]))
    rw [eE]
    clear eE HW
    go_wp2_with fail
    refine (PP.out _ B3).mono ?_
    rintro e' w12 ⟨va0, va1, rfl, ra0, ra1, hb12⟩
    have B12 := B3.then hb12
    replace x0 := hb12.cell x0
    replace y0 := hb12.cell y0
    go_wp2_with fail
    refine (J2.out _ B12 _ ra0).mono ?_
    rintro e w13 ⟨rfl, hb13⟩
    have B13 := B12.then hb13
    replace x0 := hb13.cell x0
    replace y0 := hb13.cell y0
    replace ra1 := ra1.bw rNodes_good hb13
    rcases Bool.eq_false_or_eq_true (y2) with q2 | q2
    · have HT := Lib.hid (show T = true by simp [HWE.out, q2])
      rw [q2]
      clear q2
      go_wp2
      go_ret
      exact Ret.bool (by rw [HT.out]) (B13)
    · replace HWE := Lib.hid (HWE.out.trans (by rw [q2]))
      rw [q2]
      clear q2 J2
      go_wp2_with fail
      refine (J3.out _ B13 _ ra1).mono ?_
      rintro e w14 ⟨rfl, hb14⟩
      have B14 := B13.then hb14
      replace x0 := hb14.cell x0
      replace y0 := hb14.cell y0
      rcases Bool.eq_false_or_eq_true (y3) with q3 | q3
      · have HT := Lib.hid (show T = true by simp [HWE.out, q3])
        rw [q3]
        clear q3
        go_wp2
        go_ret
        exact Ret.bool (by rw [HT.out]) (B14)
      · replace HWE := Lib.hid (HWE.out.trans (by rw [q3]))
        rw [q3]
        clear q3 J3
        clear ra0 ra1
        go_wp2_with fail
        refine (PP.out _ B14).mono ?_
        rintro e' w20 ⟨va0, va1, rfl, ra0, ra1, hb20⟩
        have B20 := B14.then hb20
        replace x0 := hb20.cell x0
        replace y0 := hb20.cell y0
        go_wp2_with fail
        refine (PQ.out _ B20).mono ?_
        rintro e' w21 ⟨vb0, vb1, rfl, rb0, rb1, hb21⟩
        have B21 := B20.then hb21
        replace x0 := hb21.cell x0
        replace y0 := hb21.cell y0
        replace ra0 := ra0.bw rNodes_good hb21
        replace ra1 := ra1.bw rNodes_good hb21
        go_wp2_with fail
        refine (D00.out _ _ _ ra0 rb0).mono ?_
        rintro e w30 ⟨rfl, hb30⟩
        have B30 := B21.then hb30
        replace ra0 := ra0.bw rNodes_good hb30
        replace ra1 := ra1.bw rNodes_good hb30
        replace rb0 := rb0.bw rNodes_good hb30
        replace rb1 := rb1.bw rNodes_good hb30
        rcases Bool.eq_false_or_eq_true (d00) with z00 | z00
        · replace HWE := Lib.hid (HWE.out.trans (by rw [z00, Bool.true_and]))
          rw [z00]
          clear z00
          go_wp2_with fail
          refine (D11.out _ _ _ ra1 rb1).mono ?_
          rintro e w31 ⟨rfl, hb31⟩
          have B31 := B30.then hb31
          replace ra0 := ra0.bw rNodes_good hb31
          replace ra1 := ra1.bw rNodes_good hb31
          replace rb0 := rb0.bw rNodes_good hb31
          replace rb1 := rb1.bw rNodes_good hb31
          rcases Bool.eq_false_or_eq_true (d11) with z11 | z11
          · have HT := Lib.hid (show T = true by simp [HWE.out, z11])
            rw [z11]
            clear z11
            go_wp2
            go_ret
            exact Ret.bool (by rw [HT.out]) (B31)
          · replace HWE := Lib.hid (HWE.out.trans (by rw [z11, Bool.false_or]))
            rw [z11]
            clear z11
            go_wp2_with fail
            refine (D01.out _ _ _ ra0 rb1).mono ?_
            rintro e w32 ⟨rfl, hb32⟩
            have B32 := B31.then hb32
            replace ra1 := ra1.bw rNodes_good hb32
            replace rb0 := rb0.bw rNodes_good hb32
            rcases Bool.eq_false_or_eq_true (d01) with z01 | z01
            · replace HWE := Lib.hid (HWE.out.trans (by rw [z01]))
              rw [z01]
              clear z01
              go_wp2_with fail
              refine (D10.out _ _ _ ra1 rb0).mono ?_
              rintro e w33 ⟨rfl, hb33⟩
              have B33 := B32.then hb33
              have HT := Lib.hid (show T = d10 by simp [HWE.out])
              go_wp2
              go_ret
              exact Ret.bool (by rw [HT.out]) (B33)
            · have HT := Lib.hid (show T = false by simp [HWE.out, z01])
              rw [z01]
              clear z01
              go_wp2
              go_ret
              exact Ret.bool (by rw [HT.out]) (B32)
        · replace HWE := Lib.hid (HWE.out.trans (by rw [z00, Bool.false_and, Bool.false_or]))
          rw [z00]
          clear z00
          go_wp2_with fail
          refine (D01.out _ _ _ ra0 rb1).mono ?_
          rintro e w32 ⟨rfl, hb32⟩
          have B32 := B30.then hb32
          replace ra1 := ra1.bw rNodes_good hb32
          replace rb0 := rb0.bw rNodes_good hb32
          rcases Bool.eq_false_or_eq_true (d01) with z01 | z01
          · replace HWE := Lib.hid (HWE.out.trans (by rw [z01]))
            rw [z01]
            clear z01
            go_wp2_with fail
            refine (D10.out _ _ _ ra1 rb0).mono ?_
            rintro e w33 ⟨rfl, hb33⟩
            have B33 := B32.then hb33
            have HT := Lib.hid (show T = d10 by simp [HWE.out])
            go_wp2
            go_ret
            exact Ret.bool (by rw [HT.out]) (B33)
          · have HT := Lib.hid (show T = false by simp [HWE.out, z01])
            rw [z01]
            clear z01
            go_wp2
            go_ret
            exact Ret.bool (by rw [HT.out]) (B32)
set_option maxRecDepth 100000 in
set_option maxHeartbeats 3200000 in
theorem S_weak_AZ (a0 a1 : XT) (q : XT) (hq1 : opOf q ≠ 1) (hq2 : opOf q ≠ 2) (IH : WeakIHS (.two 4 a0 a1) q) (okp : okT (.two 4 a0 a1)) (okq : okT q) (lp : (flat (.two 4 a0 a1)).length ≤ 9) (lq : (flat q).length ≤ 9) (w : World) (v u : Value) (h : Rd rNodes w (flat (.two 4 a0 a1)) [v]) (h' : Rd rNodes w (flat q) [u]) :
    Calls Tryz.prog 80 #[v, u] w (Ret w (.bool (weakT (.two 4 a0 a1) q))) := by
  have HW := Lib.hid (weak_AZ a0 a1 q hq1 hq2)
  obtain ⟨bp, op, m, cp, rfl, hm, mp1, mp2, x0⟩ := flat_open h
  obtain ⟨bq, oq, n, cq, rfl, hn, nq1, nq2, y0⟩ := flat_open h'
  rw [show opOf (.two 4 a0 a1) = 4 from rfl] at x0
  obtain ⟨r, hr⟩ : ∃ r, r = opOf q := ⟨_, rfl⟩
  rw [← hr] at hq1 hq2 y0
  have n1 : (r == 1) = false := by simpa using hq1
  have n2 : (r == 2) = false := by simpa using hq2
  clear hr hq1 hq2
  have c3 := S_EqualExpressions w (flat (.two 4 a0 a1)) (flat q) _ _ h h'
  have PP := Lib.hid (fun W (B : Bw w W) => S_l6Parts W 4 a0 a1 bp op m cp (h.bw rNodes_good B) okp lp hm.out mp1 mp2)
  have l1 := flat_two_len 4 a0 a1
  have i2 := fun W (B : Bw w W) y (hy : Rd rNodes W (flat a0) [y]) => IH a0 q (by first | (simp; omega) | simp) okp.2.1 okq (by omega) lq W y _ hy (h'.bw rNodes_good B)
  have i3 := fun W (B : Bw w W) y (hy : Rd rNodes W (flat a1) [y]) => IH a1 q (by first | (simp; omega) | simp) okp.2.2 okq (by omega) lq W y _ hy (h'.bw rNodes_good B)
  obtain ⟨T, hT⟩ : ∃ T, T = weakT (.two 4 a0 a1) q := ⟨_, rfl⟩
  rw [← hT] at HW ⊢
  obtain ⟨E, hE⟩ : ∃ E, E = decide (flat (.two 4 a0 a1) = flat q) := ⟨_, rfl⟩
  rw [← hE] at HW c3
  obtain ⟨y2, hy2⟩ : ∃ y, y = weakT a0 q := ⟨_, rfl⟩
  rw [← hy2] at HW
  simp only [← hy2] at i2
  have J2 := Lib.hid i2
  clear hy2 i2
  obtain ⟨y3, hy3⟩ : ∃ y, y = weakT a1 q := ⟨_, rfl⟩
  rw [← hy3] at HW
  simp only [← hy3] at i3
  have J3 := Lib.hid i3
  clear hy3 i3
  have km : (0 : Int) ≤ (m : Int) := by omega
  have kn : (0 : Int) ≤ (n : Int) := by omega
  have km2 : (m : Int) < (m : Int) + 1 := by omega
  have kn2 : (n : Int) < (n : Int) + 1 := by omega
  clear hT hE okp okq lp lq hm hn h h' IH l1
  go_enter Tryz.func80, Tryz.ntmps80
  go_wp2_with fail
  refine (c3).mono ?_
  rintro e w3 ⟨rfl, hb3⟩
  have B3 := hb3
  replace x0 := hb3.cell x0
  replace y0 := hb3.cell y0
  clear c3
  rcases Bool.eq_false_or_eq_true (E) with eE | eE
  · have HT := Lib.hid (show T = true by rw [HW.out, eE]; rfl)
    rw [eE]
    clear eE
    go_wp2
    go_ret
    exact Ret.bool (by rw [HT.out]) (B3)
  · have HWE := Lib.hid (HW.out.trans (by rw [eE, Bool.false_or]))
    rw [eE]
    clear eE HW
    go_wp2_with fail
    refine (PP.out _ B3).mono ?_
    rintro e' w12 ⟨va0, va1, rfl, ra0, ra1, hb12⟩
    have B12 := B3.then hb12
    replace x0 := hb12.cell x0
    replace y0 := hb12.cell y0
    go_wp2_with fail
    refine (J2.out _ B12 _ ra0).mono ?_
    rintro e w13 ⟨rfl, hb13⟩
    have B13 := B12.then hb13
    replace x0 := hb13.cell x0
    replace y0 := hb13.cell y0
    replace ra1 := ra1.bw rNodes_good hb13
    rcases Bool.eq_false_or_eq_true (y2) with q2 | q2
    · have HT := Lib.hid (show T = true by simp [HWE.out, q2])
      rw [q2]
      clear q2
      go_wp2
      go_ret
      exact Ret.bool (by rw [HT.out]) (B13)
    · replace HWE := Lib.hid (HWE.out.trans (by rw [q2]))
      rw [q2]
      clear q2 J2
      go_wp2_with fail
      refine (J3.out _ B13 _ ra1).mono ?_
      rintro e w14 ⟨rfl, hb14⟩
      have B14 := B13.then hb14
      replace x0 := hb14.cell x0
      replace y0 := hb14.cell y0
      rcases Bool.eq_false_or_eq_true (y3) with q3 | q3
      · have HT := Lib.hid (show T = true by simp [HWE.out, q3])
        rw [q3]
        clear q3
        go_wp2
        go_ret
        exact Ret.bool (by rw [HT.out]) (B14)
      · replace HWE := Lib.hid (HWE.out.trans (by rw [q3]))
        rw [q3]
        clear q3 J3
        clear ra0 ra1
        have HT := Lib.hid (show T = false by simp [HWE.out])
        go_wp2
        go_ret
        exact Ret.bool (by rw [HT.out]) (B14)
set_option maxRecDepth 100000 in
set_option maxHeartbeats 3200000 in
theorem S_weak_BX (a0 a1 : XT) (b0 b1 : XT) (IH : WeakIHS (.two 1 a0 a1) (.two 2 b0 b1)) (okp : okT (.two 1 a0 a1)) (okq : okT (.two 2 b0 b1)) (lp : (flat (.two 1 a0 a1)).length ≤ 9) (lq : (flat (.two 2 b0 b1)).length ≤ 9) (w : World) (v u : Value) (h : Rd rNodes w (flat (.two 1 a0 a1)) [v]) (h' : Rd rNodes w (flat (.two 2 b0 b1)) [u]) :
    Calls Tryz.prog 80 #[v, u] w (Ret w (.bool (weakT (.two 1 a0 a1) (.two 2 b0 b1)))) := by
  have HW := Lib.hid (weak_BX a0 a1 b0 b1)
  obtain ⟨bp, op, m, cp, rfl, hm, mp1, mp2, x0⟩ := flat_open h
  obtain ⟨bq, oq, n, cq, rfl, hn, nq1, nq2, y0⟩ := flat_open h'
  rw [show opOf (.two 1 a0 a1) = 1 from rfl] at x0
  rw [show opOf (.two 2 b0 b1) = 2 from rfl] at y0
  have c3 := S_EqualExpressions w (flat (.two 1 a0 a1)) (flat (.two 2 b0 b1)) _ _ h h'
  have PP := Lib.hid (fun W (B : Bw w W) => S_l6Parts W 1 a0 a1 bp op m cp (h.bw rNodes_good B) okp lp hm.out mp1 mp2)
  have PQ := Lib.hid (fun W (B : Bw w W) => S_l6Parts W 2 b0 b1 bq oq n cq (h'.bw rNodes_good B) okq lq hn.out nq1 nq2)
  have l2 := flat_two_len 2 b0 b1
  have i1 := fun W (B : Bw w W) y (hy : Rd rNodes W (flat b0) [y]) => IH (.two 1 a0 a1) b0 (by first | (simp; omega) | simp) okp okq.2.1 lp (by omega) W _ y (h.bw rNodes_good B) hy
  obtain ⟨T, hT⟩ : ∃ T, T = weakT (.two 1 a0 a1) (.two 2 b0 b1) := ⟨_, rfl⟩
  rw [← hT] at HW ⊢
  obtain ⟨E, hE⟩ : ∃ E, E = decide (flat (.two 1 a0 a1) = flat (.two 2 b0 b1)) := ⟨_, rfl⟩
  rw [← hE] at HW c3
  obtain ⟨y1, hy1⟩ : ∃ y, y = weakT (.two 1 a0 a1) b0 := ⟨_, rfl⟩
  rw [← hy1] at HW
  simp only [← hy1] at i1
  have J1 := Lib.hid i1
  clear hy1 i1
  rw [swapB] at HW
  obtain ⟨d00, hd00⟩ : ∃ d, d = decide (flat a0 = flat b0) := ⟨_, rfl⟩
  rw [← hd00] at HW
  have e00 := fun W x y (hx : Rd rNodes W (flat a0) [x]) (hy : Rd rNodes W (flat b0) [y]) => S_EqualExpressions W (flat a0) (flat b0) x y hx hy
  simp only [← hd00] at e00
  have D00 := Lib.hid e00
  clear hd00 e00
  obtain ⟨d01, hd01⟩ : ∃ d, d = decide (flat a0 = flat b1) := ⟨_, rfl⟩
  rw [← hd01] at HW
  have e01 := fun W x y (hx : Rd rNodes W (flat a0) [x]) (hy : Rd rNodes W (flat b1) [y]) => S_EqualExpressions W (flat a0) (flat b1) x y hx hy
  simp only [← hd01] at e01
  have D01 := Lib.hid e01
  clear hd01 e01
  obtain ⟨d10, hd10⟩ : ∃ d, d = decide (flat a1 = flat b0) := ⟨_, rfl⟩
  rw [← hd10] at HW
  have e10 := fun W x y (hx : Rd rNodes W (flat a1) [x]) (hy : Rd rNodes W (flat b0) [y]) => S_EqualExpressions W (flat a1) (flat b0) x y hx hy
  simp only [← hd10] at e10
  have D10 := Lib.hid e10
  clear hd10 e10
  obtain ⟨d11, hd11⟩ : ∃ d, d = decide (flat a1 = flat b1) := ⟨_, rfl⟩
  rw [← hd11] at HW
  have e11 := fun W x y (hx : Rd rNodes W (flat a1) [x]) (hy : Rd rNodes W (flat b1) [y]) => S_EqualExpressions W (flat a1) (flat b1) x y hx hy
  simp only [← hd11] at e11
  have D11 := Lib.hid e11
  clear hd11 e11
  have km : (0 : Int) ≤ (m : Int) := by omega
  have kn : (0 : Int) ≤ (n : Int) := by omega
  have km2 : (m : Int) < (m : Int) + 1 := by omega
  have kn2 : (n : Int) < (n : Int) + 1 := by omega
  clear hT hE okp okq lp lq hm hn h h' IH l2
  go_enter Tryz.func80, Tryz.ntmps80
  go_wp2_with fail
  refine (c3).mono ?_
  rintro e w3 ⟨rfl, hb3⟩
  have B3 := hb3
  replace x0 := hb3.cell x0
  replace y0 := hb3.cell y0
  clear c3
  rcases Bool.eq_false_or_eq_true (E) with eE | eE
  · have HT := Lib.hid (show T = true by rw [HW.out, eE]; rfl)
    rw [eE]
    clear eE
    go_wp2
    go_ret
    exact Ret.bool (by rw [HT.out]) (B3)
  · have HWE := Lib.hid (HW.out.trans (by rw [eE, Bool.false_or]))
    rw [eE]
    clear eE HW
    go_wp2_with fail
    refine (PQ.out _ B3).mono ?_
    rintro e' w10 ⟨vb0, vb1, rfl, rb0, rb1, hb10⟩
    have B10 := B3.then hb10
    replace x0 := hb10.cell x0
    replace y0 := hb10.cell y0
    go_wp2_with fail
    refine (J1.out _ B10 _ rb0).mono ?_
    rintro e w11 ⟨rfl, hb11⟩
    have B11 := B10.then hb11
    replace x0 := hb11.cell x0
    replace y0 := hb11.cell y0
    rcases Bool.eq_false_or_eq_true (y1) with q1 | q1
    · have HT := Lib.hid (show T = true by simp [HWE.out, q1])
      rw [q1]
      clear q1
      go_wp2
      go_ret
      exact Ret.bool (by rw [HT.out]) (B11)
    · replace HWE := Lib.hid (HWE.out.trans (by rw [q1]))
      rw [q1]
      clear q1 J1
      clear rb0 rb1
      go_wp2_with fail
      refine (PP.out _ B11).mono ?_
      rintro e' w20 ⟨va0, va1, rfl, ra0, ra1, hb20⟩
      have B20 := B11.then hb20
      replace x0 := hb20.cell x0
      replace y0 := hb20.cell y0
      go_wp2_with fail
      refine (PQ.out _ B20).mono ?_
      rintro e' w21 ⟨vb0, vb1, rfl, rb0, rb1, hb21⟩
      have B21 := B20.then hb21
      replace x0 := hb21.cell x0
      replace y0 := hb21.cell y0
      replace ra0 := ra0.bw rNodes_good hb21
      replace ra1 := ra1.bw rNodes_good hb21
      go_wp2_with fail
      refine (D00.out _ _ _ ra0 rb0).mono ?_
      rintro e w30 ⟨rfl, hb30⟩
      have B30 := B21.then hb30
      replace ra0 := ra0.bw rNodes_good hb30
      replace ra1 := ra1.bw rNodes_good hb30
      replace rb0 := rb0.bw rNodes_good hb30
      replace rb1 := rb1.bw rNodes_good hb30
      rcases Bool.eq_false_or_eq_true (d00) with z00 | z00
      · replace HWE := Lib.hid (HWE.out.trans (by rw [z00, Bool.true_and]))
        rw [z00]
        clear z00
        go_wp2_with fail
        refine (D11.out _ _ _ ra1 rb1).mono ?_
        rintro e w31 ⟨rfl, hb31⟩
        have B31 := B30.then hb31
        replace ra0 := ra0.bw rNodes_good hb31
        replace ra1 := ra1.bw rNodes_good hb31
        replace rb0 := rb0.bw rNodes_good hb31
        replace rb1 := rb1.bw rNodes_good hb31
        rcases Bool.eq_false_or_eq_true (d11) with z11 | z11
        · have HT := Lib.hid (show T = true by simp [HWE.out, z11])
          rw [z11]
          clear z11
          go_wp2
          go_ret
          exact Ret.bool (by rw [HT.out]) (B31)
        · replace HWE := Lib.hid (HWE.out.trans (by rw [z11, Bool.false_or]))
          rw [z11]
          clear z11
          go_wp2_with fail
          refine (D01.out _ _ _ ra0 rb1).mono ?_
          rintro e w32 ⟨rfl, hb32⟩
          have B32 := B31.then hb32
          replace ra1 := ra1.bw rNodes_good hb32
          replace rb0 := rb0.bw rNodes_good hb32
          rcases Bool.eq_false_or_eq_true (d01) with z01 | z01
          · replace HWE := Lib.hid (HWE.out.trans (by rw [z01]))
            rw [z01]
            clear z01
            go_wp2_with fail
            refine (D10.out _ _ _ ra1 rb0).mono ?_
            rintro e w33 ⟨rfl, hb33⟩
            have B33 := B32.then hb33
            have HT := Lib.hid (show T = d10 by simp [HWE.out])
            go_wp2
            go_ret
            exact Ret.bool (by rw [HT.out]) (B33)
          · have HT := Lib.hid (show T = false by simp [HWE.out, z01])
            rw [z01]
            clear z01
            go_wp2
            go_ret
            exact Ret.bool (by rw [HT.out]) (B32)
      · replace HWE := Lib.hid (HWE.out.trans (by rw [z00, Bool.false_and, Bool.false_or]))
        rw [z00]
        clear z00
        go_wp2_with fail
        refine (D01.out _ _ _ ra0 rb1).mono ?_
        rintro e w32 ⟨rfl, hb32⟩
        have B32 := B30.then hb32
        replace ra1 := ra1.bw rNodes_good hb32
        replace rb0 := rb0.bw rNodes_good hb32
        rcases Bool.eq_false_or_eq_true (d01) with z01 | z01
        · replace HWE := Lib.hid (HWE.out.trans (by rw [z01]))
          rw [z01]
          clear z01
          go_wp2_with fail
          refine (D10.out _ _ _ ra1 rb0).mono ?_
          rintro e w33 ⟨rfl, hb33⟩
          have B33 := B32.then hb33
          have HT := Lib.hid (show T = d10 by simp [HWE.out])
          go_wp2
          go_ret
          exact Ret.bool (by rw [HT.out]) (B33)
        · have HT := Lib.hid (show T = false by simp [HWE.out, z01])
          rw [z01]
          clear z01
          go_wp2
          go_ret
          exact Ret.bool (by rw [HT.out]) (B32)
set_option maxRecDepth 100000 in
set_option maxHeartbeats 3200000 in
theorem S_weak_BY (a0 a1 : XT) (b0 b1 : XT) (IH : WeakIHS (.two 1 a0 a1) (.two 1 b0 b1)) (okp : okT (.two 1 a0 a1)) (okq : okT (.two 1 b0 b1)) (lp : (flat (.two 1 a0 a1)).length ≤ 9) (lq : (flat (.two 1 b0 b1)).length ≤ 9) (w : World) (v u : Value) (h : Rd rNodes w (flat (.two 1 a0 a1)) [v]) (h' : Rd rNodes w (flat (.two 1 b0 b1)) [u]) :
    Calls Tryz.prog 80 #[v, u] w (Ret w (.bool (weakT (.two 1 a0 a1) (.two 1 b0 b1)))) := by
  have HW := Lib.hid (weak_BY a0 a1 b0 b1)
  obtain ⟨bp, op, m, cp, rfl, hm, mp1, mp2, x0⟩ := flat_open h
  obtain ⟨bq, oq, n, cq, rfl, hn, nq1, nq2, y0⟩ := flat_open h'
  rw [show opOf (.two 1 a0 a1) = 1 from rfl] at x0
  rw [show opOf (.two 1 b0 b1) = 1 from rfl] at y0
  have c3 := S_EqualExpressions w (flat (.two 1 a0 a1)) (flat (.two 1 b0 b1)) _ _ h h'
  have PP := Lib.hid (fun W (B : Bw w W) => S_l6Parts W 1 a0 a1 bp op m cp (h.bw rNodes_good B) okp lp hm.out mp1 mp2)
  have PQ := Lib.hid (fun W (B : Bw w W) => S_l6Parts W 1 b0 b1 bq oq n cq (h'.bw rNodes_good B) okq lq hn.out nq1 nq2)
  obtain ⟨T, hT⟩ : ∃ T, T = weakT (.two 1 a0 a1) (.two 1 b0 b1) := ⟨_, rfl⟩
  rw [← hT] at HW ⊢
  obtain ⟨E, hE⟩ : ∃ E, E = decide (flat (.two 1 a0 a1) = flat (.two 1 b0 b1)) := ⟨_, rfl⟩
  rw [← hE] at HW c3
  have km : (0 : Int) ≤ (m : Int) := by omega
  have kn : (0 : Int) ≤ (n : Int) := by omega
  have km2 : (m : Int) < (m : Int) + 1 := by omega
  have kn2 : (n : Int) < (n : Int) + 1 := by omega
  clear hT hE okp okq lp lq hm hn h h' IH
  go_enter Tryz.func80, Tryz.ntmps80
  go_wp2_with fail
  refine (c3).mono ?_
  rintro e w3 ⟨rfl, hb3⟩
  have B3 := hb3
  replace x0 := hb3.cell x0
  replace y0 := hb3.cell y0
  clear c3
  rcases Bool.eq_false_or_eq_true (E) with eE | eE
  · have HT := Lib.hid (show T = true by rw [HW.out, eE]; rfl)
    rw [eE]
    clear eE
    go_wp2
    go_ret
    exact Ret.bool (by rw [HT.out]) (B3)
  · have HWE := Lib.hid (HW.out.trans (by rw [eE, Bool.false_or]))
    rw [eE]
    clear eE HW
    have HT := Lib.hid (show T = false by simp [HWE.out])
    go_wp2
    go_ret
    exact Ret.bool (by rw [HT.out]) (B3)
set_option maxRecDepth 100000 in
set_option maxHeartbeats 3200000 in
theorem S_weak_BZ (a0 a1 : XT) (q : XT) (hq1 : opOf q ≠ 1) (hq2 : opOf q ≠ 2) (IH : WeakIHS (.two 1 a0 a1) q) (okp : okT (.two 1 a0 a1)) (okq : okT q) (lp : (flat (.two 1 a0 a1)).length ≤ 9) (lq : (flat q).length ≤ 9) (w : World) (v u : Value) (h : Rd rNodes w (flat (.two 1 a0 a1)) [v]) (h' : Rd rNodes w (flat q) [u]) :
    Calls Tryz.prog 80 #[v, u] w (Ret w (.bool (weakT (.two 1 a0 a1) q))) := by
  have HW := Lib.hid (weak_BZ a0 a1 q hq1 hq2)
  obtain ⟨bp, op, m, cp, rfl, hm, mp1, mp2, x0⟩ := flat_open h
  obtain ⟨bq, oq, n, cq, rfl, hn, nq1, nq2, y0⟩ := flat_open h'
  rw [show opOf (.two 1 a0 a1) = 1 from rfl] at x0
  obtain ⟨r, hr⟩ : ∃ r, r = opOf q := ⟨_, rfl⟩
  rw [← hr] at hq1 hq2 y0
  have n1 : (r == 1) = false := by simpa using hq1
  have n2 : (r == 2) = false := by simpa using hq2
  clear hr hq1 hq2
  have c3 := S_EqualExpressions w (flat (.two 1 a0 a1)) (flat q) _ _ h h'
  have PP := Lib.hid (fun W (B : Bw w W) => S_l6Parts W 1 a0 a1 bp op m cp (h.bw rNodes_good B) okp lp hm.out mp1 mp2)
  obtain ⟨T, hT⟩ : ∃ T, T = weakT (.two 1 a0 a1) q := ⟨_, rfl⟩
  rw [← hT] at HW ⊢
  obtain ⟨E, hE⟩ : ∃ E, E = decide (flat (.two 1 a0 a1) = flat q) := ⟨_, rfl⟩
  rw [← hE] at HW c3
  have km : (0 : Int) ≤ (m : Int) := by omega
  have kn : (0 : Int) ≤ (n : Int) := by omega
  have km2 : (m : Int) < (m : Int) + 1 := by omega
  have kn2 : (n : Int) < (n : Int) + 1 := by omega
  clear hT hE okp okq lp lq hm hn h h' IH
  go_enter Tryz.func80, Tryz.ntmps80
  go_wp2_with fail
  refine (c3).mono ?_
  rintro e w3 ⟨rfl, hb3⟩
  have B3 := hb3
  replace x0 := hb3.cell x0
  replace y0 := hb3.cell y0
  clear c3
  rcases Bool.eq_false_or_eq_true (E) with eE | eE
  · have HT := Lib.hid (show T = true by rw [HW.out, eE]; rfl)
    rw [eE]
    clear eE
    go_wp2
    go_ret
    exact Ret.bool (by rw [HT.out]) (B3)
  · have HWE := Lib.hid (HW.out.trans (by rw [eE, Bool.false_or]))
    rw [eE]
    clear eE HW
    have HT := Lib.hid (show T = false by simp [HWE.out])
    go_wp2
    go_ret
    exact Ret.bool (by rw [HT.out]) (B3)
set_option maxRecDepth 100000 in
set_option maxHeartbeats 3200000 in
theorem S_weak_CX (p : XT) (b0 b1 : XT) (hp1 : opOf p ≠ 1) (hp4 : opOf p ≠ 4) (IH : WeakIHS p (.two 2 b0 b1)) (okp : okT p) (okq : okT (.two 2 b0 b1)) (lp : (flat p).length ≤ 9) (lq : (flat (.two 2 b0 b1)).length ≤ 9) (w : World) (v u : Value) (h : Rd rNodes w (flat p) [v]) (h' : Rd rNodes w (flat (.two 2 b0 b1)) [u]) :
    Calls Tryz.prog 80 #[v, u] w (Ret w (.bool (weakT p (.two 2 b0 b1)))) := by
  have HW := Lib.hid (weak_CX p b0 b1 hp1 hp4)
  obtain ⟨bp, op, m, cp, rfl, hm, mp1, mp2, x0⟩ := flat_open h
  obtain ⟨bq, oq, n, cq, rfl, hn, nq1, nq2, y0⟩ := flat_open h'
  obtain ⟨o, ho⟩ : ∃ o, o = opOf p := ⟨_, rfl⟩
  rw [← ho] at hp1 hp4 x0
  have m1 : (o == 1) = false := by simpa using hp1
  have m4 : (o == 4) = false := by simpa using hp4
  clear ho hp1 hp4
  rw [show opOf (.two 2 b0 b1) = 2 from rfl] at y0
  have c3 := S_EqualExpressions w (flat p) (flat (.two 2 b0 b1)) _ _ h h'
  have PQ := Lib.hid (fun W (B : Bw w W) => S_l6Parts W 2 b0 b1 bq oq n cq (h'.bw rNodes_good B) okq lq hn.out nq1 nq2)
  have l2 := flat_two_len 2 b0 b1
  have i1 := fun W (B : Bw w W) y (hy : Rd rNodes W (flat b0) [y]) => IH p b0 (by first | (simp; omega) | simp) okp okq.2.1 lp (by omega) W _ y (h.bw rNodes_good B) hy
  obtain ⟨T, hT⟩ : ∃ T, T = weakT p (.two 2 b0 b1) := ⟨_, rfl⟩
  rw [← hT] at HW ⊢
  obtain ⟨E, hE⟩ : ∃ E, E = decide (flat p = flat (.two 2 b0 b1)) := ⟨_, rfl⟩
  rw [← hE] at HW c3
  obtain ⟨y1, hy1⟩ : ∃ y, y = weakT p b0 := ⟨_, rfl⟩
  rw [← hy1] at HW
  simp only [← hy1] at i1
  have J1 := Lib.hid i1
  clear hy1 i1
  have km : (0 : Int) ≤ (m : Int) := by omega
  have kn : (0 : Int) ≤ (n : Int) := by omega
  have km2 : (m : Int) < (m : Int) + 1 := by omega
  have kn2 : (n : Int) < (n : Int) + 1 := by omega
  clear hT hE okp okq lp lq hm hn h h' IH l2
  go_enter Tryz.func80, Tryz.ntmps80
  go_wp2_with fail
  refine (c3).mono ?_
  rintro e w3 ⟨rfl, hb3⟩
  have B3 := hb3
  replace x0 := hb3.cell x0
  replace y0 := hb3.cell y0
  clear c3
  rcases Bool.eq_false_or_eq_true (E) with eE | eE
  · have HT := Lib.hid (show T = true by rw [HW.out, eE]; rfl)
    rw [eE]
    clear eE
    go_wp2
    go_ret
    exact Ret.bool (by rw [HT.out]) (B3)
  · have HWE := Lib.hid (HW.out.trans (by rw [eE, Bool.false_or]))
    rw [eE]
    clear eE HW
    go_wp2_with fail
    refine (PQ.out _ B3).mono ?_
    rintro e' w10 ⟨vb0, vb1, rfl, rb0, rb1, hb10⟩
    have B10 := B3.then hb10
    replace x0 := hb10.cell x0
    replace y0 := hb10.cell y0
    go_wp2_with fail
    refine (J1.out _ B10 _ rb0).mono ?_
    rintro e w11 ⟨rfl, hb11⟩
    have B11 := B10.then hb11
    replace x0 := hb11.cell x0
    replace y0 := hb11.cell y0
    rcases Bool.eq_false_or_eq_true (y1) with q1 | q1
    · have HT := Lib.hid (show T = true by simp [HWE.out, q1])
      rw [q1]
      clear q1
      go_wp2
      go_ret
      exact Ret.bool (by rw [HT.out]) (B11)
    · replace HWE := Lib.hid (HWE.out.trans (by rw [q1]))
      rw [q1]
      clear q1 J1
      clear rb0 rb1
      have HT := Lib.hid (show T = false by simp [HWE.out])
      go_wp2
      go_ret
      exact Ret.bool (by rw [HT.out]) (B11)
set_option maxRecDepth 100000 in
set_option maxHeartbeats 3200000 in
theorem S_weak_CY (p : XT) (b0 b1 : XT) (hp1 : opOf p ≠ 1) (hp4 : opOf p ≠ 4) (IH : WeakIHS p (.two 1 b0 b1)) (okp : okT p) (okq : okT (.two 1 b0 b1)) (lp : (flat p).length ≤ 9) (lq : (flat (.two 1 b0 b1)).length ≤ 9) (w : World) (v u : Value) (h : Rd rNodes w (flat p) [v]) (h' : Rd rNodes w (flat (.two 1 b0 b1)) [u]) :
    Calls Tryz.prog 80 #[v, u] w (Ret w (.bool (weakT p (.two 1 b0 b1)))) := by
  have HW := Lib.hid (weak_CY p b0 b1 hp1 hp4)
  obtain ⟨bp, op, m, cp, rfl, hm, mp1, mp2, x0⟩ := flat_open h
  obtain ⟨bq, oq, n, cq, rfl, hn, nq1, nq2, y0⟩ := flat_open h'
  obtain ⟨o, ho⟩ : ∃ o, o = opOf p := ⟨_, rfl⟩
  rw [← ho] at hp1 hp4 x0
  have m1 : (o == 1) = false := by simpa using hp1
  have m4 : (o == 4) = false := by simpa using hp4
  clear ho hp1 hp4
  rw [show opOf (.two 1 b0 b1) = 1 from rfl] at y0
  have c3 := S_EqualExpressions w (flat p) (flat (.two 1 b0 b1)) _ _ h h'
  have PQ := Lib.hid (fun W (B : Bw w W) => S_l6Parts W 1 b0 b1 bq oq n cq (h'.bw rNodes_good B) okq lq hn.out nq1 nq2)
  obtain ⟨T, hT⟩ : ∃ T, T = weakT p (.two 1 b0 b1) := ⟨_, rfl⟩
  rw [← hT] at HW ⊢
  obtain ⟨E, hE⟩ : ∃ E, E = decide (flat p = flat (.two 1 b0 b1)) := ⟨_, rfl⟩
  rw [← hE] at HW c3
  have km : (0 : Int) ≤ (m : Int) := by omega
  have kn : (0 : Int) ≤ (n : Int) := by omega
  have km2 : (m : Int) < (m : Int) + 1 := by omega
  have kn2 : (n : Int) < (n : Int) + 1 := by omega
  clear hT hE okp okq lp lq hm hn h h' IH
  go_enter Tryz.func80, Tryz.ntmps80
  go_wp2_with fail
  refine (c3).mono ?_
  rintro e w3 ⟨rfl, hb3⟩
  have B3 := hb3
  replace x0 := hb3.cell x0
  replace y0 := hb3.cell y0
  clear c3
  rcases Bool.eq_false_or_eq_true (E) with eE | eE
  · have HT := Lib.hid (show T = true by rw [HW.out, eE]; rfl)
    rw [eE]
    clear eE
    go_wp2
    go_ret
    exact Ret.bool (by rw [HT.out]) (B3)
  · have HWE := Lib.hid (HW.out.trans (by rw [eE, Bool.false_or]))
    rw [eE]
    clear eE HW
    have HT := Lib.hid (show T = false by simp [HWE.out])
    go_wp2
    go_ret
    exact Ret.bool (by rw [HT.out]) (B3)
set_option maxRecDepth 100000 in
set_option maxHeartbeats 3200000 in
theorem S_weak_CZ (p : XT) (q : XT) (hp1 : opOf p ≠ 1) (hp4 : opOf p ≠ 4) (hq1 : opOf q ≠ 1) (hq2 : opOf q ≠ 2) (IH : WeakIHS p q) (okp : okT p) (okq : okT q) (lp : (flat p).length ≤ 9) (lq : (flat q).length ≤ 9) (w : World) (v u : Value) (h : Rd rNodes w (flat p) [v]) (h' : Rd rNodes w (flat q) [u]) :
    Calls Tryz.prog 80 #[v, u] w (Ret w (.bool (weakT p q))) := by
  have HW := Lib.hid (weak_CZ p q hp1 hp4 hq1 hq2)
  obtain ⟨bp, op, m, cp, rfl, hm, mp1, mp2, x0⟩ := flat_open h
  obtain ⟨bq, oq, n, cq, rfl, hn, nq1, nq2, y0⟩ := flat_open h'
  obtain ⟨o, ho⟩ : ∃ o, o = opOf p := ⟨_, rfl⟩
  rw [← ho] at hp1 hp4 x0
  have m1 : (o == 1) = false := by simpa using hp1
  have m4 : (o == 4) = false := by simpa using hp4
  clear ho hp1 hp4
  obtain ⟨r, hr⟩ : ∃ r, r = opOf q := ⟨_, rfl⟩
  rw [← hr] at hq1 hq2 y0
  have n1 : (r == 1) = false := by simpa using hq1
  have n2 : (r == 2) = false := by simpa using hq2
  clear hr hq1 hq2
  have c3 := S_EqualExpressions w (flat p) (flat q) _ _ h h'
  obtain ⟨T, hT⟩ : ∃ T, T = weakT p q := ⟨_, rfl⟩
  rw [← hT] at HW ⊢
  obtain ⟨E, hE⟩ : ∃ E, E = decide (flat p = flat q) := ⟨_, rfl⟩
  rw [← hE] at HW c3
  have km : (0 : Int) ≤ (m : Int) := by omega
  have kn : (0 : Int) ≤ (n : Int) := by omega
  have km2 : (m : Int) < (m : Int) + 1 := by omega
  have kn2 : (n : Int) < (n : Int) + 1 := by omega
  clear hT hE okp okq lp lq hm hn h h' IH
  go_enter Tryz.func80, Tryz.ntmps80
  go_wp2_with fail
  refine (c3).mono ?_
  rintro e w3 ⟨rfl, hb3⟩
  have B3 := hb3
  replace x0 := hb3.cell x0
  replace y0 := hb3.cell y0
  clear c3
  rcases Bool.eq_false_or_eq_true (E) with eE | eE
  · have HT := Lib.hid (show T = true by rw [HW.out, eE]; rfl)
    rw [eE]
    clear eE
    go_wp2
    go_ret
    exact Ret.bool (by rw [HT.out]) (B3)
  · have HWE := Lib.hid (HW.out.trans (by rw [eE, Bool.false_or]))
    rw [eE]
    clear eE HW
    have HT := Lib.hid (show T = false by simp [HWE.out])
    go_wp2
    go_ret
    exact Ret.bool (by rw [HT.out]) (B3)
theorem S_weakT : ∀ (N : Nat) (p q : XT), SizeOf.sizeOf p + SizeOf.sizeOf q < N → okT p → okT q → (flat p).length ≤ 9 → (flat q).length ≤ 9 → ∀ (w : World) (v u : Value), Rd rNodes w (flat p) [v] → Rd rNodes w (flat q) [u] → Calls Tryz.prog 80 #[v, u] w (Ret w (.bool (weakT p q)))
  | 0, _, _, h => absurd h (Nat.not_lt_zero _)
  | N + 1, p, q, h => fun okp okq lp lq w v u hp hq => by
    have IH : WeakIHS p q := fun p' q' hlt => S_weakT N p' q' (by omega)
    by_cases p4 : opOf p = 4
    · obtain ⟨a0, a1, rfl⟩ := opOf_two p4 (by omega) (by omega)
      by_cases q2 : opOf q = 2
      · obtain ⟨b0, b1, rfl⟩ := opOf_two q2 (by omega) (by omega)
        exact S_weak_AX a0 a1 b0 b1 IH okp okq lp lq w v u hp hq
      · by_cases q1 : opOf q = 1
        · obtain ⟨b0, b1, rfl⟩ := opOf_two q1 (by omega) (by omega)
          exact S_weak_AY a0 a1 b0 b1 IH okp okq lp lq w v u hp hq
        · exact S_weak_AZ a0 a1 q q1 q2 IH okp okq lp lq w v u hp hq
    · by_cases p1 : opOf p = 1
      · obtain ⟨a0, a1, rfl⟩ := opOf_two p1 (by omega) (by omega)
        by_cases q2 : opOf q = 2
        · obtain ⟨b0, b1, rfl⟩ := opOf_two q2 (by omega) (by omega)
          exact S_weak_BX a0 a1 b0 b1 IH okp okq lp lq w v u hp hq
        · by_cases q1 : opOf q = 1
          · obtain ⟨b0, b1, rfl⟩ := opOf_two q1 (by omega) (by omega)
            exact S_weak_BY a0 a1 b0 b1 IH okp okq lp lq w v u hp hq
          · exact S_weak_BZ a0 a1 q q1 q2 IH okp okq lp lq w v u hp hq
      · by_cases q2 : opOf q = 2
        · obtain ⟨b0, b1, rfl⟩ := opOf_two q2 (by omega) (by omega)
          exact S_weak_CX p b0 b1 p1 p4 IH okp okq lp lq w v u hp hq
        · by_cases q1 : opOf q = 1
          · obtain ⟨b0, b1, rfl⟩ := opOf_two q1 (by omega) (by omega)
            exact S_weak_CY p b0 b1 p1 p4 IH okp okq lp lq w v u hp hq
          · exact S_weak_CZ p q p1 p4 q1 q2 IH okp okq lp lq w v u hp hq
set_option maxHeartbeats 800000 in
theorem S_IsWeaker (w : World) (p q : List GNode) (v u : Value) (h : Rd rNodes w p [v]) (h' : Rd rNodes w q [u]) : Calls Tryz.prog 20 #[v, u] w (Ret w (.bool (isWeaker p q))) := by
  have c1 := S_IsExpression w p v h
  have c2 := Lib.hid (fun W (B : Bw w W) => S_IsExpression W q u (h'.bw rNodes_good B))
  have HW : Hid (isExpr p = true → isExpr q = true → ∀ W, Bw w W → Calls Tryz.prog 80 #[v, u] W (Ret W (.bool (isWeaker p q)))) := Lib.hid (fun e1 e2 W B => by
    obtain ⟨s, t, hs, ht, rfl, rfl, e⟩ := weak_trees e1 e2
    rw [e]
    exact S_weakT _ s t (Nat.lt_succ_self _) hs ht (expr_len e1) (expr_len e2) W v u (h.bw rNodes_good B) (h'.bw rNodes_good B))
  obtain ⟨T, hT⟩ : ∃ T, T = isWeaker p q := ⟨_, rfl⟩
  rw [← hT] at HW ⊢
  have HT := Lib.hid hT
  clear hT h h'
  go_enter Tryz.func20, Tryz.ntmps20
  go_wp2_with fail
  refine (c1).mono ?_
  rintro e w1 ⟨rfl, hb1⟩
  rcases Bool.eq_false_or_eq_true (isExpr p) with e1 | e1
  · have E1 := Lib.hid e1
    rw [e1]
    clear e1 c1
    go_wp2_with fail
    refine (c2.out _ hb1).mono ?_
    rintro e w2 ⟨rfl, hb2⟩
    have B2 := hb1.then hb2
    rcases Bool.eq_false_or_eq_true (isExpr q) with e2 | e2
    · have E2 := Lib.hid e2
      rw [e2]
      clear e2
      go_wp2_with fail
      refine (HW.out E1.out E2.out _ B2).mono ?_
      rintro e w3 ⟨rfl, hb3⟩
      go_wp2
      go_ret
      exact Ret.bool (rfl) (B2.then hb3)
    · have HF := Lib.hid (show T = false by rw [HT.out]; exact weak_no (by rw [e2, Bool.and_false]))
      rw [e2]
      clear e2
      go_wp2
      go_ret
      exact Ret.bool (by rw [HF.out]) (B2)
  · have HF := Lib.hid (show T = false by rw [HT.out]; exact weak_no (by rw [e1, Bool.false_and]))
    rw [e1]
    clear e1
    go_wp2
    go_ret
    exact Ret.bool (by rw [HF.out]) (hb1)
end Go.Proofs.YthlaabaffbffkaaGreat
