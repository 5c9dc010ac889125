/- For every input, FnExactFastCouples returns true and leaves its arguments as they were. No condition. -/
import Derived.Test.YtfffklkiikmieaaRows
import Derived.Test.YtfffklkiikmieaaFastC
import Derived.Test.YtfffklkiikmieaaMarksCo
import Derived.Test.YtfffklkiikmieaaMarks4
import Derived.Test.YtfffklkiikmieaaOpen
namespace Go.Proofs.Ytfffklkiikmieaa
open Go.RowKit Go.ChangeShapes Go.WideShapes Go.ChangeAt
set_option linter.unusedVariables false
theorem two_fast (a b : List GItem) (f g : Int) (p q : List GNode) : 2 * (fastL a b f g p q).length ≤ 1048576 := by have := fastL_len a b f g p q; omega
set_option maxRecDepth 100000 in
set_option maxHeartbeats 6000000 in
theorem walk_FnExactFastCouples (w : World) (x0 : List GItem) (v0 : Value) (h0 : Rd rItems w x0 [v0]) (q0 : ∀ x ∈ x0, wfItem x) (x1 : List GItem) (v1 : Value) (h1 : Rd rItems w x1 [v1]) (q1 : ∀ x ∈ x1, wfItem x) (x2 : Int) (q2 : (Lit.int .i64 x2).wf = true) (x3 : Int) (q3 : (Lit.int .i64 x3).wf = true) (x4 : List GNode) (v4 : Value) (h4 : Rd rNodes w x4 [v4]) (q4 : ∀ x ∈ x4, wfNode x) (x5 : List GNode) (v5 : Value) (h5 : Rd rNodes w x5 [v5]) (q5 : ∀ x ∈ x5, wfNode x) :
    Calls Try.prog 3 #[v0, v1, .int .i64 x2, .int .i64 x3, v4, v5] w (Ret w (.bool true)) := by
  go_enter Try.func3, Try.ntmps3
  go_wp2_with fail
  refine (L_szItemS _ x0 _ (h0.bw rItems_good (Bw.refl w)) (1048576 : Int) (by omega) (by omega)).mono ?_
  rintro e w1 ⟨rfl, hb1⟩
  have B1 : Bw w _ := (Bw.refl w).then hb1
  by_cases s0 : (1048576 : Int) < ((totItems x0 : Nat) : Int)
  · rw [show szM (1048576 : Int) (totItems x0) = -1 from if_pos s0]
    go_wp2
    go_ret
    exact Ret.bool rfl B1
  rw [show szM (1048576 : Int) (totItems x0) = ((1048576 : Int) - ((totItems x0 : Nat) : Int)) from if_neg s0]
  have t0 : totItems x0 ≤ 1048576 := by omega
  go_wp2_with fail
  refine (L_szItemS _ x1 _ (h1.bw rItems_good B1) ((1048576 : Int) - ((totItems x0 : Nat) : Int)) (by omega) (by omega)).mono ?_
  rintro e w2 ⟨rfl, hb2⟩
  have B2 : Bw w _ := B1.then hb2
  by_cases s1 : ((1048576 : Int) - ((totItems x0 : Nat) : Int)) < ((totItems x1 : Nat) : Int)
  · rw [show szM ((1048576 : Int) - ((totItems x0 : Nat) : Int)) (totItems x1) = -1 from if_pos s1]
    go_wp2
    go_ret
    exact Ret.bool rfl B2
  rw [show szM ((1048576 : Int) - ((totItems x0 : Nat) : Int)) (totItems x1) = (((1048576 : Int) - ((totItems x0 : Nat) : Int)) - ((totItems x1 : Nat) : Int)) from if_neg s1]
  have t1 : totItems x1 ≤ 1048576 := by omega
  go_wp2_with fail
  refine (L_szNodeS _ x4 _ (h4.bw rNodes_good B2) (((1048576 : Int) - ((totItems x0 : Nat) : Int)) - ((totItems x1 : Nat) : Int)) (by omega) (by omega)).mono ?_
  rintro e w3 ⟨rfl, hb3⟩
  have B3 : Bw w _ := B2.then hb3
  by_cases s4 : (((1048576 : Int) - ((totItems x0 : Nat) : Int)) - ((totItems x1 : Nat) : Int)) < ((totNodes x4 : Nat) : Int)
  · rw [show szM (((1048576 : Int) - ((totItems x0 : Nat) : Int)) - ((totItems x1 : Nat) : Int)) (totNodes x4) = -1 from if_pos s4]
    go_wp2
    go_ret
    exact Ret.bool rfl B3
  rw [show szM (((1048576 : Int) - ((totItems x0 : Nat) : Int)) - ((totItems x1 : Nat) : Int)) (totNodes x4) = ((((1048576 : Int) - ((totItems x0 : Nat) : Int)) - ((totItems x1 : Nat) : Int)) - ((totNodes x4 : Nat) : Int)) from if_neg s4]
  have t4 : totNodes x4 ≤ 1048576 := by omega
  go_wp2_with fail
  refine (L_szNodeS _ x5 _ (h5.bw rNodes_good B3) ((((1048576 : Int) - ((totItems x0 : Nat) : Int)) - ((totItems x1 : Nat) : Int)) - ((totNodes x4 : Nat) : Int)) (by omega) (by omega)).mono ?_
  rintro e w4 ⟨rfl, hb4⟩
  have B4 : Bw w _ := B3.then hb4
  by_cases s5 : ((((1048576 : Int) - ((totItems x0 : Nat) : Int)) - ((totItems x1 : Nat) : Int)) - ((totNodes x4 : Nat) : Int)) < ((totNodes x5 : Nat) : Int)
  · rw [show szM ((((1048576 : Int) - ((totItems x0 : Nat) : Int)) - ((totItems x1 : Nat) : Int)) - ((totNodes x4 : Nat) : Int)) (totNodes x5) = -1 from if_pos s5]
    go_wp2
    go_ret
    exact Ret.bool rfl B4
  rw [show szM ((((1048576 : Int) - ((totItems x0 : Nat) : Int)) - ((totItems x1 : Nat) : Int)) - ((totNodes x4 : Nat) : Int)) (totNodes x5) = (((((1048576 : Int) - ((totItems x0 : Nat) : Int)) - ((totItems x1 : Nat) : Int)) - ((totNodes x4 : Nat) : Int)) - ((totNodes x5 : Nat) : Int)) from if_neg s5]
  have t5 : totNodes x5 ≤ 1048576 := by omega
  go_wp2_with fail
  refine (L_toItemS _ x0 _ (by exact (h0.bw rItems_good B4)) t0).mono ?_
  rintro e w5 ⟨a0, rfl, ⟨aF0, ao0, af0⟩, hb5⟩
  have B5 : Bw w _ := B4.then hb5
  have ar0 := fItems_Rd ao0
  go_wp2_with fail
  refine (L_toItemS _ x1 _ (by exact (h1.bw rItems_good B5)) t1).mono ?_
  rintro e w6 ⟨a1, rfl, ⟨aF1, ao1, af1⟩, hb6⟩
  have B6 : Bw w _ := B5.then hb6
  replace ar0 := ar0.bw rItems_good hb6
  have ar1 := fItems_Rd ao1
  go_wp2_with fail
  refine (L_toNodeS _ x4 _ (by exact (h4.bw rNodes_good B6)) t4).mono ?_
  rintro e w7 ⟨a4, rfl, ⟨aF4, ao4, af4⟩, hb7⟩
  have B7 : Bw w _ := B6.then hb7
  replace ar0 := ar0.bw rItems_good hb7
  replace ar1 := ar1.bw rItems_good hb7
  have ar4 := fNodes_Rd ao4
  go_wp2_with fail
  refine (L_toNodeS _ x5 _ (by exact (h5.bw rNodes_good B7)) t5).mono ?_
  rintro e w8 ⟨a5, rfl, ⟨aF5, ao5, af5⟩, hb8⟩
  have B8 : Bw w _ := B7.then hb8
  replace ar0 := ar0.bw rItems_good hb8
  replace ar1 := ar1.bw rItems_good hb8
  replace ar4 := ar4.bw rNodes_good hb8
  have ar5 := fNodes_Rd ao5
  go_wp2_with fail
  refine (S_FastCouples _ x0 x1 x2 x3 x4 x5 _ _ _ _ (by exact ar0) (by exact ar1) (by exact ar4) (by exact ar5)).mono ?_
  rintro e w9 ⟨_, rfl, ⟨vW, rfl, ⟨FW, oW, fW⟩⟩, hb9⟩
  have B9 : Bw w _ := B8.then hb9
  replace ar0 := ar0.bw rItems_good hb9
  replace ar1 := ar1.bw rItems_good hb9
  replace ar4 := ar4.bw rNodes_good hb9
  replace ar5 := ar5.bw rNodes_good hb9
  obtain ⟨Z0, hZ0⟩ : ∃ Z, Z = fastN x0 x1 x2 x3 x4 x5 := ⟨_, rfl⟩
  rw [← hZ0]
  have HZ0 := Lib.hid hZ0
  clear hZ0
  obtain ⟨Y, hY⟩ : ∃ Y, Y = fastL x0 x1 x2 x3 x4 x5 := ⟨_, rfl⟩
  have tY : 2 * Y.length ≤ 1048576 := by rw [hY]; exact two_fast x0 x1 x2 x3 x4 x5
  rw [← hY] at oW
  have rW := fCouples_Rd oW
  have k0 := h0.bw rItems_good B9
  have k1 := h1.bw rItems_good B9
  have k4 := h4.bw rNodes_good B9
  have k5 := h5.bw rNodes_good B9
  have HY := Lib.hid hY
  clear hY oW fW ar0 ao0 af0 ar1 ao1 af1 ar4 ao4 af4 ar5 ao5 af5
  go_wp2_with fail
  refine (L_toItemS _ x0 _ (by exact (k0.bw rItems_good (Bw.refl w9))) t0).mono ?_
  rintro e w10 ⟨b0, rfl, ⟨bF0, bo0, bf0⟩, hb10⟩
  have C1 : Bw w9 _ := (Bw.refl w9).then hb10
  replace bf0 := bf0.mono (Bw.refl w9).size
  have lt0_1 := (fItems_good (B := 0)).lt bo0
  go_wp2_with fail
  refine (L_toItemS _ x1 _ (by exact (k1.bw rItems_good C1)) t1).mono ?_
  rintro e w11 ⟨b1, rfl, ⟨bF1, bo1, bf1⟩, hb11⟩
  have C2 : Bw w9 _ := C1.then hb11
  replace bo0 := (fItems_good (B := w9.heap.size)).bw hb11 C1.size bo0
  have hd0_1 : ∀ b ∈ bF1, b ∉ bF0 := fun b hb hb2 => by have := bf1.ge b hb; have := lt0_1 b hb2; omega
  replace bf1 := bf1.mono C1.size
  have lt0_4 := (fItems_good (B := 0)).lt bo0
  have lt1_4 := (fItems_good (B := 0)).lt bo1
  go_wp2_with fail
  refine (L_toNodeS _ x4 _ (by exact (k4.bw rNodes_good C2)) t4).mono ?_
  rintro e w12 ⟨b4, rfl, ⟨bF4, bo4, bf4⟩, hb12⟩
  have C3 : Bw w9 _ := C2.then hb12
  replace bo0 := (fItems_good (B := w9.heap.size)).bw hb12 C2.size bo0
  replace bo1 := (fItems_good (B := w9.heap.size)).bw hb12 C2.size bo1
  have hd0_4 : ∀ b ∈ bF4, b ∉ bF0 := fun b hb hb2 => by have := bf4.ge b hb; have := lt0_4 b hb2; omega
  have hd1_4 : ∀ b ∈ bF4, b ∉ bF1 := fun b hb hb2 => by have := bf4.ge b hb; have := lt1_4 b hb2; omega
  replace bf4 := bf4.mono C2.size
  have lt0_5 := (fItems_good (B := 0)).lt bo0
  have lt1_5 := (fItems_good (B := 0)).lt bo1
  have lt4_5 := (fNodes_good (B := 0)).lt bo4
  go_wp2_with fail
  refine (L_toNodeS _ x5 _ (by exact (k5.bw rNodes_good C3)) t5).mono ?_
  rintro e w13 ⟨b5, rfl, ⟨bF5, bo5, bf5⟩, hb13⟩
  have C4 : Bw w9 _ := C3.then hb13
  replace bo0 := (fItems_good (B := w9.heap.size)).bw hb13 C3.size bo0
  replace bo1 := (fItems_good (B := w9.heap.size)).bw hb13 C3.size bo1
  replace bo4 := (fNodes_good (B := w9.heap.size)).bw hb13 C3.size bo4
  have hd0_5 : ∀ b ∈ bF5, b ∉ bF0 := fun b hb hb2 => by have := bf5.ge b hb; have := lt0_5 b hb2; omega
  have hd1_5 : ∀ b ∈ bF5, b ∉ bF1 := fun b hb hb2 => by have := bf5.ge b hb; have := lt1_5 b hb2; omega
  have hd4_5 : ∀ b ∈ bF5, b ∉ bF4 := fun b hb hb2 => by have := bf5.ge b hb; have := lt4_5 b hb2; omega
  replace bf5 := bf5.mono C3.size
  have lt0_G := (fItems_good (B := 0)).lt bo0
  have lt1_G := (fItems_good (B := 0)).lt bo1
  have lt4_G := (fNodes_good (B := 0)).lt bo4
  have lt5_G := (fNodes_good (B := 0)).lt bo5
  go_wp2_with fail
  refine (I_FastCouples _ x0 x1 x2 x3 x4 x5 _ _ _ _ (by exact fItems_Rd bo0) (by exact fItems_Rd bo1) (by exact fNodes_Rd bo4) (by exact fNodes_Rd bo5)).mono ?_
  rintro e w14 ⟨_, rfl, ⟨vG, rfl, ⟨FG, oG, fG⟩⟩, hb14⟩
  have C5 : Bw w9 _ := C4.then hb14
  replace bo0 := (fItems_good (B := w9.heap.size)).bw hb14 C4.size bo0
  replace bo1 := (fItems_good (B := w9.heap.size)).bw hb14 C4.size bo1
  replace bo4 := (fNodes_good (B := w9.heap.size)).bw hb14 C4.size bo4
  replace bo5 := (fNodes_good (B := w9.heap.size)).bw hb14 C4.size bo5
  rw [← HZ0.out]
  have hd0_G : ∀ b ∈ FG, b ∉ bF0 := fun b hb hb2 => by have := fG.ge b hb; have := lt0_G b hb2; omega
  have hd1_G : ∀ b ∈ FG, b ∉ bF1 := fun b hb hb2 => by have := fG.ge b hb; have := lt1_G b hb2; omega
  have hd4_G : ∀ b ∈ FG, b ∉ bF4 := fun b hb hb2 => by have := fG.ge b hb; have := lt4_G b hb2; omega
  have hd5_G : ∀ b ∈ FG, b ∉ bF5 := fun b hb hb2 => by have := fG.ge b hb; have := lt5_G b hb2; omega
  replace fG := fG.mono C4.size
  rw [← HY.out] at oG
  go_wp2_with fail
  refine (L_eqCoupleS _ Y Y _ _ (fCouples_Rd oG) (rW.bw rPairs_good C5)).mono ?_
  rintro e w15 ⟨rfl, hb15⟩
  have C6 : Bw w9 _ := C5.then hb15
  replace bo0 := (fItems_good (B := w9.heap.size)).bw hb15 C5.size bo0
  replace bo1 := (fItems_good (B := w9.heap.size)).bw hb15 C5.size bo1
  replace bo4 := (fNodes_good (B := w9.heap.size)).bw hb15 C5.size bo4
  replace bo5 := (fNodes_good (B := w9.heap.size)).bw hb15 C5.size bo5
  replace oG := (fCouples_good (B := w9.heap.size)).bw hb15 C5.size oG
  rw [show decide (Y = Y) = true from by simp]
  go_wp2_with fail
  refine (L_toItemS _ x0 _ (by exact (k0.bw rItems_good C6)) t0).mono ?_
  rintro e w16 ⟨c0, rfl, ⟨cF0, co0, cf0⟩, hb16⟩
  have C7 : Bw w9 _ := C6.then hb16
  replace bo0 := (fItems_good (B := w9.heap.size)).bw hb16 C6.size bo0
  replace bo1 := (fItems_good (B := w9.heap.size)).bw hb16 C6.size bo1
  replace bo4 := (fNodes_good (B := w9.heap.size)).bw hb16 C6.size bo4
  replace bo5 := (fNodes_good (B := w9.heap.size)).bw hb16 C6.size bo5
  replace oG := (fCouples_good (B := w9.heap.size)).bw hb16 C6.size oG
  go_wp2_with fail
  refine (L_eqItemS _ x0 x0 _ _ (fItems_Rd bo0) (fItems_Rd co0)).mono ?_
  rintro e w17 ⟨rfl, hb17⟩
  have C8 : Bw w9 _ := C7.then hb17
  replace bo0 := (fItems_good (B := w9.heap.size)).bw hb17 C7.size bo0
  replace bo1 := (fItems_good (B := w9.heap.size)).bw hb17 C7.size bo1
  replace bo4 := (fNodes_good (B := w9.heap.size)).bw hb17 C7.size bo4
  replace bo5 := (fNodes_good (B := w9.heap.size)).bw hb17 C7.size bo5
  replace oG := (fCouples_good (B := w9.heap.size)).bw hb17 C7.size oG
  rw [show decide (x0 = x0) = true from by simp]
  clear co0 cf0
  go_wp2_with fail
  refine (L_toItemS _ x1 _ (by exact (k1.bw rItems_good C8)) t1).mono ?_
  rintro e w18 ⟨c1, rfl, ⟨cF1, co1, cf1⟩, hb18⟩
  have C9 : Bw w9 _ := C8.then hb18
  replace bo0 := (fItems_good (B := w9.heap.size)).bw hb18 C8.size bo0
  replace bo1 := (fItems_good (B := w9.heap.size)).bw hb18 C8.size bo1
  replace bo4 := (fNodes_good (B := w9.heap.size)).bw hb18 C8.size bo4
  replace bo5 := (fNodes_good (B := w9.heap.size)).bw hb18 C8.size bo5
  replace oG := (fCouples_good (B := w9.heap.size)).bw hb18 C8.size oG
  go_wp2_with fail
  refine (L_eqItemS _ x1 x1 _ _ (fItems_Rd bo1) (fItems_Rd co1)).mono ?_
  rintro e w19 ⟨rfl, hb19⟩
  have C10 : Bw w9 _ := C9.then hb19
  replace bo0 := (fItems_good (B := w9.heap.size)).bw hb19 C9.size bo0
  replace bo1 := (fItems_good (B := w9.heap.size)).bw hb19 C9.size bo1
  replace bo4 := (fNodes_good (B := w9.heap.size)).bw hb19 C9.size bo4
  replace bo5 := (fNodes_good (B := w9.heap.size)).bw hb19 C9.size bo5
  replace oG := (fCouples_good (B := w9.heap.size)).bw hb19 C9.size oG
  rw [show decide (x1 = x1) = true from by simp]
  clear co1 cf1
  go_wp2_with fail
  refine (L_toNodeS _ x4 _ (by exact (k4.bw rNodes_good C10)) t4).mono ?_
  rintro e w20 ⟨c4, rfl, ⟨cF4, co4, cf4⟩, hb20⟩
  have C11 : Bw w9 _ := C10.then hb20
  replace bo0 := (fItems_good (B := w9.heap.size)).bw hb20 C10.size bo0
  replace bo1 := (fItems_good (B := w9.heap.size)).bw hb20 C10.size bo1
  replace bo4 := (fNodes_good (B := w9.heap.size)).bw hb20 C10.size bo4
  replace bo5 := (fNodes_good (B := w9.heap.size)).bw hb20 C10.size bo5
  replace oG := (fCouples_good (B := w9.heap.size)).bw hb20 C10.size oG
  go_wp2_with fail
  refine (L_eqNodeS _ x4 x4 _ _ (fNodes_Rd bo4) (fNodes_Rd co4)).mono ?_
  rintro e w21 ⟨rfl, hb21⟩
  have C12 : Bw w9 _ := C11.then hb21
  replace bo0 := (fItems_good (B := w9.heap.size)).bw hb21 C11.size bo0
  replace bo1 := (fItems_good (B := w9.heap.size)).bw hb21 C11.size bo1
  replace bo4 := (fNodes_good (B := w9.heap.size)).bw hb21 C11.size bo4
  replace bo5 := (fNodes_good (B := w9.heap.size)).bw hb21 C11.size bo5
  replace oG := (fCouples_good (B := w9.heap.size)).bw hb21 C11.size oG
  rw [show decide (x4 = x4) = true from by simp]
  clear co4 cf4
  go_wp2_with fail
  refine (L_toNodeS _ x5 _ (by exact (k5.bw rNodes_good C12)) t5).mono ?_
  rintro e w22 ⟨c5, rfl, ⟨cF5, co5, cf5⟩, hb22⟩
  have C13 : Bw w9 _ := C12.then hb22
  replace bo0 := (fItems_good (B := w9.heap.size)).bw hb22 C12.size bo0
  replace bo1 := (fItems_good (B := w9.heap.size)).bw hb22 C12.size bo1
  replace bo4 := (fNodes_good (B := w9.heap.size)).bw hb22 C12.size bo4
  replace bo5 := (fNodes_good (B := w9.heap.size)).bw hb22 C12.size bo5
  replace oG := (fCouples_good (B := w9.heap.size)).bw hb22 C12.size oG
  go_wp2_with fail
  refine (L_eqNodeS _ x5 x5 _ _ (fNodes_Rd bo5) (fNodes_Rd co5)).mono ?_
  rintro e w23 ⟨rfl, hb23⟩
  have C14 : Bw w9 _ := C13.then hb23
  replace bo0 := (fItems_good (B := w9.heap.size)).bw hb23 C13.size bo0
  replace bo1 := (fItems_good (B := w9.heap.size)).bw hb23 C13.size bo1
  replace bo4 := (fNodes_good (B := w9.heap.size)).bw hb23 C13.size bo4
  replace bo5 := (fNodes_good (B := w9.heap.size)).bw hb23 C13.size bo5
  replace oG := (fCouples_good (B := w9.heap.size)).bw hb23 C13.size oG
  rw [show decide (x5 = x5) = true from by simp]
  clear co5 cf5
  have hm24 := fun (W : World) (o : _) (c : Bw w9 W) => L_markItemS w9 W x0 b0 bF0 1 o bf0 c (by omega) (by omega)
  obtain ⟨T0, hT0⟩ : ∃ T0, T0 = 1 + totItems x0 := ⟨_, rfl⟩
  rw [← hT0] at hm24
  have BT0 : T0 ≤ 1048577 := by omega
  have HT0 := Lib.hid hT0
  clear hT0
  go_wp2_with fail
  refine (hm24 _ bo0 C14).mono ?_
  rintro e w24 ⟨rfl, nw24, hO24, C15⟩
  replace bo1 := hO24.keeps (fItems_good (B := 0)) bo1 hd0_1
  replace bo4 := hO24.keeps (fNodes_good (B := 0)) bo4 hd0_4
  replace bo5 := hO24.keeps (fNodes_good (B := 0)) bo5 hd0_5
  replace oG := hO24.keeps (fCouples_good (B := 0)) oG hd0_G
  replace bo0 := nw24
  clear hm24 nw24 hO24
  clear bo0
  have hm25 := fun (W : World) (o : _) (c : Bw w9 W) => L_markItemS w9 W x1 b1 bF1 T0 o bf1 c (by omega) (by have := HT0.out; omega)
  obtain ⟨T1, hT1⟩ : ∃ T1, T1 = T0 + totItems x1 := ⟨_, rfl⟩
  rw [← hT1] at hm25
  have BT1 : T1 ≤ 1048577 := by have := HT0.out; omega
  have HT1 := Lib.hid hT1
  clear hT1
  go_wp2_with fail
  refine (hm25 _ bo1 C15).mono ?_
  rintro e w25 ⟨rfl, nw25, hO25, C16⟩
  replace bo4 := hO25.keeps (fNodes_good (B := 0)) bo4 hd1_4
  replace bo5 := hO25.keeps (fNodes_good (B := 0)) bo5 hd1_5
  replace oG := hO25.keeps (fCouples_good (B := 0)) oG hd1_G
  replace bo1 := nw25
  clear hm25 nw25 hO25
  clear bo1
  have mt4 := markNodes_le x4
  have hm26 := fun (W : World) (o : _) (c : Bw w9 W) => L_markNodeS w9 W x4 b4 bF4 T1 o bf4 c (by omega) (by have := HT0.out; have := HT1.out; omega)
  obtain ⟨T4, hT4⟩ : ∃ T4, T4 = T1 + markNodes x4 := ⟨_, rfl⟩
  rw [← hT4] at hm26
  have BT4 : T4 ≤ 4194305 := by have := HT0.out; have := HT1.out; omega
  have HT4 := Lib.hid hT4
  clear hT4
  go_wp2_with fail
  refine (hm26 _ bo4 C16).mono ?_
  rintro e w26 ⟨rfl, nw26, hO26, C17⟩
  replace bo5 := hO26.keeps (fNodes_good (B := 0)) bo5 hd4_5
  replace oG := hO26.keeps (fCouples_good (B := 0)) oG hd4_G
  replace bo4 := nw26
  clear hm26 nw26 hO26
  clear bo4
  have mt5 := markNodes_le x5
  have hm27 := fun (W : World) (o : _) (c : Bw w9 W) => L_markNodeS w9 W x5 b5 bF5 T4 o bf5 c (by omega) (by have := HT0.out; have := HT1.out; have := HT4.out; omega)
  obtain ⟨T5, hT5⟩ : ∃ T5, T5 = T4 + markNodes x5 := ⟨_, rfl⟩
  rw [← hT5] at hm27
  have BT5 : T5 ≤ 4194305 := by have := HT0.out; have := HT1.out; have := HT4.out; omega
  have HT5 := Lib.hid hT5
  clear hT5
  go_wp2_with fail
  refine (hm27 _ bo5 C17).mono ?_
  rintro e w27 ⟨rfl, nw27, hO27, C18⟩
  replace oG := hO27.keeps (fCouples_good (B := 0)) oG hd5_G
  replace bo5 := nw27
  clear hm27 nw27 hO27
  clear bo5
  go_wp2_with fail
  refine (L_eqCoupleS _ Y Y _ _ (fCouples_Rd oG) (rW.bw rPairs_good C18)).mono ?_
  rintro e w28 ⟨rfl, hb28⟩
  have C19 : Bw w9 _ := C18.then hb28
  replace oG := (fCouples_good (B := w9.heap.size)).bw hb28 C18.size oG
  rw [show decide (Y = Y) = true from by simp]
  have hm29 := fun (W : World) (o : _) (c : Bw w9 W) => L_markCoupleS w9 W Y vG FG 1 o fG c (by omega) (by omega)
  obtain ⟨TM, hTM⟩ : ∃ TM, TM = 1 + 2 * Y.length := ⟨_, rfl⟩
  rw [← hTM] at hm29
  have BTM : TM ≤ 1048577 := by omega
  have HTM := Lib.hid hTM
  clear hTM
  go_wp2_with fail
  refine (hm29 _ oG C19).mono ?_
  rintro e w29 ⟨rfl, nw29, hO29, C20⟩
  replace oG := nw29
  clear hm29 nw29 hO29
  have hh29 := fun (W : World) (o : _) => L_heldCoupleS W Y vG 1 o (by omega) (by omega)
  rw [← HTM.out] at hh29
  go_wp2_with fail
  refine (hh29 _ (fCouples_Rd oG)).mono ?_
  rintro e w30 ⟨rfl, hb30⟩
  have C21 : Bw w9 _ := C20.then hb30
  replace oG := (fCouples_good (B := w9.heap.size)).bw hb30 C20.size oG
  clear hh29
  go_wp2_with fail
  refine (L_toItemS _ x0 _ (by exact (k0.bw rItems_good C21)) t0).mono ?_
  rintro e w31 ⟨d0, rfl, ⟨dF0, do0, df0⟩, hb31⟩
  have C22 : Bw w9 _ := C21.then hb31
  replace oG := (fCouples_good (B := w9.heap.size)).bw hb31 C21.size oG
  go_wp2_with fail
  refine (L_toItemS _ x1 _ (by exact (k1.bw rItems_good C22)) t1).mono ?_
  rintro e w32 ⟨d1, rfl, ⟨dF1, do1, df1⟩, hb32⟩
  have C23 : Bw w9 _ := C22.then hb32
  replace oG := (fCouples_good (B := w9.heap.size)).bw hb32 C22.size oG
  replace do0 := (fItems_good (B := w9.heap.size)).bw hb32 C22.size do0
  go_wp2_with fail
  refine (L_toNodeS _ x4 _ (by exact (k4.bw rNodes_good C23)) t4).mono ?_
  rintro e w33 ⟨d4, rfl, ⟨dF4, do4, df4⟩, hb33⟩
  have C24 : Bw w9 _ := C23.then hb33
  replace oG := (fCouples_good (B := w9.heap.size)).bw hb33 C23.size oG
  replace do0 := (fItems_good (B := w9.heap.size)).bw hb33 C23.size do0
  replace do1 := (fItems_good (B := w9.heap.size)).bw hb33 C23.size do1
  go_wp2_with fail
  refine (L_toNodeS _ x5 _ (by exact (k5.bw rNodes_good C24)) t5).mono ?_
  rintro e w34 ⟨d5, rfl, ⟨dF5, do5, df5⟩, hb34⟩
  have C25 : Bw w9 _ := C24.then hb34
  replace oG := (fCouples_good (B := w9.heap.size)).bw hb34 C24.size oG
  replace do0 := (fItems_good (B := w9.heap.size)).bw hb34 C24.size do0
  replace do1 := (fItems_good (B := w9.heap.size)).bw hb34 C24.size do1
  replace do4 := (fNodes_good (B := w9.heap.size)).bw hb34 C24.size do4
  go_wp2_with fail
  refine (I_FastCouples _ x0 x1 x2 x3 x4 x5 _ _ _ _ (by exact fItems_Rd do0) (by exact fItems_Rd do1) (by exact fNodes_Rd do4) (by exact fNodes_Rd do5)).mono ?_
  rintro e w35 ⟨_, rfl, ⟨vH, rfl, ⟨FH, oH, fH⟩⟩, hb35⟩
  have C26 : Bw w9 _ := C25.then hb35
  replace oG := (fCouples_good (B := w9.heap.size)).bw hb35 C25.size oG
  replace do0 := (fItems_good (B := w9.heap.size)).bw hb35 C25.size do0
  replace do1 := (fItems_good (B := w9.heap.size)).bw hb35 C25.size do1
  replace do4 := (fNodes_good (B := w9.heap.size)).bw hb35 C25.size do4
  replace do5 := (fNodes_good (B := w9.heap.size)).bw hb35 C25.size do5
  rw [← HZ0.out]
  rw [← HY.out] at oH
  clear do0 df0
  clear do1 df1
  clear do4 df4
  clear do5 df5
  go_wp2_with fail
  refine (L_eqCoupleS _ Y Y _ _ (fCouples_Rd oH) (rW.bw rPairs_good C26)).mono ?_
  rintro e w36 ⟨rfl, hb36⟩
  have C27 : Bw w9 _ := C26.then hb36
  replace oG := (fCouples_good (B := w9.heap.size)).bw hb36 C26.size oG
  rw [show decide (Y = Y) = true from by simp]
  have hh36 := fun (W : World) (o : _) => L_heldCoupleS W Y vG 1 o (by omega) (by omega)
  rw [← HTM.out] at hh36
  go_wp2_with fail
  refine (hh36 _ (fCouples_Rd oG)).mono ?_
  rintro e w37 ⟨rfl, hb37⟩
  have C28 : Bw w9 _ := C27.then hb37
  replace oG := (fCouples_good (B := w9.heap.size)).bw hb37 C27.size oG
  clear hh36
  go_wp2
  go_ret
  exact Ret.bool rfl (B9.then C28)
set_option maxRecDepth 100000 in
theorem lifted_FnExactFastCouples (os : Os) (started : os.Started) (H : Type) (enc : TypeId × Value → H) :
    ReturnsInHanded {} Try.checked os 3 .any (Rows.fnExactFastCouplesSpec.pre6 enc Try.prog Try.f3 Rows.fnExactFastCouplesRow.domain false) (Rows.fnExactFastCouplesSpec.post enc Try.prog Try.f3 false true false false) := by
  refine returnsInHanded_of_change (C := Try.checked) own_knob started (by kernel_rfl) Try.func3
    (ChangeSpec.witness6 (enc := enc) (C := Try.checked) false ⟨#[], #[.slice none 0 0, .slice none 0 0, .int .i64 0, .int .i64 0, .slice none 0 0, .slice none 0 0], []⟩ 8 (by kernel_rfl) (by kernel_rfl) (by kernel_rfl) (by kernel_rfl)) ?_
  intro W base args ds gs before hval0 hW hcnd _
  have hval : ∀ (j : Nat) t v, Try.f3.params[j]? = some t → args[j]? = some v → Value.okWide Try.prog W .any base t v := hval0
  have hW' := hW
  obtain ⟨p, q, hA0, hV, rfl, hfz, hnd⟩ := hW
  have hA : DataW.TrodAll enc Try.prog W 0 (fun _ => true) true Try.f3.params.toList args.toList ds p := hA0
  rw [Try.params3] at hA hval
  obtain ⟨v0, vs0, d0, ds0, p0, q0, hargs, rfl, rfl, h0, r0⟩ := trodAll_cons hA
  obtain ⟨v1, vs1, d1, ds1, p1, q1, rfl, rfl, rfl, h1, r1⟩ := trodAll_cons r0
  obtain ⟨v2, vs2, d2, ds2, p2, q2, rfl, rfl, rfl, h2, r2⟩ := trodAll_cons r1
  obtain ⟨v3, vs3, d3, ds3, p3, q3, rfl, rfl, rfl, h3, r3⟩ := trodAll_cons r2
  obtain ⟨v4, vs4, d4, ds4, p4, q4, rfl, rfl, rfl, h4, r4⟩ := trodAll_cons r3
  obtain ⟨v5, vs5, d5, ds5, p5, q5, rfl, rfl, rfl, h5, r5⟩ := trodAll_cons r4
  obtain ⟨rfl, rfl, rfl⟩ := trodAll_nil r5
  obtain rfl : args = #[v0, v1, v2, v3, v4, v5] := by cases args; simp_all
  obtain ⟨rfl, rfl⟩ := trodVars_none hV
  have k0 := h0
  have lt0 : ∀ x ∈ p0, x.block < W.heap.size := by obtain ⟨m, hm⟩ := k0; exact DataW.trod_lt m _ _ _ hm
  obtain ⟨a0, len0, cap0, rfl⟩ := okWide_slice Try.underlying22 (hval 0 22 v0 rfl rfl)
  obtain ⟨x0, R0, Q0⟩ : ∃ xs, Rd rItems W xs [.slice a0 len0 cap0] ∧ ∀ x ∈ xs, wfItem x := by obtain ⟨m, hm⟩ := h0; exact t_items hm
  have k1 := h1
  have lt1 : ∀ x ∈ p1, x.block < W.heap.size := by obtain ⟨m, hm⟩ := k1; exact DataW.trod_lt m _ _ _ hm
  obtain ⟨a1, len1, cap1, rfl⟩ := okWide_slice Try.underlying22 (hval 1 22 v1 rfl rfl)
  obtain ⟨x1, R1, Q1⟩ : ∃ xs, Rd rItems W xs [.slice a1 len1 cap1] ∧ ∀ x ∈ xs, wfItem x := by obtain ⟨m, hm⟩ := h1; exact t_items hm
  obtain ⟨x2, rfl, rfl, rfl, Q2⟩ := open_int Try.underlying3 (hval 2 3 v2 rfl rfl) h2
  obtain ⟨x3, rfl, rfl, rfl, Q3⟩ := open_int Try.underlying3 (hval 3 3 v3 rfl rfl) h3
  have k4 := h4
  have lt4 : ∀ x ∈ p4, x.block < W.heap.size := by obtain ⟨m, hm⟩ := k4; exact DataW.trod_lt m _ _ _ hm
  obtain ⟨a4, len4, cap4, rfl⟩ := okWide_slice Try.underlying23 (hval 4 23 v4 rfl rfl)
  obtain ⟨x4, R4, Q4⟩ : ∃ xs, Rd rNodes W xs [.slice a4 len4 cap4] ∧ ∀ x ∈ xs, wfNode x := by obtain ⟨m, hm⟩ := h4; exact t_nodes hm
  have k5 := h5
  have lt5 : ∀ x ∈ p5, x.block < W.heap.size := by obtain ⟨m, hm⟩ := k5; exact DataW.trod_lt m _ _ _ hm
  obtain ⟨a5, len5, cap5, rfl⟩ := okWide_slice Try.underlying23 (hval 5 23 v5 rfl rfl)
  obtain ⟨x5, R5, Q5⟩ : ∃ xs, Rd rNodes W xs [.slice a5 len5 cap5] ∧ ∀ x ∈ xs, wfNode x := by obtain ⟨m, hm⟩ := h5; exact t_nodes hm
  clear hA0 hval0
  refine (walk_FnExactFastCouples W x0 _ R0 Q0 x1 _ R1 Q1 x2 Q2 x3 Q3 x4 _ R4 Q4 x5 _ R5 Q5).mono fun e W' ⟨he, bel⟩ => ?_
  subst he
  exact ⟨_, rfl, _, _, _, [], _, [], hW', trodAll_mk1 (shut_bool Try.underlying4 _), (trodAll_cons_mk (Below.trod laid_out (by kernel_rfl) (of_decide_eq_true (by kernel_rfl)) k0 bel lt0) (trodAll_cons_mk (Below.trod laid_out (by kernel_rfl) (of_decide_eq_true (by kernel_rfl)) k1 bel lt1) (trodAll_cons_mk (shut_int Try.underlying3 Q2) (trodAll_cons_mk (shut_int Try.underlying3 Q3) (trodAll_cons_mk (Below.trod laid_out (by kernel_rfl) (of_decide_eq_true (by kernel_rfl)) k4 bel lt4) (trodAll_cons_mk (Below.trod laid_out (by kernel_rfl) (of_decide_eq_true (by kernel_rfl)) k5 bel lt5) trodAll_mk0)))))), rfl, Below.frame bel _, fun h => by cases h⟩
/-- the statement -/
theorem FnExactFastCouples_holds : Rows.FnExactFastCouplesSaid :=
  OpenClaim.holds_of_wide 3 Try.f3 rfl rfl rfl rfl rfl rfl rfl ⟨rfl, rfl, rfl, rfl, rfl⟩ rfl rfl rfl rfl rfl (by kernel_rfl) Try.func3 (by kernel_rfl)
    (of_decide_eq_true (by kernel_rfl)) (by unfold Func.isWrapper; first | (rw [if_pos (by decide +kernel)]; kernel_rfl) | (rw [if_neg (by decide +kernel)]; exact ⟨rfl, rfl⟩))
    (fun os started H enc _ => lifted_FnExactFastCouples os started H enc)
end Go.Proofs.Ytfffklkiikmieaa
