/- For every input, FnExactRefineBest returns true and leaves its arguments as they were. No condition. -/
import Derived.Test.YtdfmgpmfalnffaaRows
import Derived.Test.YtdfmgpmfalnffaaRefine
import Derived.Test.YtdfmgpmfalnffaaMarks4
import Derived.Test.YtdfmgpmfalnffaaOpen
namespace Go.Proofs.Ytdfmgpmfalnffaa
open Go.RowKit Go.ChangeShapes Go.WideShapes Go.ChangeAt
set_option linter.unusedVariables false
theorem len_of_tot {l : List GItem} (h : totItems l ≤ 1048576) : l.length ≤ 1048576 := by unfold totItems at h; omega
theorem refine_len {l : List GItem} {ids : List Int} {q : List GNode} (h : totItems l ≤ 1048576) : (refineM l ids q).length ≤ 1048576 := Nat.le_trans (refineM_len l ids q) (len_of_tot h)
set_option maxRecDepth 100000 in
set_option maxHeartbeats 6000000 in
theorem walk_FnExactRefineBest (w : World) (x0 : List GItem) (v0 : Value) (h0 : Rd rItems w x0 [v0]) (q0 : ∀ x ∈ x0, wfItem x) (x1 : List Int) (v1 : Value) (h1 : Rd rInts w x1 [v1]) (q1 : wfInts x1) (x2 : List GNode) (v2 : Value) (h2 : Rd rNodes w x2 [v2]) (q2 : ∀ x ∈ x2, wfNode x) :
    Calls Try.prog 7 #[v0, v1, v2] w (Ret w (.bool true)) := by
  obtain ⟨A1, n1, c1, rfl, l1, m1, M1⟩ := rSl_open h1
  have L1 := Lib.hid l1
  clear l1
  unfold maxLen at M1
  go_enter Try.func7, Try.ntmps7
  by_cases s1 : 1048576 < n1
  · go_wp2
    go_ret
    exact Ret.bool rfl (Bw.refl w)
  have t1 : x1.length ≤ 1048576 := by rw [← L1.out]; omega
  go_wp2_with fail
  refine (L_szItemS _ x0 _ (h0.bw rItems_good (Bw.refl w)) (1048576 : Int) (by omega) (by omega)).mono ?_
  rintro e w1 ⟨rfl, hb1⟩
  have B1 : Bw w _ := (Bw.refl w).then hb1
  by_cases s0 : (1048576 : Int) < ((totItems x0 : Nat) : Int)
  · rw [show szM (1048576 : Int) (totItems x0) = -1 from if_pos s0]
    go_wp2
    go_ret
    exact Ret.bool rfl B1
  rw [show szM (1048576 : Int) (totItems x0) = ((1048576 : Int) - ((totItems x0 : Nat) : Int)) from if_neg s0]
  have t0 : totItems x0 ≤ 1048576 := by omega
  go_wp2_with fail
  refine (L_szNodeS _ x2 _ (h2.bw rNodes_good B1) ((1048576 : Int) - ((totItems x0 : Nat) : Int)) (by omega) (by omega)).mono ?_
  rintro e w2 ⟨rfl, hb2⟩
  have B2 : Bw w _ := B1.then hb2
  by_cases s2 : ((1048576 : Int) - ((totItems x0 : Nat) : Int)) < ((totNodes x2 : Nat) : Int)
  · rw [show szM ((1048576 : Int) - ((totItems x0 : Nat) : Int)) (totNodes x2) = -1 from if_pos s2]
    go_wp2
    go_ret
    exact Ret.bool rfl B2
  rw [show szM ((1048576 : Int) - ((totItems x0 : Nat) : Int)) (totNodes x2) = (((1048576 : Int) - ((totItems x0 : Nat) : Int)) - ((totNodes x2 : Nat) : Int)) from if_neg s2]
  have t2 : totNodes x2 ≤ 1048576 := by omega
  go_wp2_with fail
  refine (L_toItemS _ x0 _ (by exact (h0.bw rItems_good B2)) t0).mono ?_
  rintro e w3 ⟨a0, rfl, ⟨aF0, ao0, af0⟩, hb3⟩
  have B3 : Bw w _ := B2.then hb3
  have ar0 := fItems_Rd ao0
  go_wp2_with fail
  refine (L_toIntS _ x1 _ (by exact (h1.bw rInts_good B3)) t1).mono ?_
  rintro e w4 ⟨a1, rfl, ⟨aF1, ao1, af1⟩, hb4⟩
  have B4 : Bw w _ := B3.then hb4
  replace ar0 := ar0.bw rItems_good hb4
  have ar1 := fInts_Rd ao1
  go_wp2_with fail
  refine (L_toNodeS _ x2 _ (by exact (h2.bw rNodes_good B4)) t2).mono ?_
  rintro e w5 ⟨a2, rfl, ⟨aF2, ao2, af2⟩, hb5⟩
  have B5 : Bw w _ := B4.then hb5
  replace ar0 := ar0.bw rItems_good hb5
  replace ar1 := ar1.bw rInts_good hb5
  have ar2 := fNodes_Rd ao2
  go_wp2_with fail
  refine (S_RefineBest _ x0 x1 x2 _ _ _ (by exact ar0) (by exact ar1) (by exact ar2) (len_of_tot t0)).mono ?_
  rintro e w6 ⟨vW, rfl, ⟨FW, oW, fW⟩, hb6⟩
  have B6 : Bw w _ := B5.then hb6
  replace ar0 := ar0.bw rItems_good hb6
  replace ar1 := ar1.bw rInts_good hb6
  replace ar2 := ar2.bw rNodes_good hb6
  obtain ⟨Y, hY⟩ : ∃ Y, Y = refineM x0 x1 x2 := ⟨_, rfl⟩
  have tY : Y.length ≤ 1048576 := by rw [hY]; exact refine_len t0
  rw [← hY] at oW
  have rW := fInts_Rd oW
  have k0 := h0.bw rItems_good B6
  have k1 := h1.bw rInts_good B6
  have k2 := h2.bw rNodes_good B6
  have HY := Lib.hid hY
  clear hY oW fW ar0 ao0 af0 ar1 ao1 af1 ar2 ao2 af2
  go_wp2_with fail
  refine (L_toItemS _ x0 _ (by exact (k0.bw rItems_good (Bw.refl w6))) t0).mono ?_
  rintro e w7 ⟨b0, rfl, ⟨bF0, bo0, bf0⟩, hb7⟩
  have C1 : Bw w6 _ := (Bw.refl w6).then hb7
  replace bf0 := bf0.mono (Bw.refl w6).size
  have lt0_1 := (fItems_good (B := 0)).lt bo0
  go_wp2_with fail
  refine (L_toIntS _ x1 _ (by exact (k1.bw rInts_good C1)) t1).mono ?_
  rintro e w8 ⟨b1, rfl, ⟨bF1, bo1, bf1⟩, hb8⟩
  have C2 : Bw w6 _ := C1.then hb8
  replace bo0 := (fItems_good (B := w6.heap.size)).bw hb8 C1.size bo0
  have hd0_1 : ∀ b ∈ bF1, b ∉ bF0 := fun b hb hb2 => by have := bf1.ge b hb; have := lt0_1 b hb2; omega
  replace bf1 := bf1.mono C1.size
  have lt0_2 := (fItems_good (B := 0)).lt bo0
  have lt1_2 := (fInts_good (B := 0)).lt bo1
  go_wp2_with fail
  refine (L_toNodeS _ x2 _ (by exact (k2.bw rNodes_good C2)) t2).mono ?_
  rintro e w9 ⟨b2, rfl, ⟨bF2, bo2, bf2⟩, hb9⟩
  have C3 : Bw w6 _ := C2.then hb9
  replace bo0 := (fItems_good (B := w6.heap.size)).bw hb9 C2.size bo0
  replace bo1 := (fInts_good (B := w6.heap.size)).bw hb9 C2.size bo1
  have hd0_2 : ∀ b ∈ bF2, b ∉ bF0 := fun b hb hb2 => by have := bf2.ge b hb; have := lt0_2 b hb2; omega
  have hd1_2 : ∀ b ∈ bF2, b ∉ bF1 := fun b hb hb2 => by have := bf2.ge b hb; have := lt1_2 b hb2; omega
  replace bf2 := bf2.mono C2.size
  have lt0_G := (fItems_good (B := 0)).lt bo0
  have lt1_G := (fInts_good (B := 0)).lt bo1
  have lt2_G := (fNodes_good (B := 0)).lt bo2
  go_wp2_with fail
  refine (I_RefineBest _ x0 x1 x2 _ _ _ (by exact fItems_Rd bo0) (by exact fInts_Rd bo1) (by exact fNodes_Rd bo2) (len_of_tot t0)).mono ?_
  rintro e w10 ⟨vG, rfl, ⟨FG, oG, fG⟩, hb10⟩
  have C4 : Bw w6 _ := C3.then hb10
  replace bo0 := (fItems_good (B := w6.heap.size)).bw hb10 C3.size bo0
  replace bo1 := (fInts_good (B := w6.heap.size)).bw hb10 C3.size bo1
  replace bo2 := (fNodes_good (B := w6.heap.size)).bw hb10 C3.size bo2
  have hd0_G : ∀ b ∈ FG, b ∉ bF0 := fun b hb hb2 => by have := fG.ge b hb; have := lt0_G b hb2; omega
  have hd1_G : ∀ b ∈ FG, b ∉ bF1 := fun b hb hb2 => by have := fG.ge b hb; have := lt1_G b hb2; omega
  have hd2_G : ∀ b ∈ FG, b ∉ bF2 := fun b hb hb2 => by have := fG.ge b hb; have := lt2_G b hb2; omega
  replace fG := fG.mono C3.size
  rw [← HY.out] at oG
  go_wp2_with fail
  refine (L_eqIntS _ Y Y _ _ (fInts_Rd oG) (rW.bw rInts_good C4)).mono ?_
  rintro e w11 ⟨rfl, hb11⟩
  have C5 : Bw w6 _ := C4.then hb11
  replace bo0 := (fItems_good (B := w6.heap.size)).bw hb11 C4.size bo0
  replace bo1 := (fInts_good (B := w6.heap.size)).bw hb11 C4.size bo1
  replace bo2 := (fNodes_good (B := w6.heap.size)).bw hb11 C4.size bo2
  replace oG := (fInts_good (B := w6.heap.size)).bw hb11 C4.size oG
  rw [show decide (Y = Y) = true from by simp]
  go_wp2_with fail
  refine (L_toItemS _ x0 _ (by exact (k0.bw rItems_good C5)) t0).mono ?_
  rintro e w12 ⟨c0, rfl, ⟨cF0, co0, cf0⟩, hb12⟩
  have C6 : Bw w6 _ := C5.then hb12
  replace bo0 := (fItems_good (B := w6.heap.size)).bw hb12 C5.size bo0
  replace bo1 := (fInts_good (B := w6.heap.size)).bw hb12 C5.size bo1
  replace bo2 := (fNodes_good (B := w6.heap.size)).bw hb12 C5.size bo2
  replace oG := (fInts_good (B := w6.heap.size)).bw hb12 C5.size oG
  go_wp2_with fail
  refine (L_eqItemS _ x0 x0 _ _ (fItems_Rd bo0) (fItems_Rd co0)).mono ?_
  rintro e w13 ⟨rfl, hb13⟩
  have C7 : Bw w6 _ := C6.then hb13
  replace bo0 := (fItems_good (B := w6.heap.size)).bw hb13 C6.size bo0
  replace bo1 := (fInts_good (B := w6.heap.size)).bw hb13 C6.size bo1
  replace bo2 := (fNodes_good (B := w6.heap.size)).bw hb13 C6.size bo2
  replace oG := (fInts_good (B := w6.heap.size)).bw hb13 C6.size oG
  rw [show decide (x0 = x0) = true from by simp]
  clear co0 cf0
  go_wp2_with fail
  refine (L_toIntS _ x1 _ (by exact (k1.bw rInts_good C7)) t1).mono ?_
  rintro e w14 ⟨c1, rfl, ⟨cF1, co1, cf1⟩, hb14⟩
  have C8 : Bw w6 _ := C7.then hb14
  replace bo0 := (fItems_good (B := w6.heap.size)).bw hb14 C7.size bo0
  replace bo1 := (fInts_good (B := w6.heap.size)).bw hb14 C7.size bo1
  replace bo2 := (fNodes_good (B := w6.heap.size)).bw hb14 C7.size bo2
  replace oG := (fInts_good (B := w6.heap.size)).bw hb14 C7.size oG
  go_wp2_with fail
  refine (L_eqIntS _ x1 x1 _ _ (fInts_Rd bo1) (fInts_Rd co1)).mono ?_
  rintro e w15 ⟨rfl, hb15⟩
  have C9 : Bw w6 _ := C8.then hb15
  replace bo0 := (fItems_good (B := w6.heap.size)).bw hb15 C8.size bo0
  replace bo1 := (fInts_good (B := w6.heap.size)).bw hb15 C8.size bo1
  replace bo2 := (fNodes_good (B := w6.heap.size)).bw hb15 C8.size bo2
  replace oG := (fInts_good (B := w6.heap.size)).bw hb15 C8.size oG
  rw [show decide (x1 = x1) = true from by simp]
  clear co1 cf1
  go_wp2_with fail
  refine (L_toNodeS _ x2 _ (by exact (k2.bw rNodes_good C9)) t2).mono ?_
  rintro e w16 ⟨c2, rfl, ⟨cF2, co2, cf2⟩, hb16⟩
  have C10 : Bw w6 _ := C9.then hb16
  replace bo0 := (fItems_good (B := w6.heap.size)).bw hb16 C9.size bo0
  replace bo1 := (fInts_good (B := w6.heap.size)).bw hb16 C9.size bo1
  replace bo2 := (fNodes_good (B := w6.heap.size)).bw hb16 C9.size bo2
  replace oG := (fInts_good (B := w6.heap.size)).bw hb16 C9.size oG
  go_wp2_with fail
  refine (L_eqNodeS _ x2 x2 _ _ (fNodes_Rd bo2) (fNodes_Rd co2)).mono ?_
  rintro e w17 ⟨rfl, hb17⟩
  have C11 : Bw w6 _ := C10.then hb17
  replace bo0 := (fItems_good (B := w6.heap.size)).bw hb17 C10.size bo0
  replace bo1 := (fInts_good (B := w6.heap.size)).bw hb17 C10.size bo1
  replace bo2 := (fNodes_good (B := w6.heap.size)).bw hb17 C10.size bo2
  replace oG := (fInts_good (B := w6.heap.size)).bw hb17 C10.size oG
  rw [show decide (x2 = x2) = true from by simp]
  clear co2 cf2
  have hm18 := fun (W : World) (o : _) (c : Bw w6 W) => L_markItemS w6 W x0 b0 bF0 1 o bf0 c (by omega) (by omega)
  obtain ⟨T0, hT0⟩ : ∃ T0, T0 = 1 + totItems x0 := ⟨_, rfl⟩
  rw [← hT0] at hm18
  have BT0 : T0 ≤ 1048577 := by omega
  have HT0 := Lib.hid hT0
  clear hT0
  go_wp2_with fail
  refine (hm18 _ bo0 C11).mono ?_
  rintro e w18 ⟨rfl, nw18, hO18, C12⟩
  replace bo1 := hO18.keeps (fInts_good (B := 0)) bo1 hd0_1
  replace bo2 := hO18.keeps (fNodes_good (B := 0)) bo2 hd0_2
  replace oG := hO18.keeps (fInts_good (B := 0)) oG hd0_G
  replace bo0 := nw18
  clear hm18 nw18 hO18
  clear bo0
  have hm19 := fun (W : World) (o : _) (c : Bw w6 W) => L_markIntS w6 W x1 b1 bF1 T0 o bf1 c (by omega) (by omega)
  obtain ⟨T1, hT1⟩ : ∃ T1, T1 = T0 + x1.length := ⟨_, rfl⟩
  rw [← hT1] at hm19
  have BT1 : T1 ≤ 2097153 := by have := HT0.out; omega
  have HT1 := Lib.hid hT1
  clear hT1
  go_wp2_with fail
  refine (hm19 _ bo1 C12).mono ?_
  rintro e w19 ⟨rfl, nw19, hO19, C13⟩
  replace bo2 := hO19.keeps (fNodes_good (B := 0)) bo2 hd1_2
  replace oG := hO19.keeps (fInts_good (B := 0)) oG hd1_G
  replace bo1 := nw19
  clear hm19 nw19 hO19
  clear bo1
  have mt2 := markNodes_le x2
  have hm20 := fun (W : World) (o : _) (c : Bw w6 W) => L_markNodeS w6 W x2 b2 bF2 T1 o bf2 c (by omega) (by omega)
  obtain ⟨T2, hT2⟩ : ∃ T2, T2 = T1 + markNodes x2 := ⟨_, rfl⟩
  rw [← hT2] at hm20
  have BT2 : T2 ≤ 5242881 := by have := HT0.out; have := HT1.out; omega
  have HT2 := Lib.hid hT2
  clear hT2
  go_wp2_with fail
  refine (hm20 _ bo2 C13).mono ?_
  rintro e w20 ⟨rfl, nw20, hO20, C14⟩
  replace oG := hO20.keeps (fInts_good (B := 0)) oG hd2_G
  replace bo2 := nw20
  clear hm20 nw20 hO20
  clear bo2
  go_wp2_with fail
  refine (L_eqIntS _ Y Y _ _ (fInts_Rd oG) (rW.bw rInts_good C14)).mono ?_
  rintro e w21 ⟨rfl, hb21⟩
  have C15 : Bw w6 _ := C14.then hb21
  replace oG := (fInts_good (B := w6.heap.size)).bw hb21 C14.size oG
  rw [show decide (Y = Y) = true from by simp]
  have hm22 := fun (W : World) (o : _) (c : Bw w6 W) => L_markIntS w6 W Y vG FG 1 o fG c (by omega) (by omega)
  obtain ⟨TM, hTM⟩ : ∃ TM, TM = 1 + Y.length := ⟨_, rfl⟩
  rw [← hTM] at hm22
  have BTM : TM ≤ 1048577 := by omega
  have HTM := Lib.hid hTM
  clear hTM
  go_wp2_with fail
  refine (hm22 _ oG C15).mono ?_
  rintro e w22 ⟨rfl, nw22, hO22, C16⟩
  replace oG := nw22
  clear hm22 nw22 hO22
  have hh22 := fun (W : World) (o : _) => L_heldIntS W Y vG 1 o (by omega) (by omega)
  rw [← HTM.out] at hh22
  go_wp2_with fail
  refine (hh22 _ (fInts_Rd oG)).mono ?_
  rintro e w23 ⟨rfl, hb23⟩
  have C17 : Bw w6 _ := C16.then hb23
  replace oG := (fInts_good (B := w6.heap.size)).bw hb23 C16.size oG
  clear hh22
  go_wp2_with fail
  refine (L_toItemS _ x0 _ (by exact (k0.bw rItems_good C17)) t0).mono ?_
  rintro e w24 ⟨d0, rfl, ⟨dF0, do0, df0⟩, hb24⟩
  have C18 : Bw w6 _ := C17.then hb24
  replace oG := (fInts_good (B := w6.heap.size)).bw hb24 C17.size oG
  go_wp2_with fail
  refine (L_toIntS _ x1 _ (by exact (k1.bw rInts_good C18)) t1).mono ?_
  rintro e w25 ⟨d1, rfl, ⟨dF1, do1, df1⟩, hb25⟩
  have C19 : Bw w6 _ := C18.then hb25
  replace oG := (fInts_good (B := w6.heap.size)).bw hb25 C18.size oG
  replace do0 := (fItems_good (B := w6.heap.size)).bw hb25 C18.size do0
  go_wp2_with fail
  refine (L_toNodeS _ x2 _ (by exact (k2.bw rNodes_good C19)) t2).mono ?_
  rintro e w26 ⟨d2, rfl, ⟨dF2, do2, df2⟩, hb26⟩
  have C20 : Bw w6 _ := C19.then hb26
  replace oG := (fInts_good (B := w6.heap.size)).bw hb26 C19.size oG
  replace do0 := (fItems_good (B := w6.heap.size)).bw hb26 C19.size do0
  replace do1 := (fInts_good (B := w6.heap.size)).bw hb26 C19.size do1
  go_wp2_with fail
  refine (I_RefineBest _ x0 x1 x2 _ _ _ (by exact fItems_Rd do0) (by exact fInts_Rd do1) (by exact fNodes_Rd do2) (len_of_tot t0)).mono ?_
  rintro e w27 ⟨vH, rfl, ⟨FH, oH, fH⟩, hb27⟩
  have C21 : Bw w6 _ := C20.then hb27
  replace oG := (fInts_good (B := w6.heap.size)).bw hb27 C20.size oG
  replace do0 := (fItems_good (B := w6.heap.size)).bw hb27 C20.size do0
  replace do1 := (fInts_good (B := w6.heap.size)).bw hb27 C20.size do1
  replace do2 := (fNodes_good (B := w6.heap.size)).bw hb27 C20.size do2
  rw [← HY.out] at oH
  clear do0 df0
  clear do1 df1
  clear do2 df2
  go_wp2_with fail
  refine (L_eqIntS _ Y Y _ _ (fInts_Rd oH) (rW.bw rInts_good C21)).mono ?_
  rintro e w28 ⟨rfl, hb28⟩
  have C22 : Bw w6 _ := C21.then hb28
  replace oG := (fInts_good (B := w6.heap.size)).bw hb28 C21.size oG
  rw [show decide (Y = Y) = true from by simp]
  have hh28 := fun (W : World) (o : _) => L_heldIntS W Y vG 1 o (by omega) (by omega)
  rw [← HTM.out] at hh28
  go_wp2_with fail
  refine (hh28 _ (fInts_Rd oG)).mono ?_
  rintro e w29 ⟨rfl, hb29⟩
  have C23 : Bw w6 _ := C22.then hb29
  replace oG := (fInts_good (B := w6.heap.size)).bw hb29 C22.size oG
  clear hh28
  go_wp2
  go_ret
  exact Ret.bool rfl (B6.then C23)
set_option maxRecDepth 100000 in
theorem lifted_FnExactRefineBest (os : Os) (started : os.Started) (H : Type) (enc : TypeId × Value → H) :
    ReturnsInHanded {} Try.checked os 7 .any (Rows.fnExactRefineBestSpec.pre6 enc Try.prog Try.f7 Rows.fnExactRefineBestRow.domain false) (Rows.fnExactRefineBestSpec.post enc Try.prog Try.f7 false true false false) := by
  refine returnsInHanded_of_change (C := Try.checked) own_knob started (by kernel_rfl) Try.func7
    (ChangeSpec.witness6 (enc := enc) (C := Try.checked) false ⟨#[], #[.slice none 0 0, .slice none 0 0, .slice none 0 0], []⟩ 8 (by kernel_rfl) (by kernel_rfl) (by kernel_rfl) (by kernel_rfl)) ?_
  intro W base args ds gs before hval0 hW hcnd _
  have hval : ∀ (j : Nat) t v, Try.f7.params[j]? = some t → args[j]? = some v → Value.okWide Try.prog W .any base t v := hval0
  have hW' := hW
  obtain ⟨p, q, hA0, hV, rfl, hfz, hnd⟩ := hW
  have hA : DataW.TrodAll enc Try.prog W 0 (fun _ => true) true Try.f7.params.toList args.toList ds p := hA0
  rw [Try.params7] at hA hval
  obtain ⟨v0, vs0, d0, ds0, p0, q0, hargs, rfl, rfl, h0, r0⟩ := trodAll_cons hA
  obtain ⟨v1, vs1, d1, ds1, p1, q1, rfl, rfl, rfl, h1, r1⟩ := trodAll_cons r0
  obtain ⟨v2, vs2, d2, ds2, p2, q2, rfl, rfl, rfl, h2, r2⟩ := trodAll_cons r1
  obtain ⟨rfl, rfl, rfl⟩ := trodAll_nil r2
  obtain rfl : args = #[v0, v1, v2] := by cases args; simp_all
  obtain ⟨rfl, rfl⟩ := trodVars_none hV
  have k0 := h0
  have lt0 : ∀ x ∈ p0, x.block < W.heap.size := by obtain ⟨m, hm⟩ := k0; exact DataW.trod_lt m _ _ _ hm
  obtain ⟨a0, len0, cap0, rfl⟩ := okWide_slice Try.underlying45 (hval 0 45 v0 rfl rfl)
  obtain ⟨x0, R0, Q0⟩ : ∃ xs, Rd rItems W xs [.slice a0 len0 cap0] ∧ ∀ x ∈ xs, wfItem x := by obtain ⟨m, hm⟩ := h0; exact t_items hm
  have k1 := h1
  have lt1 : ∀ x ∈ p1, x.block < W.heap.size := by obtain ⟨m, hm⟩ := k1; exact DataW.trod_lt m _ _ _ hm
  obtain ⟨a1, len1, cap1, rfl⟩ := okWide_slice Try.underlying33 (hval 1 33 v1 rfl rfl)
  obtain ⟨x1, R1, Q1⟩ : ∃ xs, Rd rInts W xs [.slice a1 len1 cap1] ∧ wfInts xs := by obtain ⟨m, hm⟩ := h1; exact t_ints hm
  have k2 := h2
  have lt2 : ∀ x ∈ p2, x.block < W.heap.size := by obtain ⟨m, hm⟩ := k2; exact DataW.trod_lt m _ _ _ hm
  obtain ⟨a2, len2, cap2, rfl⟩ := okWide_slice Try.underlying22 (hval 2 22 v2 rfl rfl)
  obtain ⟨x2, R2, Q2⟩ : ∃ xs, Rd rNodes W xs [.slice a2 len2 cap2] ∧ ∀ x ∈ xs, wfNode x := by obtain ⟨m, hm⟩ := h2; exact t_nodes hm
  clear hA0 hval0
  refine (walk_FnExactRefineBest W x0 _ R0 Q0 x1 _ R1 Q1 x2 _ R2 Q2).mono fun e W' ⟨he, bel⟩ => ?_
  subst he
  exact ⟨_, rfl, _, _, _, [], _, [], hW', trodAll_mk1 (shut_bool Try.underlying4 _), (trodAll_cons_mk (Below.trod laid_out (by kernel_rfl) (of_decide_eq_true (by kernel_rfl)) k0 bel lt0) (trodAll_cons_mk (Below.trod laid_out (by kernel_rfl) (of_decide_eq_true (by kernel_rfl)) k1 bel lt1) (trodAll_cons_mk (Below.trod laid_out (by kernel_rfl) (of_decide_eq_true (by kernel_rfl)) k2 bel lt2) trodAll_mk0))), rfl, Below.frame bel _, fun h => by cases h⟩
/-- the statement -/
theorem FnExactRefineBest_holds : Rows.FnExactRefineBestSaid :=
  OpenClaim.holds_of_wide 7 Try.f7 rfl rfl rfl rfl rfl rfl rfl ⟨rfl, rfl, rfl, rfl, rfl⟩ rfl rfl rfl rfl rfl (by kernel_rfl) Try.func7 (by kernel_rfl)
    (of_decide_eq_true (by kernel_rfl)) (by unfold Func.isWrapper; first | (rw [if_pos (by decide +kernel)]; kernel_rfl) | (rw [if_neg (by decide +kernel)]; exact ⟨rfl, rfl⟩))
    (fun os started H enc _ => lifted_FnExactRefineBest os started H enc)
end Go.Proofs.Ytdfmgpmfalnffaa
