/- For every input, FnExactSmallestChange returns true and leaves its arguments as they were. No condition. -/
import Derived.Test.YtdfmgpmfalnffaaRows
import Derived.Test.YtdfmgpmfalnffaaChangeI
import Derived.Test.YtdfmgpmfalnffaaChangeS
import Derived.Test.YtdfmgpmfalnffaaItemF
import Derived.Test.YtdfmgpmfalnffaaMarks4
import Derived.Test.YtdfmgpmfalnffaaOpen
namespace Go.Proofs.Ytdfmgpmfalnffaa
open Go.RowKit Go.ChangeShapes Go.WideShapes Go.ChangeAt
set_option linter.unusedVariables false
theorem change_small (l : List GItem) (e : List GNode) (id : Int) : smallIt (changeX l e id) := by
  unfold smallIt changeX; split
  · have := chTo_len l e (itemAt l id) id 1000; omega
  · exact Nat.zero_le _
set_option maxRecDepth 100000 in
set_option maxHeartbeats 6000000 in
theorem walk_FnExactSmallestChange (w : World) (x0 : List GItem) (v0 : Value) (h0 : Rd rItems w x0 [v0]) (q0 : ∀ x ∈ x0, wfItem x) (x1 : List GNode) (v1 : Value) (h1 : Rd rNodes w x1 [v1]) (q1 : ∀ x ∈ x1, wfNode x) (x2 : Int) (q2 : (Lit.int .i64 x2).wf = true) :
    Calls Try.prog 8 #[v0, v1, .int .i64 x2] w (Ret w (.bool true)) := by
  go_enter Try.func8, Try.ntmps8
  go_wp2_with fail
  refine (L_szItemS _ x0 _ (h0.bw rItems_good (Bw.refl w)) (1048576 : Int) (by omega) (by omega)).mono ?_
  rintro e w1 ⟨rfl, hb1⟩
  have B1 : Bw w _ := (Bw.refl w).then hb1
  by_cases s0 : (1048576 : Int) < ((totItems x0 : Nat) : Int)
  · rw [show szM (1048576 : Int) (totItems x0) = -1 from if_pos s0]
    go_wp2
    go_ret
    exact Ret.bool rfl B1
  rw [show szM (1048576 : Int) (totItems x0) = ((1048576 : Int) - ((totItems x0 : Nat) : Int)) from if_neg s0]
  have t0 : totItems x0 ≤ 1048576 := by omega
  go_wp2_with fail
  refine (L_szNodeS _ x1 _ (h1.bw rNodes_good B1) ((1048576 : Int) - ((totItems x0 : Nat) : Int)) (by omega) (by omega)).mono ?_
  rintro e w2 ⟨rfl, hb2⟩
  have B2 : Bw w _ := B1.then hb2
  by_cases s1 : ((1048576 : Int) - ((totItems x0 : Nat) : Int)) < ((totNodes x1 : Nat) : Int)
  · rw [show szM ((1048576 : Int) - ((totItems x0 : Nat) : Int)) (totNodes x1) = -1 from if_pos s1]
    go_wp2
    go_ret
    exact Ret.bool rfl B2
  rw [show szM ((1048576 : Int) - ((totItems x0 : Nat) : Int)) (totNodes x1) = (((1048576 : Int) - ((totItems x0 : Nat) : Int)) - ((totNodes x1 : Nat) : Int)) from if_neg s1]
  have t1 : totNodes x1 ≤ 1048576 := by omega
  go_wp2_with fail
  refine (L_toItemS _ x0 _ (by exact (h0.bw rItems_good B2)) t0).mono ?_
  rintro e w3 ⟨a0, rfl, ⟨aF0, ao0, af0⟩, hb3⟩
  have B3 : Bw w _ := B2.then hb3
  have ar0 := fItems_Rd ao0
  go_wp2_with fail
  refine (L_toNodeS _ x1 _ (by exact (h1.bw rNodes_good B3)) t1).mono ?_
  rintro e w4 ⟨a1, rfl, ⟨aF1, ao1, af1⟩, hb4⟩
  have B4 : Bw w _ := B3.then hb4
  replace ar0 := ar0.bw rItems_good hb4
  have ar1 := fNodes_Rd ao1
  go_wp2_with fail
  refine (S_SmallestChange _ x0 x1 x2 _ _ (by exact ar0) (by exact ar1)).mono ?_
  rintro e w5 ⟨_, rfl, ⟨vW, rfl, ⟨FW, oW, fW⟩⟩, hb5⟩
  have B5 : Bw w _ := B4.then hb5
  replace ar0 := ar0.bw rItems_good hb5
  replace ar1 := ar1.bw rNodes_good hb5
  obtain ⟨Y, hY⟩ : ∃ Y, Y = changeX x0 x1 x2 := ⟨_, rfl⟩
  rw [← hY] at oW
  obtain ⟨A1W, c1W, rfl⟩ := fItem_open oW
  have hAW := (Bw.refl w5).alloc (.cells #[.int .i64 Y.id, .slice A1W Y.vals.length c1W] 40)
  have B6 := B5.then hAW
  have rW1 := fItem_Rds ((fItem_good (B := 0)).bw hAW (Nat.zero_le _) oW)
  have kW_0 : (w5.alloc (.cells #[.int .i64 Y.id, .slice A1W Y.vals.length c1W] 40)).cell? ⟨w5.heap.size, 0, none⟩ = some (.int .i64 Y.id) := by go_simp
  have kW_1 : (w5.alloc (.cells #[.int .i64 Y.id, .slice A1W Y.vals.length c1W] 40)).cell? ⟨w5.heap.size, 1, none⟩ = some (.slice A1W Y.vals.length c1W) := by go_simp
  clear hAW
  obtain ⟨Z0, hZ0⟩ : ∃ Z, Z = changeC x0 x1 x2 := ⟨_, rfl⟩
  rw [← hZ0]
  have HZ0 := Lib.hid hZ0
  clear hZ0
  obtain ⟨Z1, hZ1⟩ : ∃ Z, Z = changeOk x0 x1 x2 := ⟨_, rfl⟩
  rw [← hZ1]
  have HZ1 := Lib.hid hZ1
  clear hZ1
  have tY : smallIt Y := by rw [hY]; exact change_small x0 x1 x2
  have mtY := smallIt_le tY
  have k0 := h0.bw rItems_good B6
  have k1 := h1.bw rNodes_good B6
  have HY := Lib.hid hY
  clear hY oW fW ar0 ao0 af0 ar1 ao1 af1
  have kW_0B := kW_0
  have kW_1B := kW_1
  go_wp2_with fail
  refine (L_toItemS _ x0 _ (by exact (k0.bw rItems_good (Bw.refl (w5.alloc (.cells #[.int .i64 Y.id, .slice A1W Y.vals.length c1W] 40))))) t0).mono ?_
  rintro e w6 ⟨b0, rfl, ⟨bF0, bo0, bf0⟩, hb6⟩
  have C1 : Bw (w5.alloc (.cells #[.int .i64 Y.id, .slice A1W Y.vals.length c1W] 40)) _ := (Bw.refl (w5.alloc (.cells #[.int .i64 Y.id, .slice A1W Y.vals.length c1W] 40))).then hb6
  replace kW_0 := hb6.cell kW_0
  replace kW_1 := hb6.cell kW_1
  replace bf0 := bf0.mono (Bw.refl (w5.alloc (.cells #[.int .i64 Y.id, .slice A1W Y.vals.length c1W] 40))).size
  have lt0_1 := (fItems_good (B := 0)).lt bo0
  go_wp2_with fail
  refine (L_toNodeS _ x1 _ (by exact (k1.bw rNodes_good C1)) t1).mono ?_
  rintro e w7 ⟨b1, rfl, ⟨bF1, bo1, bf1⟩, hb7⟩
  have C2 : Bw (w5.alloc (.cells #[.int .i64 Y.id, .slice A1W Y.vals.length c1W] 40)) _ := C1.then hb7
  replace bo0 := (fItems_good (B := (w5.alloc (.cells #[.int .i64 Y.id, .slice A1W Y.vals.length c1W] 40)).heap.size)).bw hb7 C1.size bo0
  replace kW_0 := hb7.cell kW_0
  replace kW_1 := hb7.cell kW_1
  have hd0_1 : ∀ b ∈ bF1, b ∉ bF0 := fun b hb hb2 => by have := bf1.ge b hb; have := lt0_1 b hb2; omega
  replace bf1 := bf1.mono C1.size
  have lt0_G := (fItems_good (B := 0)).lt bo0
  have lt1_G := (fNodes_good (B := 0)).lt bo1
  go_wp2_with fail
  refine (I_SmallestChange _ x0 x1 x2 _ _ (by exact fItems_Rd bo0) (by exact fNodes_Rd bo1)).mono ?_
  rintro e w8 ⟨_, rfl, ⟨vG, rfl, ⟨FG, oG, fG⟩⟩, hb8⟩
  have C3 : Bw (w5.alloc (.cells #[.int .i64 Y.id, .slice A1W Y.vals.length c1W] 40)) _ := C2.then hb8
  replace bo0 := (fItems_good (B := (w5.alloc (.cells #[.int .i64 Y.id, .slice A1W Y.vals.length c1W] 40)).heap.size)).bw hb8 C2.size bo0
  replace bo1 := (fNodes_good (B := (w5.alloc (.cells #[.int .i64 Y.id, .slice A1W Y.vals.length c1W] 40)).heap.size)).bw hb8 C2.size bo1
  replace kW_0 := hb8.cell kW_0
  replace kW_1 := hb8.cell kW_1
  rw [← HZ0.out]
  rw [← HZ1.out]
  have hd0_G : ∀ b ∈ FG, b ∉ bF0 := fun b hb hb2 => by have := fG.ge b hb; have := lt0_G b hb2; omega
  have hd1_G : ∀ b ∈ FG, b ∉ bF1 := fun b hb hb2 => by have := fG.ge b hb; have := lt1_G b hb2; omega
  replace fG := fG.mono C2.size
  rw [← HY.out] at oG
  obtain ⟨A1G, c1G, rfl⟩ := fItem_open oG
  have bxG_0 : w8.heap.size ∉ bF0 := fun h => by have := (fItems_good (B := 0)).lt bo0 _ h; omega
  have bxG_1 : w8.heap.size ∉ bF1 := fun h => by have := (fNodes_good (B := 0)).lt bo1 _ h; omega
  have bxG_G : w8.heap.size ∉ FG := fun h => by have := (fItem_good (B := 0)).lt oG _ h; omega
  have hAG := (Bw.refl w8).alloc (.cells #[.int .i64 Y.id, .slice A1G Y.vals.length c1G] 40)
  have C4 : Bw (w5.alloc (.cells #[.int .i64 Y.id, .slice A1W Y.vals.length c1W] 40)) _ := C3.then hAG
  replace bo0 := (fItems_good (B := (w5.alloc (.cells #[.int .i64 Y.id, .slice A1W Y.vals.length c1W] 40)).heap.size)).bw hAG C3.size bo0
  replace bo1 := (fNodes_good (B := (w5.alloc (.cells #[.int .i64 Y.id, .slice A1W Y.vals.length c1W] 40)).heap.size)).bw hAG C3.size bo1
  replace oG := (fItem_good (B := (w5.alloc (.cells #[.int .i64 Y.id, .slice A1W Y.vals.length c1W] 40)).heap.size)).bw hAG C3.size oG
  replace kW_0 := hAG.cell kW_0
  replace kW_1 := hAG.cell kW_1
  have jG_0 : (w8.alloc (.cells #[.int .i64 Y.id, .slice A1G Y.vals.length c1G] 40)).cell? ⟨w8.heap.size, 0, none⟩ = some (.int .i64 Y.id) := by go_simp
  have jG_1 : (w8.alloc (.cells #[.int .i64 Y.id, .slice A1G Y.vals.length c1G] 40)).cell? ⟨w8.heap.size, 1, none⟩ = some (.slice A1G Y.vals.length c1G) := by go_simp
  go_wp2_with fail
  refine (L_eqItem _ Y Y _ _ (fItem_Rds oG) (rW1.bw rInts_good C4)).mono ?_
  rintro e w9 ⟨rfl, hb9⟩
  have C5 : Bw (w5.alloc (.cells #[.int .i64 Y.id, .slice A1W Y.vals.length c1W] 40)) _ := C4.then hb9
  replace bo0 := (fItems_good (B := (w5.alloc (.cells #[.int .i64 Y.id, .slice A1W Y.vals.length c1W] 40)).heap.size)).bw hb9 C4.size bo0
  replace bo1 := (fNodes_good (B := (w5.alloc (.cells #[.int .i64 Y.id, .slice A1W Y.vals.length c1W] 40)).heap.size)).bw hb9 C4.size bo1
  replace oG := (fItem_good (B := (w5.alloc (.cells #[.int .i64 Y.id, .slice A1W Y.vals.length c1W] 40)).heap.size)).bw hb9 C4.size oG
  replace kW_0 := hb9.cell kW_0
  replace kW_1 := hb9.cell kW_1
  replace jG_0 := hb9.cell jG_0
  replace jG_1 := hb9.cell jG_1
  rw [show decide (Y = Y) = true from by simp]
  go_wp2_with fail
  refine (L_toItemS _ x0 _ (by exact (k0.bw rItems_good C5)) t0).mono ?_
  rintro e w10 ⟨c0, rfl, ⟨cF0, co0, cf0⟩, hb10⟩
  have C6 : Bw (w5.alloc (.cells #[.int .i64 Y.id, .slice A1W Y.vals.length c1W] 40)) _ := C5.then hb10
  replace bo0 := (fItems_good (B := (w5.alloc (.cells #[.int .i64 Y.id, .slice A1W Y.vals.length c1W] 40)).heap.size)).bw hb10 C5.size bo0
  replace bo1 := (fNodes_good (B := (w5.alloc (.cells #[.int .i64 Y.id, .slice A1W Y.vals.length c1W] 40)).heap.size)).bw hb10 C5.size bo1
  replace oG := (fItem_good (B := (w5.alloc (.cells #[.int .i64 Y.id, .slice A1W Y.vals.length c1W] 40)).heap.size)).bw hb10 C5.size oG
  replace kW_0 := hb10.cell kW_0
  replace kW_1 := hb10.cell kW_1
  replace jG_0 := hb10.cell jG_0
  replace jG_1 := hb10.cell jG_1
  go_wp2_with fail
  refine (L_eqItemS _ x0 x0 _ _ (fItems_Rd bo0) (fItems_Rd co0)).mono ?_
  rintro e w11 ⟨rfl, hb11⟩
  have C7 : Bw (w5.alloc (.cells #[.int .i64 Y.id, .slice A1W Y.vals.length c1W] 40)) _ := C6.then hb11
  replace bo0 := (fItems_good (B := (w5.alloc (.cells #[.int .i64 Y.id, .slice A1W Y.vals.length c1W] 40)).heap.size)).bw hb11 C6.size bo0
  replace bo1 := (fNodes_good (B := (w5.alloc (.cells #[.int .i64 Y.id, .slice A1W Y.vals.length c1W] 40)).heap.size)).bw hb11 C6.size bo1
  replace oG := (fItem_good (B := (w5.alloc (.cells #[.int .i64 Y.id, .slice A1W Y.vals.length c1W] 40)).heap.size)).bw hb11 C6.size oG
  replace kW_0 := hb11.cell kW_0
  replace kW_1 := hb11.cell kW_1
  replace jG_0 := hb11.cell jG_0
  replace jG_1 := hb11.cell jG_1
  rw [show decide (x0 = x0) = true from by simp]
  clear co0 cf0
  go_wp2_with fail
  refine (L_toNodeS _ x1 _ (by exact (k1.bw rNodes_good C7)) t1).mono ?_
  rintro e w12 ⟨c1, rfl, ⟨cF1, co1, cf1⟩, hb12⟩
  have C8 : Bw (w5.alloc (.cells #[.int .i64 Y.id, .slice A1W Y.vals.length c1W] 40)) _ := C7.then hb12
  replace bo0 := (fItems_good (B := (w5.alloc (.cells #[.int .i64 Y.id, .slice A1W Y.vals.length c1W] 40)).heap.size)).bw hb12 C7.size bo0
  replace bo1 := (fNodes_good (B := (w5.alloc (.cells #[.int .i64 Y.id, .slice A1W Y.vals.length c1W] 40)).heap.size)).bw hb12 C7.size bo1
  replace oG := (fItem_good (B := (w5.alloc (.cells #[.int .i64 Y.id, .slice A1W Y.vals.length c1W] 40)).heap.size)).bw hb12 C7.size oG
  replace kW_0 := hb12.cell kW_0
  replace kW_1 := hb12.cell kW_1
  replace jG_0 := hb12.cell jG_0
  replace jG_1 := hb12.cell jG_1
  go_wp2_with fail
  refine (L_eqNodeS _ x1 x1 _ _ (fNodes_Rd bo1) (fNodes_Rd co1)).mono ?_
  rintro e w13 ⟨rfl, hb13⟩
  have C9 : Bw (w5.alloc (.cells #[.int .i64 Y.id, .slice A1W Y.vals.length c1W] 40)) _ := C8.then hb13
  replace bo0 := (fItems_good (B := (w5.alloc (.cells #[.int .i64 Y.id, .slice A1W Y.vals.length c1W] 40)).heap.size)).bw hb13 C8.size bo0
  replace bo1 := (fNodes_good (B := (w5.alloc (.cells #[.int .i64 Y.id, .slice A1W Y.vals.length c1W] 40)).heap.size)).bw hb13 C8.size bo1
  replace oG := (fItem_good (B := (w5.alloc (.cells #[.int .i64 Y.id, .slice A1W Y.vals.length c1W] 40)).heap.size)).bw hb13 C8.size oG
  replace kW_0 := hb13.cell kW_0
  replace kW_1 := hb13.cell kW_1
  replace jG_0 := hb13.cell jG_0
  replace jG_1 := hb13.cell jG_1
  rw [show decide (x1 = x1) = true from by simp]
  clear co1 cf1
  have hm14 := fun (W : World) (o : _) (c : Bw (w5.alloc (.cells #[.int .i64 Y.id, .slice A1W Y.vals.length c1W] 40)) W) => L_markItemS (w5.alloc (.cells #[.int .i64 Y.id, .slice A1W Y.vals.length c1W] 40)) W x0 b0 bF0 1 o bf0 c (by omega) (by omega)
  obtain ⟨T0, hT0⟩ : ∃ T0, T0 = 1 + totItems x0 := ⟨_, rfl⟩
  rw [← hT0] at hm14
  have BT0 : T0 ≤ 1048577 := by omega
  have HT0 := Lib.hid hT0
  clear hT0
  go_wp2_with fail
  refine (hm14 _ bo0 C9).mono ?_
  rintro e w14 ⟨rfl, nw14, hO14, C10⟩
  replace bo1 := hO14.keeps (fNodes_good (B := 0)) bo1 hd0_1
  replace oG := hO14.keeps (fItem_good (B := 0)) oG hd0_G
  replace kW_0 := C10.cell kW_0B
  replace kW_1 := C10.cell kW_1B
  replace jG_0 := hO14.cell jG_0 bxG_0
  replace jG_1 := hO14.cell jG_1 bxG_0
  replace bo0 := nw14
  clear hm14 nw14 hO14
  clear bo0
  have mt1 := markNodes_le x1
  have hm15 := fun (W : World) (o : _) (c : Bw (w5.alloc (.cells #[.int .i64 Y.id, .slice A1W Y.vals.length c1W] 40)) W) => L_markNodeS (w5.alloc (.cells #[.int .i64 Y.id, .slice A1W Y.vals.length c1W] 40)) W x1 b1 bF1 T0 o bf1 c (by omega) (by have := HT0.out; omega)
  obtain ⟨T1, hT1⟩ : ∃ T1, T1 = T0 + markNodes x1 := ⟨_, rfl⟩
  rw [← hT1] at hm15
  have BT1 : T1 ≤ 4194305 := by have := HT0.out; omega
  have HT1 := Lib.hid hT1
  clear hT1
  go_wp2_with fail
  refine (hm15 _ bo1 C10).mono ?_
  rintro e w15 ⟨rfl, nw15, hO15, C11⟩
  replace oG := hO15.keeps (fItem_good (B := 0)) oG hd1_G
  replace kW_0 := C11.cell kW_0B
  replace kW_1 := C11.cell kW_1B
  replace jG_0 := hO15.cell jG_0 bxG_1
  replace jG_1 := hO15.cell jG_1 bxG_1
  replace bo1 := nw15
  clear hm15 nw15 hO15
  clear bo1
  go_wp2_with fail
  refine (L_eqItem _ Y Y _ _ (fItem_Rds oG) (rW1.bw rInts_good C11)).mono ?_
  rintro e w16 ⟨rfl, hb16⟩
  have C12 : Bw (w5.alloc (.cells #[.int .i64 Y.id, .slice A1W Y.vals.length c1W] 40)) _ := C11.then hb16
  replace oG := (fItem_good (B := (w5.alloc (.cells #[.int .i64 Y.id, .slice A1W Y.vals.length c1W] 40)).heap.size)).bw hb16 C11.size oG
  replace kW_0 := hb16.cell kW_0
  replace kW_1 := hb16.cell kW_1
  replace jG_0 := hb16.cell jG_0
  replace jG_1 := hb16.cell jG_1
  rw [show decide (Y = Y) = true from by simp]
  have hm17 := fun (W : World) (o : _) (c : Bw (w5.alloc (.cells #[.int .i64 Y.id, .slice A1W Y.vals.length c1W] 40)) W) => L_markItemA (w5.alloc (.cells #[.int .i64 Y.id, .slice A1W Y.vals.length c1W] 40)) W Y A1G Y.vals.length c1G FG 1 o fG c tY (by omega)
  obtain ⟨TM, hTM⟩ : ∃ TM, TM = 1 + Y.vals.length := ⟨_, rfl⟩
  rw [← hTM] at hm17
  have BTM : TM ≤ 1048577 := by omega
  have HTM := Lib.hid hTM
  clear hTM
  go_wp2_with fail
  refine (hm17 _ oG C12).mono ?_
  rintro e w17 ⟨rfl, nw17, hO17, C13⟩
  replace kW_0 := C13.cell kW_0B
  replace kW_1 := C13.cell kW_1B
  replace jG_0 := hO17.cell jG_0 bxG_G
  replace jG_1 := hO17.cell jG_1 bxG_G
  replace oG := nw17
  clear hm17 nw17 hO17
  have hh17 := L_heldIt oG tY
  rw [← HTM.out] at hh17
  go_wp2_with fail
  refine (hh17).mono ?_
  rintro e w18 ⟨rfl, hb18⟩
  have C14 : Bw (w5.alloc (.cells #[.int .i64 Y.id, .slice A1W Y.vals.length c1W] 40)) _ := C13.then hb18
  replace oG := (fItem_good (B := (w5.alloc (.cells #[.int .i64 Y.id, .slice A1W Y.vals.length c1W] 40)).heap.size)).bw hb18 C13.size oG
  replace kW_0 := hb18.cell kW_0
  replace kW_1 := hb18.cell kW_1
  replace jG_0 := hb18.cell jG_0
  replace jG_1 := hb18.cell jG_1
  clear hh17
  go_wp2_with fail
  refine (L_toItemS _ x0 _ (by exact (k0.bw rItems_good C14)) t0).mono ?_
  rintro e w19 ⟨d0, rfl, ⟨dF0, do0, df0⟩, hb19⟩
  have C15 : Bw (w5.alloc (.cells #[.int .i64 Y.id, .slice A1W Y.vals.length c1W] 40)) _ := C14.then hb19
  replace oG := (fItem_good (B := (w5.alloc (.cells #[.int .i64 Y.id, .slice A1W Y.vals.length c1W] 40)).heap.size)).bw hb19 C14.size oG
  replace kW_0 := hb19.cell kW_0
  replace kW_1 := hb19.cell kW_1
  replace jG_0 := hb19.cell jG_0
  replace jG_1 := hb19.cell jG_1
  go_wp2_with fail
  refine (L_toNodeS _ x1 _ (by exact (k1.bw rNodes_good C15)) t1).mono ?_
  rintro e w20 ⟨d1, rfl, ⟨dF1, do1, df1⟩, hb20⟩
  have C16 : Bw (w5.alloc (.cells #[.int .i64 Y.id, .slice A1W Y.vals.length c1W] 40)) _ := C15.then hb20
  replace oG := (fItem_good (B := (w5.alloc (.cells #[.int .i64 Y.id, .slice A1W Y.vals.length c1W] 40)).heap.size)).bw hb20 C15.size oG
  replace do0 := (fItems_good (B := (w5.alloc (.cells #[.int .i64 Y.id, .slice A1W Y.vals.length c1W] 40)).heap.size)).bw hb20 C15.size do0
  replace kW_0 := hb20.cell kW_0
  replace kW_1 := hb20.cell kW_1
  replace jG_0 := hb20.cell jG_0
  replace jG_1 := hb20.cell jG_1
  go_wp2_with fail
  refine (I_SmallestChange _ x0 x1 x2 _ _ (by exact fItems_Rd do0) (by exact fNodes_Rd do1)).mono ?_
  rintro e w21 ⟨_, rfl, ⟨vH, rfl, ⟨FH, oH, fH⟩⟩, hb21⟩
  have C17 : Bw (w5.alloc (.cells #[.int .i64 Y.id, .slice A1W Y.vals.length c1W] 40)) _ := C16.then hb21
  replace oG := (fItem_good (B := (w5.alloc (.cells #[.int .i64 Y.id, .slice A1W Y.vals.length c1W] 40)).heap.size)).bw hb21 C16.size oG
  replace do0 := (fItems_good (B := (w5.alloc (.cells #[.int .i64 Y.id, .slice A1W Y.vals.length c1W] 40)).heap.size)).bw hb21 C16.size do0
  replace do1 := (fNodes_good (B := (w5.alloc (.cells #[.int .i64 Y.id, .slice A1W Y.vals.length c1W] 40)).heap.size)).bw hb21 C16.size do1
  replace kW_0 := hb21.cell kW_0
  replace kW_1 := hb21.cell kW_1
  replace jG_0 := hb21.cell jG_0
  replace jG_1 := hb21.cell jG_1
  rw [← HZ0.out]
  rw [← HZ1.out]
  rw [← HY.out] at oH
  clear do0 df0
  clear do1 df1
  obtain ⟨A1H, c1H, rfl⟩ := fItem_open oH
  have hAH := (Bw.refl w21).alloc (.cells #[.int .i64 Y.id, .slice A1H Y.vals.length c1H] 40)
  have C18 : Bw (w5.alloc (.cells #[.int .i64 Y.id, .slice A1W Y.vals.length c1W] 40)) _ := C17.then hAH
  replace oG := (fItem_good (B := (w5.alloc (.cells #[.int .i64 Y.id, .slice A1W Y.vals.length c1W] 40)).heap.size)).bw hAH C17.size oG
  replace oH := (fItem_good (B := (w5.alloc (.cells #[.int .i64 Y.id, .slice A1W Y.vals.length c1W] 40)).heap.size)).bw hAH C17.size oH
  replace kW_0 := hAH.cell kW_0
  replace kW_1 := hAH.cell kW_1
  replace jG_0 := hAH.cell jG_0
  replace jG_1 := hAH.cell jG_1
  go_wp2_with fail
  refine (L_eqItem _ Y Y _ _ (fItem_Rds oH) (rW1.bw rInts_good C18)).mono ?_
  rintro e w22 ⟨rfl, hb22⟩
  have C19 : Bw (w5.alloc (.cells #[.int .i64 Y.id, .slice A1W Y.vals.length c1W] 40)) _ := C18.then hb22
  replace oG := (fItem_good (B := (w5.alloc (.cells #[.int .i64 Y.id, .slice A1W Y.vals.length c1W] 40)).heap.size)).bw hb22 C18.size oG
  replace kW_0 := hb22.cell kW_0
  replace kW_1 := hb22.cell kW_1
  replace jG_0 := hb22.cell jG_0
  replace jG_1 := hb22.cell jG_1
  rw [show decide (Y = Y) = true from by simp]
  have hh22 := L_heldIt oG tY
  rw [← HTM.out] at hh22
  go_wp2_with fail
  refine (hh22).mono ?_
  rintro e w23 ⟨rfl, hb23⟩
  have C20 : Bw (w5.alloc (.cells #[.int .i64 Y.id, .slice A1W Y.vals.length c1W] 40)) _ := C19.then hb23
  replace oG := (fItem_good (B := (w5.alloc (.cells #[.int .i64 Y.id, .slice A1W Y.vals.length c1W] 40)).heap.size)).bw hb23 C19.size oG
  replace kW_0 := hb23.cell kW_0
  replace kW_1 := hb23.cell kW_1
  replace jG_0 := hb23.cell jG_0
  replace jG_1 := hb23.cell jG_1
  clear hh22
  go_wp2
  go_ret
  exact Ret.bool rfl (B6.then C20)
set_option maxRecDepth 100000 in
theorem lifted_FnExactSmallestChange (os : Os) (started : os.Started) (H : Type) (enc : TypeId × Value → H) :
    ReturnsInHanded {} Try.checked os 8 .any (Rows.fnExactSmallestChangeSpec.pre6 enc Try.prog Try.f8 Rows.fnExactSmallestChangeRow.domain false) (Rows.fnExactSmallestChangeSpec.post enc Try.prog Try.f8 false true false false) := by
  refine returnsInHanded_of_change (C := Try.checked) own_knob started (by kernel_rfl) Try.func8
    (ChangeSpec.witness6 (enc := enc) (C := Try.checked) false ⟨#[], #[.slice none 0 0, .slice none 0 0, .int .i64 0], []⟩ 8 (by kernel_rfl) (by kernel_rfl) (by kernel_rfl) (by kernel_rfl)) ?_
  intro W base args ds gs before hval0 hW hcnd _
  have hval : ∀ (j : Nat) t v, Try.f8.params[j]? = some t → args[j]? = some v → Value.okWide Try.prog W .any base t v := hval0
  have hW' := hW
  obtain ⟨p, q, hA0, hV, rfl, hfz, hnd⟩ := hW
  have hA : DataW.TrodAll enc Try.prog W 0 (fun _ => true) true Try.f8.params.toList args.toList ds p := hA0
  rw [Try.params8] at hA hval
  obtain ⟨v0, vs0, d0, ds0, p0, q0, hargs, rfl, rfl, h0, r0⟩ := trodAll_cons hA
  obtain ⟨v1, vs1, d1, ds1, p1, q1, rfl, rfl, rfl, h1, r1⟩ := trodAll_cons r0
  obtain ⟨v2, vs2, d2, ds2, p2, q2, rfl, rfl, rfl, h2, r2⟩ := trodAll_cons r1
  obtain ⟨rfl, rfl, rfl⟩ := trodAll_nil r2
  obtain rfl : args = #[v0, v1, v2] := by cases args; simp_all
  obtain ⟨rfl, rfl⟩ := trodVars_none hV
  have k0 := h0
  have lt0 : ∀ x ∈ p0, x.block < W.heap.size := by obtain ⟨m, hm⟩ := k0; exact DataW.trod_lt m _ _ _ hm
  obtain ⟨a0, len0, cap0, rfl⟩ := okWide_slice Try.underlying45 (hval 0 45 v0 rfl rfl)
  obtain ⟨x0, R0, Q0⟩ : ∃ xs, Rd rItems W xs [.slice a0 len0 cap0] ∧ ∀ x ∈ xs, wfItem x := by obtain ⟨m, hm⟩ := h0; exact t_items hm
  have k1 := h1
  have lt1 : ∀ x ∈ p1, x.block < W.heap.size := by obtain ⟨m, hm⟩ := k1; exact DataW.trod_lt m _ _ _ hm
  obtain ⟨a1, len1, cap1, rfl⟩ := okWide_slice Try.underlying22 (hval 1 22 v1 rfl rfl)
  obtain ⟨x1, R1, Q1⟩ : ∃ xs, Rd rNodes W xs [.slice a1 len1 cap1] ∧ ∀ x ∈ xs, wfNode x := by obtain ⟨m, hm⟩ := h1; exact t_nodes hm
  obtain ⟨x2, rfl, rfl, rfl, Q2⟩ := open_int Try.underlying3 (hval 2 3 v2 rfl rfl) h2
  clear hA0 hval0
  refine (walk_FnExactSmallestChange W x0 _ R0 Q0 x1 _ R1 Q1 x2 Q2).mono fun e W' ⟨he, bel⟩ => ?_
  subst he
  exact ⟨_, rfl, _, _, _, [], _, [], hW', trodAll_mk1 (shut_bool Try.underlying4 _), (trodAll_cons_mk (Below.trod laid_out (by kernel_rfl) (of_decide_eq_true (by kernel_rfl)) k0 bel lt0) (trodAll_cons_mk (Below.trod laid_out (by kernel_rfl) (of_decide_eq_true (by kernel_rfl)) k1 bel lt1) (trodAll_cons_mk (shut_int Try.underlying3 Q2) trodAll_mk0))), rfl, Below.frame bel _, fun h => by cases h⟩
/-- the statement -/
theorem FnExactSmallestChange_holds : Rows.FnExactSmallestChangeSaid :=
  OpenClaim.holds_of_wide 8 Try.f8 rfl rfl rfl rfl rfl rfl rfl ⟨rfl, rfl, rfl, rfl, rfl⟩ rfl rfl rfl rfl rfl (by kernel_rfl) Try.func8 (by kernel_rfl)
    (of_decide_eq_true (by kernel_rfl)) (by unfold Func.isWrapper; first | (rw [if_pos (by decide +kernel)]; kernel_rfl) | (rw [if_neg (by decide +kernel)]; exact ⟨rfl, rfl⟩))
    (fun os started H enc _ => lifted_FnExactSmallestChange os started H enc)
end Go.Proofs.Ytdfmgpmfalnffaa
