/- For every input, FnExactExclusiveOf returns true and leaves its arguments as they were. No condition. -/
import Derived.Test.YtdfmgpmfalnffaaRows
import Derived.Test.YtdfmgpmfalnffaaExclI
import Derived.Test.YtdfmgpmfalnffaaExclS
import Derived.Test.YtdfmgpmfalnffaaStandF
import Derived.Test.YtdfmgpmfalnffaaMarks4
import Derived.Test.YtdfmgpmfalnffaaOpen
namespace Go.Proofs.Ytdfmgpmfalnffaa
open Go.RowKit Go.ChangeShapes Go.WideShapes Go.ChangeAt
set_option linter.unusedVariables false
theorem excl_small (s : GStanding) (id : Int) (h : totStanding s ≤ 1048576) : (exclM s id).length ≤ 1048576 := by
  have h1 := exclM_len s id trivial
  unfold totStanding totItems at h
  omega
set_option maxRecDepth 100000 in
set_option maxHeartbeats 6000000 in
theorem walk_FnExactExclusiveOf (w : World) (x0 : GStanding) (v0a v0b v0c : Value) (h0a : Rd rItems w x0.items [v0a]) (h0b : Rd rNodes w x0.wanted [v0b]) (h0c : Rd rInts w x0.best [v0c]) (q0 : wfStanding x0) (x1 : Int) (q1 : (Lit.int .i64 x1).wf = true) :
    Calls Try.prog 14 #[.agg #[v0a, v0b, v0c, .int .i64 x0.tests], .int .i64 x1] w (Ret w (.bool true)) := by
  go_enter Try.func14, Try.ntmps14
  have B0 : Bw w (w.alloc (.cells #[v0a, v0b, v0c, .int .i64 x0.tests] 57)) := ((Bw.refl w).alloc _)
  have k0_0 : (w.alloc (.cells #[v0a, v0b, v0c, .int .i64 x0.tests] 57)).cell? ⟨w.heap.size, 0, none⟩ = some (v0a) := by go_simp
  have k0_1 : (w.alloc (.cells #[v0a, v0b, v0c, .int .i64 x0.tests] 57)).cell? ⟨w.heap.size, 1, none⟩ = some (v0b) := by go_simp
  have k0_2 : (w.alloc (.cells #[v0a, v0b, v0c, .int .i64 x0.tests] 57)).cell? ⟨w.heap.size, 2, none⟩ = some (v0c) := by go_simp
  have k0_3 : (w.alloc (.cells #[v0a, v0b, v0c, .int .i64 x0.tests] 57)).cell? ⟨w.heap.size, 3, none⟩ = some (.int .i64 x0.tests) := by go_simp
  go_wp2_with fail
  refine (L_szStanding _ x0 _ _ _ (h0a.bw rItems_good B0) (h0b.bw rNodes_good B0) (h0c.bw rInts_good B0) (1048576 : Int) (by omega) (by omega)).mono ?_
  rintro e w1 ⟨rfl, hb1⟩
  have B1 : Bw w _ := B0.then hb1
  replace k0_0 := hb1.cell k0_0
  replace k0_1 := hb1.cell k0_1
  replace k0_2 := hb1.cell k0_2
  replace k0_3 := hb1.cell k0_3
  by_cases s0 : (1048576 : Int) < ((totStanding x0 : Nat) : Int)
  · rw [show szM (1048576 : Int) (totStanding x0) = -1 from if_pos s0]
    go_wp2
    go_ret
    exact Ret.bool rfl B1
  rw [show szM (1048576 : Int) (totStanding x0) = ((1048576 : Int) - ((totStanding x0 : Nat) : Int)) from if_neg s0]
  have t0 : totStanding x0 ≤ 1048576 := by omega
  go_wp2_with fail
  refine (L_toStanding _ x0 _ _ _ (by exact (h0a.bw rItems_good B1)) (by exact (h0b.bw rNodes_good B1)) (by exact (h0c.bw rInts_good B1)) t0).mono ?_
  rintro e w2 ⟨_, aF0, rfl, ⟨a0a, a0b, a0c, aF0a, aF0b, aF0c, rfl, ao0a, ao0b, ao0c, rfl⟩, af0, hb2⟩
  have B2 : Bw w _ := B1.then hb2
  replace k0_0 := hb2.cell k0_0
  replace k0_1 := hb2.cell k0_1
  replace k0_2 := hb2.cell k0_2
  replace k0_3 := hb2.cell k0_3
  have ar0a := fItems_Rd ao0a
  have ar0b := fNodes_Rd ao0b
  have ar0c := fInts_Rd ao0c
  go_wp2_with fail
  refine (S_ExclusiveOf _ x0 x1 _ _ _ (by exact ar0a) (by exact ar0b) (by exact ar0c)).mono ?_
  rintro e w3 ⟨vW, rfl, ⟨FW, oW, fW⟩, hb3⟩
  have B3 : Bw w _ := B2.then hb3
  replace k0_0 := hb3.cell k0_0
  replace k0_1 := hb3.cell k0_1
  replace k0_2 := hb3.cell k0_2
  replace k0_3 := hb3.cell k0_3
  replace ar0a := ar0a.bw rItems_good hb3
  replace ar0b := ar0b.bw rNodes_good hb3
  replace ar0c := ar0c.bw rInts_good hb3
  obtain ⟨Y, hY⟩ : ∃ Y, Y = exclM x0 x1 := ⟨_, rfl⟩
  have tY : Y.length ≤ 1048576 := by rw [hY]; exact excl_small x0 x1 t0
  rw [← hY] at oW
  have rW := fInts_Rd oW
  have k0a := h0a.bw rItems_good B3
  have k0b := h0b.bw rNodes_good B3
  have k0c := h0c.bw rInts_good B3
  have HY := Lib.hid hY
  clear hY oW fW ar0a ao0a ar0b ao0b ar0c ao0c af0
  have k0_0B := k0_0
  have k0_1B := k0_1
  have k0_2B := k0_2
  have k0_3B := k0_3
  go_wp2_with fail
  refine (L_toStanding _ x0 _ _ _ (by exact (k0a.bw rItems_good (Bw.refl w3))) (by exact (k0b.bw rNodes_good (Bw.refl w3))) (by exact (k0c.bw rInts_good (Bw.refl w3))) t0).mono ?_
  rintro e w4 ⟨bcs0, bF0, rfl, bo0, bf0, hb4⟩
  have C1 : Bw w3 _ := (Bw.refl w3).then hb4
  replace k0_0 := hb4.cell k0_0
  replace k0_1 := hb4.cell k0_1
  replace k0_2 := hb4.cell k0_2
  replace k0_3 := hb4.cell k0_3
  replace bf0 := bf0.mono (Bw.refl w3).size
  obtain ⟨A1b0, c1b0, A2b0, c2b0, A3b0, c3b0, rfl⟩ := fStanding_shape bo0
  have bx0_0 : w4.heap.size ∉ bF0 := fun h => by have := (fStanding_good (B := 0)).lt bo0 _ h; omega
  have hA0 := (Bw.refl w4).alloc (.cells #[.slice A1b0 x0.items.length c1b0, .slice A2b0 x0.wanted.length c2b0, .slice A3b0 x0.best.length c3b0, .int .i64 x0.tests] 61)
  have C2 : Bw w3 _ := C1.then hA0
  replace bo0 := (fStanding_good (B := w3.heap.size)).bw hA0 C1.size bo0
  replace k0_0 := hA0.cell k0_0
  replace k0_1 := hA0.cell k0_1
  replace k0_2 := hA0.cell k0_2
  replace k0_3 := hA0.cell k0_3
  have j0_0 : (w4.alloc (.cells #[.slice A1b0 x0.items.length c1b0, .slice A2b0 x0.wanted.length c2b0, .slice A3b0 x0.best.length c3b0, .int .i64 x0.tests] 61)).cell? ⟨w4.heap.size, 0, none⟩ = some (.slice A1b0 x0.items.length c1b0) := by go_simp
  have j0_1 : (w4.alloc (.cells #[.slice A1b0 x0.items.length c1b0, .slice A2b0 x0.wanted.length c2b0, .slice A3b0 x0.best.length c3b0, .int .i64 x0.tests] 61)).cell? ⟨w4.heap.size, 1, none⟩ = some (.slice A2b0 x0.wanted.length c2b0) := by go_simp
  have j0_2 : (w4.alloc (.cells #[.slice A1b0 x0.items.length c1b0, .slice A2b0 x0.wanted.length c2b0, .slice A3b0 x0.best.length c3b0, .int .i64 x0.tests] 61)).cell? ⟨w4.heap.size, 2, none⟩ = some (.slice A3b0 x0.best.length c3b0) := by go_simp
  have j0_3 : (w4.alloc (.cells #[.slice A1b0 x0.items.length c1b0, .slice A2b0 x0.wanted.length c2b0, .slice A3b0 x0.best.length c3b0, .int .i64 x0.tests] 61)).cell? ⟨w4.heap.size, 3, none⟩ = some (.int .i64 x0.tests) := by go_simp
  have lt0_G := (fStanding_good (B := 0)).lt bo0
  go_wp2_with fail
  refine (I_ExclusiveOf _ x0 x1 _ _ _ (by exact (fStanding_Rds bo0).1) (by exact (fStanding_Rds bo0).2.1) (by exact (fStanding_Rds bo0).2.2.1)).mono ?_
  rintro e w5 ⟨vG, rfl, ⟨FG, oG, fG⟩, hb5⟩
  have C3 : Bw w3 _ := C2.then hb5
  replace bo0 := (fStanding_good (B := w3.heap.size)).bw hb5 C2.size bo0
  replace k0_0 := hb5.cell k0_0
  replace k0_1 := hb5.cell k0_1
  replace k0_2 := hb5.cell k0_2
  replace k0_3 := hb5.cell k0_3
  replace j0_0 := hb5.cell j0_0
  replace j0_1 := hb5.cell j0_1
  replace j0_2 := hb5.cell j0_2
  replace j0_3 := hb5.cell j0_3
  have hd0_G : ∀ b ∈ FG, b ∉ bF0 := fun b hb hb2 => by have := fG.ge b hb; have := lt0_G b hb2; omega
  replace fG := fG.mono C2.size
  rw [← HY.out] at oG
  go_wp2_with fail
  refine (L_eqIntS _ Y Y _ _ (fInts_Rd oG) (rW.bw rInts_good C3)).mono ?_
  rintro e w6 ⟨rfl, hb6⟩
  have C4 : Bw w3 _ := C3.then hb6
  replace bo0 := (fStanding_good (B := w3.heap.size)).bw hb6 C3.size bo0
  replace oG := (fInts_good (B := w3.heap.size)).bw hb6 C3.size oG
  replace k0_0 := hb6.cell k0_0
  replace k0_1 := hb6.cell k0_1
  replace k0_2 := hb6.cell k0_2
  replace k0_3 := hb6.cell k0_3
  replace j0_0 := hb6.cell j0_0
  replace j0_1 := hb6.cell j0_1
  replace j0_2 := hb6.cell j0_2
  replace j0_3 := hb6.cell j0_3
  rw [show decide (Y = Y) = true from by simp]
  go_wp2_with fail
  have C5 : Bw w3 _ := C4.drew
  have hdr := fun (W : World) => (Bw.refl W).drew
  replace bo0 := (fStanding_good (B := w3.heap.size)).bw (hdr _) C4.size bo0
  replace oG := (fInts_good (B := w3.heap.size)).bw (hdr _) C4.size oG
  replace k0_0 := (hdr _).cell k0_0
  replace k0_1 := (hdr _).cell k0_1
  replace k0_2 := (hdr _).cell k0_2
  replace k0_3 := (hdr _).cell k0_3
  replace j0_0 := (hdr _).cell j0_0
  replace j0_1 := (hdr _).cell j0_1
  replace j0_2 := (hdr _).cell j0_2
  replace j0_3 := (hdr _).cell j0_3
  clear hdr
  go_region_held3 (fun w' => w'.cell? ⟨w.heap.size, 0, none⟩ = some (v0a) ∧ w'.cell? ⟨w.heap.size, 1, none⟩ = some (v0b) ∧ w'.cell? ⟨w.heap.size, 2, none⟩ = some (v0c) ∧ w'.cell? ⟨w.heap.size, 3, none⟩ = some (.int .i64 x0.tests) ∧ w'.cell? ⟨w4.heap.size, 0, none⟩ = some (.slice A1b0 x0.items.length c1b0) ∧ w'.cell? ⟨w4.heap.size, 1, none⟩ = some (.slice A2b0 x0.wanted.length c2b0) ∧ w'.cell? ⟨w4.heap.size, 2, none⟩ = some (.slice A3b0 x0.best.length c3b0) ∧ w'.cell? ⟨w4.heap.size, 3, none⟩ = some (.int .i64 x0.tests)) (first | go_keep | exact ⟨k0_0, k0_1, k0_2, k0_3, j0_0, j0_1, j0_2, j0_3⟩)
    (first
      | (go_at_call 40; refine (L_toStanding _ x0 _ _ _ (by exact (k0a.bw rItems_good C5)) (by exact (k0b.bw rNodes_good C5)) (by exact (k0c.bw rInts_good C5)) t0).mono ?_; rintro e w7 ⟨ccs0, cF0, rfl, co0, cf0, hb7⟩; have C6 : Bw w3 _ := C5.then hb7; replace bo0 := (fStanding_good (B := w3.heap.size)).bw hb7 C5.size bo0; replace oG := (fInts_good (B := w3.heap.size)).bw hb7 C5.size oG; replace k0_0 := hb7.cell k0_0; replace k0_1 := hb7.cell k0_1; replace k0_2 := hb7.cell k0_2; replace k0_3 := hb7.cell k0_3; replace j0_0 := hb7.cell j0_0; replace j0_1 := hb7.cell j0_1; replace j0_2 := hb7.cell j0_2; replace j0_3 := hb7.cell j0_3; obtain ⟨A1c0, c1c0, A2c0, c2c0, A3c0, c3c0, rfl⟩ := fStanding_shape co0)
      | (go_at_call 42; refine (L_eqStanding _ x0 x0 _ _ _ _ _ _ (by exact ((fStanding_Rds bo0).1)) (by exact ((fStanding_Rds bo0).2.1)) (by exact ((fStanding_Rds bo0).2.2.1)) (by exact ((fStanding_Rds co0).1)) (by exact ((fStanding_Rds co0).2.1)) (by exact ((fStanding_Rds co0).2.2.1))).mono ?_; rintro e w8 ⟨rfl, hb8⟩; have C7 : Bw w3 _ := C6.then hb8; replace bo0 := (fStanding_good (B := w3.heap.size)).bw hb8 C6.size bo0; replace oG := (fInts_good (B := w3.heap.size)).bw hb8 C6.size oG; replace co0 := (fStanding_good (B := w3.heap.size)).bw hb8 C6.size co0; replace k0_0 := hb8.cell k0_0; replace k0_1 := hb8.cell k0_1; replace k0_2 := hb8.cell k0_2; replace k0_3 := hb8.cell k0_3; replace j0_0 := hb8.cell j0_0; replace j0_1 := hb8.cell j0_1; replace j0_2 := hb8.cell j0_2; replace j0_3 := hb8.cell j0_3))
  clear co0 cf0
  have sm0 := smallSt_of t0
  have mt0 := markSt_le sm0
  have hm9 := fun (W : World) (o : _) (c : Bw w3 W) => L_markStanding w3 W x0 A1b0 A2b0 A3b0 x0.items.length x0.wanted.length x0.best.length c1b0 c2b0 c3b0 bF0 1 o bf0 c sm0 (by omega)
  obtain ⟨T0, hT0⟩ : ∃ T0, T0 = 1 + markSt x0 := ⟨_, rfl⟩
  rw [← hT0] at hm9
  have BT0 : T0 ≤ 7340033 := by omega
  have HT0 := Lib.hid hT0
  clear hT0
  go_wp2_with fail
  refine (hm9 _ bo0 C7).mono ?_
  rintro e w9 ⟨rfl, nw9, hO9, C8⟩
  replace oG := hO9.keeps (fInts_good (B := 0)) oG hd0_G
  replace k0_0 := C8.cell k0_0B
  replace k0_1 := C8.cell k0_1B
  replace k0_2 := C8.cell k0_2B
  replace k0_3 := C8.cell k0_3B
  replace j0_0 := hO9.cell j0_0 bx0_0
  replace j0_1 := hO9.cell j0_1 bx0_0
  replace j0_2 := hO9.cell j0_2 bx0_0
  replace j0_3 := hO9.cell j0_3 bx0_0
  replace bo0 := nw9
  clear hm9 nw9 hO9
  clear bo0
  clear j0_0
  clear j0_1
  clear j0_2
  clear j0_3
  go_wp2_with fail
  refine (L_eqIntS _ Y Y _ _ (fInts_Rd oG) (rW.bw rInts_good C8)).mono ?_
  rintro e w10 ⟨rfl, hb10⟩
  have C9 : Bw w3 _ := C8.then hb10
  replace oG := (fInts_good (B := w3.heap.size)).bw hb10 C8.size oG
  replace k0_0 := hb10.cell k0_0
  replace k0_1 := hb10.cell k0_1
  replace k0_2 := hb10.cell k0_2
  replace k0_3 := hb10.cell k0_3
  rw [show decide (Y = Y) = true from by simp]
  have hm11 := fun (W : World) (o : _) (c : Bw w3 W) => L_markIntS w3 W Y vG FG 1 o fG c (by omega) (by omega)
  obtain ⟨TM, hTM⟩ : ∃ TM, TM = 1 + Y.length := ⟨_, rfl⟩
  rw [← hTM] at hm11
  have BTM : TM ≤ 1048577 := by omega
  have HTM := Lib.hid hTM
  clear hTM
  go_wp2_with fail
  refine (hm11 _ oG C9).mono ?_
  rintro e w11 ⟨rfl, nw11, hO11, C10⟩
  replace k0_0 := C10.cell k0_0B
  replace k0_1 := C10.cell k0_1B
  replace k0_2 := C10.cell k0_2B
  replace k0_3 := C10.cell k0_3B
  replace oG := nw11
  clear hm11 nw11 hO11
  have hh11 := fun (W : World) (o : _) => L_heldIntS W Y vG 1 o (by omega) (by omega)
  rw [← HTM.out] at hh11
  go_wp2_with fail
  refine (hh11 _ (fInts_Rd oG)).mono ?_
  rintro e w12 ⟨rfl, hb12⟩
  have C11 : Bw w3 _ := C10.then hb12
  replace oG := (fInts_good (B := w3.heap.size)).bw hb12 C10.size oG
  replace k0_0 := hb12.cell k0_0
  replace k0_1 := hb12.cell k0_1
  replace k0_2 := hb12.cell k0_2
  replace k0_3 := hb12.cell k0_3
  clear hh11
  go_wp2_with fail
  refine (L_toStanding _ x0 _ _ _ (by exact (k0a.bw rItems_good C11)) (by exact (k0b.bw rNodes_good C11)) (by exact (k0c.bw rInts_good C11)) t0).mono ?_
  rintro e w13 ⟨dcs0, dF0, rfl, do0, df0, hb13⟩
  have C12 : Bw w3 _ := C11.then hb13
  replace oG := (fInts_good (B := w3.heap.size)).bw hb13 C11.size oG
  replace k0_0 := hb13.cell k0_0
  replace k0_1 := hb13.cell k0_1
  replace k0_2 := hb13.cell k0_2
  replace k0_3 := hb13.cell k0_3
  obtain ⟨A1d0, c1d0, A2d0, c2d0, A3d0, c3d0, rfl⟩ := fStanding_shape do0
  go_wp2_with fail
  refine (I_ExclusiveOf _ x0 x1 _ _ _ (by exact (fStanding_Rds do0).1) (by exact (fStanding_Rds do0).2.1) (by exact (fStanding_Rds do0).2.2.1)).mono ?_
  rintro e w14 ⟨vH, rfl, ⟨FH, oH, fH⟩, hb14⟩
  have C13 : Bw w3 _ := C12.then hb14
  replace oG := (fInts_good (B := w3.heap.size)).bw hb14 C12.size oG
  replace do0 := (fStanding_good (B := w3.heap.size)).bw hb14 C12.size do0
  replace k0_0 := hb14.cell k0_0
  replace k0_1 := hb14.cell k0_1
  replace k0_2 := hb14.cell k0_2
  replace k0_3 := hb14.cell k0_3
  rw [← HY.out] at oH
  clear do0 df0
  go_wp2_with fail
  refine (L_eqIntS _ Y Y _ _ (fInts_Rd oH) (rW.bw rInts_good C13)).mono ?_
  rintro e w15 ⟨rfl, hb15⟩
  have C14 : Bw w3 _ := C13.then hb15
  replace oG := (fInts_good (B := w3.heap.size)).bw hb15 C13.size oG
  replace k0_0 := hb15.cell k0_0
  replace k0_1 := hb15.cell k0_1
  replace k0_2 := hb15.cell k0_2
  replace k0_3 := hb15.cell k0_3
  rw [show decide (Y = Y) = true from by simp]
  have hh15 := fun (W : World) (o : _) => L_heldIntS W Y vG 1 o (by omega) (by omega)
  rw [← HTM.out] at hh15
  go_wp2_with fail
  refine (hh15 _ (fInts_Rd oG)).mono ?_
  rintro e w16 ⟨rfl, hb16⟩
  have C15 : Bw w3 _ := C14.then hb16
  replace oG := (fInts_good (B := w3.heap.size)).bw hb16 C14.size oG
  replace k0_0 := hb16.cell k0_0
  replace k0_1 := hb16.cell k0_1
  replace k0_2 := hb16.cell k0_2
  replace k0_3 := hb16.cell k0_3
  clear hh15
  go_wp2
  go_ret
  exact Ret.bool rfl (B3.then C15)
set_option maxRecDepth 100000 in
theorem lifted_FnExactExclusiveOf (os : Os) (started : os.Started) (H : Type) (enc : TypeId × Value → H) :
    ReturnsInHanded {} Try.checked os 14 .any (Rows.fnExactExclusiveOfSpec.pre6 enc Try.prog Try.f14 Rows.fnExactExclusiveOfRow.domain false) (Rows.fnExactExclusiveOfSpec.post enc Try.prog Try.f14 false true false false) := by
  refine returnsInHanded_of_change (C := Try.checked) own_knob started (by kernel_rfl) Try.func14
    (ChangeSpec.witness6 (enc := enc) (C := Try.checked) false ⟨#[], #[.agg #[.slice none 0 0, .slice none 0 0, .slice none 0 0, .int .i64 0], .int .i64 0], []⟩ 8 (by kernel_rfl) (by kernel_rfl) (by kernel_rfl) (by kernel_rfl)) ?_
  intro W base args ds gs before hval0 hW hcnd _
  have hval : ∀ (j : Nat) t v, Try.f14.params[j]? = some t → args[j]? = some v → Value.okWide Try.prog W .any base t v := hval0
  have hW' := hW
  obtain ⟨p, q, hA0, hV, rfl, hfz, hnd⟩ := hW
  have hA : DataW.TrodAll enc Try.prog W 0 (fun _ => true) true Try.f14.params.toList args.toList ds p := hA0
  rw [Try.params14] at hA hval
  obtain ⟨v0, vs0, d0, ds0, p0, q0, hargs, rfl, rfl, h0, r0⟩ := trodAll_cons hA
  obtain ⟨v1, vs1, d1, ds1, p1, q1, rfl, rfl, rfl, h1, r1⟩ := trodAll_cons r0
  obtain ⟨rfl, rfl, rfl⟩ := trodAll_nil r1
  obtain rfl : args = #[v0, v1] := by cases args; simp_all
  obtain ⟨rfl, rfl⟩ := trodVars_none hV
  have k0 := h0
  have lt0 : ∀ x ∈ p0, x.block < W.heap.size := by obtain ⟨m, hm⟩ := k0; exact DataW.trod_lt m _ _ _ hm
  obtain ⟨cs0, rfl, hsz0⟩ := okWide_struct Try.underlying57 (hval 0 57 v0 rfl rfl)
  obtain ⟨x0, R0, Q0⟩ : ∃ xs, Rd rStanding W xs cs0.toList ∧ wfStanding xs := by obtain ⟨m, hm⟩ := h0; exact t_standing hm
  obtain ⟨ua0, ub0, uc0, e0, Ra0, Rb0, Rc0⟩ := R0
  obtain rfl : cs0 = #[ua0, ub0, uc0, .int .i64 x0.tests] := Array.toList_inj.1 e0
  obtain ⟨x1, rfl, rfl, rfl, Q1⟩ := open_int Try.underlying3 (hval 1 3 v1 rfl rfl) h1
  clear hA0 hval0
  refine (walk_FnExactExclusiveOf W x0 _ _ _ Ra0 Rb0 Rc0 Q0 x1 Q1).mono fun e W' ⟨he, bel⟩ => ?_
  subst he
  exact ⟨_, rfl, _, _, _, [], _, [], hW', trodAll_mk1 (shut_bool Try.underlying4 _), (trodAll_cons_mk (Below.trod laid_out (by kernel_rfl) (of_decide_eq_true (by kernel_rfl)) k0 bel lt0) (trodAll_cons_mk (shut_int Try.underlying3 Q1) trodAll_mk0)), rfl, Below.frame bel _, fun h => by cases h⟩
/-- the statement -/
theorem FnExactExclusiveOf_holds : Rows.FnExactExclusiveOfSaid :=
  OpenClaim.holds_of_wide 14 Try.f14 rfl rfl rfl rfl rfl rfl rfl ⟨rfl, rfl, rfl, rfl, rfl⟩ rfl rfl rfl rfl rfl (by kernel_rfl) Try.func14 (by kernel_rfl)
    (of_decide_eq_true (by kernel_rfl)) (by unfold Func.isWrapper; first | (rw [if_pos (by decide +kernel)]; kernel_rfl) | (rw [if_neg (by decide +kernel)]; exact ⟨rfl, rfl⟩))
    (fun os started H enc _ => lifted_FnExactExclusiveOf os started H enc)
end Go.Proofs.Ytdfmgpmfalnffaa
