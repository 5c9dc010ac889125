/- For every input, FnExactDeleteItem returns true and leaves its arguments as they were. No condition. -/
import Derived.Test.YtfffklkiikmieaaGreatRows
import Derived.Test.YtfffklkiikmieaaGreatQOpen
import Derived.Test.YtfffklkiikmieaaGreatQStandF
import Derived.Test.YtfffklkiikmieaaGreatQMarks4
namespace Go.Proofs.YtfffklkiikmieaaGreat
open Go.RowKit Go.ChangeShapes Go.WideShapes Go.ChangeAt
set_option linter.unusedVariables false
set_option maxRecDepth 100000 in
set_option maxHeartbeats 6000000 in
theorem walk_FnExactDeleteItem (w : World) (x0 : GStanding) (v0a v0b v0c : Value) (h0a : Rd rItems w x0.items [v0a]) (h0b : Rd rNodes w x0.wanted [v0b]) (h0c : Rd rInts w x0.best [v0c]) (q0 : wfStanding x0) (x1 : Int) (q1 : (Lit.int .i64 x1).wf = true) :
    Calls Tryz.prog 4 #[.agg #[v0a, v0b, v0c, .int .i64 x0.tests], .int .i64 x1] w (Ret w (.bool true)) := by
  go_enter Tryz.func4, Tryz.ntmps4
  have B0 : Bw w (w.alloc (.cells #[v0a, v0b, v0c, .int .i64 x0.tests] 43)) := ((Bw.refl w).alloc _)
  have k0_0 : (w.alloc (.cells #[v0a, v0b, v0c, .int .i64 x0.tests] 43)).cell? ⟨w.heap.size, 0, none⟩ = some (v0a) := by go_simp
  have k0_1 : (w.alloc (.cells #[v0a, v0b, v0c, .int .i64 x0.tests] 43)).cell? ⟨w.heap.size, 1, none⟩ = some (v0b) := by go_simp
  have k0_2 : (w.alloc (.cells #[v0a, v0b, v0c, .int .i64 x0.tests] 43)).cell? ⟨w.heap.size, 2, none⟩ = some (v0c) := by go_simp
  have k0_3 : (w.alloc (.cells #[v0a, v0b, v0c, .int .i64 x0.tests] 43)).cell? ⟨w.heap.size, 3, none⟩ = some (.int .i64 x0.tests) := by go_simp
  go_wp2_with fail
  refine (L_szStanding _ x0 _ _ _ (h0a.bw rItems_good B0) (h0b.bw rNodes_good B0) (h0c.bw rInts_good B0) (1048576 : Int) (by omega) (by omega)).mono ?_
  rintro e w1 ⟨rfl, hb1⟩
  have B1 : Bw w _ := B0.then hb1
  replace k0_0 := hb1.cell k0_0
  replace k0_1 := hb1.cell k0_1
  replace k0_2 := hb1.cell k0_2
  replace k0_3 := hb1.cell k0_3
  by_cases s0 : (1048576 : Int) < ((totStanding x0 : Nat) : Int)
  · rw [show szM (1048576 : Int) (totStanding x0) = -1 from if_pos s0]
    go_wp2
    go_ret
    exact Ret.bool rfl B1
  rw [show szM (1048576 : Int) (totStanding x0) = ((1048576 : Int) - ((totStanding x0 : Nat) : Int)) from if_neg s0]
  have t0 : totStanding x0 ≤ 1048576 := by omega
  go_wp2_with fail
  refine (L_toStanding _ x0 _ _ _ (by exact (h0a.bw rItems_good B1)) (by exact (h0b.bw rNodes_good B1)) (by exact (h0c.bw rInts_good B1)) t0).mono ?_
  rintro e w2 ⟨_, aF0, rfl, ⟨a0a, a0b, a0c, aF0a, aF0b, aF0c, rfl, ao0a, ao0b, ao0c, rfl⟩, af0, hb2⟩
  have B2 : Bw w _ := B1.then hb2
  replace k0_0 := hb2.cell k0_0
  replace k0_1 := hb2.cell k0_1
  replace k0_2 := hb2.cell k0_2
  replace k0_3 := hb2.cell k0_3
  have ar0a := fItems_Rd ao0a
  have ar0b := fNodes_Rd ao0b
  have ar0c := fInts_Rd ao0c
  go_wp2_with fail
  refine (S_DeleteItem _ x0 x1 _ _ _ (by exact ar0a) (by exact ar0b) (by exact ar0c) (smallSt_of t0).1 (smallSt_of t0).2.1 (smallSt_of t0).2.2).mono ?_
  rintro e w3 ⟨_, rfl, ⟨vW, rfl, ⟨FW, oW, fW⟩⟩, hb3⟩
  have B3 : Bw w _ := B2.then hb3
  replace k0_0 := hb3.cell k0_0
  replace k0_1 := hb3.cell k0_1
  replace k0_2 := hb3.cell k0_2
  replace k0_3 := hb3.cell k0_3
  replace ar0a := ar0a.bw rItems_good hb3
  replace ar0b := ar0b.bw rNodes_good hb3
  replace ar0c := ar0c.bw rInts_good hb3
  obtain ⟨Y, hY⟩ : ∃ Y, Y = delM x0 x1 := ⟨_, rfl⟩
  rw [← hY] at oW
  obtain ⟨A1W, c1W, A2W, c2W, A3W, c3W, rfl⟩ := fStanding_shape oW
  have hAW := (Bw.refl w3).alloc (.cells #[.slice A1W Y.items.length c1W, .slice A2W Y.wanted.length c2W, .slice A3W Y.best.length c3W, .int .i64 Y.tests] 47)
  have B4 := B3.then hAW
  obtain ⟨rW1, rW2, rW3, _⟩ := fStanding_Rds ((fStanding_good (B := 0)).bw hAW (Nat.zero_le _) oW)
  have kW_0 : (w3.alloc (.cells #[.slice A1W Y.items.length c1W, .slice A2W Y.wanted.length c2W, .slice A3W Y.best.length c3W, .int .i64 Y.tests] 47)).cell? ⟨w3.heap.size, 0, none⟩ = some (.slice A1W Y.items.length c1W) := by go_simp
  replace k0_0 := hAW.cell k0_0
  replace k0_1 := hAW.cell k0_1
  replace k0_2 := hAW.cell k0_2
  replace k0_3 := hAW.cell k0_3
  have kW_1 : (w3.alloc (.cells #[.slice A1W Y.items.length c1W, .slice A2W Y.wanted.length c2W, .slice A3W Y.best.length c3W, .int .i64 Y.tests] 47)).cell? ⟨w3.heap.size, 1, none⟩ = some (.slice A2W Y.wanted.length c2W) := by go_simp
  have kW_2 : (w3.alloc (.cells #[.slice A1W Y.items.length c1W, .slice A2W Y.wanted.length c2W, .slice A3W Y.best.length c3W, .int .i64 Y.tests] 47)).cell? ⟨w3.heap.size, 2, none⟩ = some (.slice A3W Y.best.length c3W) := by go_simp
  have kW_3 : (w3.alloc (.cells #[.slice A1W Y.items.length c1W, .slice A2W Y.wanted.length c2W, .slice A3W Y.best.length c3W, .int .i64 Y.tests] 47)).cell? ⟨w3.heap.size, 3, none⟩ = some (.int .i64 Y.tests) := by go_simp
  clear hAW
  obtain ⟨Z0, hZ0⟩ : ∃ Z, Z = delOk x0 x1 := ⟨_, rfl⟩
  rw [← hZ0]
  have HZ0 := Lib.hid hZ0
  clear hZ0
  have tY : smallSt Y := by rw [hY]; exact delM_small (smallSt_of t0)
  have mtY := markSt_le tY
  have k0a := h0a.bw rItems_good B4
  have k0b := h0b.bw rNodes_good B4
  have k0c := h0c.bw rInts_good B4
  have HY := Lib.hid hY
  clear hY oW fW ar0a ao0a ar0b ao0b ar0c ao0c af0
  have k0_0B := k0_0
  have k0_1B := k0_1
  have k0_2B := k0_2
  have k0_3B := k0_3
  have kW_0B := kW_0
  have kW_1B := kW_1
  have kW_2B := kW_2
  have kW_3B := kW_3
  go_wp2_with fail
  refine (L_toStanding _ x0 _ _ _ (by exact (k0a.bw rItems_good (Bw.refl (w3.alloc (.cells #[.slice A1W Y.items.length c1W, .slice A2W Y.wanted.length c2W, .slice A3W Y.best.length c3W, .int .i64 Y.tests] 47))))) (by exact (k0b.bw rNodes_good (Bw.refl (w3.alloc (.cells #[.slice A1W Y.items.length c1W, .slice A2W Y.wanted.length c2W, .slice A3W Y.best.length c3W, .int .i64 Y.tests] 47))))) (by exact (k0c.bw rInts_good (Bw.refl (w3.alloc (.cells #[.slice A1W Y.items.length c1W, .slice A2W Y.wanted.length c2W, .slice A3W Y.best.length c3W, .int .i64 Y.tests] 47))))) t0).mono ?_
  rintro e w4 ⟨bcs0, bF0, rfl, bo0, bf0, hb4⟩
  have C1 : Bw (w3.alloc (.cells #[.slice A1W Y.items.length c1W, .slice A2W Y.wanted.length c2W, .slice A3W Y.best.length c3W, .int .i64 Y.tests] 47)) _ := (Bw.refl (w3.alloc (.cells #[.slice A1W Y.items.length c1W, .slice A2W Y.wanted.length c2W, .slice A3W Y.best.length c3W, .int .i64 Y.tests] 47))).then hb4
  replace k0_0 := hb4.cell k0_0
  replace k0_1 := hb4.cell k0_1
  replace k0_2 := hb4.cell k0_2
  replace k0_3 := hb4.cell k0_3
  replace kW_0 := hb4.cell kW_0
  replace kW_1 := hb4.cell kW_1
  replace kW_2 := hb4.cell kW_2
  replace kW_3 := hb4.cell kW_3
  replace bf0 := bf0.mono (Bw.refl (w3.alloc (.cells #[.slice A1W Y.items.length c1W, .slice A2W Y.wanted.length c2W, .slice A3W Y.best.length c3W, .int .i64 Y.tests] 47))).size
  obtain ⟨A1b0, c1b0, A2b0, c2b0, A3b0, c3b0, rfl⟩ := fStanding_shape bo0
  have bx0_0 : w4.heap.size ∉ bF0 := fun h => by have := (fStanding_good (B := 0)).lt bo0 _ h; omega
  have hA0 := (Bw.refl w4).alloc (.cells #[.slice A1b0 x0.items.length c1b0, .slice A2b0 x0.wanted.length c2b0, .slice A3b0 x0.best.length c3b0, .int .i64 x0.tests] 47)
  have C2 : Bw (w3.alloc (.cells #[.slice A1W Y.items.length c1W, .slice A2W Y.wanted.length c2W, .slice A3W Y.best.length c3W, .int .i64 Y.tests] 47)) _ := C1.then hA0
  replace bo0 := (fStanding_good (B := (w3.alloc (.cells #[.slice A1W Y.items.length c1W, .slice A2W Y.wanted.length c2W, .slice A3W Y.best.length c3W, .int .i64 Y.tests] 47)).heap.size)).bw hA0 C1.size bo0
  replace k0_0 := hA0.cell k0_0
  replace k0_1 := hA0.cell k0_1
  replace k0_2 := hA0.cell k0_2
  replace k0_3 := hA0.cell k0_3
  replace kW_0 := hA0.cell kW_0
  replace kW_1 := hA0.cell kW_1
  replace kW_2 := hA0.cell kW_2
  replace kW_3 := hA0.cell kW_3
  have j0_0 : (w4.alloc (.cells #[.slice A1b0 x0.items.length c1b0, .slice A2b0 x0.wanted.length c2b0, .slice A3b0 x0.best.length c3b0, .int .i64 x0.tests] 47)).cell? ⟨w4.heap.size, 0, none⟩ = some (.slice A1b0 x0.items.length c1b0) := by go_simp
  have j0_1 : (w4.alloc (.cells #[.slice A1b0 x0.items.length c1b0, .slice A2b0 x0.wanted.length c2b0, .slice A3b0 x0.best.length c3b0, .int .i64 x0.tests] 47)).cell? ⟨w4.heap.size, 1, none⟩ = some (.slice A2b0 x0.wanted.length c2b0) := by go_simp
  have j0_2 : (w4.alloc (.cells #[.slice A1b0 x0.items.length c1b0, .slice A2b0 x0.wanted.length c2b0, .slice A3b0 x0.best.length c3b0, .int .i64 x0.tests] 47)).cell? ⟨w4.heap.size, 2, none⟩ = some (.slice A3b0 x0.best.length c3b0) := by go_simp
  have j0_3 : (w4.alloc (.cells #[.slice A1b0 x0.items.length c1b0, .slice A2b0 x0.wanted.length c2b0, .slice A3b0 x0.best.length c3b0, .int .i64 x0.tests] 47)).cell? ⟨w4.heap.size, 3, none⟩ = some (.int .i64 x0.tests) := by go_simp
  have lt0_G := (fStanding_good (B := 0)).lt bo0
  go_wp2_with fail
  refine (I_DeleteItem _ x0 x1 _ _ _ (by exact (fStanding_Rds bo0).1) (by exact (fStanding_Rds bo0).2.1) (by exact (fStanding_Rds bo0).2.2.1) (smallSt_of t0).1 (smallSt_of t0).2.1 (smallSt_of t0).2.2).mono ?_
  rintro e w5 ⟨_, rfl, ⟨vG, rfl, ⟨FG, oG, fG⟩⟩, hb5⟩
  have C3 : Bw (w3.alloc (.cells #[.slice A1W Y.items.length c1W, .slice A2W Y.wanted.length c2W, .slice A3W Y.best.length c3W, .int .i64 Y.tests] 47)) _ := C2.then hb5
  replace bo0 := (fStanding_good (B := (w3.alloc (.cells #[.slice A1W Y.items.length c1W, .slice A2W Y.wanted.length c2W, .slice A3W Y.best.length c3W, .int .i64 Y.tests] 47)).heap.size)).bw hb5 C2.size bo0
  replace k0_0 := hb5.cell k0_0
  replace k0_1 := hb5.cell k0_1
  replace k0_2 := hb5.cell k0_2
  replace k0_3 := hb5.cell k0_3
  replace kW_0 := hb5.cell kW_0
  replace kW_1 := hb5.cell kW_1
  replace kW_2 := hb5.cell kW_2
  replace kW_3 := hb5.cell kW_3
  replace j0_0 := hb5.cell j0_0
  replace j0_1 := hb5.cell j0_1
  replace j0_2 := hb5.cell j0_2
  replace j0_3 := hb5.cell j0_3
  rw [← HZ0.out]
  have hd0_G : ∀ b ∈ FG, b ∉ bF0 := fun b hb hb2 => by have := fG.ge b hb; have := lt0_G b hb2; omega
  replace fG := fG.mono C2.size
  rw [← HY.out] at oG
  obtain ⟨A1G, c1G, A2G, c2G, A3G, c3G, rfl⟩ := fStanding_shape oG
  have bxG_0 : w5.heap.size ∉ bF0 := fun h => by have := (fStanding_good (B := 0)).lt bo0 _ h; omega
  have bxG_G : w5.heap.size ∉ FG := fun h => by have := (fStanding_good (B := 0)).lt oG _ h; omega
  have hAG := (Bw.refl w5).alloc (.cells #[.slice A1G Y.items.length c1G, .slice A2G Y.wanted.length c2G, .slice A3G Y.best.length c3G, .int .i64 Y.tests] 47)
  have C4 : Bw (w3.alloc (.cells #[.slice A1W Y.items.length c1W, .slice A2W Y.wanted.length c2W, .slice A3W Y.best.length c3W, .int .i64 Y.tests] 47)) _ := C3.then hAG
  replace bo0 := (fStanding_good (B := (w3.alloc (.cells #[.slice A1W Y.items.length c1W, .slice A2W Y.wanted.length c2W, .slice A3W Y.best.length c3W, .int .i64 Y.tests] 47)).heap.size)).bw hAG C3.size bo0
  replace oG := (fStanding_good (B := (w3.alloc (.cells #[.slice A1W Y.items.length c1W, .slice A2W Y.wanted.length c2W, .slice A3W Y.best.length c3W, .int .i64 Y.tests] 47)).heap.size)).bw hAG C3.size oG
  replace k0_0 := hAG.cell k0_0
  replace k0_1 := hAG.cell k0_1
  replace k0_2 := hAG.cell k0_2
  replace k0_3 := hAG.cell k0_3
  replace kW_0 := hAG.cell kW_0
  replace kW_1 := hAG.cell kW_1
  replace kW_2 := hAG.cell kW_2
  replace kW_3 := hAG.cell kW_3
  replace j0_0 := hAG.cell j0_0
  replace j0_1 := hAG.cell j0_1
  replace j0_2 := hAG.cell j0_2
  replace j0_3 := hAG.cell j0_3
  have jG_0 : (w5.alloc (.cells #[.slice A1G Y.items.length c1G, .slice A2G Y.wanted.length c2G, .slice A3G Y.best.length c3G, .int .i64 Y.tests] 47)).cell? ⟨w5.heap.size, 0, none⟩ = some (.slice A1G Y.items.length c1G) := by go_simp
  have jG_1 : (w5.alloc (.cells #[.slice A1G Y.items.length c1G, .slice A2G Y.wanted.length c2G, .slice A3G Y.best.length c3G, .int .i64 Y.tests] 47)).cell? ⟨w5.heap.size, 1, none⟩ = some (.slice A2G Y.wanted.length c2G) := by go_simp
  have jG_2 : (w5.alloc (.cells #[.slice A1G Y.items.length c1G, .slice A2G Y.wanted.length c2G, .slice A3G Y.best.length c3G, .int .i64 Y.tests] 47)).cell? ⟨w5.heap.size, 2, none⟩ = some (.slice A3G Y.best.length c3G) := by go_simp
  have jG_3 : (w5.alloc (.cells #[.slice A1G Y.items.length c1G, .slice A2G Y.wanted.length c2G, .slice A3G Y.best.length c3G, .int .i64 Y.tests] 47)).cell? ⟨w5.heap.size, 3, none⟩ = some (.int .i64 Y.tests) := by go_simp
  go_wp2_with fail
  refine (L_eqStanding _ Y Y _ _ _ _ _ _ (fStanding_Rds oG).1 (fStanding_Rds oG).2.1 (fStanding_Rds oG).2.2.1 (rW1.bw rItems_good C4) (rW2.bw rNodes_good C4) (rW3.bw rInts_good C4)).mono ?_
  rintro e w6 ⟨rfl, hb6⟩
  have C5 : Bw (w3.alloc (.cells #[.slice A1W Y.items.length c1W, .slice A2W Y.wanted.length c2W, .slice A3W Y.best.length c3W, .int .i64 Y.tests] 47)) _ := C4.then hb6
  replace bo0 := (fStanding_good (B := (w3.alloc (.cells #[.slice A1W Y.items.length c1W, .slice A2W Y.wanted.length c2W, .slice A3W Y.best.length c3W, .int .i64 Y.tests] 47)).heap.size)).bw hb6 C4.size bo0
  replace oG := (fStanding_good (B := (w3.alloc (.cells #[.slice A1W Y.items.length c1W, .slice A2W Y.wanted.length c2W, .slice A3W Y.best.length c3W, .int .i64 Y.tests] 47)).heap.size)).bw hb6 C4.size oG
  replace k0_0 := hb6.cell k0_0
  replace k0_1 := hb6.cell k0_1
  replace k0_2 := hb6.cell k0_2
  replace k0_3 := hb6.cell k0_3
  replace kW_0 := hb6.cell kW_0
  replace kW_1 := hb6.cell kW_1
  replace kW_2 := hb6.cell kW_2
  replace kW_3 := hb6.cell kW_3
  replace j0_0 := hb6.cell j0_0
  replace j0_1 := hb6.cell j0_1
  replace j0_2 := hb6.cell j0_2
  replace j0_3 := hb6.cell j0_3
  replace jG_0 := hb6.cell jG_0
  replace jG_1 := hb6.cell jG_1
  replace jG_2 := hb6.cell jG_2
  replace jG_3 := hb6.cell jG_3
  rw [show decide (Y = Y) = true from by simp]
  go_wp2_with fail
  have C6 : Bw (w3.alloc (.cells #[.slice A1W Y.items.length c1W, .slice A2W Y.wanted.length c2W, .slice A3W Y.best.length c3W, .int .i64 Y.tests] 47)) _ := C5.drew
  have hdr := fun (W : World) => (Bw.refl W).drew
  replace bo0 := (fStanding_good (B := (w3.alloc (.cells #[.slice A1W Y.items.length c1W, .slice A2W Y.wanted.length c2W, .slice A3W Y.best.length c3W, .int .i64 Y.tests] 47)).heap.size)).bw (hdr _) C5.size bo0
  replace oG := (fStanding_good (B := (w3.alloc (.cells #[.slice A1W Y.items.length c1W, .slice A2W Y.wanted.length c2W, .slice A3W Y.best.length c3W, .int .i64 Y.tests] 47)).heap.size)).bw (hdr _) C5.size oG
  replace k0_0 := (hdr _).cell k0_0
  replace k0_1 := (hdr _).cell k0_1
  replace k0_2 := (hdr _).cell k0_2
  replace k0_3 := (hdr _).cell k0_3
  replace kW_0 := (hdr _).cell kW_0
  replace kW_1 := (hdr _).cell kW_1
  replace kW_2 := (hdr _).cell kW_2
  replace kW_3 := (hdr _).cell kW_3
  replace j0_0 := (hdr _).cell j0_0
  replace j0_1 := (hdr _).cell j0_1
  replace j0_2 := (hdr _).cell j0_2
  replace j0_3 := (hdr _).cell j0_3
  replace jG_0 := (hdr _).cell jG_0
  replace jG_1 := (hdr _).cell jG_1
  replace jG_2 := (hdr _).cell jG_2
  replace jG_3 := (hdr _).cell jG_3
  clear hdr
  go_region_held3 (fun w' => w'.cell? ⟨w.heap.size, 0, none⟩ = some (v0a) ∧ w'.cell? ⟨w.heap.size, 1, none⟩ = some (v0b) ∧ w'.cell? ⟨w.heap.size, 2, none⟩ = some (v0c) ∧ w'.cell? ⟨w.heap.size, 3, none⟩ = some (.int .i64 x0.tests) ∧ w'.cell? ⟨w3.heap.size, 0, none⟩ = some (.slice A1W Y.items.length c1W) ∧ w'.cell? ⟨w3.heap.size, 1, none⟩ = some (.slice A2W Y.wanted.length c2W) ∧ w'.cell? ⟨w3.heap.size, 2, none⟩ = some (.slice A3W Y.best.length c3W) ∧ w'.cell? ⟨w3.heap.size, 3, none⟩ = some (.int .i64 Y.tests) ∧ w'.cell? ⟨w4.heap.size, 0, none⟩ = some (.slice A1b0 x0.items.length c1b0) ∧ w'.cell? ⟨w4.heap.size, 1, none⟩ = some (.slice A2b0 x0.wanted.length c2b0) ∧ w'.cell? ⟨w4.heap.size, 2, none⟩ = some (.slice A3b0 x0.best.length c3b0) ∧ w'.cell? ⟨w4.heap.size, 3, none⟩ = some (.int .i64 x0.tests) ∧ w'.cell? ⟨w5.heap.size, 0, none⟩ = some (.slice A1G Y.items.length c1G) ∧ w'.cell? ⟨w5.heap.size, 1, none⟩ = some (.slice A2G Y.wanted.length c2G) ∧ w'.cell? ⟨w5.heap.size, 2, none⟩ = some (.slice A3G Y.best.length c3G) ∧ w'.cell? ⟨w5.heap.size, 3, none⟩ = some (.int .i64 Y.tests)) (first | go_keep | exact ⟨k0_0, k0_1, k0_2, k0_3, kW_0, kW_1, kW_2, kW_3, j0_0, j0_1, j0_2, j0_3, jG_0, jG_1, jG_2, jG_3⟩)
    (first
      | (go_at_call 22; refine (L_toStanding _ x0 _ _ _ (by exact (k0a.bw rItems_good C6)) (by exact (k0b.bw rNodes_good C6)) (by exact (k0c.bw rInts_good C6)) t0).mono ?_; rintro e w7 ⟨ccs0, cF0, rfl, co0, cf0, hb7⟩; have C7 : Bw (w3.alloc (.cells #[.slice A1W Y.items.length c1W, .slice A2W Y.wanted.length c2W, .slice A3W Y.best.length c3W, .int .i64 Y.tests] 47)) _ := C6.then hb7; replace bo0 := (fStanding_good (B := (w3.alloc (.cells #[.slice A1W Y.items.length c1W, .slice A2W Y.wanted.length c2W, .slice A3W Y.best.length c3W, .int .i64 Y.tests] 47)).heap.size)).bw hb7 C6.size bo0; replace oG := (fStanding_good (B := (w3.alloc (.cells #[.slice A1W Y.items.length c1W, .slice A2W Y.wanted.length c2W, .slice A3W Y.best.length c3W, .int .i64 Y.tests] 47)).heap.size)).bw hb7 C6.size oG; replace k0_0 := hb7.cell k0_0; replace k0_1 := hb7.cell k0_1; replace k0_2 := hb7.cell k0_2; replace k0_3 := hb7.cell k0_3; replace kW_0 := hb7.cell kW_0; replace kW_1 := hb7.cell kW_1; replace kW_2 := hb7.cell kW_2; replace kW_3 := hb7.cell kW_3; replace j0_0 := hb7.cell j0_0; replace j0_1 := hb7.cell j0_1; replace j0_2 := hb7.cell j0_2; replace j0_3 := hb7.cell j0_3; replace jG_0 := hb7.cell jG_0; replace jG_1 := hb7.cell jG_1; replace jG_2 := hb7.cell jG_2; replace jG_3 := hb7.cell jG_3; obtain ⟨A1c0, c1c0, A2c0, c2c0, A3c0, c3c0, rfl⟩ := fStanding_shape co0)
      | (go_at_call 24; refine (L_eqStanding _ x0 x0 _ _ _ _ _ _ (by exact ((fStanding_Rds bo0).1)) (by exact ((fStanding_Rds bo0).2.1)) (by exact ((fStanding_Rds bo0).2.2.1)) (by exact ((fStanding_Rds co0).1)) (by exact ((fStanding_Rds co0).2.1)) (by exact ((fStanding_Rds co0).2.2.1))).mono ?_; rintro e w8 ⟨rfl, hb8⟩; have C8 : Bw (w3.alloc (.cells #[.slice A1W Y.items.length c1W, .slice A2W Y.wanted.length c2W, .slice A3W Y.best.length c3W, .int .i64 Y.tests] 47)) _ := C7.then hb8; replace bo0 := (fStanding_good (B := (w3.alloc (.cells #[.slice A1W Y.items.length c1W, .slice A2W Y.wanted.length c2W, .slice A3W Y.best.length c3W, .int .i64 Y.tests] 47)).heap.size)).bw hb8 C7.size bo0; replace oG := (fStanding_good (B := (w3.alloc (.cells #[.slice A1W Y.items.length c1W, .slice A2W Y.wanted.length c2W, .slice A3W Y.best.length c3W, .int .i64 Y.tests] 47)).heap.size)).bw hb8 C7.size oG; replace co0 := (fStanding_good (B := (w3.alloc (.cells #[.slice A1W Y.items.length c1W, .slice A2W Y.wanted.length c2W, .slice A3W Y.best.length c3W, .int .i64 Y.tests] 47)).heap.size)).bw hb8 C7.size co0; replace k0_0 := hb8.cell k0_0; replace k0_1 := hb8.cell k0_1; replace k0_2 := hb8.cell k0_2; replace k0_3 := hb8.cell k0_3; replace kW_0 := hb8.cell kW_0; replace kW_1 := hb8.cell kW_1; replace kW_2 := hb8.cell kW_2; replace kW_3 := hb8.cell kW_3; replace j0_0 := hb8.cell j0_0; replace j0_1 := hb8.cell j0_1; replace j0_2 := hb8.cell j0_2; replace j0_3 := hb8.cell j0_3; replace jG_0 := hb8.cell jG_0; replace jG_1 := hb8.cell jG_1; replace jG_2 := hb8.cell jG_2; replace jG_3 := hb8.cell jG_3))
  clear co0 cf0
  have sm0 := smallSt_of t0
  have mt0 := markSt_le sm0
  have hm9 := fun (W : World) (o : _) (c : Bw (w3.alloc (.cells #[.slice A1W Y.items.length c1W, .slice A2W Y.wanted.length c2W, .slice A3W Y.best.length c3W, .int .i64 Y.tests] 47)) W) => L_markStanding (w3.alloc (.cells #[.slice A1W Y.items.length c1W, .slice A2W Y.wanted.length c2W, .slice A3W Y.best.length c3W, .int .i64 Y.tests] 47)) W x0 A1b0 A2b0 A3b0 x0.items.length x0.wanted.length x0.best.length c1b0 c2b0 c3b0 bF0 1 o bf0 c sm0 (by omega)
  obtain ⟨T0, hT0⟩ : ∃ T0, T0 = 1 + markSt x0 := ⟨_, rfl⟩
  rw [← hT0] at hm9
  have BT0 : T0 ≤ 7340033 := by omega
  have HT0 := Lib.hid hT0
  clear hT0
  go_wp2_with fail
  refine (hm9 _ bo0 C8).mono ?_
  rintro e w9 ⟨rfl, nw9, hO9, C9⟩
  replace oG := hO9.keeps (fStanding_good (B := 0)) oG hd0_G
  replace k0_0 := C9.cell k0_0B
  replace k0_1 := C9.cell k0_1B
  replace k0_2 := C9.cell k0_2B
  replace k0_3 := C9.cell k0_3B
  replace kW_0 := C9.cell kW_0B
  replace kW_1 := C9.cell kW_1B
  replace kW_2 := C9.cell kW_2B
  replace kW_3 := C9.cell kW_3B
  replace j0_0 := hO9.cell j0_0 bx0_0
  replace j0_1 := hO9.cell j0_1 bx0_0
  replace j0_2 := hO9.cell j0_2 bx0_0
  replace j0_3 := hO9.cell j0_3 bx0_0
  replace jG_0 := hO9.cell jG_0 bxG_0
  replace jG_1 := hO9.cell jG_1 bxG_0
  replace jG_2 := hO9.cell jG_2 bxG_0
  replace jG_3 := hO9.cell jG_3 bxG_0
  replace bo0 := nw9
  clear hm9 nw9 hO9
  clear bo0
  clear j0_0
  clear j0_1
  clear j0_2
  clear j0_3
  go_wp2_with fail
  refine (L_eqStanding _ Y Y _ _ _ _ _ _ (fStanding_Rds oG).1 (fStanding_Rds oG).2.1 (fStanding_Rds oG).2.2.1 (rW1.bw rItems_good C9) (rW2.bw rNodes_good C9) (rW3.bw rInts_good C9)).mono ?_
  rintro e w10 ⟨rfl, hb10⟩
  have C10 : Bw (w3.alloc (.cells #[.slice A1W Y.items.length c1W, .slice A2W Y.wanted.length c2W, .slice A3W Y.best.length c3W, .int .i64 Y.tests] 47)) _ := C9.then hb10
  replace oG := (fStanding_good (B := (w3.alloc (.cells #[.slice A1W Y.items.length c1W, .slice A2W Y.wanted.length c2W, .slice A3W Y.best.length c3W, .int .i64 Y.tests] 47)).heap.size)).bw hb10 C9.size oG
  replace k0_0 := hb10.cell k0_0
  replace k0_1 := hb10.cell k0_1
  replace k0_2 := hb10.cell k0_2
  replace k0_3 := hb10.cell k0_3
  replace kW_0 := hb10.cell kW_0
  replace kW_1 := hb10.cell kW_1
  replace kW_2 := hb10.cell kW_2
  replace kW_3 := hb10.cell kW_3
  replace jG_0 := hb10.cell jG_0
  replace jG_1 := hb10.cell jG_1
  replace jG_2 := hb10.cell jG_2
  replace jG_3 := hb10.cell jG_3
  rw [show decide (Y = Y) = true from by simp]
  have hm11 := fun (W : World) (o : _) (c : Bw (w3.alloc (.cells #[.slice A1W Y.items.length c1W, .slice A2W Y.wanted.length c2W, .slice A3W Y.best.length c3W, .int .i64 Y.tests] 47)) W) => L_markStanding (w3.alloc (.cells #[.slice A1W Y.items.length c1W, .slice A2W Y.wanted.length c2W, .slice A3W Y.best.length c3W, .int .i64 Y.tests] 47)) W Y A1G A2G A3G Y.items.length Y.wanted.length Y.best.length c1G c2G c3G FG 1 o fG c tY (by omega)
  obtain ⟨TM, hTM⟩ : ∃ TM, TM = 1 + markSt Y := ⟨_, rfl⟩
  rw [← hTM] at hm11
  have BTM : TM ≤ 6291457 := by omega
  have HTM := Lib.hid hTM
  clear hTM
  go_wp2_with fail
  refine (hm11 _ oG C10).mono ?_
  rintro e w11 ⟨rfl, nw11, hO11, C11⟩
  replace k0_0 := C11.cell k0_0B
  replace k0_1 := C11.cell k0_1B
  replace k0_2 := C11.cell k0_2B
  replace k0_3 := C11.cell k0_3B
  replace kW_0 := C11.cell kW_0B
  replace kW_1 := C11.cell kW_1B
  replace kW_2 := C11.cell kW_2B
  replace kW_3 := C11.cell kW_3B
  replace jG_0 := hO11.cell jG_0 bxG_G
  replace jG_1 := hO11.cell jG_1 bxG_G
  replace jG_2 := hO11.cell jG_2 bxG_G
  replace jG_3 := hO11.cell jG_3 bxG_G
  replace oG := nw11
  clear hm11 nw11 hO11
  have hh11 := L_heldSt oG tY
  rw [← HTM.out] at hh11
  go_wp2_with fail
  refine (hh11).mono ?_
  rintro e w12 ⟨rfl, hb12⟩
  have C12 : Bw (w3.alloc (.cells #[.slice A1W Y.items.length c1W, .slice A2W Y.wanted.length c2W, .slice A3W Y.best.length c3W, .int .i64 Y.tests] 47)) _ := C11.then hb12
  replace oG := (fStanding_good (B := (w3.alloc (.cells #[.slice A1W Y.items.length c1W, .slice A2W Y.wanted.length c2W, .slice A3W Y.best.length c3W, .int .i64 Y.tests] 47)).heap.size)).bw hb12 C11.size oG
  replace k0_0 := hb12.cell k0_0
  replace k0_1 := hb12.cell k0_1
  replace k0_2 := hb12.cell k0_2
  replace k0_3 := hb12.cell k0_3
  replace kW_0 := hb12.cell kW_0
  replace kW_1 := hb12.cell kW_1
  replace kW_2 := hb12.cell kW_2
  replace kW_3 := hb12.cell kW_3
  replace jG_0 := hb12.cell jG_0
  replace jG_1 := hb12.cell jG_1
  replace jG_2 := hb12.cell jG_2
  replace jG_3 := hb12.cell jG_3
  clear hh11
  go_wp2_with fail
  refine (L_toStanding _ x0 _ _ _ (by exact (k0a.bw rItems_good C12)) (by exact (k0b.bw rNodes_good C12)) (by exact (k0c.bw rInts_good C12)) t0).mono ?_
  rintro e w13 ⟨dcs0, dF0, rfl, do0, df0, hb13⟩
  have C13 : Bw (w3.alloc (.cells #[.slice A1W Y.items.length c1W, .slice A2W Y.wanted.length c2W, .slice A3W Y.best.length c3W, .int .i64 Y.tests] 47)) _ := C12.then hb13
  replace oG := (fStanding_good (B := (w3.alloc (.cells #[.slice A1W Y.items.length c1W, .slice A2W Y.wanted.length c2W, .slice A3W Y.best.length c3W, .int .i64 Y.tests] 47)).heap.size)).bw hb13 C12.size oG
  replace k0_0 := hb13.cell k0_0
  replace k0_1 := hb13.cell k0_1
  replace k0_2 := hb13.cell k0_2
  replace k0_3 := hb13.cell k0_3
  replace kW_0 := hb13.cell kW_0
  replace kW_1 := hb13.cell kW_1
  replace kW_2 := hb13.cell kW_2
  replace kW_3 := hb13.cell kW_3
  replace jG_0 := hb13.cell jG_0
  replace jG_1 := hb13.cell jG_1
  replace jG_2 := hb13.cell jG_2
  replace jG_3 := hb13.cell jG_3
  obtain ⟨A1d0, c1d0, A2d0, c2d0, A3d0, c3d0, rfl⟩ := fStanding_shape do0
  go_wp2_with fail
  refine (I_DeleteItem _ x0 x1 _ _ _ (by exact (fStanding_Rds do0).1) (by exact (fStanding_Rds do0).2.1) (by exact (fStanding_Rds do0).2.2.1) (smallSt_of t0).1 (smallSt_of t0).2.1 (smallSt_of t0).2.2).mono ?_
  rintro e w14 ⟨_, rfl, ⟨vH, rfl, ⟨FH, oH, fH⟩⟩, hb14⟩
  have C14 : Bw (w3.alloc (.cells #[.slice A1W Y.items.length c1W, .slice A2W Y.wanted.length c2W, .slice A3W Y.best.length c3W, .int .i64 Y.tests] 47)) _ := C13.then hb14
  replace oG := (fStanding_good (B := (w3.alloc (.cells #[.slice A1W Y.items.length c1W, .slice A2W Y.wanted.length c2W, .slice A3W Y.best.length c3W, .int .i64 Y.tests] 47)).heap.size)).bw hb14 C13.size oG
  replace do0 := (fStanding_good (B := (w3.alloc (.cells #[.slice A1W Y.items.length c1W, .slice A2W Y.wanted.length c2W, .slice A3W Y.best.length c3W, .int .i64 Y.tests] 47)).heap.size)).bw hb14 C13.size do0
  replace k0_0 := hb14.cell k0_0
  replace k0_1 := hb14.cell k0_1
  replace k0_2 := hb14.cell k0_2
  replace k0_3 := hb14.cell k0_3
  replace kW_0 := hb14.cell kW_0
  replace kW_1 := hb14.cell kW_1
  replace kW_2 := hb14.cell kW_2
  replace kW_3 := hb14.cell kW_3
  replace jG_0 := hb14.cell jG_0
  replace jG_1 := hb14.cell jG_1
  replace jG_2 := hb14.cell jG_2
  replace jG_3 := hb14.cell jG_3
  rw [← HZ0.out]
  rw [← HY.out] at oH
  clear do0 df0
  obtain ⟨A1H, c1H, A2H, c2H, A3H, c3H, rfl⟩ := fStanding_shape oH
  have hAH := (Bw.refl w14).alloc (.cells #[.slice A1H Y.items.length c1H, .slice A2H Y.wanted.length c2H, .slice A3H Y.best.length c3H, .int .i64 Y.tests] 47)
  have C15 : Bw (w3.alloc (.cells #[.slice A1W Y.items.length c1W, .slice A2W Y.wanted.length c2W, .slice A3W Y.best.length c3W, .int .i64 Y.tests] 47)) _ := C14.then hAH
  replace oG := (fStanding_good (B := (w3.alloc (.cells #[.slice A1W Y.items.length c1W, .slice A2W Y.wanted.length c2W, .slice A3W Y.best.length c3W, .int .i64 Y.tests] 47)).heap.size)).bw hAH C14.size oG
  replace oH := (fStanding_good (B := (w3.alloc (.cells #[.slice A1W Y.items.length c1W, .slice A2W Y.wanted.length c2W, .slice A3W Y.best.length c3W, .int .i64 Y.tests] 47)).heap.size)).bw hAH C14.size oH
  replace k0_0 := hAH.cell k0_0
  replace k0_1 := hAH.cell k0_1
  replace k0_2 := hAH.cell k0_2
  replace k0_3 := hAH.cell k0_3
  replace kW_0 := hAH.cell kW_0
  replace kW_1 := hAH.cell kW_1
  replace kW_2 := hAH.cell kW_2
  replace kW_3 := hAH.cell kW_3
  replace jG_0 := hAH.cell jG_0
  replace jG_1 := hAH.cell jG_1
  replace jG_2 := hAH.cell jG_2
  replace jG_3 := hAH.cell jG_3
  go_wp2_with fail
  refine (L_eqStanding _ Y Y _ _ _ _ _ _ (fStanding_Rds oH).1 (fStanding_Rds oH).2.1 (fStanding_Rds oH).2.2.1 (rW1.bw rItems_good C15) (rW2.bw rNodes_good C15) (rW3.bw rInts_good C15)).mono ?_
  rintro e w15 ⟨rfl, hb15⟩
  have C16 : Bw (w3.alloc (.cells #[.slice A1W Y.items.length c1W, .slice A2W Y.wanted.length c2W, .slice A3W Y.best.length c3W, .int .i64 Y.tests] 47)) _ := C15.then hb15
  replace oG := (fStanding_good (B := (w3.alloc (.cells #[.slice A1W Y.items.length c1W, .slice A2W Y.wanted.length c2W, .slice A3W Y.best.length c3W, .int .i64 Y.tests] 47)).heap.size)).bw hb15 C15.size oG
  replace k0_0 := hb15.cell k0_0
  replace k0_1 := hb15.cell k0_1
  replace k0_2 := hb15.cell k0_2
  replace k0_3 := hb15.cell k0_3
  replace kW_0 := hb15.cell kW_0
  replace kW_1 := hb15.cell kW_1
  replace kW_2 := hb15.cell kW_2
  replace kW_3 := hb15.cell kW_3
  replace jG_0 := hb15.cell jG_0
  replace jG_1 := hb15.cell jG_1
  replace jG_2 := hb15.cell jG_2
  replace jG_3 := hb15.cell jG_3
  rw [show decide (Y = Y) = true from by simp]
  have hh15 := L_heldSt oG tY
  rw [← HTM.out] at hh15
  go_wp2_with fail
  refine (hh15).mono ?_
  rintro e w16 ⟨rfl, hb16⟩
  have C17 : Bw (w3.alloc (.cells #[.slice A1W Y.items.length c1W, .slice A2W Y.wanted.length c2W, .slice A3W Y.best.length c3W, .int .i64 Y.tests] 47)) _ := C16.then hb16
  replace oG := (fStanding_good (B := (w3.alloc (.cells #[.slice A1W Y.items.length c1W, .slice A2W Y.wanted.length c2W, .slice A3W Y.best.length c3W, .int .i64 Y.tests] 47)).heap.size)).bw hb16 C16.size oG
  replace k0_0 := hb16.cell k0_0
  replace k0_1 := hb16.cell k0_1
  replace k0_2 := hb16.cell k0_2
  replace k0_3 := hb16.cell k0_3
  replace kW_0 := hb16.cell kW_0
  replace kW_1 := hb16.cell kW_1
  replace kW_2 := hb16.cell kW_2
  replace kW_3 := hb16.cell kW_3
  replace jG_0 := hb16.cell jG_0
  replace jG_1 := hb16.cell jG_1
  replace jG_2 := hb16.cell jG_2
  replace jG_3 := hb16.cell jG_3
  clear hh15
  go_wp2
  go_ret
  exact Ret.bool rfl (B4.then C17)
set_option maxRecDepth 100000 in
theorem lifted_FnExactDeleteItem (os : Os) (started : os.Started) (H : Type) (enc : TypeId × Value → H) :
    ReturnsInHanded {} Tryz.checked os 4 .any (Rows.fnExactDeleteItemSpec.pre6 enc Tryz.prog Tryz.f4 Rows.fnExactDeleteItemRow.domain false) (Rows.fnExactDeleteItemSpec.post enc Tryz.prog Tryz.f4 false true false false) := by
  refine returnsInHanded_of_change (C := Tryz.checked) own_knob started (by kernel_rfl) Tryz.func4
    (ChangeSpec.witness6 (enc := enc) (C := Tryz.checked) false ⟨#[], #[.agg #[.slice none 0 0, .slice none 0 0, .slice none 0 0, .int .i64 0], .int .i64 0], []⟩ 8 (by kernel_rfl) (by kernel_rfl) (by kernel_rfl) (by kernel_rfl)) ?_
  intro W base args ds gs before hval0 hW hcnd _
  have hval : ∀ (j : Nat) t v, Tryz.f4.params[j]? = some t → args[j]? = some v → Value.okWide Tryz.prog W .any base t v := hval0
  have hW' := hW
  obtain ⟨p, q, hA0, hV, rfl, hfz, hnd⟩ := hW
  have hA : DataW.TrodAll enc Tryz.prog W 0 (fun _ => true) true Tryz.f4.params.toList args.toList ds p := hA0
  rw [Tryz.params4] at hA hval
  obtain ⟨v0, vs0, d0, ds0, p0, q0, hargs, rfl, rfl, h0, r0⟩ := trodAll_cons hA
  obtain ⟨v1, vs1, d1, ds1, p1, q1, rfl, rfl, rfl, h1, r1⟩ := trodAll_cons r0
  obtain ⟨rfl, rfl, rfl⟩ := trodAll_nil r1
  obtain rfl : args = #[v0, v1] := by cases args; simp_all
  obtain ⟨rfl, rfl⟩ := trodVars_none hV
  have k0 := h0
  have lt0 : ∀ x ∈ p0, x.block < W.heap.size := by obtain ⟨m, hm⟩ := k0; exact DataW.trod_lt m _ _ _ hm
  obtain ⟨cs0, rfl, hsz0⟩ := okWide_struct Tryz.underlying43 (hval 0 43 v0 rfl rfl)
  obtain ⟨x0, R0, Q0⟩ : ∃ xs, Rd rStanding W xs cs0.toList ∧ wfStanding xs := by obtain ⟨m, hm⟩ := h0; exact t_standing hm
  obtain ⟨ua0, ub0, uc0, e0, Ra0, Rb0, Rc0⟩ := R0
  obtain rfl : cs0 = #[ua0, ub0, uc0, .int .i64 x0.tests] := Array.toList_inj.1 e0
  obtain ⟨x1, rfl, rfl, rfl, Q1⟩ := open_int Tryz.underlying3 (hval 1 3 v1 rfl rfl) h1
  clear hA0 hval0
  refine (walk_FnExactDeleteItem W x0 _ _ _ Ra0 Rb0 Rc0 Q0 x1 Q1).mono fun e W' ⟨he, bel⟩ => ?_
  subst he
  exact ⟨_, rfl, _, _, _, [], _, [], hW', trodAll_mk1 (shut_bool Tryz.underlying4 _), (trodAll_cons_mk (Below.trod laid_out (by kernel_rfl) (of_decide_eq_true (by kernel_rfl)) k0 bel lt0) (trodAll_cons_mk (shut_int Tryz.underlying3 Q1) trodAll_mk0)), rfl, Below.frame bel _, fun h => by cases h⟩
/-- the statement -/
theorem FnExactDeleteItem_holds : Rows.FnExactDeleteItemSaid :=
  OpenClaim.holds_of_wide 4 Tryz.f4 rfl rfl rfl rfl rfl rfl rfl ⟨rfl, rfl, rfl, rfl, rfl⟩ rfl rfl rfl rfl rfl (by kernel_rfl) Tryz.func4 (by kernel_rfl)
    (of_decide_eq_true (by kernel_rfl)) (by unfold Func.isWrapper; first | (rw [if_pos (by decide +kernel)]; kernel_rfl) | (rw [if_neg (by decide +kernel)]; exact ⟨rfl, rfl⟩))
    (fun os started H enc _ => lifted_FnExactDeleteItem os started H enc)
end Go.Proofs.YtfffklkiikmieaaGreat
