/- For every input, FnExactChangeItem returns true and leaves its arguments as they were. No condition. -/
import Derived.Test.YtfffklkiikmieaaGreatRows
import Derived.Test.YtfffklkiikmieaaGreatQMarks3
import Derived.Test.YtfffklkiikmieaaGreatQStandF
import Derived.Test.YtfffklkiikmieaaGreatQMarks4
import Derived.Test.YtfffklkiikmieaaGreatQOpen
namespace Go.Proofs.YtfffklkiikmieaaGreat
open Go.RowKit Go.ChangeShapes Go.WideShapes Go.ChangeAt
set_option linter.unusedVariables false
set_option maxRecDepth 100000 in
set_option maxHeartbeats 6000000 in
theorem walk_FnExactChangeItem (w : World) (x0 : GStanding) (v0a v0b v0c : Value) (h0a : Rd rItems w x0.items [v0a]) (h0b : Rd rNodes w x0.wanted [v0b]) (h0c : Rd rInts w x0.best [v0c]) (q0 : wfStanding x0) (x1 : GItem) (v1 : Value) (h1 : Rd rInts w x1.vals [v1]) (q1 : wfItem x1) :
    Calls Tryz.prog 6 #[.agg #[v0a, v0b, v0c, .int .i64 x0.tests], .agg #[.int .i64 x1.id, v1]] w (Ret w (.bool true)) := by
  go_enter Tryz.func6, Tryz.ntmps6
  have B0 : Bw w ((w.alloc (.cells #[v0a, v0b, v0c, .int .i64 x0.tests] 43)).alloc (.cells #[.int .i64 x1.id, v1] 55)) := (((Bw.refl w).alloc _).alloc _)
  have k0_0 : ((w.alloc (.cells #[v0a, v0b, v0c, .int .i64 x0.tests] 43)).alloc (.cells #[.int .i64 x1.id, v1] 55)).cell? ⟨w.heap.size, 0, none⟩ = some (v0a) := by go_simp
  have k0_1 : ((w.alloc (.cells #[v0a, v0b, v0c, .int .i64 x0.tests] 43)).alloc (.cells #[.int .i64 x1.id, v1] 55)).cell? ⟨w.heap.size, 1, none⟩ = some (v0b) := by go_simp
  have k0_2 : ((w.alloc (.cells #[v0a, v0b, v0c, .int .i64 x0.tests] 43)).alloc (.cells #[.int .i64 x1.id, v1] 55)).cell? ⟨w.heap.size, 2, none⟩ = some (v0c) := by go_simp
  have k0_3 : ((w.alloc (.cells #[v0a, v0b, v0c, .int .i64 x0.tests] 43)).alloc (.cells #[.int .i64 x1.id, v1] 55)).cell? ⟨w.heap.size, 3, none⟩ = some (.int .i64 x0.tests) := by go_simp
  have k1_0 : ((w.alloc (.cells #[v0a, v0b, v0c, .int .i64 x0.tests] 43)).alloc (.cells #[.int .i64 x1.id, v1] 55)).cell? ⟨w.heap.size + 1, 0, none⟩ = some (.int .i64 x1.id) := by go_simp
  have k1_1 : ((w.alloc (.cells #[v0a, v0b, v0c, .int .i64 x0.tests] 43)).alloc (.cells #[.int .i64 x1.id, v1] 55)).cell? ⟨w.heap.size + 1, 1, none⟩ = some (v1) := by go_simp
  go_wp2_with fail
  refine (L_szStanding _ x0 _ _ _ (h0a.bw rItems_good B0) (h0b.bw rNodes_good B0) (h0c.bw rInts_good B0) (1048576 : Int) (by omega) (by omega)).mono ?_
  rintro e w1 ⟨rfl, hb1⟩
  have B1 : Bw w _ := B0.then hb1
  replace k0_0 := hb1.cell k0_0
  replace k0_1 := hb1.cell k0_1
  replace k0_2 := hb1.cell k0_2
  replace k0_3 := hb1.cell k0_3
  replace k1_0 := hb1.cell k1_0
  replace k1_1 := hb1.cell k1_1
  by_cases s0 : (1048576 : Int) < ((totStanding x0 : Nat) : Int)
  · rw [show szM (1048576 : Int) (totStanding x0) = -1 from if_pos s0]
    go_wp2
    go_ret
    exact Ret.bool rfl B1
  rw [show szM (1048576 : Int) (totStanding x0) = ((1048576 : Int) - ((totStanding x0 : Nat) : Int)) from if_neg s0]
  have t0 : totStanding x0 ≤ 1048576 := by omega
  go_wp2_with fail
  refine (L_szItem _ x1 _ (h1.bw rInts_good B1) ((1048576 : Int) - ((totStanding x0 : Nat) : Int)) (by omega) (by omega)).mono ?_
  rintro e w2 ⟨rfl, hb2⟩
  have B2 : Bw w _ := B1.then hb2
  replace k0_0 := hb2.cell k0_0
  replace k0_1 := hb2.cell k0_1
  replace k0_2 := hb2.cell k0_2
  replace k0_3 := hb2.cell k0_3
  replace k1_0 := hb2.cell k1_0
  replace k1_1 := hb2.cell k1_1
  by_cases s1 : ((1048576 : Int) - ((totStanding x0 : Nat) : Int)) < ((x1.vals.length : Nat) : Int)
  · rw [show szM ((1048576 : Int) - ((totStanding x0 : Nat) : Int)) (x1.vals.length) = -1 from if_pos s1]
    go_wp2
    go_ret
    exact Ret.bool rfl B2
  rw [show szM ((1048576 : Int) - ((totStanding x0 : Nat) : Int)) (x1.vals.length) = (((1048576 : Int) - ((totStanding x0 : Nat) : Int)) - ((x1.vals.length : Nat) : Int)) from if_neg s1]
  have t1 : x1.vals.length ≤ 1048576 := by omega
  obtain ⟨Y, hY⟩ : ∃ Y, Y = chgM x0 x1 := ⟨_, rfl⟩
  have tY : smallSt Y := by rw [hY]; exact chgM_small (smallSt_of t0)
  have mtY := markSt_le tY
  have HY := Lib.hid hY
  obtain ⟨Z0, hZ0⟩ : ∃ Z, Z = chgOk x0 x1 := ⟨_, rfl⟩
  have HZ0 := Lib.hid hZ0
  clear hY hZ0
  go_wp2_with fail
  go_cut [6, 7] from 17 (fun s6 s7 wx => ∃ (bW : Nat) (A1W : Option Addr) (c1W : Nat) (A2W : Option Addr) (c2W : Nat) (A3W : Option Addr) (c3W : Nat), s6 = .pointer (some ⟨bW, 0, none⟩) ∧ s7 = .bool Z0 ∧ Bw w2 wx ∧ Box wx bW [.slice A1W Y.items.length c1W, .slice A2W Y.wanted.length c2W, .slice A3W Y.best.length c3W, .int .i64 Y.tests] ∧ Rd rItems wx Y.items [.slice A1W Y.items.length c1W] ∧ Rd rNodes wx Y.wanted [.slice A2W Y.wanted.length c2W] ∧ Rd rInts wx Y.best [.slice A3W Y.best.length c3W])
  case first =>
    have D0 : Bw w2 w2.drew := (Bw.refl _).drew
    have lt_k0_0 := block_lt k0_0
    have lt_k0_1 := block_lt k0_1
    have lt_k0_2 := block_lt k0_2
    have lt_k0_3 := block_lt k0_3
    have lt_k1_0 := block_lt k1_0
    have lt_k1_1 := block_lt k1_1
    go_region_held3 (fun w' => w'.cell? ⟨w.heap.size, 0, none⟩ = some (v0a) ∧ w'.cell? ⟨w.heap.size, 1, none⟩ = some (v0b) ∧ w'.cell? ⟨w.heap.size, 2, none⟩ = some (v0c) ∧ w'.cell? ⟨w.heap.size, 3, none⟩ = some (.int .i64 x0.tests) ∧ w'.cell? ⟨w.heap.size + 1, 0, none⟩ = some (.int .i64 x1.id) ∧ w'.cell? ⟨w.heap.size + 1, 1, none⟩ = some (v1)) (first | with_reducible exact ⟨k0_0, k0_1, k0_2, k0_3, k1_0, k1_1⟩ | with_reducible exact ⟨D0.cell k0_0, D0.cell k0_1, D0.cell k0_2, D0.cell k0_3, D0.cell k1_0, D0.cell k1_1⟩ | with_reducible exact ⟨(((Bw.refl w2).alloc _).drew).cell k0_0, (((Bw.refl w2).alloc _).drew).cell k0_1, (((Bw.refl w2).alloc _).drew).cell k0_2, (((Bw.refl w2).alloc _).drew).cell k0_3, (((Bw.refl w2).alloc _).drew).cell k1_0, (((Bw.refl w2).alloc _).drew).cell k1_1⟩ | with_reducible exact ⟨((Bw.refl _).alloc _).cell k0_0, ((Bw.refl _).alloc _).cell k0_1, ((Bw.refl _).alloc _).cell k0_2, ((Bw.refl _).alloc _).cell k0_3, ((Bw.refl _).alloc _).cell k1_0, ((Bw.refl _).alloc _).cell k1_1⟩ | with_reducible exact ⟨far4 lt_k0_0 lB k0_0, far4 lt_k0_1 lB k0_1, far4 lt_k0_2 lB k0_2, far4 lt_k0_3 lB k0_3, far4 lt_k1_0 lB k1_0, far4 lt_k1_1 lB k1_1⟩ | go_keep)
      (first
        | (go_at_call_of 22 v0a; refine (L_toStanding _ x0 _ _ _ (by first | with_reducible exact (h0a.bw rItems_good (B2.then D0)) | with_reducible exact (h0a.bw rItems_good (B2.then ((Bw.refl w2).alloc _).drew))) (by first | with_reducible exact (h0b.bw rNodes_good (B2.then D0)) | with_reducible exact (h0b.bw rNodes_good (B2.then ((Bw.refl w2).alloc _).drew))) (by first | with_reducible exact (h0c.bw rInts_good (B2.then D0)) | with_reducible exact (h0c.bw rInts_good (B2.then ((Bw.refl w2).alloc _).drew))) t0).mono ?_; rintro e w3 ⟨_, aF0, rfl, ⟨a0a, a0b, a0c, aF0a, aF0b, aF0c, rfl, ao0a, ao0b, ao0c, rfl⟩, af0, hb3⟩; (first | with_reducible have E3 : Bw w2 w3 := D0.then hb3 | with_reducible have E3 : Bw w2 w3 := ((Bw.refl w2).alloc _).drew.then hb3); have D3 := E3; (first | with_reducible (have bx := (Box.new w2 _ _).bw ((Bw.refl _).drew.then hb3); have lB := Nat.le_refl w2.heap.size) | skip); replace k0_0 := E3.cell k0_0; replace k0_1 := E3.cell k0_1; replace k0_2 := E3.cell k0_2; replace k0_3 := E3.cell k0_3; replace k1_0 := E3.cell k1_0; replace k1_1 := E3.cell k1_1; have ar0a := fItems_Rd ao0a; have ar0b := fNodes_Rd ao0b; have ar0c := fInts_Rd ao0c)
        | (go_at_call_of 29 v1; refine (L_toItem _ x1 _ (by first | with_reducible exact (h1.bw rInts_good (B2.then D3)) | with_reducible exact (h1.bw rInts_good (B2.then (D3.alloc _)))) t1).mono ?_; rintro e w4 ⟨a1, rfl, ⟨aF1, ao1, af1⟩, hb4⟩; (first | with_reducible have E4 : Bw w3 w4 := hb4 | with_reducible have E4 : Bw w3 w4 := ((Bw.refl w3).alloc _).then hb4); have D4 : Bw w2 w4 := D3.then E4; (first | with_reducible replace bx := bx.bw hb4 | with_reducible (have bx := (Box.new w3 _ _).bw hb4; have lB := D3.size) | skip); replace k0_0 := E4.cell k0_0; replace k0_1 := E4.cell k0_1; replace k0_2 := E4.cell k0_2; replace k0_3 := E4.cell k0_3; replace k1_0 := E4.cell k1_0; replace k1_1 := E4.cell k1_1; replace ar0a := ar0a.bw rItems_good E4; replace ar0b := ar0b.bw rNodes_good E4; replace ar0c := ar0c.bw rInts_good E4; have ar1 := fInts_Rd ao1)
        | (go_at_call 33; refine (S_ChangeItem _ x0 x1 _ _ _ _ (by first | with_reducible exact ar0a | with_reducible exact ar0a.bw rItems_good ((Bw.refl _).alloc _)) (by first | with_reducible exact ar0b | with_reducible exact ar0b.bw rNodes_good ((Bw.refl _).alloc _)) (by first | with_reducible exact ar0c | with_reducible exact ar0c.bw rInts_good ((Bw.refl _).alloc _)) (by first | with_reducible exact ar1 | with_reducible exact ar1.bw rInts_good ((Bw.refl _).alloc _)) (smallSt_of t0).1 (smallSt_of t0).2.1 (smallSt_of t0).2.2).mono ?_; rintro e w5 ⟨_, rfl, ⟨vW, rfl, ⟨FW, oW, fW⟩⟩, hb5⟩; (first | with_reducible have E5 : Bw w4 w5 := hb5 | with_reducible have E5 : Bw w4 w5 := ((Bw.refl w4).alloc _).then hb5); have D5 : Bw w2 w5 := D4.then E5; (first | with_reducible (have nB := boxNot bx fW; replace bx := bx.bw hb5) | with_reducible (have nB := boxNot (Box.new w4 _ _) fW; have bx := (Box.new w4 _ _).bw hb5; have lB := D4.size) | skip); (try (have e0 := bx.c 0 _ rfl; have e1 := bx.c 1 _ rfl; have e2 := bx.c 2 _ rfl; have e3 := bx.c 3 _ rfl; have ef := bx.fr)); replace k0_0 := E5.cell k0_0; replace k0_1 := E5.cell k0_1; replace k0_2 := E5.cell k0_2; replace k0_3 := E5.cell k0_3; replace k1_0 := E5.cell k1_0; replace k1_1 := E5.cell k1_1; replace ar0a := ar0a.bw rItems_good E5; replace ar0b := ar0b.bw rNodes_good E5; replace ar0c := ar0c.bw rInts_good E5; replace ar1 := ar1.bw rInts_good E5; rw [← HY.out] at oW; obtain ⟨A1W, c1W, A2W, c2W, A3W, c3W, rfl⟩ := fStanding_shape oW))
    all_goals
      go_wp2_with fail
      go_meet
      first
        | exact ⟨_, A1W, c1W, A2W, c2W, A3W, c3W, rfl, by rw [HZ0.out], D5.alloc _, Box.new w5 #[.slice A1W Y.items.length c1W, .slice A2W Y.wanted.length c2W, .slice A3W Y.best.length c3W, .int .i64 Y.tests] 47, (fStanding_Rds oW).1.bw rItems_good ((Bw.refl w5).alloc _), (fStanding_Rds oW).2.1.bw rNodes_good ((Bw.refl w5).alloc _), (fStanding_Rds oW).2.2.1.bw rInts_good ((Bw.refl w5).alloc _)⟩
        | exact ⟨_, A1W, c1W, A2W, c2W, A3W, c3W, rfl, by rw [HZ0.out], D5.set4 lB, bx.four _ _ _ _, (fStanding_Rds (keepSet4 fStanding_good oW nB)).1, (fStanding_Rds (keepSet4 fStanding_good oW nB)).2.1, (fStanding_Rds (keepSet4 fStanding_good oW nB)).2.2.1⟩
  case rest =>
  revert wc
  intro wW hcut
  obtain ⟨bW, A1W, c1W, A2W, c2W, A3W, c3W, rfl, rfl, hbW, bxW, rW1, rW2, rW3⟩ := hcut
  have B3 := B2.then hbW
  replace k0_0 := hbW.cell k0_0
  replace k0_1 := hbW.cell k0_1
  replace k0_2 := hbW.cell k0_2
  replace k0_3 := hbW.cell k0_3
  replace k1_0 := hbW.cell k1_0
  replace k1_1 := hbW.cell k1_1
  have kW_0 := bxW.c 0 _ rfl
  have kW_1 := bxW.c 1 _ rfl
  have kW_2 := bxW.c 2 _ rfl
  have kW_3 := bxW.c 3 _ rfl
  clear bxW hbW
  have k0a := h0a.bw rItems_good B3
  have k0b := h0b.bw rNodes_good B3
  have k0c := h0c.bw rInts_good B3
  have k1 := h1.bw rInts_good B3
  have k0_0B := k0_0
  have k0_1B := k0_1
  have k0_2B := k0_2
  have k0_3B := k0_3
  have k1_0B := k1_0
  have k1_1B := k1_1
  have kW_0B := kW_0
  have kW_1B := kW_1
  have kW_2B := kW_2
  have kW_3B := kW_3
  go_wp2_with fail
  refine (L_toStanding _ x0 _ _ _ (by exact (k0a.bw rItems_good (Bw.refl wW))) (by exact (k0b.bw rNodes_good (Bw.refl wW))) (by exact (k0c.bw rInts_good (Bw.refl wW))) t0).mono ?_
  rintro e w6 ⟨bcs0, bF0, rfl, bo0, bf0, hb6⟩
  have C1 : Bw wW _ := (Bw.refl wW).then hb6
  replace k0_0 := hb6.cell k0_0
  replace k0_1 := hb6.cell k0_1
  replace k0_2 := hb6.cell k0_2
  replace k0_3 := hb6.cell k0_3
  replace k1_0 := hb6.cell k1_0
  replace k1_1 := hb6.cell k1_1
  replace kW_0 := hb6.cell kW_0
  replace kW_1 := hb6.cell kW_1
  replace kW_2 := hb6.cell kW_2
  replace kW_3 := hb6.cell kW_3
  replace bf0 := bf0.mono (Bw.refl wW).size
  obtain ⟨A1b0, c1b0, A2b0, c2b0, A3b0, c3b0, rfl⟩ := fStanding_shape bo0
  have bx0_0 : w6.heap.size ∉ bF0 := fun h => by have := (fStanding_good (B := 0)).lt bo0 _ h; omega
  have hA0 := (Bw.refl w6).alloc (.cells #[.slice A1b0 x0.items.length c1b0, .slice A2b0 x0.wanted.length c2b0, .slice A3b0 x0.best.length c3b0, .int .i64 x0.tests] 47)
  have C2 : Bw wW _ := C1.then hA0
  replace bo0 := (fStanding_good (B := wW.heap.size)).bw hA0 C1.size bo0
  replace k0_0 := hA0.cell k0_0
  replace k0_1 := hA0.cell k0_1
  replace k0_2 := hA0.cell k0_2
  replace k0_3 := hA0.cell k0_3
  replace k1_0 := hA0.cell k1_0
  replace k1_1 := hA0.cell k1_1
  replace kW_0 := hA0.cell kW_0
  replace kW_1 := hA0.cell kW_1
  replace kW_2 := hA0.cell kW_2
  replace kW_3 := hA0.cell kW_3
  have j0_0 : (w6.alloc (.cells #[.slice A1b0 x0.items.length c1b0, .slice A2b0 x0.wanted.length c2b0, .slice A3b0 x0.best.length c3b0, .int .i64 x0.tests] 47)).cell? ⟨w6.heap.size, 0, none⟩ = some (.slice A1b0 x0.items.length c1b0) := by go_simp
  have j0_1 : (w6.alloc (.cells #[.slice A1b0 x0.items.length c1b0, .slice A2b0 x0.wanted.length c2b0, .slice A3b0 x0.best.length c3b0, .int .i64 x0.tests] 47)).cell? ⟨w6.heap.size, 1, none⟩ = some (.slice A2b0 x0.wanted.length c2b0) := by go_simp
  have j0_2 : (w6.alloc (.cells #[.slice A1b0 x0.items.length c1b0, .slice A2b0 x0.wanted.length c2b0, .slice A3b0 x0.best.length c3b0, .int .i64 x0.tests] 47)).cell? ⟨w6.heap.size, 2, none⟩ = some (.slice A3b0 x0.best.length c3b0) := by go_simp
  have j0_3 : (w6.alloc (.cells #[.slice A1b0 x0.items.length c1b0, .slice A2b0 x0.wanted.length c2b0, .slice A3b0 x0.best.length c3b0, .int .i64 x0.tests] 47)).cell? ⟨w6.heap.size, 3, none⟩ = some (.int .i64 x0.tests) := by go_simp
  have lt0_1 := (fStanding_good (B := 0)).lt bo0
  go_wp2_with fail
  refine (L_toItem _ x1 _ (by exact (k1.bw rInts_good C2)) t1).mono ?_
  rintro e w7 ⟨b1, rfl, ⟨bF1, bo1, bf1⟩, hb7⟩
  have C3 : Bw wW _ := C2.then hb7
  replace bo0 := (fStanding_good (B := wW.heap.size)).bw hb7 C2.size bo0
  replace k0_0 := hb7.cell k0_0
  replace k0_1 := hb7.cell k0_1
  replace k0_2 := hb7.cell k0_2
  replace k0_3 := hb7.cell k0_3
  replace k1_0 := hb7.cell k1_0
  replace k1_1 := hb7.cell k1_1
  replace kW_0 := hb7.cell kW_0
  replace kW_1 := hb7.cell kW_1
  replace kW_2 := hb7.cell kW_2
  replace kW_3 := hb7.cell kW_3
  replace j0_0 := hb7.cell j0_0
  replace j0_1 := hb7.cell j0_1
  replace j0_2 := hb7.cell j0_2
  replace j0_3 := hb7.cell j0_3
  have hd0_1 : ∀ b ∈ bF1, b ∉ bF0 := fun b hb hb2 => by have := bf1.ge b hb; have := lt0_1 b hb2; omega
  replace bf1 := bf1.mono C2.size
  obtain ⟨Ab1, cb1, rfl, _⟩ := rSl_shape (fInts_Rd bo1)
  have bx1_0 : w7.heap.size ∉ bF0 := fun h => by have := (fStanding_good (B := 0)).lt bo0 _ h; omega
  have bx1_1 : w7.heap.size ∉ bF1 := fun h => by have := (fInts_good (B := 0)).lt bo1 _ h; omega
  have hA1 := (Bw.refl w7).alloc (.cells #[.int .i64 x1.id, .slice Ab1 x1.vals.length cb1] 58)
  have C4 : Bw wW _ := C3.then hA1
  replace bo0 := (fStanding_good (B := wW.heap.size)).bw hA1 C3.size bo0
  replace bo1 := (fInts_good (B := wW.heap.size)).bw hA1 C3.size bo1
  replace k0_0 := hA1.cell k0_0
  replace k0_1 := hA1.cell k0_1
  replace k0_2 := hA1.cell k0_2
  replace k0_3 := hA1.cell k0_3
  replace k1_0 := hA1.cell k1_0
  replace k1_1 := hA1.cell k1_1
  replace kW_0 := hA1.cell kW_0
  replace kW_1 := hA1.cell kW_1
  replace kW_2 := hA1.cell kW_2
  replace kW_3 := hA1.cell kW_3
  replace j0_0 := hA1.cell j0_0
  replace j0_1 := hA1.cell j0_1
  replace j0_2 := hA1.cell j0_2
  replace j0_3 := hA1.cell j0_3
  have j1_0 : (w7.alloc (.cells #[.int .i64 x1.id, .slice Ab1 x1.vals.length cb1] 58)).cell? ⟨w7.heap.size, 0, none⟩ = some (.int .i64 x1.id) := by go_simp
  have j1_1 : (w7.alloc (.cells #[.int .i64 x1.id, .slice Ab1 x1.vals.length cb1] 58)).cell? ⟨w7.heap.size, 1, none⟩ = some (.slice Ab1 x1.vals.length cb1) := by go_simp
  have lt0_G := (fStanding_good (B := 0)).lt bo0
  have lt1_G := (fInts_good (B := 0)).lt bo1
  go_wp2_with fail
  refine (I_ChangeItem _ x0 x1 _ _ _ _ (by exact (fStanding_Rds bo0).1) (by exact (fStanding_Rds bo0).2.1) (by exact (fStanding_Rds bo0).2.2.1) (by exact fInts_Rd bo1) (smallSt_of t0).1 (smallSt_of t0).2.1 (smallSt_of t0).2.2).mono ?_
  rintro e w8 ⟨_, rfl, ⟨vG, rfl, ⟨FG, oG, fG⟩⟩, hb8⟩
  have C5 : Bw wW _ := C4.then hb8
  replace bo0 := (fStanding_good (B := wW.heap.size)).bw hb8 C4.size bo0
  replace bo1 := (fInts_good (B := wW.heap.size)).bw hb8 C4.size bo1
  replace k0_0 := hb8.cell k0_0
  replace k0_1 := hb8.cell k0_1
  replace k0_2 := hb8.cell k0_2
  replace k0_3 := hb8.cell k0_3
  replace k1_0 := hb8.cell k1_0
  replace k1_1 := hb8.cell k1_1
  replace kW_0 := hb8.cell kW_0
  replace kW_1 := hb8.cell kW_1
  replace kW_2 := hb8.cell kW_2
  replace kW_3 := hb8.cell kW_3
  replace j0_0 := hb8.cell j0_0
  replace j0_1 := hb8.cell j0_1
  replace j0_2 := hb8.cell j0_2
  replace j0_3 := hb8.cell j0_3
  replace j1_0 := hb8.cell j1_0
  replace j1_1 := hb8.cell j1_1
  rw [← HZ0.out]
  have hd0_G : ∀ b ∈ FG, b ∉ bF0 := fun b hb hb2 => by have := fG.ge b hb; have := lt0_G b hb2; omega
  have hd1_G : ∀ b ∈ FG, b ∉ bF1 := fun b hb hb2 => by have := fG.ge b hb; have := lt1_G b hb2; omega
  replace fG := fG.mono C4.size
  rw [← HY.out] at oG
  obtain ⟨A1G, c1G, A2G, c2G, A3G, c3G, rfl⟩ := fStanding_shape oG
  have bxG_0 : w8.heap.size ∉ bF0 := fun h => by have := (fStanding_good (B := 0)).lt bo0 _ h; omega
  have bxG_1 : w8.heap.size ∉ bF1 := fun h => by have := (fInts_good (B := 0)).lt bo1 _ h; omega
  have bxG_G : w8.heap.size ∉ FG := fun h => by have := (fStanding_good (B := 0)).lt oG _ h; omega
  have hAG := (Bw.refl w8).alloc (.cells #[.slice A1G Y.items.length c1G, .slice A2G Y.wanted.length c2G, .slice A3G Y.best.length c3G, .int .i64 Y.tests] 47)
  have C6 : Bw wW _ := C5.then hAG
  replace bo0 := (fStanding_good (B := wW.heap.size)).bw hAG C5.size bo0
  replace bo1 := (fInts_good (B := wW.heap.size)).bw hAG C5.size bo1
  replace oG := (fStanding_good (B := wW.heap.size)).bw hAG C5.size oG
  replace k0_0 := hAG.cell k0_0
  replace k0_1 := hAG.cell k0_1
  replace k0_2 := hAG.cell k0_2
  replace k0_3 := hAG.cell k0_3
  replace k1_0 := hAG.cell k1_0
  replace k1_1 := hAG.cell k1_1
  replace kW_0 := hAG.cell kW_0
  replace kW_1 := hAG.cell kW_1
  replace kW_2 := hAG.cell kW_2
  replace kW_3 := hAG.cell kW_3
  replace j0_0 := hAG.cell j0_0
  replace j0_1 := hAG.cell j0_1
  replace j0_2 := hAG.cell j0_2
  replace j0_3 := hAG.cell j0_3
  replace j1_0 := hAG.cell j1_0
  replace j1_1 := hAG.cell j1_1
  have jG_0 : (w8.alloc (.cells #[.slice A1G Y.items.length c1G, .slice A2G Y.wanted.length c2G, .slice A3G Y.best.length c3G, .int .i64 Y.tests] 47)).cell? ⟨w8.heap.size, 0, none⟩ = some (.slice A1G Y.items.length c1G) := by go_simp
  have jG_1 : (w8.alloc (.cells #[.slice A1G Y.items.length c1G, .slice A2G Y.wanted.length c2G, .slice A3G Y.best.length c3G, .int .i64 Y.tests] 47)).cell? ⟨w8.heap.size, 1, none⟩ = some (.slice A2G Y.wanted.length c2G) := by go_simp
  have jG_2 : (w8.alloc (.cells #[.slice A1G Y.items.length c1G, .slice A2G Y.wanted.length c2G, .slice A3G Y.best.length c3G, .int .i64 Y.tests] 47)).cell? ⟨w8.heap.size, 2, none⟩ = some (.slice A3G Y.best.length c3G) := by go_simp
  have jG_3 : (w8.alloc (.cells #[.slice A1G Y.items.length c1G, .slice A2G Y.wanted.length c2G, .slice A3G Y.best.length c3G, .int .i64 Y.tests] 47)).cell? ⟨w8.heap.size, 3, none⟩ = some (.int .i64 Y.tests) := by go_simp
  go_wp2_with fail
  refine (L_eqStanding _ Y Y _ _ _ _ _ _ (fStanding_Rds oG).1 (fStanding_Rds oG).2.1 (fStanding_Rds oG).2.2.1 (rW1.bw rItems_good C6) (rW2.bw rNodes_good C6) (rW3.bw rInts_good C6)).mono ?_
  rintro e w9 ⟨rfl, hb9⟩
  have C7 : Bw wW _ := C6.then hb9
  replace bo0 := (fStanding_good (B := wW.heap.size)).bw hb9 C6.size bo0
  replace bo1 := (fInts_good (B := wW.heap.size)).bw hb9 C6.size bo1
  replace oG := (fStanding_good (B := wW.heap.size)).bw hb9 C6.size oG
  replace k0_0 := hb9.cell k0_0
  replace k0_1 := hb9.cell k0_1
  replace k0_2 := hb9.cell k0_2
  replace k0_3 := hb9.cell k0_3
  replace k1_0 := hb9.cell k1_0
  replace k1_1 := hb9.cell k1_1
  replace kW_0 := hb9.cell kW_0
  replace kW_1 := hb9.cell kW_1
  replace kW_2 := hb9.cell kW_2
  replace kW_3 := hb9.cell kW_3
  replace j0_0 := hb9.cell j0_0
  replace j0_1 := hb9.cell j0_1
  replace j0_2 := hb9.cell j0_2
  replace j0_3 := hb9.cell j0_3
  replace j1_0 := hb9.cell j1_0
  replace j1_1 := hb9.cell j1_1
  replace jG_0 := hb9.cell jG_0
  replace jG_1 := hb9.cell jG_1
  replace jG_2 := hb9.cell jG_2
  replace jG_3 := hb9.cell jG_3
  rw [show decide (Y = Y) = true from by simp]
  go_wp2_with fail
  have C8 : Bw wW _ := C7.drew
  have hdr := fun (W : World) => (Bw.refl W).drew
  replace bo0 := (fStanding_good (B := wW.heap.size)).bw (hdr _) C7.size bo0
  replace bo1 := (fInts_good (B := wW.heap.size)).bw (hdr _) C7.size bo1
  replace oG := (fStanding_good (B := wW.heap.size)).bw (hdr _) C7.size oG
  replace k0_0 := (hdr _).cell k0_0
  replace k0_1 := (hdr _).cell k0_1
  replace k0_2 := (hdr _).cell k0_2
  replace k0_3 := (hdr _).cell k0_3
  replace k1_0 := (hdr _).cell k1_0
  replace k1_1 := (hdr _).cell k1_1
  replace kW_0 := (hdr _).cell kW_0
  replace kW_1 := (hdr _).cell kW_1
  replace kW_2 := (hdr _).cell kW_2
  replace kW_3 := (hdr _).cell kW_3
  replace j0_0 := (hdr _).cell j0_0
  replace j0_1 := (hdr _).cell j0_1
  replace j0_2 := (hdr _).cell j0_2
  replace j0_3 := (hdr _).cell j0_3
  replace j1_0 := (hdr _).cell j1_0
  replace j1_1 := (hdr _).cell j1_1
  replace jG_0 := (hdr _).cell jG_0
  replace jG_1 := (hdr _).cell jG_1
  replace jG_2 := (hdr _).cell jG_2
  replace jG_3 := (hdr _).cell jG_3
  clear hdr
  go_region_held3 (fun w' => w'.cell? ⟨w.heap.size, 0, none⟩ = some (v0a) ∧ w'.cell? ⟨w.heap.size, 1, none⟩ = some (v0b) ∧ w'.cell? ⟨w.heap.size, 2, none⟩ = some (v0c) ∧ w'.cell? ⟨w.heap.size, 3, none⟩ = some (.int .i64 x0.tests) ∧ w'.cell? ⟨w.heap.size + 1, 0, none⟩ = some (.int .i64 x1.id) ∧ w'.cell? ⟨w.heap.size + 1, 1, none⟩ = some (v1) ∧ w'.cell? ⟨bW, 0, none⟩ = some (.slice A1W Y.items.length c1W) ∧ w'.cell? ⟨bW, 1, none⟩ = some (.slice A2W Y.wanted.length c2W) ∧ w'.cell? ⟨bW, 2, none⟩ = some (.slice A3W Y.best.length c3W) ∧ w'.cell? ⟨bW, 3, none⟩ = some (.int .i64 Y.tests) ∧ w'.cell? ⟨w6.heap.size, 0, none⟩ = some (.slice A1b0 x0.items.length c1b0) ∧ w'.cell? ⟨w6.heap.size, 1, none⟩ = some (.slice A2b0 x0.wanted.length c2b0) ∧ w'.cell? ⟨w6.heap.size, 2, none⟩ = some (.slice A3b0 x0.best.length c3b0) ∧ w'.cell? ⟨w6.heap.size, 3, none⟩ = some (.int .i64 x0.tests) ∧ w'.cell? ⟨w7.heap.size, 0, none⟩ = some (.int .i64 x1.id) ∧ w'.cell? ⟨w7.heap.size, 1, none⟩ = some (.slice Ab1 x1.vals.length cb1) ∧ w'.cell? ⟨w8.heap.size, 0, none⟩ = some (.slice A1G Y.items.length c1G) ∧ w'.cell? ⟨w8.heap.size, 1, none⟩ = some (.slice A2G Y.wanted.length c2G) ∧ w'.cell? ⟨w8.heap.size, 2, none⟩ = some (.slice A3G Y.best.length c3G) ∧ w'.cell? ⟨w8.heap.size, 3, none⟩ = some (.int .i64 Y.tests)) (first | go_keep | exact ⟨k0_0, k0_1, k0_2, k0_3, k1_0, k1_1, kW_0, kW_1, kW_2, kW_3, j0_0, j0_1, j0_2, j0_3, j1_0, j1_1, jG_0, jG_1, jG_2, jG_3⟩)
    (first
      | (go_at_call 22; refine (L_toStanding _ x0 _ _ _ (by exact (k0a.bw rItems_good C8)) (by exact (k0b.bw rNodes_good C8)) (by exact (k0c.bw rInts_good C8)) t0).mono ?_; rintro e w10 ⟨ccs0, cF0, rfl, co0, cf0, hb10⟩; have C9 : Bw wW _ := C8.then hb10; replace bo0 := (fStanding_good (B := wW.heap.size)).bw hb10 C8.size bo0; replace bo1 := (fInts_good (B := wW.heap.size)).bw hb10 C8.size bo1; replace oG := (fStanding_good (B := wW.heap.size)).bw hb10 C8.size oG; replace k0_0 := hb10.cell k0_0; replace k0_1 := hb10.cell k0_1; replace k0_2 := hb10.cell k0_2; replace k0_3 := hb10.cell k0_3; replace k1_0 := hb10.cell k1_0; replace k1_1 := hb10.cell k1_1; replace kW_0 := hb10.cell kW_0; replace kW_1 := hb10.cell kW_1; replace kW_2 := hb10.cell kW_2; replace kW_3 := hb10.cell kW_3; replace j0_0 := hb10.cell j0_0; replace j0_1 := hb10.cell j0_1; replace j0_2 := hb10.cell j0_2; replace j0_3 := hb10.cell j0_3; replace j1_0 := hb10.cell j1_0; replace j1_1 := hb10.cell j1_1; replace jG_0 := hb10.cell jG_0; replace jG_1 := hb10.cell jG_1; replace jG_2 := hb10.cell jG_2; replace jG_3 := hb10.cell jG_3; obtain ⟨A1c0, c1c0, A2c0, c2c0, A3c0, c3c0, rfl⟩ := fStanding_shape co0)
      | (go_at_call 24; refine (L_eqStanding _ x0 x0 _ _ _ _ _ _ (by exact ((fStanding_Rds bo0).1)) (by exact ((fStanding_Rds bo0).2.1)) (by exact ((fStanding_Rds bo0).2.2.1)) (by exact ((fStanding_Rds co0).1)) (by exact ((fStanding_Rds co0).2.1)) (by exact ((fStanding_Rds co0).2.2.1))).mono ?_; rintro e w11 ⟨rfl, hb11⟩; have C10 : Bw wW _ := C9.then hb11; replace bo0 := (fStanding_good (B := wW.heap.size)).bw hb11 C9.size bo0; replace bo1 := (fInts_good (B := wW.heap.size)).bw hb11 C9.size bo1; replace oG := (fStanding_good (B := wW.heap.size)).bw hb11 C9.size oG; replace co0 := (fStanding_good (B := wW.heap.size)).bw hb11 C9.size co0; replace k0_0 := hb11.cell k0_0; replace k0_1 := hb11.cell k0_1; replace k0_2 := hb11.cell k0_2; replace k0_3 := hb11.cell k0_3; replace k1_0 := hb11.cell k1_0; replace k1_1 := hb11.cell k1_1; replace kW_0 := hb11.cell kW_0; replace kW_1 := hb11.cell kW_1; replace kW_2 := hb11.cell kW_2; replace kW_3 := hb11.cell kW_3; replace j0_0 := hb11.cell j0_0; replace j0_1 := hb11.cell j0_1; replace j0_2 := hb11.cell j0_2; replace j0_3 := hb11.cell j0_3; replace j1_0 := hb11.cell j1_0; replace j1_1 := hb11.cell j1_1; replace jG_0 := hb11.cell jG_0; replace jG_1 := hb11.cell jG_1; replace jG_2 := hb11.cell jG_2; replace jG_3 := hb11.cell jG_3))
  clear co0 cf0
  go_wp2_with fail
  have C11 : Bw wW _ := C10.drew
  have hdr := fun (W : World) => (Bw.refl W).drew
  replace bo0 := (fStanding_good (B := wW.heap.size)).bw (hdr _) C10.size bo0
  replace bo1 := (fInts_good (B := wW.heap.size)).bw (hdr _) C10.size bo1
  replace oG := (fStanding_good (B := wW.heap.size)).bw (hdr _) C10.size oG
  replace k0_0 := (hdr _).cell k0_0
  replace k0_1 := (hdr _).cell k0_1
  replace k0_2 := (hdr _).cell k0_2
  replace k0_3 := (hdr _).cell k0_3
  replace k1_0 := (hdr _).cell k1_0
  replace k1_1 := (hdr _).cell k1_1
  replace kW_0 := (hdr _).cell kW_0
  replace kW_1 := (hdr _).cell kW_1
  replace kW_2 := (hdr _).cell kW_2
  replace kW_3 := (hdr _).cell kW_3
  replace j0_0 := (hdr _).cell j0_0
  replace j0_1 := (hdr _).cell j0_1
  replace j0_2 := (hdr _).cell j0_2
  replace j0_3 := (hdr _).cell j0_3
  replace j1_0 := (hdr _).cell j1_0
  replace j1_1 := (hdr _).cell j1_1
  replace jG_0 := (hdr _).cell jG_0
  replace jG_1 := (hdr _).cell jG_1
  replace jG_2 := (hdr _).cell jG_2
  replace jG_3 := (hdr _).cell jG_3
  clear hdr
  go_region_held3 (fun w' => w'.cell? ⟨w.heap.size, 0, none⟩ = some (v0a) ∧ w'.cell? ⟨w.heap.size, 1, none⟩ = some (v0b) ∧ w'.cell? ⟨w.heap.size, 2, none⟩ = some (v0c) ∧ w'.cell? ⟨w.heap.size, 3, none⟩ = some (.int .i64 x0.tests) ∧ w'.cell? ⟨w.heap.size + 1, 0, none⟩ = some (.int .i64 x1.id) ∧ w'.cell? ⟨w.heap.size + 1, 1, none⟩ = some (v1) ∧ w'.cell? ⟨bW, 0, none⟩ = some (.slice A1W Y.items.length c1W) ∧ w'.cell? ⟨bW, 1, none⟩ = some (.slice A2W Y.wanted.length c2W) ∧ w'.cell? ⟨bW, 2, none⟩ = some (.slice A3W Y.best.length c3W) ∧ w'.cell? ⟨bW, 3, none⟩ = some (.int .i64 Y.tests) ∧ w'.cell? ⟨w6.heap.size, 0, none⟩ = some (.slice A1b0 x0.items.length c1b0) ∧ w'.cell? ⟨w6.heap.size, 1, none⟩ = some (.slice A2b0 x0.wanted.length c2b0) ∧ w'.cell? ⟨w6.heap.size, 2, none⟩ = some (.slice A3b0 x0.best.length c3b0) ∧ w'.cell? ⟨w6.heap.size, 3, none⟩ = some (.int .i64 x0.tests) ∧ w'.cell? ⟨w7.heap.size, 0, none⟩ = some (.int .i64 x1.id) ∧ w'.cell? ⟨w7.heap.size, 1, none⟩ = some (.slice Ab1 x1.vals.length cb1) ∧ w'.cell? ⟨w8.heap.size, 0, none⟩ = some (.slice A1G Y.items.length c1G) ∧ w'.cell? ⟨w8.heap.size, 1, none⟩ = some (.slice A2G Y.wanted.length c2G) ∧ w'.cell? ⟨w8.heap.size, 2, none⟩ = some (.slice A3G Y.best.length c3G) ∧ w'.cell? ⟨w8.heap.size, 3, none⟩ = some (.int .i64 Y.tests)) (first | go_keep | exact ⟨k0_0, k0_1, k0_2, k0_3, k1_0, k1_1, kW_0, kW_1, kW_2, kW_3, j0_0, j0_1, j0_2, j0_3, j1_0, j1_1, jG_0, jG_1, jG_2, jG_3⟩)
    (first
      | (go_at_call 29; refine (L_toItem _ x1 _ (by exact (k1.bw rInts_good C11)) t1).mono ?_; rintro e w12 ⟨c1, rfl, ⟨cF1, co1, cf1⟩, hb12⟩; have C12 : Bw wW _ := C11.then hb12; replace bo0 := (fStanding_good (B := wW.heap.size)).bw hb12 C11.size bo0; replace bo1 := (fInts_good (B := wW.heap.size)).bw hb12 C11.size bo1; replace oG := (fStanding_good (B := wW.heap.size)).bw hb12 C11.size oG; replace k0_0 := hb12.cell k0_0; replace k0_1 := hb12.cell k0_1; replace k0_2 := hb12.cell k0_2; replace k0_3 := hb12.cell k0_3; replace k1_0 := hb12.cell k1_0; replace k1_1 := hb12.cell k1_1; replace kW_0 := hb12.cell kW_0; replace kW_1 := hb12.cell kW_1; replace kW_2 := hb12.cell kW_2; replace kW_3 := hb12.cell kW_3; replace j0_0 := hb12.cell j0_0; replace j0_1 := hb12.cell j0_1; replace j0_2 := hb12.cell j0_2; replace j0_3 := hb12.cell j0_3; replace j1_0 := hb12.cell j1_0; replace j1_1 := hb12.cell j1_1; replace jG_0 := hb12.cell jG_0; replace jG_1 := hb12.cell jG_1; replace jG_2 := hb12.cell jG_2; replace jG_3 := hb12.cell jG_3)
      | (go_at_call 31; refine (L_eqItem _ x1 x1 _ _ (by exact (fInts_Rd bo1)) (by exact (fInts_Rd co1))).mono ?_; rintro e w13 ⟨rfl, hb13⟩; have C13 : Bw wW _ := C12.then hb13; replace bo0 := (fStanding_good (B := wW.heap.size)).bw hb13 C12.size bo0; replace bo1 := (fInts_good (B := wW.heap.size)).bw hb13 C12.size bo1; replace oG := (fStanding_good (B := wW.heap.size)).bw hb13 C12.size oG; replace co1 := (fInts_good (B := wW.heap.size)).bw hb13 C12.size co1; replace k0_0 := hb13.cell k0_0; replace k0_1 := hb13.cell k0_1; replace k0_2 := hb13.cell k0_2; replace k0_3 := hb13.cell k0_3; replace k1_0 := hb13.cell k1_0; replace k1_1 := hb13.cell k1_1; replace kW_0 := hb13.cell kW_0; replace kW_1 := hb13.cell kW_1; replace kW_2 := hb13.cell kW_2; replace kW_3 := hb13.cell kW_3; replace j0_0 := hb13.cell j0_0; replace j0_1 := hb13.cell j0_1; replace j0_2 := hb13.cell j0_2; replace j0_3 := hb13.cell j0_3; replace j1_0 := hb13.cell j1_0; replace j1_1 := hb13.cell j1_1; replace jG_0 := hb13.cell jG_0; replace jG_1 := hb13.cell jG_1; replace jG_2 := hb13.cell jG_2; replace jG_3 := hb13.cell jG_3))
  clear co1 cf1
  have sm0 := smallSt_of t0
  have mt0 := markSt_le sm0
  have hm14 := fun (W : World) (o : _) (c : Bw wW W) => L_markStanding wW W x0 A1b0 A2b0 A3b0 x0.items.length x0.wanted.length x0.best.length c1b0 c2b0 c3b0 bF0 1 o bf0 c sm0 (by omega)
  obtain ⟨T0, hT0⟩ : ∃ T0, T0 = 1 + markSt x0 := ⟨_, rfl⟩
  rw [← hT0] at hm14
  have BT0 : T0 ≤ 7340033 := by omega
  have HT0 := Lib.hid hT0
  clear hT0
  go_wp2_with fail
  refine (hm14 _ bo0 C13).mono ?_
  rintro e w14 ⟨rfl, nw14, hO14, C14⟩
  replace bo1 := hO14.keeps (fInts_good (B := 0)) bo1 hd0_1
  replace oG := hO14.keeps (fStanding_good (B := 0)) oG hd0_G
  replace k0_0 := C14.cell k0_0B
  replace k0_1 := C14.cell k0_1B
  replace k0_2 := C14.cell k0_2B
  replace k0_3 := C14.cell k0_3B
  replace k1_0 := C14.cell k1_0B
  replace k1_1 := C14.cell k1_1B
  replace kW_0 := C14.cell kW_0B
  replace kW_1 := C14.cell kW_1B
  replace kW_2 := C14.cell kW_2B
  replace kW_3 := C14.cell kW_3B
  replace j0_0 := hO14.cell j0_0 bx0_0
  replace j0_1 := hO14.cell j0_1 bx0_0
  replace j0_2 := hO14.cell j0_2 bx0_0
  replace j0_3 := hO14.cell j0_3 bx0_0
  replace j1_0 := hO14.cell j1_0 bx1_0
  replace j1_1 := hO14.cell j1_1 bx1_0
  replace jG_0 := hO14.cell jG_0 bxG_0
  replace jG_1 := hO14.cell jG_1 bxG_0
  replace jG_2 := hO14.cell jG_2 bxG_0
  replace jG_3 := hO14.cell jG_3 bxG_0
  replace bo0 := nw14
  clear hm14 nw14 hO14
  clear bo0
  clear j0_0
  clear j0_1
  clear j0_2
  clear j0_3
  have hm15 := fun (W : World) (o : _) (c : Bw wW W) => L_markItem wW W x1 (.slice Ab1 x1.vals.length cb1) bF1 T0 o bf1 c (by omega) (by have := HT0.out; omega)
  obtain ⟨T1, hT1⟩ : ∃ T1, T1 = T0 + x1.vals.length := ⟨_, rfl⟩
  rw [← hT1] at hm15
  have BT1 : T1 ≤ 7340033 := by have := HT0.out; omega
  have HT1 := Lib.hid hT1
  clear hT1
  go_wp2_with fail
  refine (hm15 _ bo1 C14).mono ?_
  rintro e w15 ⟨rfl, nw15, hO15, C15⟩
  replace oG := hO15.keeps (fStanding_good (B := 0)) oG hd1_G
  replace k0_0 := C15.cell k0_0B
  replace k0_1 := C15.cell k0_1B
  replace k0_2 := C15.cell k0_2B
  replace k0_3 := C15.cell k0_3B
  replace k1_0 := C15.cell k1_0B
  replace k1_1 := C15.cell k1_1B
  replace kW_0 := C15.cell kW_0B
  replace kW_1 := C15.cell kW_1B
  replace kW_2 := C15.cell kW_2B
  replace kW_3 := C15.cell kW_3B
  replace j1_0 := hO15.cell j1_0 bx1_1
  replace j1_1 := hO15.cell j1_1 bx1_1
  replace jG_0 := hO15.cell jG_0 bxG_1
  replace jG_1 := hO15.cell jG_1 bxG_1
  replace jG_2 := hO15.cell jG_2 bxG_1
  replace jG_3 := hO15.cell jG_3 bxG_1
  replace bo1 := nw15
  clear hm15 nw15 hO15
  clear bo1
  clear j1_0
  clear j1_1
  go_wp2_with fail
  refine (L_eqStanding _ Y Y _ _ _ _ _ _ (fStanding_Rds oG).1 (fStanding_Rds oG).2.1 (fStanding_Rds oG).2.2.1 (rW1.bw rItems_good C15) (rW2.bw rNodes_good C15) (rW3.bw rInts_good C15)).mono ?_
  rintro e w16 ⟨rfl, hb16⟩
  have C16 : Bw wW _ := C15.then hb16
  replace oG := (fStanding_good (B := wW.heap.size)).bw hb16 C15.size oG
  replace k0_0 := hb16.cell k0_0
  replace k0_1 := hb16.cell k0_1
  replace k0_2 := hb16.cell k0_2
  replace k0_3 := hb16.cell k0_3
  replace k1_0 := hb16.cell k1_0
  replace k1_1 := hb16.cell k1_1
  replace kW_0 := hb16.cell kW_0
  replace kW_1 := hb16.cell kW_1
  replace kW_2 := hb16.cell kW_2
  replace kW_3 := hb16.cell kW_3
  replace jG_0 := hb16.cell jG_0
  replace jG_1 := hb16.cell jG_1
  replace jG_2 := hb16.cell jG_2
  replace jG_3 := hb16.cell jG_3
  rw [show decide (Y = Y) = true from by simp]
  have hm17 := fun (W : World) (o : _) (c : Bw wW W) => L_markStanding wW W Y A1G A2G A3G Y.items.length Y.wanted.length Y.best.length c1G c2G c3G FG 1 o fG c tY (by omega)
  obtain ⟨TM, hTM⟩ : ∃ TM, TM = 1 + markSt Y := ⟨_, rfl⟩
  rw [← hTM] at hm17
  have BTM : TM ≤ 6291457 := by omega
  have HTM := Lib.hid hTM
  clear hTM
  go_wp2_with fail
  refine (hm17 _ oG C16).mono ?_
  rintro e w17 ⟨rfl, nw17, hO17, C17⟩
  replace k0_0 := C17.cell k0_0B
  replace k0_1 := C17.cell k0_1B
  replace k0_2 := C17.cell k0_2B
  replace k0_3 := C17.cell k0_3B
  replace k1_0 := C17.cell k1_0B
  replace k1_1 := C17.cell k1_1B
  replace kW_0 := C17.cell kW_0B
  replace kW_1 := C17.cell kW_1B
  replace kW_2 := C17.cell kW_2B
  replace kW_3 := C17.cell kW_3B
  replace jG_0 := hO17.cell jG_0 bxG_G
  replace jG_1 := hO17.cell jG_1 bxG_G
  replace jG_2 := hO17.cell jG_2 bxG_G
  replace jG_3 := hO17.cell jG_3 bxG_G
  replace oG := nw17
  clear hm17 nw17 hO17
  have hh17 := L_heldSt oG tY
  rw [← HTM.out] at hh17
  go_wp2_with fail
  refine (hh17).mono ?_
  rintro e w18 ⟨rfl, hb18⟩
  have C18 : Bw wW _ := C17.then hb18
  replace oG := (fStanding_good (B := wW.heap.size)).bw hb18 C17.size oG
  replace k0_0 := hb18.cell k0_0
  replace k0_1 := hb18.cell k0_1
  replace k0_2 := hb18.cell k0_2
  replace k0_3 := hb18.cell k0_3
  replace k1_0 := hb18.cell k1_0
  replace k1_1 := hb18.cell k1_1
  replace kW_0 := hb18.cell kW_0
  replace kW_1 := hb18.cell kW_1
  replace kW_2 := hb18.cell kW_2
  replace kW_3 := hb18.cell kW_3
  replace jG_0 := hb18.cell jG_0
  replace jG_1 := hb18.cell jG_1
  replace jG_2 := hb18.cell jG_2
  replace jG_3 := hb18.cell jG_3
  clear hh17
  go_wp2_with fail
  go_cut [15, 16] from 17 (fun s15 s16 wx => ∃ (bH : Nat) (A1H : Option Addr) (c1H : Nat) (A2H : Option Addr) (c2H : Nat) (A3H : Option Addr) (c3H : Nat), s15 = .pointer (some ⟨bH, 0, none⟩) ∧ s16 = .bool Z0 ∧ Bw w18 wx ∧ Box wx bH [.slice A1H Y.items.length c1H, .slice A2H Y.wanted.length c2H, .slice A3H Y.best.length c3H, .int .i64 Y.tests] ∧ Rd rItems wx Y.items [.slice A1H Y.items.length c1H] ∧ Rd rNodes wx Y.wanted [.slice A2H Y.wanted.length c2H] ∧ Rd rInts wx Y.best [.slice A3H Y.best.length c3H])
  case first =>
    have D0 : Bw w18 w18.drew := (Bw.refl _).drew
    have lt_k0_0 := block_lt k0_0
    have lt_k0_1 := block_lt k0_1
    have lt_k0_2 := block_lt k0_2
    have lt_k0_3 := block_lt k0_3
    have lt_k1_0 := block_lt k1_0
    have lt_k1_1 := block_lt k1_1
    have lt_kW_0 := block_lt kW_0
    have lt_kW_1 := block_lt kW_1
    have lt_kW_2 := block_lt kW_2
    have lt_kW_3 := block_lt kW_3
    have lt_jG_0 := block_lt jG_0
    have lt_jG_1 := block_lt jG_1
    have lt_jG_2 := block_lt jG_2
    have lt_jG_3 := block_lt jG_3
    go_region_held3 (fun w' => w'.cell? ⟨w.heap.size, 0, none⟩ = some (v0a) ∧ w'.cell? ⟨w.heap.size, 1, none⟩ = some (v0b) ∧ w'.cell? ⟨w.heap.size, 2, none⟩ = some (v0c) ∧ w'.cell? ⟨w.heap.size, 3, none⟩ = some (.int .i64 x0.tests) ∧ w'.cell? ⟨w.heap.size + 1, 0, none⟩ = some (.int .i64 x1.id) ∧ w'.cell? ⟨w.heap.size + 1, 1, none⟩ = some (v1) ∧ w'.cell? ⟨bW, 0, none⟩ = some (.slice A1W Y.items.length c1W) ∧ w'.cell? ⟨bW, 1, none⟩ = some (.slice A2W Y.wanted.length c2W) ∧ w'.cell? ⟨bW, 2, none⟩ = some (.slice A3W Y.best.length c3W) ∧ w'.cell? ⟨bW, 3, none⟩ = some (.int .i64 Y.tests) ∧ w'.cell? ⟨w8.heap.size, 0, none⟩ = some (.slice A1G Y.items.length c1G) ∧ w'.cell? ⟨w8.heap.size, 1, none⟩ = some (.slice A2G Y.wanted.length c2G) ∧ w'.cell? ⟨w8.heap.size, 2, none⟩ = some (.slice A3G Y.best.length c3G) ∧ w'.cell? ⟨w8.heap.size, 3, none⟩ = some (.int .i64 Y.tests)) (first | with_reducible exact ⟨k0_0, k0_1, k0_2, k0_3, k1_0, k1_1, kW_0, kW_1, kW_2, kW_3, jG_0, jG_1, jG_2, jG_3⟩ | with_reducible exact ⟨D0.cell k0_0, D0.cell k0_1, D0.cell k0_2, D0.cell k0_3, D0.cell k1_0, D0.cell k1_1, D0.cell kW_0, D0.cell kW_1, D0.cell kW_2, D0.cell kW_3, D0.cell jG_0, D0.cell jG_1, D0.cell jG_2, D0.cell jG_3⟩ | with_reducible exact ⟨(((Bw.refl w18).alloc _).drew).cell k0_0, (((Bw.refl w18).alloc _).drew).cell k0_1, (((Bw.refl w18).alloc _).drew).cell k0_2, (((Bw.refl w18).alloc _).drew).cell k0_3, (((Bw.refl w18).alloc _).drew).cell k1_0, (((Bw.refl w18).alloc _).drew).cell k1_1, (((Bw.refl w18).alloc _).drew).cell kW_0, (((Bw.refl w18).alloc _).drew).cell kW_1, (((Bw.refl w18).alloc _).drew).cell kW_2, (((Bw.refl w18).alloc _).drew).cell kW_3, (((Bw.refl w18).alloc _).drew).cell jG_0, (((Bw.refl w18).alloc _).drew).cell jG_1, (((Bw.refl w18).alloc _).drew).cell jG_2, (((Bw.refl w18).alloc _).drew).cell jG_3⟩ | with_reducible exact ⟨((Bw.refl _).alloc _).cell k0_0, ((Bw.refl _).alloc _).cell k0_1, ((Bw.refl _).alloc _).cell k0_2, ((Bw.refl _).alloc _).cell k0_3, ((Bw.refl _).alloc _).cell k1_0, ((Bw.refl _).alloc _).cell k1_1, ((Bw.refl _).alloc _).cell kW_0, ((Bw.refl _).alloc _).cell kW_1, ((Bw.refl _).alloc _).cell kW_2, ((Bw.refl _).alloc _).cell kW_3, ((Bw.refl _).alloc _).cell jG_0, ((Bw.refl _).alloc _).cell jG_1, ((Bw.refl _).alloc _).cell jG_2, ((Bw.refl _).alloc _).cell jG_3⟩ | with_reducible exact ⟨far4 lt_k0_0 lB k0_0, far4 lt_k0_1 lB k0_1, far4 lt_k0_2 lB k0_2, far4 lt_k0_3 lB k0_3, far4 lt_k1_0 lB k1_0, far4 lt_k1_1 lB k1_1, far4 lt_kW_0 lB kW_0, far4 lt_kW_1 lB kW_1, far4 lt_kW_2 lB kW_2, far4 lt_kW_3 lB kW_3, far4 lt_jG_0 lB jG_0, far4 lt_jG_1 lB jG_1, far4 lt_jG_2 lB jG_2, far4 lt_jG_3 lB jG_3⟩ | go_keep)
      (first
        | (go_at_call 22; refine (L_toStanding _ x0 _ _ _ (by first | with_reducible exact (k0a.bw rItems_good (C18.then D0)) | with_reducible exact (k0a.bw rItems_good (C18.then ((Bw.refl w18).alloc _).drew))) (by first | with_reducible exact (k0b.bw rNodes_good (C18.then D0)) | with_reducible exact (k0b.bw rNodes_good (C18.then ((Bw.refl w18).alloc _).drew))) (by first | with_reducible exact (k0c.bw rInts_good (C18.then D0)) | with_reducible exact (k0c.bw rInts_good (C18.then ((Bw.refl w18).alloc _).drew))) t0).mono ?_; rintro e w19 ⟨_, aF0, rfl, ⟨a0a, a0b, a0c, aF0a, aF0b, aF0c, rfl, ao0a, ao0b, ao0c, rfl⟩, af0, hb19⟩; (first | with_reducible have E19 : Bw w18 w19 := D0.then hb19 | with_reducible have E19 : Bw w18 w19 := ((Bw.refl w18).alloc _).drew.then hb19); have D19 := E19; (first | with_reducible (have bx := (Box.new w18 _ _).bw ((Bw.refl _).drew.then hb19); have lB := Nat.le_refl w18.heap.size) | skip); replace k0_0 := E19.cell k0_0; replace k0_1 := E19.cell k0_1; replace k0_2 := E19.cell k0_2; replace k0_3 := E19.cell k0_3; replace k1_0 := E19.cell k1_0; replace k1_1 := E19.cell k1_1; replace kW_0 := E19.cell kW_0; replace kW_1 := E19.cell kW_1; replace kW_2 := E19.cell kW_2; replace kW_3 := E19.cell kW_3; replace jG_0 := E19.cell jG_0; replace jG_1 := E19.cell jG_1; replace jG_2 := E19.cell jG_2; replace jG_3 := E19.cell jG_3; have ar0a := fItems_Rd ao0a; have ar0b := fNodes_Rd ao0b; have ar0c := fInts_Rd ao0c)
        | (go_at_call 29; refine (L_toItem _ x1 _ (by first | with_reducible exact (k1.bw rInts_good (C18.then D19)) | with_reducible exact (k1.bw rInts_good (C18.then (D19.alloc _)))) t1).mono ?_; rintro e w20 ⟨a1, rfl, ⟨aF1, ao1, af1⟩, hb20⟩; (first | with_reducible have E20 : Bw w19 w20 := hb20 | with_reducible have E20 : Bw w19 w20 := ((Bw.refl w19).alloc _).then hb20); have D20 : Bw w18 w20 := D19.then E20; (first | with_reducible replace bx := bx.bw hb20 | with_reducible (have bx := (Box.new w19 _ _).bw hb20; have lB := D19.size) | skip); replace k0_0 := E20.cell k0_0; replace k0_1 := E20.cell k0_1; replace k0_2 := E20.cell k0_2; replace k0_3 := E20.cell k0_3; replace k1_0 := E20.cell k1_0; replace k1_1 := E20.cell k1_1; replace kW_0 := E20.cell kW_0; replace kW_1 := E20.cell kW_1; replace kW_2 := E20.cell kW_2; replace kW_3 := E20.cell kW_3; replace jG_0 := E20.cell jG_0; replace jG_1 := E20.cell jG_1; replace jG_2 := E20.cell jG_2; replace jG_3 := E20.cell jG_3; replace ar0a := ar0a.bw rItems_good E20; replace ar0b := ar0b.bw rNodes_good E20; replace ar0c := ar0c.bw rInts_good E20; have ar1 := fInts_Rd ao1)
        | (go_at_call 34; refine (I_ChangeItem _ x0 x1 _ _ _ _ (by first | with_reducible exact ar0a | with_reducible exact ar0a.bw rItems_good ((Bw.refl _).alloc _)) (by first | with_reducible exact ar0b | with_reducible exact ar0b.bw rNodes_good ((Bw.refl _).alloc _)) (by first | with_reducible exact ar0c | with_reducible exact ar0c.bw rInts_good ((Bw.refl _).alloc _)) (by first | with_reducible exact ar1 | with_reducible exact ar1.bw rInts_good ((Bw.refl _).alloc _)) (smallSt_of t0).1 (smallSt_of t0).2.1 (smallSt_of t0).2.2).mono ?_; rintro e w21 ⟨_, rfl, ⟨vH, rfl, ⟨FH, oH, fH⟩⟩, hb21⟩; (first | with_reducible have E21 : Bw w20 w21 := hb21 | with_reducible have E21 : Bw w20 w21 := ((Bw.refl w20).alloc _).then hb21); have D21 : Bw w18 w21 := D20.then E21; (first | with_reducible (have nB := boxNot bx fH; replace bx := bx.bw hb21) | with_reducible (have nB := boxNot (Box.new w20 _ _) fH; have bx := (Box.new w20 _ _).bw hb21; have lB := D20.size) | skip); (try (have e0 := bx.c 0 _ rfl; have e1 := bx.c 1 _ rfl; have e2 := bx.c 2 _ rfl; have e3 := bx.c 3 _ rfl; have ef := bx.fr)); replace k0_0 := E21.cell k0_0; replace k0_1 := E21.cell k0_1; replace k0_2 := E21.cell k0_2; replace k0_3 := E21.cell k0_3; replace k1_0 := E21.cell k1_0; replace k1_1 := E21.cell k1_1; replace kW_0 := E21.cell kW_0; replace kW_1 := E21.cell kW_1; replace kW_2 := E21.cell kW_2; replace kW_3 := E21.cell kW_3; replace jG_0 := E21.cell jG_0; replace jG_1 := E21.cell jG_1; replace jG_2 := E21.cell jG_2; replace jG_3 := E21.cell jG_3; replace ar0a := ar0a.bw rItems_good E21; replace ar0b := ar0b.bw rNodes_good E21; replace ar0c := ar0c.bw rInts_good E21; replace ar1 := ar1.bw rInts_good E21; rw [← HY.out] at oH; obtain ⟨A1H, c1H, A2H, c2H, A3H, c3H, rfl⟩ := fStanding_shape oH))
    all_goals
      go_wp2_with fail
      go_meet
      first
        | exact ⟨_, A1H, c1H, A2H, c2H, A3H, c3H, rfl, by rw [HZ0.out], D21.alloc _, Box.new w21 #[.slice A1H Y.items.length c1H, .slice A2H Y.wanted.length c2H, .slice A3H Y.best.length c3H, .int .i64 Y.tests] 47, (fStanding_Rds oH).1.bw rItems_good ((Bw.refl w21).alloc _), (fStanding_Rds oH).2.1.bw rNodes_good ((Bw.refl w21).alloc _), (fStanding_Rds oH).2.2.1.bw rInts_good ((Bw.refl w21).alloc _)⟩
        | exact ⟨_, A1H, c1H, A2H, c2H, A3H, c3H, rfl, by rw [HZ0.out], D21.set4 lB, bx.four _ _ _ _, (fStanding_Rds (keepSet4 fStanding_good oH nB)).1, (fStanding_Rds (keepSet4 fStanding_good oH nB)).2.1, (fStanding_Rds (keepSet4 fStanding_good oH nB)).2.2.1⟩
  case rest =>
  revert wc
  intro wH hcut
  obtain ⟨bH, A1H, c1H, A2H, c2H, A3H, c3H, rfl, rfl, hbH, bxH, rH1, rH2, rH3⟩ := hcut
  have C19 : Bw wW _ := C18.then hbH
  replace oG := (fStanding_good (B := wW.heap.size)).bw hbH C18.size oG
  replace k0_0 := hbH.cell k0_0
  replace k0_1 := hbH.cell k0_1
  replace k0_2 := hbH.cell k0_2
  replace k0_3 := hbH.cell k0_3
  replace k1_0 := hbH.cell k1_0
  replace k1_1 := hbH.cell k1_1
  replace kW_0 := hbH.cell kW_0
  replace kW_1 := hbH.cell kW_1
  replace kW_2 := hbH.cell kW_2
  replace kW_3 := hbH.cell kW_3
  replace jG_0 := hbH.cell jG_0
  replace jG_1 := hbH.cell jG_1
  replace jG_2 := hbH.cell jG_2
  replace jG_3 := hbH.cell jG_3
  have jH_0 := bxH.c 0 _ rfl
  have jH_1 := bxH.c 1 _ rfl
  have jH_2 := bxH.c 2 _ rfl
  have jH_3 := bxH.c 3 _ rfl
  go_wp2_with fail
  refine (L_eqStanding _ Y Y _ _ _ _ _ _ rH1 rH2 rH3 (rW1.bw rItems_good C19) (rW2.bw rNodes_good C19) (rW3.bw rInts_good C19)).mono ?_
  rintro e w22 ⟨rfl, hb22⟩
  have C20 : Bw wW _ := C19.then hb22
  replace oG := (fStanding_good (B := wW.heap.size)).bw hb22 C19.size oG
  replace k0_0 := hb22.cell k0_0
  replace k0_1 := hb22.cell k0_1
  replace k0_2 := hb22.cell k0_2
  replace k0_3 := hb22.cell k0_3
  replace k1_0 := hb22.cell k1_0
  replace k1_1 := hb22.cell k1_1
  replace kW_0 := hb22.cell kW_0
  replace kW_1 := hb22.cell kW_1
  replace kW_2 := hb22.cell kW_2
  replace kW_3 := hb22.cell kW_3
  replace jG_0 := hb22.cell jG_0
  replace jG_1 := hb22.cell jG_1
  replace jG_2 := hb22.cell jG_2
  replace jG_3 := hb22.cell jG_3
  replace jH_0 := hb22.cell jH_0
  replace jH_1 := hb22.cell jH_1
  replace jH_2 := hb22.cell jH_2
  replace jH_3 := hb22.cell jH_3
  rw [show decide (Y = Y) = true from by simp]
  have hh22 := L_heldSt oG tY
  rw [← HTM.out] at hh22
  go_wp2_with fail
  refine (hh22).mono ?_
  rintro e w23 ⟨rfl, hb23⟩
  have C21 : Bw wW _ := C20.then hb23
  replace oG := (fStanding_good (B := wW.heap.size)).bw hb23 C20.size oG
  replace k0_0 := hb23.cell k0_0
  replace k0_1 := hb23.cell k0_1
  replace k0_2 := hb23.cell k0_2
  replace k0_3 := hb23.cell k0_3
  replace k1_0 := hb23.cell k1_0
  replace k1_1 := hb23.cell k1_1
  replace kW_0 := hb23.cell kW_0
  replace kW_1 := hb23.cell kW_1
  replace kW_2 := hb23.cell kW_2
  replace kW_3 := hb23.cell kW_3
  replace jG_0 := hb23.cell jG_0
  replace jG_1 := hb23.cell jG_1
  replace jG_2 := hb23.cell jG_2
  replace jG_3 := hb23.cell jG_3
  replace jH_0 := hb23.cell jH_0
  replace jH_1 := hb23.cell jH_1
  replace jH_2 := hb23.cell jH_2
  replace jH_3 := hb23.cell jH_3
  clear hh22
  go_wp2
  go_ret
  exact Ret.bool rfl (B3.then C21)
set_option maxRecDepth 100000 in
theorem lifted_FnExactChangeItem (os : Os) (started : os.Started) (H : Type) (enc : TypeId × Value → H) :
    ReturnsInHanded {} Tryz.checked os 6 .any (Rows.fnExactChangeItemSpec.pre6 enc Tryz.prog Tryz.f6 Rows.fnExactChangeItemRow.domain false) (Rows.fnExactChangeItemSpec.post enc Tryz.prog Tryz.f6 false true false false) := by
  refine returnsInHanded_of_change (C := Tryz.checked) own_knob started (by kernel_rfl) Tryz.func6
    (ChangeSpec.witness6 (enc := enc) (C := Tryz.checked) false ⟨#[], #[.agg #[.slice none 0 0, .slice none 0 0, .slice none 0 0, .int .i64 0], .agg #[.int .i64 0, .slice none 0 0]], []⟩ 8 (by kernel_rfl) (by kernel_rfl) (by kernel_rfl) (by kernel_rfl)) ?_
  intro W base args ds gs before hval0 hW hcnd _
  have hval : ∀ (j : Nat) t v, Tryz.f6.params[j]? = some t → args[j]? = some v → Value.okWide Tryz.prog W .any base t v := hval0
  have hW' := hW
  obtain ⟨p, q, hA0, hV, rfl, hfz, hnd⟩ := hW
  have hA : DataW.TrodAll enc Tryz.prog W 0 (fun _ => true) true Tryz.f6.params.toList args.toList ds p := hA0
  rw [Tryz.params6] at hA hval
  obtain ⟨v0, vs0, d0, ds0, p0, q0, hargs, rfl, rfl, h0, r0⟩ := trodAll_cons hA
  obtain ⟨v1, vs1, d1, ds1, p1, q1, rfl, rfl, rfl, h1, r1⟩ := trodAll_cons r0
  obtain ⟨rfl, rfl, rfl⟩ := trodAll_nil r1
  obtain rfl : args = #[v0, v1] := by cases args; simp_all
  obtain ⟨rfl, rfl⟩ := trodVars_none hV
  have k0 := h0
  have lt0 : ∀ x ∈ p0, x.block < W.heap.size := by obtain ⟨m, hm⟩ := k0; exact DataW.trod_lt m _ _ _ hm
  obtain ⟨cs0, rfl, hsz0⟩ := okWide_struct Tryz.underlying43 (hval 0 43 v0 rfl rfl)
  obtain ⟨x0, R0, Q0⟩ : ∃ xs, Rd rStanding W xs cs0.toList ∧ wfStanding xs := by obtain ⟨m, hm⟩ := h0; exact t_standing hm
  obtain ⟨ua0, ub0, uc0, e0, Ra0, Rb0, Rc0⟩ := R0
  obtain rfl : cs0 = #[ua0, ub0, uc0, .int .i64 x0.tests] := Array.toList_inj.1 e0
  have k1 := h1
  have lt1 : ∀ x ∈ p1, x.block < W.heap.size := by obtain ⟨m, hm⟩ := k1; exact DataW.trod_lt m _ _ _ hm
  obtain ⟨cs1, rfl, hsz1⟩ := okWide_struct Tryz.underlying55 (hval 1 55 v1 rfl rfl)
  obtain ⟨x1, R1, Q1⟩ : ∃ xs, Rd rItem W xs cs1.toList ∧ wfItem xs := by obtain ⟨m, hm⟩ := h1; exact t_item hm
  obtain ⟨u1, e1, R1⟩ := R1
  obtain rfl : cs1 = #[.int .i64 x1.id, u1] := Array.toList_inj.1 e1
  clear hA0 hval0
  refine (walk_FnExactChangeItem W x0 _ _ _ Ra0 Rb0 Rc0 Q0 x1 _ R1 Q1).mono fun e W' ⟨he, bel⟩ => ?_
  subst he
  exact ⟨_, rfl, _, _, _, [], _, [], hW', trodAll_mk1 (shut_bool Tryz.underlying4 _), (trodAll_cons_mk (Below.trod laid_out (by kernel_rfl) (of_decide_eq_true (by kernel_rfl)) k0 bel lt0) (trodAll_cons_mk (Below.trod laid_out (by kernel_rfl) (of_decide_eq_true (by kernel_rfl)) k1 bel lt1) trodAll_mk0)), rfl, Below.frame bel _, fun h => by cases h⟩
/-- the statement -/
theorem FnExactChangeItem_holds : Rows.FnExactChangeItemSaid :=
  OpenClaim.holds_of_wide 6 Tryz.f6 rfl rfl rfl rfl rfl rfl rfl ⟨rfl, rfl, rfl, rfl, rfl⟩ rfl rfl rfl rfl rfl (by kernel_rfl) Tryz.func6 (by kernel_rfl)
    (of_decide_eq_true (by kernel_rfl)) (by unfold Func.isWrapper; first | (rw [if_pos (by decide +kernel)]; kernel_rfl) | (rw [if_neg (by decide +kernel)]; exact ⟨rfl, rfl⟩))
    (fun os started H enc _ => lifted_FnExactChangeItem os started H enc)
end Go.Proofs.YtfffklkiikmieaaGreat
