/- For every input, FnExactEqualStandings returns true and leaves its arguments as they were. No condition. -/
import Derived.Test.YtjhieohbobfjjaaRows
import Derived.Test.YtjhieohbobfjjaaStand
import Derived.Test.YtjhieohbobfjjaaOpen
namespace Go.Proofs.Ytjhieohbobfjjaa
open Go.RowKit Go.ChangeShapes Go.WideShapes Go.ChangeAt
set_option linter.unusedVariables false
set_option maxRecDepth 100000 in
set_option maxHeartbeats 4000000 in
theorem walk_FnExactEqualStandings (w : World) (x0 : GStanding) (v0a v0b v0c : Value) (h0a : Rd rItems w x0.items [v0a]) (h0b : Rd rNodes w x0.wanted [v0b]) (h0c : Rd rInts w x0.best [v0c]) (q0 : wfStanding x0) (x1 : GStanding) (v1a v1b v1c : Value) (h1a : Rd rItems w x1.items [v1a]) (h1b : Rd rNodes w x1.wanted [v1b]) (h1c : Rd rInts w x1.best [v1c]) (q1 : wfStanding x1) :
    Calls Try.prog 12 #[.agg #[v0a, v0b, v0c, .int .i64 x0.tests], .agg #[v1a, v1b, v1c, .int .i64 x1.tests]] w (Ret w (.bool true)) := by
  go_enter Try.func12, Try.ntmps12
  have B0 : Bw w ((w.alloc (.cells #[v0a, v0b, v0c, .int .i64 x0.tests] 64)).alloc (.cells #[v1a, v1b, v1c, .int .i64 x1.tests] 64)) := (((Bw.refl w).alloc _).alloc _)
  have k0_0 : ((w.alloc (.cells #[v0a, v0b, v0c, .int .i64 x0.tests] 64)).alloc (.cells #[v1a, v1b, v1c, .int .i64 x1.tests] 64)).cell? ⟨w.heap.size, 0, none⟩ = some (v0a) := by go_simp
  have k0_1 : ((w.alloc (.cells #[v0a, v0b, v0c, .int .i64 x0.tests] 64)).alloc (.cells #[v1a, v1b, v1c, .int .i64 x1.tests] 64)).cell? ⟨w.heap.size, 1, none⟩ = some (v0b) := by go_simp
  have k0_2 : ((w.alloc (.cells #[v0a, v0b, v0c, .int .i64 x0.tests] 64)).alloc (.cells #[v1a, v1b, v1c, .int .i64 x1.tests] 64)).cell? ⟨w.heap.size, 2, none⟩ = some (v0c) := by go_simp
  have k0_3 : ((w.alloc (.cells #[v0a, v0b, v0c, .int .i64 x0.tests] 64)).alloc (.cells #[v1a, v1b, v1c, .int .i64 x1.tests] 64)).cell? ⟨w.heap.size, 3, none⟩ = some (.int .i64 x0.tests) := by go_simp
  have k1_0 : ((w.alloc (.cells #[v0a, v0b, v0c, .int .i64 x0.tests] 64)).alloc (.cells #[v1a, v1b, v1c, .int .i64 x1.tests] 64)).cell? ⟨w.heap.size + 1, 0, none⟩ = some (v1a) := by go_simp
  have k1_1 : ((w.alloc (.cells #[v0a, v0b, v0c, .int .i64 x0.tests] 64)).alloc (.cells #[v1a, v1b, v1c, .int .i64 x1.tests] 64)).cell? ⟨w.heap.size + 1, 1, none⟩ = some (v1b) := by go_simp
  have k1_2 : ((w.alloc (.cells #[v0a, v0b, v0c, .int .i64 x0.tests] 64)).alloc (.cells #[v1a, v1b, v1c, .int .i64 x1.tests] 64)).cell? ⟨w.heap.size + 1, 2, none⟩ = some (v1c) := by go_simp
  have k1_3 : ((w.alloc (.cells #[v0a, v0b, v0c, .int .i64 x0.tests] 64)).alloc (.cells #[v1a, v1b, v1c, .int .i64 x1.tests] 64)).cell? ⟨w.heap.size + 1, 3, none⟩ = some (.int .i64 x1.tests) := by go_simp
  go_wp2_with fail
  refine (L_szStanding _ x0 _ _ _ (h0a.bw rItems_good B0) (h0b.bw rNodes_good B0) (h0c.bw rInts_good B0) (1048576 : Int) (by omega) (by omega)).mono ?_
  rintro e w1 ⟨rfl, hb1⟩
  have B1 : Bw w _ := B0.then hb1
  replace k0_0 := hb1.cell k0_0
  replace k0_1 := hb1.cell k0_1
  replace k0_2 := hb1.cell k0_2
  replace k0_3 := hb1.cell k0_3
  replace k1_0 := hb1.cell k1_0
  replace k1_1 := hb1.cell k1_1
  replace k1_2 := hb1.cell k1_2
  replace k1_3 := hb1.cell k1_3
  by_cases s0 : (1048576 : Int) < ((totStanding x0 : Nat) : Int)
  · rw [show szM (1048576 : Int) (totStanding x0) = -1 from if_pos s0]
    go_wp2
    go_ret
    exact Ret.bool rfl B1
  rw [show szM (1048576 : Int) (totStanding x0) = ((1048576 : Int) - ((totStanding x0 : Nat) : Int)) from if_neg s0]
  have t0 : totStanding x0 ≤ 1048576 := by omega
  go_wp2_with fail
  refine (L_szStanding _ x1 _ _ _ (h1a.bw rItems_good B1) (h1b.bw rNodes_good B1) (h1c.bw rInts_good B1) ((1048576 : Int) - ((totStanding x0 : Nat) : Int)) (by omega) (by omega)).mono ?_
  rintro e w2 ⟨rfl, hb2⟩
  have B2 : Bw w _ := B1.then hb2
  replace k0_0 := hb2.cell k0_0
  replace k0_1 := hb2.cell k0_1
  replace k0_2 := hb2.cell k0_2
  replace k0_3 := hb2.cell k0_3
  replace k1_0 := hb2.cell k1_0
  replace k1_1 := hb2.cell k1_1
  replace k1_2 := hb2.cell k1_2
  replace k1_3 := hb2.cell k1_3
  by_cases s1 : ((1048576 : Int) - ((totStanding x0 : Nat) : Int)) < ((totStanding x1 : Nat) : Int)
  · rw [show szM ((1048576 : Int) - ((totStanding x0 : Nat) : Int)) (totStanding x1) = -1 from if_pos s1]
    go_wp2
    go_ret
    exact Ret.bool rfl B2
  rw [show szM ((1048576 : Int) - ((totStanding x0 : Nat) : Int)) (totStanding x1) = (((1048576 : Int) - ((totStanding x0 : Nat) : Int)) - ((totStanding x1 : Nat) : Int)) from if_neg s1]
  have t1 : totStanding x1 ≤ 1048576 := by omega
  go_wp2_with fail
  have B3 : Bw w w2.drew := B2.drew
  replace k0_0 : w2.drew.cell? ⟨w.heap.size, 0, none⟩ = some (v0a) := k0_0
  replace k0_1 : w2.drew.cell? ⟨w.heap.size, 1, none⟩ = some (v0b) := k0_1
  replace k0_2 : w2.drew.cell? ⟨w.heap.size, 2, none⟩ = some (v0c) := k0_2
  replace k0_3 : w2.drew.cell? ⟨w.heap.size, 3, none⟩ = some (.int .i64 x0.tests) := k0_3
  replace k1_0 : w2.drew.cell? ⟨w.heap.size + 1, 0, none⟩ = some (v1a) := k1_0
  replace k1_1 : w2.drew.cell? ⟨w.heap.size + 1, 1, none⟩ = some (v1b) := k1_1
  replace k1_2 : w2.drew.cell? ⟨w.heap.size + 1, 2, none⟩ = some (v1c) := k1_2
  replace k1_3 : w2.drew.cell? ⟨w.heap.size + 1, 3, none⟩ = some (.int .i64 x1.tests) := k1_3
  go_region_held3 (fun w' => w'.cell? ⟨w.heap.size, 0, none⟩ = some (v0a) ∧ w'.cell? ⟨w.heap.size, 1, none⟩ = some (v0b) ∧ w'.cell? ⟨w.heap.size, 2, none⟩ = some (v0c) ∧ w'.cell? ⟨w.heap.size, 3, none⟩ = some (.int .i64 x0.tests) ∧ w'.cell? ⟨w.heap.size + 1, 0, none⟩ = some (v1a) ∧ w'.cell? ⟨w.heap.size + 1, 1, none⟩ = some (v1b) ∧ w'.cell? ⟨w.heap.size + 1, 2, none⟩ = some (v1c) ∧ w'.cell? ⟨w.heap.size + 1, 3, none⟩ = some (.int .i64 x1.tests)) (first | go_keep | exact ⟨k0_0, k0_1, k0_2, k0_3, k1_0, k1_1, k1_2, k1_3⟩)
    (first
      | (go_at_call_of 54 v0a; refine (L_toStanding _ x0 _ _ _ (by exact (h0a.bw rItems_good B3)) (by exact (h0b.bw rNodes_good B3)) (by exact (h0c.bw rInts_good B3)) t0).mono ?_; rintro e w3 ⟨_, aF0, rfl, ⟨a0a, a0b, a0c, aF0a, aF0b, aF0c, rfl, ao0a, ao0b, ao0c, rfl⟩, af0, hb3⟩; have B4 : Bw w _ := B3.then hb3; replace k0_0 := hb3.cell k0_0; replace k0_1 := hb3.cell k0_1; replace k0_2 := hb3.cell k0_2; replace k0_3 := hb3.cell k0_3; replace k1_0 := hb3.cell k1_0; replace k1_1 := hb3.cell k1_1; replace k1_2 := hb3.cell k1_2; replace k1_3 := hb3.cell k1_3; have ar0a := fItems_Rd ao0a; have ar0b := fNodes_Rd ao0b; have ar0c := fInts_Rd ao0c)
      | (go_at_call_of 54 v1a; refine (L_toStanding _ x1 _ _ _ (by exact (h1a.bw rItems_good B4)) (by exact (h1b.bw rNodes_good B4)) (by exact (h1c.bw rInts_good B4)) t1).mono ?_; rintro e w4 ⟨_, aF1, rfl, ⟨a1a, a1b, a1c, aF1a, aF1b, aF1c, rfl, ao1a, ao1b, ao1c, rfl⟩, af1, hb4⟩; have B5 : Bw w _ := B4.then hb4; replace k0_0 := hb4.cell k0_0; replace k0_1 := hb4.cell k0_1; replace k0_2 := hb4.cell k0_2; replace k0_3 := hb4.cell k0_3; replace k1_0 := hb4.cell k1_0; replace k1_1 := hb4.cell k1_1; replace k1_2 := hb4.cell k1_2; replace k1_3 := hb4.cell k1_3; replace ar0a := ar0a.bw rItems_good hb4; replace ar0b := ar0b.bw rNodes_good hb4; replace ar0c := ar0c.bw rInts_good hb4; have ar1a := fItems_Rd ao1a; have ar1b := fNodes_Rd ao1b; have ar1c := fInts_Rd ao1c)
      | (go_at_call 53; refine (S_EqualStandings _ x0 x1 _ _ _ _ _ _ (by exact ar0a) (by exact ar0b) (by exact ar0c) (by exact ar1a) (by exact ar1b) (by exact ar1c)).mono ?_; rintro e w5 ⟨rfl, hb5⟩; have B6 : Bw w _ := B5.then hb5; replace k0_0 := hb5.cell k0_0; replace k0_1 := hb5.cell k0_1; replace k0_2 := hb5.cell k0_2; replace k0_3 := hb5.cell k0_3; replace k1_0 := hb5.cell k1_0; replace k1_1 := hb5.cell k1_1; replace k1_2 := hb5.cell k1_2; replace k1_3 := hb5.cell k1_3; replace ar0a := ar0a.bw rItems_good hb5; replace ar0b := ar0b.bw rNodes_good hb5; replace ar0c := ar0c.bw rInts_good hb5; replace ar1a := ar1a.bw rItems_good hb5; replace ar1b := ar1b.bw rNodes_good hb5; replace ar1c := ar1c.bw rInts_good hb5))
  clear ar0a ao0a ar0b ao0b ar0c ao0c ar1a ao1a ar1b ao1b ar1c ao1c af0 af1
  go_wp2_with fail
  refine (L_toStanding _ x0 _ _ _ (by exact (h0a.bw rItems_good B6)) (by exact (h0b.bw rNodes_good B6)) (by exact (h0c.bw rInts_good B6)) t0).mono ?_
  rintro e w6 ⟨_, bF0, rfl, ⟨b0a, b0b, b0c, bF0a, bF0b, bF0c, rfl, bo0a, bo0b, bo0c, rfl⟩, bf0, hb6⟩
  have B7 : Bw w _ := B6.then hb6
  replace k0_0 := hb6.cell k0_0
  replace k0_1 := hb6.cell k0_1
  replace k0_2 := hb6.cell k0_2
  replace k0_3 := hb6.cell k0_3
  replace k1_0 := hb6.cell k1_0
  replace k1_1 := hb6.cell k1_1
  replace k1_2 := hb6.cell k1_2
  replace k1_3 := hb6.cell k1_3
  have br0a := fItems_Rd bo0a
  have br0b := fNodes_Rd bo0b
  have br0c := fInts_Rd bo0c
  obtain ⟨Ab0a, cb0a, rfl, _⟩ := rSl_shape br0a
  obtain ⟨Ab0b, cb0b, rfl, _⟩ := rSl_shape br0b
  obtain ⟨Ab0c, cb0c, rfl, _⟩ := rSl_shape br0c
  have hA6 := (Bw.refl w6).alloc (.cells #[.slice Ab0a x0.items.length cb0a, .slice Ab0b x0.wanted.length cb0b, .slice Ab0c x0.best.length cb0c, .int .i64 x0.tests] 69)
  have B8 : Bw w _ := B7.then hA6
  replace k0_0 := hA6.cell k0_0
  replace k0_1 := hA6.cell k0_1
  replace k0_2 := hA6.cell k0_2
  replace k0_3 := hA6.cell k0_3
  replace k1_0 := hA6.cell k1_0
  replace k1_1 := hA6.cell k1_1
  replace k1_2 := hA6.cell k1_2
  replace k1_3 := hA6.cell k1_3
  replace br0a := br0a.bw rItems_good hA6
  replace br0b := br0b.bw rNodes_good hA6
  replace br0c := br0c.bw rInts_good hA6
  have j0_0 : (w6.alloc (.cells #[.slice Ab0a x0.items.length cb0a, .slice Ab0b x0.wanted.length cb0b, .slice Ab0c x0.best.length cb0c, .int .i64 x0.tests] 69)).cell? ⟨w6.heap.size, 0, none⟩ = some (.slice Ab0a x0.items.length cb0a) := by go_simp
  have j0_1 : (w6.alloc (.cells #[.slice Ab0a x0.items.length cb0a, .slice Ab0b x0.wanted.length cb0b, .slice Ab0c x0.best.length cb0c, .int .i64 x0.tests] 69)).cell? ⟨w6.heap.size, 1, none⟩ = some (.slice Ab0b x0.wanted.length cb0b) := by go_simp
  have j0_2 : (w6.alloc (.cells #[.slice Ab0a x0.items.length cb0a, .slice Ab0b x0.wanted.length cb0b, .slice Ab0c x0.best.length cb0c, .int .i64 x0.tests] 69)).cell? ⟨w6.heap.size, 2, none⟩ = some (.slice Ab0c x0.best.length cb0c) := by go_simp
  have j0_3 : (w6.alloc (.cells #[.slice Ab0a x0.items.length cb0a, .slice Ab0b x0.wanted.length cb0b, .slice Ab0c x0.best.length cb0c, .int .i64 x0.tests] 69)).cell? ⟨w6.heap.size, 3, none⟩ = some (.int .i64 x0.tests) := by go_simp
  go_wp2_with fail
  refine (L_toStanding _ x1 _ _ _ (by exact (h1a.bw rItems_good B8)) (by exact (h1b.bw rNodes_good B8)) (by exact (h1c.bw rInts_good B8)) t1).mono ?_
  rintro e w7 ⟨_, bF1, rfl, ⟨b1a, b1b, b1c, bF1a, bF1b, bF1c, rfl, bo1a, bo1b, bo1c, rfl⟩, bf1, hb7⟩
  have B9 : Bw w _ := B8.then hb7
  replace k0_0 := hb7.cell k0_0
  replace k0_1 := hb7.cell k0_1
  replace k0_2 := hb7.cell k0_2
  replace k0_3 := hb7.cell k0_3
  replace k1_0 := hb7.cell k1_0
  replace k1_1 := hb7.cell k1_1
  replace k1_2 := hb7.cell k1_2
  replace k1_3 := hb7.cell k1_3
  replace j0_0 := hb7.cell j0_0
  replace j0_1 := hb7.cell j0_1
  replace j0_2 := hb7.cell j0_2
  replace j0_3 := hb7.cell j0_3
  replace br0a := br0a.bw rItems_good hb7
  replace br0b := br0b.bw rNodes_good hb7
  replace br0c := br0c.bw rInts_good hb7
  have br1a := fItems_Rd bo1a
  have br1b := fNodes_Rd bo1b
  have br1c := fInts_Rd bo1c
  obtain ⟨Ab1a, cb1a, rfl, _⟩ := rSl_shape br1a
  obtain ⟨Ab1b, cb1b, rfl, _⟩ := rSl_shape br1b
  obtain ⟨Ab1c, cb1c, rfl, _⟩ := rSl_shape br1c
  have hA7 := (Bw.refl w7).alloc (.cells #[.slice Ab1a x1.items.length cb1a, .slice Ab1b x1.wanted.length cb1b, .slice Ab1c x1.best.length cb1c, .int .i64 x1.tests] 69)
  have B10 : Bw w _ := B9.then hA7
  replace k0_0 := hA7.cell k0_0
  replace k0_1 := hA7.cell k0_1
  replace k0_2 := hA7.cell k0_2
  replace k0_3 := hA7.cell k0_3
  replace k1_0 := hA7.cell k1_0
  replace k1_1 := hA7.cell k1_1
  replace k1_2 := hA7.cell k1_2
  replace k1_3 := hA7.cell k1_3
  replace j0_0 := hA7.cell j0_0
  replace j0_1 := hA7.cell j0_1
  replace j0_2 := hA7.cell j0_2
  replace j0_3 := hA7.cell j0_3
  replace br0a := br0a.bw rItems_good hA7
  replace br0b := br0b.bw rNodes_good hA7
  replace br0c := br0c.bw rInts_good hA7
  replace br1a := br1a.bw rItems_good hA7
  replace br1b := br1b.bw rNodes_good hA7
  replace br1c := br1c.bw rInts_good hA7
  have j1_0 : (w7.alloc (.cells #[.slice Ab1a x1.items.length cb1a, .slice Ab1b x1.wanted.length cb1b, .slice Ab1c x1.best.length cb1c, .int .i64 x1.tests] 69)).cell? ⟨w7.heap.size, 0, none⟩ = some (.slice Ab1a x1.items.length cb1a) := by go_simp
  have j1_1 : (w7.alloc (.cells #[.slice Ab1a x1.items.length cb1a, .slice Ab1b x1.wanted.length cb1b, .slice Ab1c x1.best.length cb1c, .int .i64 x1.tests] 69)).cell? ⟨w7.heap.size, 1, none⟩ = some (.slice Ab1b x1.wanted.length cb1b) := by go_simp
  have j1_2 : (w7.alloc (.cells #[.slice Ab1a x1.items.length cb1a, .slice Ab1b x1.wanted.length cb1b, .slice Ab1c x1.best.length cb1c, .int .i64 x1.tests] 69)).cell? ⟨w7.heap.size, 2, none⟩ = some (.slice Ab1c x1.best.length cb1c) := by go_simp
  have j1_3 : (w7.alloc (.cells #[.slice Ab1a x1.items.length cb1a, .slice Ab1b x1.wanted.length cb1b, .slice Ab1c x1.best.length cb1c, .int .i64 x1.tests] 69)).cell? ⟨w7.heap.size, 3, none⟩ = some (.int .i64 x1.tests) := by go_simp
  go_wp2_with fail
  refine (I_EqualStandings _ x0 x1 _ _ _ _ _ _ (by exact br0a) (by exact br0b) (by exact br0c) (by exact br1a) (by exact br1b) (by exact br1c)).mono ?_
  rintro e w8 ⟨rfl, hb8⟩
  have B11 : Bw w _ := B10.then hb8
  replace k0_0 := hb8.cell k0_0
  replace k0_1 := hb8.cell k0_1
  replace k0_2 := hb8.cell k0_2
  replace k0_3 := hb8.cell k0_3
  replace k1_0 := hb8.cell k1_0
  replace k1_1 := hb8.cell k1_1
  replace k1_2 := hb8.cell k1_2
  replace k1_3 := hb8.cell k1_3
  replace j0_0 := hb8.cell j0_0
  replace j0_1 := hb8.cell j0_1
  replace j0_2 := hb8.cell j0_2
  replace j0_3 := hb8.cell j0_3
  replace j1_0 := hb8.cell j1_0
  replace j1_1 := hb8.cell j1_1
  replace j1_2 := hb8.cell j1_2
  replace j1_3 := hb8.cell j1_3
  replace br0a := br0a.bw rItems_good hb8
  replace br0b := br0b.bw rNodes_good hb8
  replace br0c := br0c.bw rInts_good hb8
  replace br1a := br1a.bw rItems_good hb8
  replace br1b := br1b.bw rNodes_good hb8
  replace br1c := br1c.bw rInts_good hb8
  go_wp2_with fail
  have B12 : Bw w w8.drew := B11.drew
  replace k0_0 : w8.drew.cell? ⟨w.heap.size, 0, none⟩ = some (v0a) := k0_0
  replace k0_1 : w8.drew.cell? ⟨w.heap.size, 1, none⟩ = some (v0b) := k0_1
  replace k0_2 : w8.drew.cell? ⟨w.heap.size, 2, none⟩ = some (v0c) := k0_2
  replace k0_3 : w8.drew.cell? ⟨w.heap.size, 3, none⟩ = some (.int .i64 x0.tests) := k0_3
  replace k1_0 : w8.drew.cell? ⟨w.heap.size + 1, 0, none⟩ = some (v1a) := k1_0
  replace k1_1 : w8.drew.cell? ⟨w.heap.size + 1, 1, none⟩ = some (v1b) := k1_1
  replace k1_2 : w8.drew.cell? ⟨w.heap.size + 1, 2, none⟩ = some (v1c) := k1_2
  replace k1_3 : w8.drew.cell? ⟨w.heap.size + 1, 3, none⟩ = some (.int .i64 x1.tests) := k1_3
  replace j0_0 : w8.drew.cell? ⟨w6.heap.size, 0, none⟩ = some (.slice Ab0a x0.items.length cb0a) := j0_0
  replace j0_1 : w8.drew.cell? ⟨w6.heap.size, 1, none⟩ = some (.slice Ab0b x0.wanted.length cb0b) := j0_1
  replace j0_2 : w8.drew.cell? ⟨w6.heap.size, 2, none⟩ = some (.slice Ab0c x0.best.length cb0c) := j0_2
  replace j0_3 : w8.drew.cell? ⟨w6.heap.size, 3, none⟩ = some (.int .i64 x0.tests) := j0_3
  replace j1_0 : w8.drew.cell? ⟨w7.heap.size, 0, none⟩ = some (.slice Ab1a x1.items.length cb1a) := j1_0
  replace j1_1 : w8.drew.cell? ⟨w7.heap.size, 1, none⟩ = some (.slice Ab1b x1.wanted.length cb1b) := j1_1
  replace j1_2 : w8.drew.cell? ⟨w7.heap.size, 2, none⟩ = some (.slice Ab1c x1.best.length cb1c) := j1_2
  replace j1_3 : w8.drew.cell? ⟨w7.heap.size, 3, none⟩ = some (.int .i64 x1.tests) := j1_3
  replace br0a := br0a.bw rItems_good (Bw.refl w8).drew
  replace br0b := br0b.bw rNodes_good (Bw.refl w8).drew
  replace br0c := br0c.bw rInts_good (Bw.refl w8).drew
  replace br1a := br1a.bw rItems_good (Bw.refl w8).drew
  replace br1b := br1b.bw rNodes_good (Bw.refl w8).drew
  replace br1c := br1c.bw rInts_good (Bw.refl w8).drew
  go_region_held3 (fun w' => w'.cell? ⟨w.heap.size, 0, none⟩ = some (v0a) ∧ w'.cell? ⟨w.heap.size, 1, none⟩ = some (v0b) ∧ w'.cell? ⟨w.heap.size, 2, none⟩ = some (v0c) ∧ w'.cell? ⟨w.heap.size, 3, none⟩ = some (.int .i64 x0.tests) ∧ w'.cell? ⟨w.heap.size + 1, 0, none⟩ = some (v1a) ∧ w'.cell? ⟨w.heap.size + 1, 1, none⟩ = some (v1b) ∧ w'.cell? ⟨w.heap.size + 1, 2, none⟩ = some (v1c) ∧ w'.cell? ⟨w.heap.size + 1, 3, none⟩ = some (.int .i64 x1.tests) ∧ w'.cell? ⟨w6.heap.size, 0, none⟩ = some (.slice Ab0a x0.items.length cb0a) ∧ w'.cell? ⟨w6.heap.size, 1, none⟩ = some (.slice Ab0b x0.wanted.length cb0b) ∧ w'.cell? ⟨w6.heap.size, 2, none⟩ = some (.slice Ab0c x0.best.length cb0c) ∧ w'.cell? ⟨w6.heap.size, 3, none⟩ = some (.int .i64 x0.tests) ∧ w'.cell? ⟨w7.heap.size, 0, none⟩ = some (.slice Ab1a x1.items.length cb1a) ∧ w'.cell? ⟨w7.heap.size, 1, none⟩ = some (.slice Ab1b x1.wanted.length cb1b) ∧ w'.cell? ⟨w7.heap.size, 2, none⟩ = some (.slice Ab1c x1.best.length cb1c) ∧ w'.cell? ⟨w7.heap.size, 3, none⟩ = some (.int .i64 x1.tests)) (first | go_keep | exact ⟨k0_0, k0_1, k0_2, k0_3, k1_0, k1_1, k1_2, k1_3, j0_0, j0_1, j0_2, j0_3, j1_0, j1_1, j1_2, j1_3⟩)
    (first
      | (go_at_call 54; refine (L_toStanding _ x0 _ _ _ (by exact (h0a.bw rItems_good B12)) (by exact (h0b.bw rNodes_good B12)) (by exact (h0c.bw rInts_good B12)) t0).mono ?_; rintro e w9 ⟨_, cF0, rfl, ⟨c0a, c0b, c0c, cF0a, cF0b, cF0c, rfl, co0a, co0b, co0c, rfl⟩, cf0, hb9⟩; have B13 : Bw w _ := B12.then hb9; replace k0_0 := hb9.cell k0_0; replace k0_1 := hb9.cell k0_1; replace k0_2 := hb9.cell k0_2; replace k0_3 := hb9.cell k0_3; replace k1_0 := hb9.cell k1_0; replace k1_1 := hb9.cell k1_1; replace k1_2 := hb9.cell k1_2; replace k1_3 := hb9.cell k1_3; replace j0_0 := hb9.cell j0_0; replace j0_1 := hb9.cell j0_1; replace j0_2 := hb9.cell j0_2; replace j0_3 := hb9.cell j0_3; replace j1_0 := hb9.cell j1_0; replace j1_1 := hb9.cell j1_1; replace j1_2 := hb9.cell j1_2; replace j1_3 := hb9.cell j1_3; replace br0a := br0a.bw rItems_good hb9; replace br0b := br0b.bw rNodes_good hb9; replace br0c := br0c.bw rInts_good hb9; replace br1a := br1a.bw rItems_good hb9; replace br1b := br1b.bw rNodes_good hb9; replace br1c := br1c.bw rInts_good hb9; have cr0a := fItems_Rd co0a; have cr0b := fNodes_Rd co0b; have cr0c := fInts_Rd co0c)
      | (go_at_call 56; refine (L_eqStanding _ x0 x0 _ _ _ _ _ _ (by exact br0a) (by exact br0b) (by exact br0c) (by exact cr0a) (by exact cr0b) (by exact cr0c)).mono ?_; rintro e w10 ⟨rfl, hb10⟩; have B14 : Bw w _ := B13.then hb10; replace k0_0 := hb10.cell k0_0; replace k0_1 := hb10.cell k0_1; replace k0_2 := hb10.cell k0_2; replace k0_3 := hb10.cell k0_3; replace k1_0 := hb10.cell k1_0; replace k1_1 := hb10.cell k1_1; replace k1_2 := hb10.cell k1_2; replace k1_3 := hb10.cell k1_3; replace j0_0 := hb10.cell j0_0; replace j0_1 := hb10.cell j0_1; replace j0_2 := hb10.cell j0_2; replace j0_3 := hb10.cell j0_3; replace j1_0 := hb10.cell j1_0; replace j1_1 := hb10.cell j1_1; replace j1_2 := hb10.cell j1_2; replace j1_3 := hb10.cell j1_3; replace br0a := br0a.bw rItems_good hb10; replace br0b := br0b.bw rNodes_good hb10; replace br0c := br0c.bw rInts_good hb10; replace br1a := br1a.bw rItems_good hb10; replace br1b := br1b.bw rNodes_good hb10; replace br1c := br1c.bw rInts_good hb10; replace cr0a := cr0a.bw rItems_good hb10; replace cr0b := cr0b.bw rNodes_good hb10; replace cr0c := cr0c.bw rInts_good hb10))
  go_wp2_with fail
  have B15 : Bw w w10.drew := B14.drew
  replace k0_0 : w10.drew.cell? ⟨w.heap.size, 0, none⟩ = some (v0a) := k0_0
  replace k0_1 : w10.drew.cell? ⟨w.heap.size, 1, none⟩ = some (v0b) := k0_1
  replace k0_2 : w10.drew.cell? ⟨w.heap.size, 2, none⟩ = some (v0c) := k0_2
  replace k0_3 : w10.drew.cell? ⟨w.heap.size, 3, none⟩ = some (.int .i64 x0.tests) := k0_3
  replace k1_0 : w10.drew.cell? ⟨w.heap.size + 1, 0, none⟩ = some (v1a) := k1_0
  replace k1_1 : w10.drew.cell? ⟨w.heap.size + 1, 1, none⟩ = some (v1b) := k1_1
  replace k1_2 : w10.drew.cell? ⟨w.heap.size + 1, 2, none⟩ = some (v1c) := k1_2
  replace k1_3 : w10.drew.cell? ⟨w.heap.size + 1, 3, none⟩ = some (.int .i64 x1.tests) := k1_3
  replace j0_0 : w10.drew.cell? ⟨w6.heap.size, 0, none⟩ = some (.slice Ab0a x0.items.length cb0a) := j0_0
  replace j0_1 : w10.drew.cell? ⟨w6.heap.size, 1, none⟩ = some (.slice Ab0b x0.wanted.length cb0b) := j0_1
  replace j0_2 : w10.drew.cell? ⟨w6.heap.size, 2, none⟩ = some (.slice Ab0c x0.best.length cb0c) := j0_2
  replace j0_3 : w10.drew.cell? ⟨w6.heap.size, 3, none⟩ = some (.int .i64 x0.tests) := j0_3
  replace j1_0 : w10.drew.cell? ⟨w7.heap.size, 0, none⟩ = some (.slice Ab1a x1.items.length cb1a) := j1_0
  replace j1_1 : w10.drew.cell? ⟨w7.heap.size, 1, none⟩ = some (.slice Ab1b x1.wanted.length cb1b) := j1_1
  replace j1_2 : w10.drew.cell? ⟨w7.heap.size, 2, none⟩ = some (.slice Ab1c x1.best.length cb1c) := j1_2
  replace j1_3 : w10.drew.cell? ⟨w7.heap.size, 3, none⟩ = some (.int .i64 x1.tests) := j1_3
  replace br0a := br0a.bw rItems_good (Bw.refl w10).drew
  replace br0b := br0b.bw rNodes_good (Bw.refl w10).drew
  replace br0c := br0c.bw rInts_good (Bw.refl w10).drew
  replace br1a := br1a.bw rItems_good (Bw.refl w10).drew
  replace br1b := br1b.bw rNodes_good (Bw.refl w10).drew
  replace br1c := br1c.bw rInts_good (Bw.refl w10).drew
  go_region_held3 (fun w' => w'.cell? ⟨w.heap.size, 0, none⟩ = some (v0a) ∧ w'.cell? ⟨w.heap.size, 1, none⟩ = some (v0b) ∧ w'.cell? ⟨w.heap.size, 2, none⟩ = some (v0c) ∧ w'.cell? ⟨w.heap.size, 3, none⟩ = some (.int .i64 x0.tests) ∧ w'.cell? ⟨w.heap.size + 1, 0, none⟩ = some (v1a) ∧ w'.cell? ⟨w.heap.size + 1, 1, none⟩ = some (v1b) ∧ w'.cell? ⟨w.heap.size + 1, 2, none⟩ = some (v1c) ∧ w'.cell? ⟨w.heap.size + 1, 3, none⟩ = some (.int .i64 x1.tests) ∧ w'.cell? ⟨w6.heap.size, 0, none⟩ = some (.slice Ab0a x0.items.length cb0a) ∧ w'.cell? ⟨w6.heap.size, 1, none⟩ = some (.slice Ab0b x0.wanted.length cb0b) ∧ w'.cell? ⟨w6.heap.size, 2, none⟩ = some (.slice Ab0c x0.best.length cb0c) ∧ w'.cell? ⟨w6.heap.size, 3, none⟩ = some (.int .i64 x0.tests) ∧ w'.cell? ⟨w7.heap.size, 0, none⟩ = some (.slice Ab1a x1.items.length cb1a) ∧ w'.cell? ⟨w7.heap.size, 1, none⟩ = some (.slice Ab1b x1.wanted.length cb1b) ∧ w'.cell? ⟨w7.heap.size, 2, none⟩ = some (.slice Ab1c x1.best.length cb1c) ∧ w'.cell? ⟨w7.heap.size, 3, none⟩ = some (.int .i64 x1.tests)) (first | go_keep | exact ⟨k0_0, k0_1, k0_2, k0_3, k1_0, k1_1, k1_2, k1_3, j0_0, j0_1, j0_2, j0_3, j1_0, j1_1, j1_2, j1_3⟩)
    (first
      | (go_at_call 54; refine (L_toStanding _ x1 _ _ _ (by exact (h1a.bw rItems_good B15)) (by exact (h1b.bw rNodes_good B15)) (by exact (h1c.bw rInts_good B15)) t1).mono ?_; rintro e w11 ⟨_, cF1, rfl, ⟨c1a, c1b, c1c, cF1a, cF1b, cF1c, rfl, co1a, co1b, co1c, rfl⟩, cf1, hb11⟩; have B16 : Bw w _ := B15.then hb11; replace k0_0 := hb11.cell k0_0; replace k0_1 := hb11.cell k0_1; replace k0_2 := hb11.cell k0_2; replace k0_3 := hb11.cell k0_3; replace k1_0 := hb11.cell k1_0; replace k1_1 := hb11.cell k1_1; replace k1_2 := hb11.cell k1_2; replace k1_3 := hb11.cell k1_3; replace j0_0 := hb11.cell j0_0; replace j0_1 := hb11.cell j0_1; replace j0_2 := hb11.cell j0_2; replace j0_3 := hb11.cell j0_3; replace j1_0 := hb11.cell j1_0; replace j1_1 := hb11.cell j1_1; replace j1_2 := hb11.cell j1_2; replace j1_3 := hb11.cell j1_3; replace br0a := br0a.bw rItems_good hb11; replace br0b := br0b.bw rNodes_good hb11; replace br0c := br0c.bw rInts_good hb11; replace br1a := br1a.bw rItems_good hb11; replace br1b := br1b.bw rNodes_good hb11; replace br1c := br1c.bw rInts_good hb11; have cr1a := fItems_Rd co1a; have cr1b := fNodes_Rd co1b; have cr1c := fInts_Rd co1c)
      | (go_at_call 56; refine (L_eqStanding _ x1 x1 _ _ _ _ _ _ (by exact br1a) (by exact br1b) (by exact br1c) (by exact cr1a) (by exact cr1b) (by exact cr1c)).mono ?_; rintro e w12 ⟨rfl, hb12⟩; have B17 : Bw w _ := B16.then hb12; replace k0_0 := hb12.cell k0_0; replace k0_1 := hb12.cell k0_1; replace k0_2 := hb12.cell k0_2; replace k0_3 := hb12.cell k0_3; replace k1_0 := hb12.cell k1_0; replace k1_1 := hb12.cell k1_1; replace k1_2 := hb12.cell k1_2; replace k1_3 := hb12.cell k1_3; replace j0_0 := hb12.cell j0_0; replace j0_1 := hb12.cell j0_1; replace j0_2 := hb12.cell j0_2; replace j0_3 := hb12.cell j0_3; replace j1_0 := hb12.cell j1_0; replace j1_1 := hb12.cell j1_1; replace j1_2 := hb12.cell j1_2; replace j1_3 := hb12.cell j1_3; replace br0a := br0a.bw rItems_good hb12; replace br0b := br0b.bw rNodes_good hb12; replace br0c := br0c.bw rInts_good hb12; replace br1a := br1a.bw rItems_good hb12; replace br1b := br1b.bw rNodes_good hb12; replace br1c := br1c.bw rInts_good hb12; replace cr1a := cr1a.bw rItems_good hb12; replace cr1b := cr1b.bw rNodes_good hb12; replace cr1c := cr1c.bw rInts_good hb12))
  go_wp2
  go_ret
  exact Ret.bool rfl B17
set_option maxRecDepth 100000 in
theorem lifted_FnExactEqualStandings (os : Os) (started : os.Started) (H : Type) (enc : TypeId × Value → H) :
    ReturnsInHanded {} Try.checked os 12 .any (Rows.fnExactEqualStandingsSpec.pre6 enc Try.prog Try.f12 Rows.fnExactEqualStandingsRow.domain false) (Rows.fnExactEqualStandingsSpec.post enc Try.prog Try.f12 false true false false) := by
  refine returnsInHanded_of_change (C := Try.checked) own_knob started (by kernel_rfl) Try.func12
    (ChangeSpec.witness6 (enc := enc) (C := Try.checked) false ⟨#[], #[.agg #[.slice none 0 0, .slice none 0 0, .slice none 0 0, .int .i64 0], .agg #[.slice none 0 0, .slice none 0 0, .slice none 0 0, .int .i64 0]], []⟩ 8 (by kernel_rfl) (by kernel_rfl) (by kernel_rfl) (by kernel_rfl)) ?_
  intro W base args ds gs before hval0 hW hcnd _
  have hval : ∀ (j : Nat) t v, Try.f12.params[j]? = some t → args[j]? = some v → Value.okWide Try.prog W .any base t v := hval0
  have hW' := hW
  obtain ⟨p, q, hA0, hV, rfl, hfz, hnd⟩ := hW
  have hA : DataW.TrodAll enc Try.prog W 0 (fun _ => true) true Try.f12.params.toList args.toList ds p := hA0
  rw [Try.params12] at hA hval
  obtain ⟨v0, vs0, d0, ds0, p0, q0, hargs, rfl, rfl, h0, r0⟩ := trodAll_cons hA
  obtain ⟨v1, vs1, d1, ds1, p1, q1, rfl, rfl, rfl, h1, r1⟩ := trodAll_cons r0
  obtain ⟨rfl, rfl, rfl⟩ := trodAll_nil r1
  obtain rfl : args = #[v0, v1] := by cases args; simp_all
  obtain ⟨rfl, rfl⟩ := trodVars_none hV
  have k0 := h0
  have lt0 : ∀ x ∈ p0, x.block < W.heap.size := by obtain ⟨m, hm⟩ := k0; exact DataW.trod_lt m _ _ _ hm
  obtain ⟨cs0, rfl, hsz0⟩ := okWide_struct Try.underlying64 (hval 0 64 v0 rfl rfl)
  obtain ⟨x0, R0, Q0⟩ : ∃ xs, Rd rStanding W xs cs0.toList ∧ wfStanding xs := by obtain ⟨m, hm⟩ := h0; exact t_standing hm
  obtain ⟨ua0, ub0, uc0, e0, Ra0, Rb0, Rc0⟩ := R0
  obtain rfl : cs0 = #[ua0, ub0, uc0, .int .i64 x0.tests] := Array.toList_inj.1 e0
  have k1 := h1
  have lt1 : ∀ x ∈ p1, x.block < W.heap.size := by obtain ⟨m, hm⟩ := k1; exact DataW.trod_lt m _ _ _ hm
  obtain ⟨cs1, rfl, hsz1⟩ := okWide_struct Try.underlying64 (hval 1 64 v1 rfl rfl)
  obtain ⟨x1, R1, Q1⟩ : ∃ xs, Rd rStanding W xs cs1.toList ∧ wfStanding xs := by obtain ⟨m, hm⟩ := h1; exact t_standing hm
  obtain ⟨ua1, ub1, uc1, e1, Ra1, Rb1, Rc1⟩ := R1
  obtain rfl : cs1 = #[ua1, ub1, uc1, .int .i64 x1.tests] := Array.toList_inj.1 e1
  clear hA0 hval0
  refine (walk_FnExactEqualStandings W x0 _ _ _ Ra0 Rb0 Rc0 Q0 x1 _ _ _ Ra1 Rb1 Rc1 Q1).mono fun e W' ⟨he, bel⟩ => ?_
  subst he
  exact ⟨_, rfl, _, _, _, [], _, [], hW', trodAll_mk1 (shut_bool Try.underlying4 _), (trodAll_cons_mk (Below.trod laid_out (by kernel_rfl) (of_decide_eq_true (by kernel_rfl)) k0 bel lt0) (trodAll_cons_mk (Below.trod laid_out (by kernel_rfl) (of_decide_eq_true (by kernel_rfl)) k1 bel lt1) trodAll_mk0)), rfl, Below.frame bel _, fun h => by cases h⟩
/-- the statement -/
theorem FnExactEqualStandings_holds : Rows.FnExactEqualStandingsSaid :=
  OpenClaim.holds_of_wide 12 Try.f12 rfl rfl rfl rfl rfl rfl rfl ⟨rfl, rfl, rfl, rfl, rfl⟩ rfl rfl rfl rfl rfl (by kernel_rfl) Try.func12 (by kernel_rfl)
    (of_decide_eq_true (by kernel_rfl)) (by unfold Func.isWrapper; first | (rw [if_pos (by decide +kernel)]; kernel_rfl) | (rw [if_neg (by decide +kernel)]; exact ⟨rfl, rfl⟩))
    (fun os started H enc _ => lifted_FnExactEqualStandings os started H enc)
end Go.Proofs.Ytjhieohbobfjjaa
