/- For every input, FnExactCompareLine returns true and leaves its arguments as they were. No condition. -/
import Derived.Test.YtdfmgpmfalnffaaRows
import Derived.Test.YtdfmgpmfalnffaaLines2
import Derived.Test.YtdfmgpmfalnffaaWishes3
import Derived.Test.YtdfmgpmfalnffaaOpen
namespace Go.Proofs.Ytdfmgpmfalnffaa
open Go.RowKit Go.ChangeShapes Go.WideShapes Go.ChangeAt
set_option linter.unusedVariables false
set_option maxRecDepth 100000 in
set_option maxHeartbeats 4000000 in
theorem walk_FnExactCompareLine (w : World) (x0 : List GNode) (v0 : Value) (h0 : Rd rNodes w x0 [v0]) (q0 : ∀ x ∈ x0, wfNode x) (x1 : GItem) (v1 : Value) (h1 : Rd rInts w x1.vals [v1]) (q1 : wfItem x1) (x2 : GItem) (v2 : Value) (h2 : Rd rInts w x2.vals [v2]) (q2 : wfItem x2) :
    Calls Try.prog 4 #[v0, .agg #[.int .i64 x1.id, v1], .agg #[.int .i64 x2.id, v2]] w (Ret w (.bool true)) := by
  go_enter Try.func4, Try.ntmps4
  have B0 : Bw w ((w.alloc (.cells #[.int .i64 x1.id, v1] 35)).alloc (.cells #[.int .i64 x2.id, v2] 35)) := (((Bw.refl w).alloc _).alloc _)
  have k1_0 : ((w.alloc (.cells #[.int .i64 x1.id, v1] 35)).alloc (.cells #[.int .i64 x2.id, v2] 35)).cell? ⟨w.heap.size, 0, none⟩ = some (.int .i64 x1.id) := by go_simp
  have k1_1 : ((w.alloc (.cells #[.int .i64 x1.id, v1] 35)).alloc (.cells #[.int .i64 x2.id, v2] 35)).cell? ⟨w.heap.size, 1, none⟩ = some (v1) := by go_simp
  have k2_0 : ((w.alloc (.cells #[.int .i64 x1.id, v1] 35)).alloc (.cells #[.int .i64 x2.id, v2] 35)).cell? ⟨w.heap.size + 1, 0, none⟩ = some (.int .i64 x2.id) := by go_simp
  have k2_1 : ((w.alloc (.cells #[.int .i64 x1.id, v1] 35)).alloc (.cells #[.int .i64 x2.id, v2] 35)).cell? ⟨w.heap.size + 1, 1, none⟩ = some (v2) := by go_simp
  go_wp2_with fail
  refine (L_szNodeS _ x0 _ (h0.bw rNodes_good B0) (1048576 : Int) (by omega) (by omega)).mono ?_
  rintro e w1 ⟨rfl, hb1⟩
  have B1 : Bw w _ := B0.then hb1
  replace k1_0 := hb1.cell k1_0
  replace k1_1 := hb1.cell k1_1
  replace k2_0 := hb1.cell k2_0
  replace k2_1 := hb1.cell k2_1
  by_cases s0 : (1048576 : Int) < ((totNodes x0 : Nat) : Int)
  · rw [show szM (1048576 : Int) (totNodes x0) = -1 from if_pos s0]
    go_wp2
    go_ret
    exact Ret.bool rfl B1
  rw [show szM (1048576 : Int) (totNodes x0) = ((1048576 : Int) - ((totNodes x0 : Nat) : Int)) from if_neg s0]
  have t0 : totNodes x0 ≤ 1048576 := by omega
  go_wp2_with fail
  refine (L_szItem _ x1 _ (h1.bw rInts_good B1) ((1048576 : Int) - ((totNodes x0 : Nat) : Int)) (by omega) (by omega)).mono ?_
  rintro e w2 ⟨rfl, hb2⟩
  have B2 : Bw w _ := B1.then hb2
  replace k1_0 := hb2.cell k1_0
  replace k1_1 := hb2.cell k1_1
  replace k2_0 := hb2.cell k2_0
  replace k2_1 := hb2.cell k2_1
  by_cases s1 : ((1048576 : Int) - ((totNodes x0 : Nat) : Int)) < ((x1.vals.length : Nat) : Int)
  · rw [show szM ((1048576 : Int) - ((totNodes x0 : Nat) : Int)) (x1.vals.length) = -1 from if_pos s1]
    go_wp2
    go_ret
    exact Ret.bool rfl B2
  rw [show szM ((1048576 : Int) - ((totNodes x0 : Nat) : Int)) (x1.vals.length) = (((1048576 : Int) - ((totNodes x0 : Nat) : Int)) - ((x1.vals.length : Nat) : Int)) from if_neg s1]
  have t1 : x1.vals.length ≤ 1048576 := by omega
  go_wp2_with fail
  refine (L_szItem _ x2 _ (h2.bw rInts_good B2) (((1048576 : Int) - ((totNodes x0 : Nat) : Int)) - ((x1.vals.length : Nat) : Int)) (by omega) (by omega)).mono ?_
  rintro e w3 ⟨rfl, hb3⟩
  have B3 : Bw w _ := B2.then hb3
  replace k1_0 := hb3.cell k1_0
  replace k1_1 := hb3.cell k1_1
  replace k2_0 := hb3.cell k2_0
  replace k2_1 := hb3.cell k2_1
  by_cases s2 : (((1048576 : Int) - ((totNodes x0 : Nat) : Int)) - ((x1.vals.length : Nat) : Int)) < ((x2.vals.length : Nat) : Int)
  · rw [show szM (((1048576 : Int) - ((totNodes x0 : Nat) : Int)) - ((x1.vals.length : Nat) : Int)) (x2.vals.length) = -1 from if_pos s2]
    go_wp2
    go_ret
    exact Ret.bool rfl B3
  rw [show szM (((1048576 : Int) - ((totNodes x0 : Nat) : Int)) - ((x1.vals.length : Nat) : Int)) (x2.vals.length) = ((((1048576 : Int) - ((totNodes x0 : Nat) : Int)) - ((x1.vals.length : Nat) : Int)) - ((x2.vals.length : Nat) : Int)) from if_neg s2]
  have t2 : x2.vals.length ≤ 1048576 := by omega
  go_wp2_with fail
  have B4 : Bw w w3.drew := B3.drew
  replace k1_0 : w3.drew.cell? ⟨w.heap.size, 0, none⟩ = some (.int .i64 x1.id) := k1_0
  replace k1_1 : w3.drew.cell? ⟨w.heap.size, 1, none⟩ = some (v1) := k1_1
  replace k2_0 : w3.drew.cell? ⟨w.heap.size + 1, 0, none⟩ = some (.int .i64 x2.id) := k2_0
  replace k2_1 : w3.drew.cell? ⟨w.heap.size + 1, 1, none⟩ = some (v2) := k2_1
  go_region_held3 (fun w' => w'.cell? ⟨w.heap.size, 0, none⟩ = some (.int .i64 x1.id) ∧ w'.cell? ⟨w.heap.size, 1, none⟩ = some (v1) ∧ w'.cell? ⟨w.heap.size + 1, 0, none⟩ = some (.int .i64 x2.id) ∧ w'.cell? ⟨w.heap.size + 1, 1, none⟩ = some (v2)) (first | go_keep | exact ⟨k1_0, k1_1, k2_0, k2_1⟩)
    (first
      | (go_at_call_of 23 v0; refine (L_toNodeS _ x0 _ (by exact (h0.bw rNodes_good B4)) t0).mono ?_; rintro e w4 ⟨a0, rfl, ⟨aF0, ao0, af0⟩, hb4⟩; have B5 : Bw w _ := B4.then hb4; replace k1_0 := hb4.cell k1_0; replace k1_1 := hb4.cell k1_1; replace k2_0 := hb4.cell k2_0; replace k2_1 := hb4.cell k2_1; have ar0 := fNodes_Rd ao0)
      | (go_at_call_of 24 v1; refine (L_toItem _ x1 _ (by exact (h1.bw rInts_good B5)) t1).mono ?_; rintro e w5 ⟨a1, rfl, ⟨aF1, ao1, af1⟩, hb5⟩; have B6 : Bw w _ := B5.then hb5; replace k1_0 := hb5.cell k1_0; replace k1_1 := hb5.cell k1_1; replace k2_0 := hb5.cell k2_0; replace k2_1 := hb5.cell k2_1; replace ar0 := ar0.bw rNodes_good hb5; have ar1 := fInts_Rd ao1)
      | (go_at_call_of 24 v2; refine (L_toItem _ x2 _ (by exact (h2.bw rInts_good B6)) t2).mono ?_; rintro e w6 ⟨a2, rfl, ⟨aF2, ao2, af2⟩, hb6⟩; have B7 : Bw w _ := B6.then hb6; replace k1_0 := hb6.cell k1_0; replace k1_1 := hb6.cell k1_1; replace k2_0 := hb6.cell k2_0; replace k2_1 := hb6.cell k2_1; replace ar0 := ar0.bw rNodes_good hb6; replace ar1 := ar1.bw rInts_good hb6; have ar2 := fInts_Rd ao2)
      | (go_at_call 22; refine (S_CompareLine _ x0 x1 x2 _ _ _ (by exact ar0) (by exact ar1) (by exact ar2)).mono ?_; rintro e w7 ⟨rfl, hb7⟩; have B8 : Bw w _ := B7.then hb7; replace k1_0 := hb7.cell k1_0; replace k1_1 := hb7.cell k1_1; replace k2_0 := hb7.cell k2_0; replace k2_1 := hb7.cell k2_1; replace ar0 := ar0.bw rNodes_good hb7; replace ar1 := ar1.bw rInts_good hb7; replace ar2 := ar2.bw rInts_good hb7))
  clear ar0 ao0 af0 ar1 ao1 af1 ar2 ao2 af2
  go_wp2_with fail
  refine (L_toNodeS _ x0 _ (by exact (h0.bw rNodes_good B8)) t0).mono ?_
  rintro e w8 ⟨b0, rfl, ⟨bF0, bo0, bf0⟩, hb8⟩
  have B9 : Bw w _ := B8.then hb8
  replace k1_0 := hb8.cell k1_0
  replace k1_1 := hb8.cell k1_1
  replace k2_0 := hb8.cell k2_0
  replace k2_1 := hb8.cell k2_1
  have br0 := fNodes_Rd bo0
  go_wp2_with fail
  refine (L_toItem _ x1 _ (by exact (h1.bw rInts_good B9)) t1).mono ?_
  rintro e w9 ⟨b1, rfl, ⟨bF1, bo1, bf1⟩, hb9⟩
  have B10 : Bw w _ := B9.then hb9
  replace k1_0 := hb9.cell k1_0
  replace k1_1 := hb9.cell k1_1
  replace k2_0 := hb9.cell k2_0
  replace k2_1 := hb9.cell k2_1
  replace br0 := br0.bw rNodes_good hb9
  have br1 := fInts_Rd bo1
  obtain ⟨Ab1, cb1, rfl, _⟩ := rSl_shape br1
  have hA9 := (Bw.refl w9).alloc (.cells #[.int .i64 x1.id, .slice Ab1 x1.vals.length cb1] 40)
  have B11 : Bw w _ := B10.then hA9
  replace k1_0 := hA9.cell k1_0
  replace k1_1 := hA9.cell k1_1
  replace k2_0 := hA9.cell k2_0
  replace k2_1 := hA9.cell k2_1
  replace br0 := br0.bw rNodes_good hA9
  replace br1 := br1.bw rInts_good hA9
  have j1_0 : (w9.alloc (.cells #[.int .i64 x1.id, .slice Ab1 x1.vals.length cb1] 40)).cell? ⟨w9.heap.size, 0, none⟩ = some (.int .i64 x1.id) := by go_simp
  have j1_1 : (w9.alloc (.cells #[.int .i64 x1.id, .slice Ab1 x1.vals.length cb1] 40)).cell? ⟨w9.heap.size, 1, none⟩ = some (.slice Ab1 x1.vals.length cb1) := by go_simp
  go_wp2_with fail
  refine (L_toItem _ x2 _ (by exact (h2.bw rInts_good B11)) t2).mono ?_
  rintro e w10 ⟨b2, rfl, ⟨bF2, bo2, bf2⟩, hb10⟩
  have B12 : Bw w _ := B11.then hb10
  replace k1_0 := hb10.cell k1_0
  replace k1_1 := hb10.cell k1_1
  replace k2_0 := hb10.cell k2_0
  replace k2_1 := hb10.cell k2_1
  replace j1_0 := hb10.cell j1_0
  replace j1_1 := hb10.cell j1_1
  replace br0 := br0.bw rNodes_good hb10
  replace br1 := br1.bw rInts_good hb10
  have br2 := fInts_Rd bo2
  obtain ⟨Ab2, cb2, rfl, _⟩ := rSl_shape br2
  have hA10 := (Bw.refl w10).alloc (.cells #[.int .i64 x2.id, .slice Ab2 x2.vals.length cb2] 40)
  have B13 : Bw w _ := B12.then hA10
  replace k1_0 := hA10.cell k1_0
  replace k1_1 := hA10.cell k1_1
  replace k2_0 := hA10.cell k2_0
  replace k2_1 := hA10.cell k2_1
  replace j1_0 := hA10.cell j1_0
  replace j1_1 := hA10.cell j1_1
  replace br0 := br0.bw rNodes_good hA10
  replace br1 := br1.bw rInts_good hA10
  replace br2 := br2.bw rInts_good hA10
  have j2_0 : (w10.alloc (.cells #[.int .i64 x2.id, .slice Ab2 x2.vals.length cb2] 40)).cell? ⟨w10.heap.size, 0, none⟩ = some (.int .i64 x2.id) := by go_simp
  have j2_1 : (w10.alloc (.cells #[.int .i64 x2.id, .slice Ab2 x2.vals.length cb2] 40)).cell? ⟨w10.heap.size, 1, none⟩ = some (.slice Ab2 x2.vals.length cb2) := by go_simp
  go_wp2_with fail
  refine (I_CompareLine _ x0 x1 x2 _ _ _ (by exact br0) (by exact br1) (by exact br2)).mono ?_
  rintro e w11 ⟨rfl, hb11⟩
  have B14 : Bw w _ := B13.then hb11
  replace k1_0 := hb11.cell k1_0
  replace k1_1 := hb11.cell k1_1
  replace k2_0 := hb11.cell k2_0
  replace k2_1 := hb11.cell k2_1
  replace j1_0 := hb11.cell j1_0
  replace j1_1 := hb11.cell j1_1
  replace j2_0 := hb11.cell j2_0
  replace j2_1 := hb11.cell j2_1
  replace br0 := br0.bw rNodes_good hb11
  replace br1 := br1.bw rInts_good hb11
  replace br2 := br2.bw rInts_good hb11
  go_wp2_with fail
  refine (L_toNodeS _ x0 _ (by exact (h0.bw rNodes_good B14)) t0).mono ?_
  rintro e w12 ⟨c0, rfl, ⟨cF0, co0, cf0⟩, hb12⟩
  have B15 : Bw w _ := B14.then hb12
  replace k1_0 := hb12.cell k1_0
  replace k1_1 := hb12.cell k1_1
  replace k2_0 := hb12.cell k2_0
  replace k2_1 := hb12.cell k2_1
  replace j1_0 := hb12.cell j1_0
  replace j1_1 := hb12.cell j1_1
  replace j2_0 := hb12.cell j2_0
  replace j2_1 := hb12.cell j2_1
  replace br0 := br0.bw rNodes_good hb12
  replace br1 := br1.bw rInts_good hb12
  replace br2 := br2.bw rInts_good hb12
  have cr0 := fNodes_Rd co0
  go_wp2_with fail
  refine (L_eqNodeS _ x0 x0 _ _ (by exact br0) (by exact cr0)).mono ?_
  rintro e w13 ⟨rfl, hb13⟩
  have B16 : Bw w _ := B15.then hb13
  replace k1_0 := hb13.cell k1_0
  replace k1_1 := hb13.cell k1_1
  replace k2_0 := hb13.cell k2_0
  replace k2_1 := hb13.cell k2_1
  replace j1_0 := hb13.cell j1_0
  replace j1_1 := hb13.cell j1_1
  replace j2_0 := hb13.cell j2_0
  replace j2_1 := hb13.cell j2_1
  replace br0 := br0.bw rNodes_good hb13
  replace br1 := br1.bw rInts_good hb13
  replace br2 := br2.bw rInts_good hb13
  replace cr0 := cr0.bw rNodes_good hb13
  rw [show decide (x0 = x0) = true from by simp]
  go_wp2_with fail
  have B17 : Bw w w13.drew := B16.drew
  replace k1_0 : w13.drew.cell? ⟨w.heap.size, 0, none⟩ = some (.int .i64 x1.id) := k1_0
  replace k1_1 : w13.drew.cell? ⟨w.heap.size, 1, none⟩ = some (v1) := k1_1
  replace k2_0 : w13.drew.cell? ⟨w.heap.size + 1, 0, none⟩ = some (.int .i64 x2.id) := k2_0
  replace k2_1 : w13.drew.cell? ⟨w.heap.size + 1, 1, none⟩ = some (v2) := k2_1
  replace j1_0 : w13.drew.cell? ⟨w9.heap.size, 0, none⟩ = some (.int .i64 x1.id) := j1_0
  replace j1_1 : w13.drew.cell? ⟨w9.heap.size, 1, none⟩ = some (.slice Ab1 x1.vals.length cb1) := j1_1
  replace j2_0 : w13.drew.cell? ⟨w10.heap.size, 0, none⟩ = some (.int .i64 x2.id) := j2_0
  replace j2_1 : w13.drew.cell? ⟨w10.heap.size, 1, none⟩ = some (.slice Ab2 x2.vals.length cb2) := j2_1
  replace br0 := br0.bw rNodes_good (Bw.refl w13).drew
  replace br1 := br1.bw rInts_good (Bw.refl w13).drew
  replace br2 := br2.bw rInts_good (Bw.refl w13).drew
  go_region_held3 (fun w' => w'.cell? ⟨w.heap.size, 0, none⟩ = some (.int .i64 x1.id) ∧ w'.cell? ⟨w.heap.size, 1, none⟩ = some (v1) ∧ w'.cell? ⟨w.heap.size + 1, 0, none⟩ = some (.int .i64 x2.id) ∧ w'.cell? ⟨w.heap.size + 1, 1, none⟩ = some (v2) ∧ w'.cell? ⟨w9.heap.size, 0, none⟩ = some (.int .i64 x1.id) ∧ w'.cell? ⟨w9.heap.size, 1, none⟩ = some (.slice Ab1 x1.vals.length cb1) ∧ w'.cell? ⟨w10.heap.size, 0, none⟩ = some (.int .i64 x2.id) ∧ w'.cell? ⟨w10.heap.size, 1, none⟩ = some (.slice Ab2 x2.vals.length cb2)) (first | go_keep | exact ⟨k1_0, k1_1, k2_0, k2_1, j1_0, j1_1, j2_0, j2_1⟩)
    (first
      | (go_at_call 24; refine (L_toItem _ x1 _ (by exact (h1.bw rInts_good B17)) t1).mono ?_; rintro e w14 ⟨c1, rfl, ⟨cF1, co1, cf1⟩, hb14⟩; have B18 : Bw w _ := B17.then hb14; replace k1_0 := hb14.cell k1_0; replace k1_1 := hb14.cell k1_1; replace k2_0 := hb14.cell k2_0; replace k2_1 := hb14.cell k2_1; replace j1_0 := hb14.cell j1_0; replace j1_1 := hb14.cell j1_1; replace j2_0 := hb14.cell j2_0; replace j2_1 := hb14.cell j2_1; replace br0 := br0.bw rNodes_good hb14; replace br1 := br1.bw rInts_good hb14; replace br2 := br2.bw rInts_good hb14; have cr1 := fInts_Rd co1)
      | (go_at_call 27; refine (L_eqItem _ x1 x1 _ _ (by exact br1) (by exact cr1)).mono ?_; rintro e w15 ⟨rfl, hb15⟩; have B19 : Bw w _ := B18.then hb15; replace k1_0 := hb15.cell k1_0; replace k1_1 := hb15.cell k1_1; replace k2_0 := hb15.cell k2_0; replace k2_1 := hb15.cell k2_1; replace j1_0 := hb15.cell j1_0; replace j1_1 := hb15.cell j1_1; replace j2_0 := hb15.cell j2_0; replace j2_1 := hb15.cell j2_1; replace br0 := br0.bw rNodes_good hb15; replace br1 := br1.bw rInts_good hb15; replace br2 := br2.bw rInts_good hb15; replace cr1 := cr1.bw rInts_good hb15))
  go_wp2_with fail
  have B20 : Bw w w15.drew := B19.drew
  replace k1_0 : w15.drew.cell? ⟨w.heap.size, 0, none⟩ = some (.int .i64 x1.id) := k1_0
  replace k1_1 : w15.drew.cell? ⟨w.heap.size, 1, none⟩ = some (v1) := k1_1
  replace k2_0 : w15.drew.cell? ⟨w.heap.size + 1, 0, none⟩ = some (.int .i64 x2.id) := k2_0
  replace k2_1 : w15.drew.cell? ⟨w.heap.size + 1, 1, none⟩ = some (v2) := k2_1
  replace j1_0 : w15.drew.cell? ⟨w9.heap.size, 0, none⟩ = some (.int .i64 x1.id) := j1_0
  replace j1_1 : w15.drew.cell? ⟨w9.heap.size, 1, none⟩ = some (.slice Ab1 x1.vals.length cb1) := j1_1
  replace j2_0 : w15.drew.cell? ⟨w10.heap.size, 0, none⟩ = some (.int .i64 x2.id) := j2_0
  replace j2_1 : w15.drew.cell? ⟨w10.heap.size, 1, none⟩ = some (.slice Ab2 x2.vals.length cb2) := j2_1
  replace br0 := br0.bw rNodes_good (Bw.refl w15).drew
  replace br1 := br1.bw rInts_good (Bw.refl w15).drew
  replace br2 := br2.bw rInts_good (Bw.refl w15).drew
  go_region_held3 (fun w' => w'.cell? ⟨w.heap.size, 0, none⟩ = some (.int .i64 x1.id) ∧ w'.cell? ⟨w.heap.size, 1, none⟩ = some (v1) ∧ w'.cell? ⟨w.heap.size + 1, 0, none⟩ = some (.int .i64 x2.id) ∧ w'.cell? ⟨w.heap.size + 1, 1, none⟩ = some (v2) ∧ w'.cell? ⟨w9.heap.size, 0, none⟩ = some (.int .i64 x1.id) ∧ w'.cell? ⟨w9.heap.size, 1, none⟩ = some (.slice Ab1 x1.vals.length cb1) ∧ w'.cell? ⟨w10.heap.size, 0, none⟩ = some (.int .i64 x2.id) ∧ w'.cell? ⟨w10.heap.size, 1, none⟩ = some (.slice Ab2 x2.vals.length cb2)) (first | go_keep | exact ⟨k1_0, k1_1, k2_0, k2_1, j1_0, j1_1, j2_0, j2_1⟩)
    (first
      | (go_at_call 24; refine (L_toItem _ x2 _ (by exact (h2.bw rInts_good B20)) t2).mono ?_; rintro e w16 ⟨c2, rfl, ⟨cF2, co2, cf2⟩, hb16⟩; have B21 : Bw w _ := B20.then hb16; replace k1_0 := hb16.cell k1_0; replace k1_1 := hb16.cell k1_1; replace k2_0 := hb16.cell k2_0; replace k2_1 := hb16.cell k2_1; replace j1_0 := hb16.cell j1_0; replace j1_1 := hb16.cell j1_1; replace j2_0 := hb16.cell j2_0; replace j2_1 := hb16.cell j2_1; replace br0 := br0.bw rNodes_good hb16; replace br1 := br1.bw rInts_good hb16; replace br2 := br2.bw rInts_good hb16; have cr2 := fInts_Rd co2)
      | (go_at_call 27; refine (L_eqItem _ x2 x2 _ _ (by exact br2) (by exact cr2)).mono ?_; rintro e w17 ⟨rfl, hb17⟩; have B22 : Bw w _ := B21.then hb17; replace k1_0 := hb17.cell k1_0; replace k1_1 := hb17.cell k1_1; replace k2_0 := hb17.cell k2_0; replace k2_1 := hb17.cell k2_1; replace j1_0 := hb17.cell j1_0; replace j1_1 := hb17.cell j1_1; replace j2_0 := hb17.cell j2_0; replace j2_1 := hb17.cell j2_1; replace br0 := br0.bw rNodes_good hb17; replace br1 := br1.bw rInts_good hb17; replace br2 := br2.bw rInts_good hb17; replace cr2 := cr2.bw rInts_good hb17))
  go_wp2
  go_ret
  exact Ret.bool rfl B22
set_option maxRecDepth 100000 in
theorem lifted_FnExactCompareLine (os : Os) (started : os.Started) (H : Type) (enc : TypeId × Value → H) :
    ReturnsInHanded {} Try.checked os 4 .any (Rows.fnExactCompareLineSpec.pre6 enc Try.prog Try.f4 Rows.fnExactCompareLineRow.domain false) (Rows.fnExactCompareLineSpec.post enc Try.prog Try.f4 false true false false) := by
  refine returnsInHanded_of_change (C := Try.checked) own_knob started (by kernel_rfl) Try.func4
    (ChangeSpec.witness6 (enc := enc) (C := Try.checked) false ⟨#[], #[.slice none 0 0, .agg #[.int .i64 0, .slice none 0 0], .agg #[.int .i64 0, .slice none 0 0]], []⟩ 8 (by kernel_rfl) (by kernel_rfl) (by kernel_rfl) (by kernel_rfl)) ?_
  intro W base args ds gs before hval0 hW hcnd _
  have hval : ∀ (j : Nat) t v, Try.f4.params[j]? = some t → args[j]? = some v → Value.okWide Try.prog W .any base t v := hval0
  have hW' := hW
  obtain ⟨p, q, hA0, hV, rfl, hfz, hnd⟩ := hW
  have hA : DataW.TrodAll enc Try.prog W 0 (fun _ => true) true Try.f4.params.toList args.toList ds p := hA0
  rw [Try.params4] at hA hval
  obtain ⟨v0, vs0, d0, ds0, p0, q0, hargs, rfl, rfl, h0, r0⟩ := trodAll_cons hA
  obtain ⟨v1, vs1, d1, ds1, p1, q1, rfl, rfl, rfl, h1, r1⟩ := trodAll_cons r0
  obtain ⟨v2, vs2, d2, ds2, p2, q2, rfl, rfl, rfl, h2, r2⟩ := trodAll_cons r1
  obtain ⟨rfl, rfl, rfl⟩ := trodAll_nil r2
  obtain rfl : args = #[v0, v1, v2] := by cases args; simp_all
  obtain ⟨rfl, rfl⟩ := trodVars_none hV
  have k0 := h0
  have lt0 : ∀ x ∈ p0, x.block < W.heap.size := by obtain ⟨m, hm⟩ := k0; exact DataW.trod_lt m _ _ _ hm
  obtain ⟨a0, len0, cap0, rfl⟩ := okWide_slice Try.underlying22 (hval 0 22 v0 rfl rfl)
  obtain ⟨x0, R0, Q0⟩ : ∃ xs, Rd rNodes W xs [.slice a0 len0 cap0] ∧ ∀ x ∈ xs, wfNode x := by obtain ⟨m, hm⟩ := h0; exact t_nodes hm
  have k1 := h1
  have lt1 : ∀ x ∈ p1, x.block < W.heap.size := by obtain ⟨m, hm⟩ := k1; exact DataW.trod_lt m _ _ _ hm
  obtain ⟨cs1, rfl, hsz1⟩ := okWide_struct Try.underlying35 (hval 1 35 v1 rfl rfl)
  obtain ⟨x1, R1, Q1⟩ : ∃ xs, Rd rItem W xs cs1.toList ∧ wfItem xs := by obtain ⟨m, hm⟩ := h1; exact t_item hm
  obtain ⟨u1, e1, R1⟩ := R1
  obtain rfl : cs1 = #[.int .i64 x1.id, u1] := Array.toList_inj.1 e1
  have k2 := h2
  have lt2 : ∀ x ∈ p2, x.block < W.heap.size := by obtain ⟨m, hm⟩ := k2; exact DataW.trod_lt m _ _ _ hm
  obtain ⟨cs2, rfl, hsz2⟩ := okWide_struct Try.underlying35 (hval 2 35 v2 rfl rfl)
  obtain ⟨x2, R2, Q2⟩ : ∃ xs, Rd rItem W xs cs2.toList ∧ wfItem xs := by obtain ⟨m, hm⟩ := h2; exact t_item hm
  obtain ⟨u2, e2, R2⟩ := R2
  obtain rfl : cs2 = #[.int .i64 x2.id, u2] := Array.toList_inj.1 e2
  clear hA0 hval0
  refine (walk_FnExactCompareLine W x0 _ R0 Q0 x1 _ R1 Q1 x2 _ R2 Q2).mono fun e W' ⟨he, bel⟩ => ?_
  subst he
  exact ⟨_, rfl, _, _, _, [], _, [], hW', trodAll_mk1 (shut_bool Try.underlying4 _), (trodAll_cons_mk (Below.trod laid_out (by kernel_rfl) (of_decide_eq_true (by kernel_rfl)) k0 bel lt0) (trodAll_cons_mk (Below.trod laid_out (by kernel_rfl) (of_decide_eq_true (by kernel_rfl)) k1 bel lt1) (trodAll_cons_mk (Below.trod laid_out (by kernel_rfl) (of_decide_eq_true (by kernel_rfl)) k2 bel lt2) trodAll_mk0))), rfl, Below.frame bel _, fun h => by cases h⟩
/-- the statement -/
theorem FnExactCompareLine_holds : Rows.FnExactCompareLineSaid :=
  OpenClaim.holds_of_wide 4 Try.f4 rfl rfl rfl rfl rfl rfl rfl ⟨rfl, rfl, rfl, rfl, rfl⟩ rfl rfl rfl rfl rfl (by kernel_rfl) Try.func4 (by kernel_rfl)
    (of_decide_eq_true (by kernel_rfl)) (by unfold Func.isWrapper; first | (rw [if_pos (by decide +kernel)]; kernel_rfl) | (rw [if_neg (by decide +kernel)]; exact ⟨rfl, rfl⟩))
    (fun os started H enc _ => lifted_FnExactCompareLine os started H enc)
end Go.Proofs.Ytdfmgpmfalnffaa
