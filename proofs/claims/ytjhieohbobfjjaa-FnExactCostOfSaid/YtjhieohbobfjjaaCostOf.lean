/- For every input, FnExactCostOf returns true and leaves its arguments as they were. No condition. -/
import Derived.Test.YtjhieohbobfjjaaRows
import Derived.Test.YtjhieohbobfjjaaCost
import Derived.Test.YtjhieohbobfjjaaOpen
namespace Go.Proofs.Ytjhieohbobfjjaa
open Go.RowKit Go.ChangeShapes Go.WideShapes Go.ChangeAt
set_option linter.unusedVariables false
set_option maxRecDepth 100000 in
set_option maxHeartbeats 4000000 in
theorem walk_FnExactCostOf (w : World) (x0 : GItem) (v0 : Value) (h0 : Rd rInts w x0.vals [v0]) (q0 : wfItem x0) (x1 : GItem) (v1 : Value) (h1 : Rd rInts w x1.vals [v1]) (q1 : wfItem x1) :
    Calls Try.prog 4 #[.agg #[.int .i64 x0.id, v0], .agg #[.int .i64 x1.id, v1]] w (Ret w (.bool true)) := by
  go_enter Try.func4, Try.ntmps4
  have B0 : Bw w ((w.alloc (.cells #[.int .i64 x0.id, v0] 30)).alloc (.cells #[.int .i64 x1.id, v1] 30)) := (((Bw.refl w).alloc _).alloc _)
  have k0_0 : ((w.alloc (.cells #[.int .i64 x0.id, v0] 30)).alloc (.cells #[.int .i64 x1.id, v1] 30)).cell? ⟨w.heap.size, 0, none⟩ = some (.int .i64 x0.id) := by go_simp
  have k0_1 : ((w.alloc (.cells #[.int .i64 x0.id, v0] 30)).alloc (.cells #[.int .i64 x1.id, v1] 30)).cell? ⟨w.heap.size, 1, none⟩ = some (v0) := by go_simp
  have k1_0 : ((w.alloc (.cells #[.int .i64 x0.id, v0] 30)).alloc (.cells #[.int .i64 x1.id, v1] 30)).cell? ⟨w.heap.size + 1, 0, none⟩ = some (.int .i64 x1.id) := by go_simp
  have k1_1 : ((w.alloc (.cells #[.int .i64 x0.id, v0] 30)).alloc (.cells #[.int .i64 x1.id, v1] 30)).cell? ⟨w.heap.size + 1, 1, none⟩ = some (v1) := by go_simp
  go_wp2_with fail
  refine (L_szItem _ x0 _ (h0.bw rInts_good B0) (1048576 : Int) (by omega) (by omega)).mono ?_
  rintro e w1 ⟨rfl, hb1⟩
  have B1 : Bw w _ := B0.then hb1
  replace k0_0 := hb1.cell k0_0
  replace k0_1 := hb1.cell k0_1
  replace k1_0 := hb1.cell k1_0
  replace k1_1 := hb1.cell k1_1
  by_cases s0 : (1048576 : Int) < ((x0.vals.length : Nat) : Int)
  · rw [show szM (1048576 : Int) (x0.vals.length) = -1 from if_pos s0]
    go_wp2
    go_ret
    exact Ret.bool rfl B1
  rw [show szM (1048576 : Int) (x0.vals.length) = ((1048576 : Int) - ((x0.vals.length : Nat) : Int)) from if_neg s0]
  have t0 : x0.vals.length ≤ 1048576 := by omega
  go_wp2_with fail
  refine (L_szItem _ x1 _ (h1.bw rInts_good B1) ((1048576 : Int) - ((x0.vals.length : Nat) : Int)) (by omega) (by omega)).mono ?_
  rintro e w2 ⟨rfl, hb2⟩
  have B2 : Bw w _ := B1.then hb2
  replace k0_0 := hb2.cell k0_0
  replace k0_1 := hb2.cell k0_1
  replace k1_0 := hb2.cell k1_0
  replace k1_1 := hb2.cell k1_1
  by_cases s1 : ((1048576 : Int) - ((x0.vals.length : Nat) : Int)) < ((x1.vals.length : Nat) : Int)
  · rw [show szM ((1048576 : Int) - ((x0.vals.length : Nat) : Int)) (x1.vals.length) = -1 from if_pos s1]
    go_wp2
    go_ret
    exact Ret.bool rfl B2
  rw [show szM ((1048576 : Int) - ((x0.vals.length : Nat) : Int)) (x1.vals.length) = (((1048576 : Int) - ((x0.vals.length : Nat) : Int)) - ((x1.vals.length : Nat) : Int)) from if_neg s1]
  have t1 : x1.vals.length ≤ 1048576 := by omega
  go_wp2_with fail
  have B3 : Bw w w2.drew := B2.drew
  replace k0_0 : w2.drew.cell? ⟨w.heap.size, 0, none⟩ = some (.int .i64 x0.id) := k0_0
  replace k0_1 : w2.drew.cell? ⟨w.heap.size, 1, none⟩ = some (v0) := k0_1
  replace k1_0 : w2.drew.cell? ⟨w.heap.size + 1, 0, none⟩ = some (.int .i64 x1.id) := k1_0
  replace k1_1 : w2.drew.cell? ⟨w.heap.size + 1, 1, none⟩ = some (v1) := k1_1
  go_region_held3 (fun w' => w'.cell? ⟨w.heap.size, 0, none⟩ = some (.int .i64 x0.id) ∧ w'.cell? ⟨w.heap.size, 1, none⟩ = some (v0) ∧ w'.cell? ⟨w.heap.size + 1, 0, none⟩ = some (.int .i64 x1.id) ∧ w'.cell? ⟨w.heap.size + 1, 1, none⟩ = some (v1)) (first | go_keep | exact ⟨k0_0, k0_1, k1_0, k1_1⟩)
    (first
      | (go_at_call_of 22 v0; refine (L_toItem _ x0 _ (by exact (h0.bw rInts_good B3)) t0).mono ?_; rintro e w3 ⟨a0, rfl, ⟨aF0, ao0, af0⟩, hb3⟩; have B4 : Bw w _ := B3.then hb3; replace k0_0 := hb3.cell k0_0; replace k0_1 := hb3.cell k0_1; replace k1_0 := hb3.cell k1_0; replace k1_1 := hb3.cell k1_1; have ar0 := fInts_Rd ao0)
      | (go_at_call_of 22 v1; refine (L_toItem _ x1 _ (by exact (h1.bw rInts_good B4)) t1).mono ?_; rintro e w4 ⟨a1, rfl, ⟨aF1, ao1, af1⟩, hb4⟩; have B5 : Bw w _ := B4.then hb4; replace k0_0 := hb4.cell k0_0; replace k0_1 := hb4.cell k0_1; replace k1_0 := hb4.cell k1_0; replace k1_1 := hb4.cell k1_1; replace ar0 := ar0.bw rInts_good hb4; have ar1 := fInts_Rd ao1)
      | (go_at_call 21; refine (S_CostOf _ x0 x1 _ _ (by exact ar0) (by exact ar1)).mono ?_; rintro e w5 ⟨rfl, hb5⟩; have B6 : Bw w _ := B5.then hb5; replace k0_0 := hb5.cell k0_0; replace k0_1 := hb5.cell k0_1; replace k1_0 := hb5.cell k1_0; replace k1_1 := hb5.cell k1_1; replace ar0 := ar0.bw rInts_good hb5; replace ar1 := ar1.bw rInts_good hb5))
  clear ar0 ao0 af0 ar1 ao1 af1
  go_wp2_with fail
  refine (L_toItem _ x0 _ (by exact (h0.bw rInts_good B6)) t0).mono ?_
  rintro e w6 ⟨b0, rfl, ⟨bF0, bo0, bf0⟩, hb6⟩
  have B7 : Bw w _ := B6.then hb6
  replace k0_0 := hb6.cell k0_0
  replace k0_1 := hb6.cell k0_1
  replace k1_0 := hb6.cell k1_0
  replace k1_1 := hb6.cell k1_1
  have br0 := fInts_Rd bo0
  obtain ⟨Ab0, cb0, rfl, _⟩ := rSl_shape br0
  have hA6 := (Bw.refl w6).alloc (.cells #[.int .i64 x0.id, .slice Ab0 x0.vals.length cb0] 33)
  have B8 : Bw w _ := B7.then hA6
  replace k0_0 := hA6.cell k0_0
  replace k0_1 := hA6.cell k0_1
  replace k1_0 := hA6.cell k1_0
  replace k1_1 := hA6.cell k1_1
  replace br0 := br0.bw rInts_good hA6
  have j0_0 : (w6.alloc (.cells #[.int .i64 x0.id, .slice Ab0 x0.vals.length cb0] 33)).cell? ⟨w6.heap.size, 0, none⟩ = some (.int .i64 x0.id) := by go_simp
  have j0_1 : (w6.alloc (.cells #[.int .i64 x0.id, .slice Ab0 x0.vals.length cb0] 33)).cell? ⟨w6.heap.size, 1, none⟩ = some (.slice Ab0 x0.vals.length cb0) := by go_simp
  go_wp2_with fail
  refine (L_toItem _ x1 _ (by exact (h1.bw rInts_good B8)) t1).mono ?_
  rintro e w7 ⟨b1, rfl, ⟨bF1, bo1, bf1⟩, hb7⟩
  have B9 : Bw w _ := B8.then hb7
  replace k0_0 := hb7.cell k0_0
  replace k0_1 := hb7.cell k0_1
  replace k1_0 := hb7.cell k1_0
  replace k1_1 := hb7.cell k1_1
  replace j0_0 := hb7.cell j0_0
  replace j0_1 := hb7.cell j0_1
  replace br0 := br0.bw rInts_good hb7
  have br1 := fInts_Rd bo1
  obtain ⟨Ab1, cb1, rfl, _⟩ := rSl_shape br1
  have hA7 := (Bw.refl w7).alloc (.cells #[.int .i64 x1.id, .slice Ab1 x1.vals.length cb1] 33)
  have B10 : Bw w _ := B9.then hA7
  replace k0_0 := hA7.cell k0_0
  replace k0_1 := hA7.cell k0_1
  replace k1_0 := hA7.cell k1_0
  replace k1_1 := hA7.cell k1_1
  replace j0_0 := hA7.cell j0_0
  replace j0_1 := hA7.cell j0_1
  replace br0 := br0.bw rInts_good hA7
  replace br1 := br1.bw rInts_good hA7
  have j1_0 : (w7.alloc (.cells #[.int .i64 x1.id, .slice Ab1 x1.vals.length cb1] 33)).cell? ⟨w7.heap.size, 0, none⟩ = some (.int .i64 x1.id) := by go_simp
  have j1_1 : (w7.alloc (.cells #[.int .i64 x1.id, .slice Ab1 x1.vals.length cb1] 33)).cell? ⟨w7.heap.size, 1, none⟩ = some (.slice Ab1 x1.vals.length cb1) := by go_simp
  go_wp2_with fail
  refine (I_CostOf _ x0 x1 _ _ (by exact br0) (by exact br1)).mono ?_
  rintro e w8 ⟨rfl, hb8⟩
  have B11 : Bw w _ := B10.then hb8
  replace k0_0 := hb8.cell k0_0
  replace k0_1 := hb8.cell k0_1
  replace k1_0 := hb8.cell k1_0
  replace k1_1 := hb8.cell k1_1
  replace j0_0 := hb8.cell j0_0
  replace j0_1 := hb8.cell j0_1
  replace j1_0 := hb8.cell j1_0
  replace j1_1 := hb8.cell j1_1
  replace br0 := br0.bw rInts_good hb8
  replace br1 := br1.bw rInts_good hb8
  go_wp2_with fail
  have B12 : Bw w w8.drew := B11.drew
  replace k0_0 : w8.drew.cell? ⟨w.heap.size, 0, none⟩ = some (.int .i64 x0.id) := k0_0
  replace k0_1 : w8.drew.cell? ⟨w.heap.size, 1, none⟩ = some (v0) := k0_1
  replace k1_0 : w8.drew.cell? ⟨w.heap.size + 1, 0, none⟩ = some (.int .i64 x1.id) := k1_0
  replace k1_1 : w8.drew.cell? ⟨w.heap.size + 1, 1, none⟩ = some (v1) := k1_1
  replace j0_0 : w8.drew.cell? ⟨w6.heap.size, 0, none⟩ = some (.int .i64 x0.id) := j0_0
  replace j0_1 : w8.drew.cell? ⟨w6.heap.size, 1, none⟩ = some (.slice Ab0 x0.vals.length cb0) := j0_1
  replace j1_0 : w8.drew.cell? ⟨w7.heap.size, 0, none⟩ = some (.int .i64 x1.id) := j1_0
  replace j1_1 : w8.drew.cell? ⟨w7.heap.size, 1, none⟩ = some (.slice Ab1 x1.vals.length cb1) := j1_1
  replace br0 := br0.bw rInts_good (Bw.refl w8).drew
  replace br1 := br1.bw rInts_good (Bw.refl w8).drew
  go_region_held3 (fun w' => w'.cell? ⟨w.heap.size, 0, none⟩ = some (.int .i64 x0.id) ∧ w'.cell? ⟨w.heap.size, 1, none⟩ = some (v0) ∧ w'.cell? ⟨w.heap.size + 1, 0, none⟩ = some (.int .i64 x1.id) ∧ w'.cell? ⟨w.heap.size + 1, 1, none⟩ = some (v1) ∧ w'.cell? ⟨w6.heap.size, 0, none⟩ = some (.int .i64 x0.id) ∧ w'.cell? ⟨w6.heap.size, 1, none⟩ = some (.slice Ab0 x0.vals.length cb0) ∧ w'.cell? ⟨w7.heap.size, 0, none⟩ = some (.int .i64 x1.id) ∧ w'.cell? ⟨w7.heap.size, 1, none⟩ = some (.slice Ab1 x1.vals.length cb1)) (first | go_keep | exact ⟨k0_0, k0_1, k1_0, k1_1, j0_0, j0_1, j1_0, j1_1⟩)
    (first
      | (go_at_call 22; refine (L_toItem _ x0 _ (by exact (h0.bw rInts_good B12)) t0).mono ?_; rintro e w9 ⟨c0, rfl, ⟨cF0, co0, cf0⟩, hb9⟩; have B13 : Bw w _ := B12.then hb9; replace k0_0 := hb9.cell k0_0; replace k0_1 := hb9.cell k0_1; replace k1_0 := hb9.cell k1_0; replace k1_1 := hb9.cell k1_1; replace j0_0 := hb9.cell j0_0; replace j0_1 := hb9.cell j0_1; replace j1_0 := hb9.cell j1_0; replace j1_1 := hb9.cell j1_1; replace br0 := br0.bw rInts_good hb9; replace br1 := br1.bw rInts_good hb9; have cr0 := fInts_Rd co0)
      | (go_at_call 24; refine (L_eqItem _ x0 x0 _ _ (by exact br0) (by exact cr0)).mono ?_; rintro e w10 ⟨rfl, hb10⟩; have B14 : Bw w _ := B13.then hb10; replace k0_0 := hb10.cell k0_0; replace k0_1 := hb10.cell k0_1; replace k1_0 := hb10.cell k1_0; replace k1_1 := hb10.cell k1_1; replace j0_0 := hb10.cell j0_0; replace j0_1 := hb10.cell j0_1; replace j1_0 := hb10.cell j1_0; replace j1_1 := hb10.cell j1_1; replace br0 := br0.bw rInts_good hb10; replace br1 := br1.bw rInts_good hb10; replace cr0 := cr0.bw rInts_good hb10))
  go_wp2_with fail
  have B15 : Bw w w10.drew := B14.drew
  replace k0_0 : w10.drew.cell? ⟨w.heap.size, 0, none⟩ = some (.int .i64 x0.id) := k0_0
  replace k0_1 : w10.drew.cell? ⟨w.heap.size, 1, none⟩ = some (v0) := k0_1
  replace k1_0 : w10.drew.cell? ⟨w.heap.size + 1, 0, none⟩ = some (.int .i64 x1.id) := k1_0
  replace k1_1 : w10.drew.cell? ⟨w.heap.size + 1, 1, none⟩ = some (v1) := k1_1
  replace j0_0 : w10.drew.cell? ⟨w6.heap.size, 0, none⟩ = some (.int .i64 x0.id) := j0_0
  replace j0_1 : w10.drew.cell? ⟨w6.heap.size, 1, none⟩ = some (.slice Ab0 x0.vals.length cb0) := j0_1
  replace j1_0 : w10.drew.cell? ⟨w7.heap.size, 0, none⟩ = some (.int .i64 x1.id) := j1_0
  replace j1_1 : w10.drew.cell? ⟨w7.heap.size, 1, none⟩ = some (.slice Ab1 x1.vals.length cb1) := j1_1
  replace br0 := br0.bw rInts_good (Bw.refl w10).drew
  replace br1 := br1.bw rInts_good (Bw.refl w10).drew
  go_region_held3 (fun w' => w'.cell? ⟨w.heap.size, 0, none⟩ = some (.int .i64 x0.id) ∧ w'.cell? ⟨w.heap.size, 1, none⟩ = some (v0) ∧ w'.cell? ⟨w.heap.size + 1, 0, none⟩ = some (.int .i64 x1.id) ∧ w'.cell? ⟨w.heap.size + 1, 1, none⟩ = some (v1) ∧ w'.cell? ⟨w6.heap.size, 0, none⟩ = some (.int .i64 x0.id) ∧ w'.cell? ⟨w6.heap.size, 1, none⟩ = some (.slice Ab0 x0.vals.length cb0) ∧ w'.cell? ⟨w7.heap.size, 0, none⟩ = some (.int .i64 x1.id) ∧ w'.cell? ⟨w7.heap.size, 1, none⟩ = some (.slice Ab1 x1.vals.length cb1)) (first | go_keep | exact ⟨k0_0, k0_1, k1_0, k1_1, j0_0, j0_1, j1_0, j1_1⟩)
    (first
      | (go_at_call 22; refine (L_toItem _ x1 _ (by exact (h1.bw rInts_good B15)) t1).mono ?_; rintro e w11 ⟨c1, rfl, ⟨cF1, co1, cf1⟩, hb11⟩; have B16 : Bw w _ := B15.then hb11; replace k0_0 := hb11.cell k0_0; replace k0_1 := hb11.cell k0_1; replace k1_0 := hb11.cell k1_0; replace k1_1 := hb11.cell k1_1; replace j0_0 := hb11.cell j0_0; replace j0_1 := hb11.cell j0_1; replace j1_0 := hb11.cell j1_0; replace j1_1 := hb11.cell j1_1; replace br0 := br0.bw rInts_good hb11; replace br1 := br1.bw rInts_good hb11; have cr1 := fInts_Rd co1)
      | (go_at_call 24; refine (L_eqItem _ x1 x1 _ _ (by exact br1) (by exact cr1)).mono ?_; rintro e w12 ⟨rfl, hb12⟩; have B17 : Bw w _ := B16.then hb12; replace k0_0 := hb12.cell k0_0; replace k0_1 := hb12.cell k0_1; replace k1_0 := hb12.cell k1_0; replace k1_1 := hb12.cell k1_1; replace j0_0 := hb12.cell j0_0; replace j0_1 := hb12.cell j0_1; replace j1_0 := hb12.cell j1_0; replace j1_1 := hb12.cell j1_1; replace br0 := br0.bw rInts_good hb12; replace br1 := br1.bw rInts_good hb12; replace cr1 := cr1.bw rInts_good hb12))
  go_wp2
  go_ret
  exact Ret.bool rfl B17
set_option maxRecDepth 100000 in
theorem lifted_FnExactCostOf (os : Os) (started : os.Started) (H : Type) (enc : TypeId × Value → H) :
    ReturnsInHanded {} Try.checked os 4 .any (Rows.fnExactCostOfSpec.pre6 enc Try.prog Try.f4 Rows.fnExactCostOfRow.domain false) (Rows.fnExactCostOfSpec.post enc Try.prog Try.f4 false true false false) := by
  refine returnsInHanded_of_change (C := Try.checked) own_knob started (by kernel_rfl) Try.func4
    (ChangeSpec.witness6 (enc := enc) (C := Try.checked) false ⟨#[], #[.agg #[.int .i64 0, .slice none 0 0], .agg #[.int .i64 0, .slice none 0 0]], []⟩ 8 (by kernel_rfl) (by kernel_rfl) (by kernel_rfl) (by kernel_rfl)) ?_
  intro W base args ds gs before hval0 hW hcnd _
  have hval : ∀ (j : Nat) t v, Try.f4.params[j]? = some t → args[j]? = some v → Value.okWide Try.prog W .any base t v := hval0
  have hW' := hW
  obtain ⟨p, q, hA0, hV, rfl, hfz, hnd⟩ := hW
  have hA : DataW.TrodAll enc Try.prog W 0 (fun _ => true) true Try.f4.params.toList args.toList ds p := hA0
  rw [Try.params4] at hA hval
  obtain ⟨v0, vs0, d0, ds0, p0, q0, hargs, rfl, rfl, h0, r0⟩ := trodAll_cons hA
  obtain ⟨v1, vs1, d1, ds1, p1, q1, rfl, rfl, rfl, h1, r1⟩ := trodAll_cons r0
  obtain ⟨rfl, rfl, rfl⟩ := trodAll_nil r1
  obtain rfl : args = #[v0, v1] := by cases args; simp_all
  obtain ⟨rfl, rfl⟩ := trodVars_none hV
  have k0 := h0
  have lt0 : ∀ x ∈ p0, x.block < W.heap.size := by obtain ⟨m, hm⟩ := k0; exact DataW.trod_lt m _ _ _ hm
  obtain ⟨cs0, rfl, hsz0⟩ := okWide_struct Try.underlying30 (hval 0 30 v0 rfl rfl)
  obtain ⟨x0, R0, Q0⟩ : ∃ xs, Rd rItem W xs cs0.toList ∧ wfItem xs := by obtain ⟨m, hm⟩ := h0; exact t_item hm
  obtain ⟨u0, e0, R0⟩ := R0
  obtain rfl : cs0 = #[.int .i64 x0.id, u0] := Array.toList_inj.1 e0
  have k1 := h1
  have lt1 : ∀ x ∈ p1, x.block < W.heap.size := by obtain ⟨m, hm⟩ := k1; exact DataW.trod_lt m _ _ _ hm
  obtain ⟨cs1, rfl, hsz1⟩ := okWide_struct Try.underlying30 (hval 1 30 v1 rfl rfl)
  obtain ⟨x1, R1, Q1⟩ : ∃ xs, Rd rItem W xs cs1.toList ∧ wfItem xs := by obtain ⟨m, hm⟩ := h1; exact t_item hm
  obtain ⟨u1, e1, R1⟩ := R1
  obtain rfl : cs1 = #[.int .i64 x1.id, u1] := Array.toList_inj.1 e1
  clear hA0 hval0
  refine (walk_FnExactCostOf W x0 _ R0 Q0 x1 _ R1 Q1).mono fun e W' ⟨he, bel⟩ => ?_
  subst he
  exact ⟨_, rfl, _, _, _, [], _, [], hW', trodAll_mk1 (shut_bool Try.underlying4 _), (trodAll_cons_mk (Below.trod laid_out (by kernel_rfl) (of_decide_eq_true (by kernel_rfl)) k0 bel lt0) (trodAll_cons_mk (Below.trod laid_out (by kernel_rfl) (of_decide_eq_true (by kernel_rfl)) k1 bel lt1) trodAll_mk0)), rfl, Below.frame bel _, fun h => by cases h⟩
/-- the statement -/
theorem FnExactCostOf_holds : Rows.FnExactCostOfSaid :=
  OpenClaim.holds_of_wide 4 Try.f4 rfl rfl rfl rfl rfl rfl rfl ⟨rfl, rfl, rfl, rfl, rfl⟩ rfl rfl rfl rfl rfl (by kernel_rfl) Try.func4 (by kernel_rfl)
    (of_decide_eq_true (by kernel_rfl)) (by unfold Func.isWrapper; first | (rw [if_pos (by decide +kernel)]; kernel_rfl) | (rw [if_neg (by decide +kernel)]; exact ⟨rfl, rfl⟩))
    (fun os started H enc _ => lifted_FnExactCostOf os started H enc)
end Go.Proofs.Ytjhieohbobfjjaa
