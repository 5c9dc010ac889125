/- For every input, FnExactStandingLine returns true and leaves its arguments as they were. No condition. -/
import Derived.Test.YtdfmgpmfalnffaaRows
import Derived.Test.YtdfmgpmfalnffaaLines3
import Derived.Test.YtdfmgpmfalnffaaStand
import Derived.Test.YtdfmgpmfalnffaaOpen
namespace Go.Proofs.Ytdfmgpmfalnffaa
open Go.RowKit Go.ChangeShapes Go.WideShapes Go.ChangeAt
set_option linter.unusedVariables false
set_option maxRecDepth 100000 in
set_option maxHeartbeats 4000000 in
theorem walk_FnExactStandingLine (w : World) (x0 : GStanding) (v0a v0b v0c : Value) (h0a : Rd rItems w x0.items [v0a]) (h0b : Rd rNodes w x0.wanted [v0b]) (h0c : Rd rInts w x0.best [v0c]) (q0 : wfStanding x0) :
    Calls Try.prog 10 #[.agg #[v0a, v0b, v0c, .int .i64 x0.tests]] w (Ret w (.bool true)) := by
  go_enter Try.func10, Try.ntmps10
  have B0 : Bw w (w.alloc (.cells #[v0a, v0b, v0c, .int .i64 x0.tests] 57)) := ((Bw.refl w).alloc _)
  have k0_0 : (w.alloc (.cells #[v0a, v0b, v0c, .int .i64 x0.tests] 57)).cell? ⟨w.heap.size, 0, none⟩ = some (v0a) := by go_simp
  have k0_1 : (w.alloc (.cells #[v0a, v0b, v0c, .int .i64 x0.tests] 57)).cell? ⟨w.heap.size, 1, none⟩ = some (v0b) := by go_simp
  have k0_2 : (w.alloc (.cells #[v0a, v0b, v0c, .int .i64 x0.tests] 57)).cell? ⟨w.heap.size, 2, none⟩ = some (v0c) := by go_simp
  have k0_3 : (w.alloc (.cells #[v0a, v0b, v0c, .int .i64 x0.tests] 57)).cell? ⟨w.heap.size, 3, none⟩ = some (.int .i64 x0.tests) := by go_simp
  go_wp2_with fail
  refine (L_szStanding _ x0 _ _ _ (h0a.bw rItems_good B0) (h0b.bw rNodes_good B0) (h0c.bw rInts_good B0) (1048576 : Int) (by omega) (by omega)).mono ?_
  rintro e w1 ⟨rfl, hb1⟩
  have B1 : Bw w _ := B0.then hb1
  replace k0_0 := hb1.cell k0_0
  replace k0_1 := hb1.cell k0_1
  replace k0_2 := hb1.cell k0_2
  replace k0_3 := hb1.cell k0_3
  by_cases s0 : (1048576 : Int) < ((totStanding x0 : Nat) : Int)
  · rw [show szM (1048576 : Int) (totStanding x0) = -1 from if_pos s0]
    go_wp2
    go_ret
    exact Ret.bool rfl B1
  rw [show szM (1048576 : Int) (totStanding x0) = ((1048576 : Int) - ((totStanding x0 : Nat) : Int)) from if_neg s0]
  have t0 : totStanding x0 ≤ 1048576 := by omega
  go_wp2_with fail
  refine (L_toStanding _ x0 _ _ _ (by exact (h0a.bw rItems_good B1)) (by exact (h0b.bw rNodes_good B1)) (by exact (h0c.bw rInts_good B1)) t0).mono ?_
  rintro e w2 ⟨_, aF0, rfl, ⟨a0a, a0b, a0c, aF0a, aF0b, aF0c, rfl, ao0a, ao0b, ao0c, rfl⟩, af0, hb2⟩
  have B2 : Bw w _ := B1.then hb2
  replace k0_0 := hb2.cell k0_0
  replace k0_1 := hb2.cell k0_1
  replace k0_2 := hb2.cell k0_2
  replace k0_3 := hb2.cell k0_3
  have ar0a := fItems_Rd ao0a
  have ar0b := fNodes_Rd ao0b
  have ar0c := fInts_Rd ao0c
  go_wp2_with fail
  refine (S_StandingLine _ x0 _ _ _ (by exact ar0a) (by exact ar0b) (by exact ar0c)).mono ?_
  rintro e w3 ⟨rfl, hb3⟩
  have B3 : Bw w _ := B2.then hb3
  replace k0_0 := hb3.cell k0_0
  replace k0_1 := hb3.cell k0_1
  replace k0_2 := hb3.cell k0_2
  replace k0_3 := hb3.cell k0_3
  replace ar0a := ar0a.bw rItems_good hb3
  replace ar0b := ar0b.bw rNodes_good hb3
  replace ar0c := ar0c.bw rInts_good hb3
  clear ar0a ao0a ar0b ao0b ar0c ao0c af0
  go_wp2_with fail
  refine (L_toStanding _ x0 _ _ _ (by exact (h0a.bw rItems_good B3)) (by exact (h0b.bw rNodes_good B3)) (by exact (h0c.bw rInts_good B3)) t0).mono ?_
  rintro e w4 ⟨_, bF0, rfl, ⟨b0a, b0b, b0c, bF0a, bF0b, bF0c, rfl, bo0a, bo0b, bo0c, rfl⟩, bf0, hb4⟩
  have B4 : Bw w _ := B3.then hb4
  replace k0_0 := hb4.cell k0_0
  replace k0_1 := hb4.cell k0_1
  replace k0_2 := hb4.cell k0_2
  replace k0_3 := hb4.cell k0_3
  have br0a := fItems_Rd bo0a
  have br0b := fNodes_Rd bo0b
  have br0c := fInts_Rd bo0c
  obtain ⟨Ab0a, cb0a, rfl, _⟩ := rSl_shape br0a
  obtain ⟨Ab0b, cb0b, rfl, _⟩ := rSl_shape br0b
  obtain ⟨Ab0c, cb0c, rfl, _⟩ := rSl_shape br0c
  have hA4 := (Bw.refl w4).alloc (.cells #[.slice Ab0a x0.items.length cb0a, .slice Ab0b x0.wanted.length cb0b, .slice Ab0c x0.best.length cb0c, .int .i64 x0.tests] 61)
  have B5 : Bw w _ := B4.then hA4
  replace k0_0 := hA4.cell k0_0
  replace k0_1 := hA4.cell k0_1
  replace k0_2 := hA4.cell k0_2
  replace k0_3 := hA4.cell k0_3
  replace br0a := br0a.bw rItems_good hA4
  replace br0b := br0b.bw rNodes_good hA4
  replace br0c := br0c.bw rInts_good hA4
  have j0_0 : (w4.alloc (.cells #[.slice Ab0a x0.items.length cb0a, .slice Ab0b x0.wanted.length cb0b, .slice Ab0c x0.best.length cb0c, .int .i64 x0.tests] 61)).cell? ⟨w4.heap.size, 0, none⟩ = some (.slice Ab0a x0.items.length cb0a) := by go_simp
  have j0_1 : (w4.alloc (.cells #[.slice Ab0a x0.items.length cb0a, .slice Ab0b x0.wanted.length cb0b, .slice Ab0c x0.best.length cb0c, .int .i64 x0.tests] 61)).cell? ⟨w4.heap.size, 1, none⟩ = some (.slice Ab0b x0.wanted.length cb0b) := by go_simp
  have j0_2 : (w4.alloc (.cells #[.slice Ab0a x0.items.length cb0a, .slice Ab0b x0.wanted.length cb0b, .slice Ab0c x0.best.length cb0c, .int .i64 x0.tests] 61)).cell? ⟨w4.heap.size, 2, none⟩ = some (.slice Ab0c x0.best.length cb0c) := by go_simp
  have j0_3 : (w4.alloc (.cells #[.slice Ab0a x0.items.length cb0a, .slice Ab0b x0.wanted.length cb0b, .slice Ab0c x0.best.length cb0c, .int .i64 x0.tests] 61)).cell? ⟨w4.heap.size, 3, none⟩ = some (.int .i64 x0.tests) := by go_simp
  go_wp2_with fail
  refine (I_StandingLine _ x0 _ _ _ (by exact br0a) (by exact br0b) (by exact br0c)).mono ?_
  rintro e w5 ⟨rfl, hb5⟩
  have B6 : Bw w _ := B5.then hb5
  replace k0_0 := hb5.cell k0_0
  replace k0_1 := hb5.cell k0_1
  replace k0_2 := hb5.cell k0_2
  replace k0_3 := hb5.cell k0_3
  replace j0_0 := hb5.cell j0_0
  replace j0_1 := hb5.cell j0_1
  replace j0_2 := hb5.cell j0_2
  replace j0_3 := hb5.cell j0_3
  replace br0a := br0a.bw rItems_good hb5
  replace br0b := br0b.bw rNodes_good hb5
  replace br0c := br0c.bw rInts_good hb5
  go_wp2_with fail
  have B7 : Bw w w5.drew := B6.drew
  replace k0_0 : w5.drew.cell? ⟨w.heap.size, 0, none⟩ = some (v0a) := k0_0
  replace k0_1 : w5.drew.cell? ⟨w.heap.size, 1, none⟩ = some (v0b) := k0_1
  replace k0_2 : w5.drew.cell? ⟨w.heap.size, 2, none⟩ = some (v0c) := k0_2
  replace k0_3 : w5.drew.cell? ⟨w.heap.size, 3, none⟩ = some (.int .i64 x0.tests) := k0_3
  replace j0_0 : w5.drew.cell? ⟨w4.heap.size, 0, none⟩ = some (.slice Ab0a x0.items.length cb0a) := j0_0
  replace j0_1 : w5.drew.cell? ⟨w4.heap.size, 1, none⟩ = some (.slice Ab0b x0.wanted.length cb0b) := j0_1
  replace j0_2 : w5.drew.cell? ⟨w4.heap.size, 2, none⟩ = some (.slice Ab0c x0.best.length cb0c) := j0_2
  replace j0_3 : w5.drew.cell? ⟨w4.heap.size, 3, none⟩ = some (.int .i64 x0.tests) := j0_3
  replace br0a := br0a.bw rItems_good (Bw.refl w5).drew
  replace br0b := br0b.bw rNodes_good (Bw.refl w5).drew
  replace br0c := br0c.bw rInts_good (Bw.refl w5).drew
  go_region_held3 (fun w' => w'.cell? ⟨w.heap.size, 0, none⟩ = some (v0a) ∧ w'.cell? ⟨w.heap.size, 1, none⟩ = some (v0b) ∧ w'.cell? ⟨w.heap.size, 2, none⟩ = some (v0c) ∧ w'.cell? ⟨w.heap.size, 3, none⟩ = some (.int .i64 x0.tests) ∧ w'.cell? ⟨w4.heap.size, 0, none⟩ = some (.slice Ab0a x0.items.length cb0a) ∧ w'.cell? ⟨w4.heap.size, 1, none⟩ = some (.slice Ab0b x0.wanted.length cb0b) ∧ w'.cell? ⟨w4.heap.size, 2, none⟩ = some (.slice Ab0c x0.best.length cb0c) ∧ w'.cell? ⟨w4.heap.size, 3, none⟩ = some (.int .i64 x0.tests)) (first | go_keep | exact ⟨k0_0, k0_1, k0_2, k0_3, j0_0, j0_1, j0_2, j0_3⟩)
    (first
      | (go_at_call 40; refine (L_toStanding _ x0 _ _ _ (by exact (h0a.bw rItems_good B7)) (by exact (h0b.bw rNodes_good B7)) (by exact (h0c.bw rInts_good B7)) t0).mono ?_; rintro e w6 ⟨_, cF0, rfl, ⟨c0a, c0b, c0c, cF0a, cF0b, cF0c, rfl, co0a, co0b, co0c, rfl⟩, cf0, hb6⟩; have B8 : Bw w _ := B7.then hb6; replace k0_0 := hb6.cell k0_0; replace k0_1 := hb6.cell k0_1; replace k0_2 := hb6.cell k0_2; replace k0_3 := hb6.cell k0_3; replace j0_0 := hb6.cell j0_0; replace j0_1 := hb6.cell j0_1; replace j0_2 := hb6.cell j0_2; replace j0_3 := hb6.cell j0_3; replace br0a := br0a.bw rItems_good hb6; replace br0b := br0b.bw rNodes_good hb6; replace br0c := br0c.bw rInts_good hb6; have cr0a := fItems_Rd co0a; have cr0b := fNodes_Rd co0b; have cr0c := fInts_Rd co0c)
      | (go_at_call 42; refine (L_eqStanding _ x0 x0 _ _ _ _ _ _ (by exact br0a) (by exact br0b) (by exact br0c) (by exact cr0a) (by exact cr0b) (by exact cr0c)).mono ?_; rintro e w7 ⟨rfl, hb7⟩; have B9 : Bw w _ := B8.then hb7; replace k0_0 := hb7.cell k0_0; replace k0_1 := hb7.cell k0_1; replace k0_2 := hb7.cell k0_2; replace k0_3 := hb7.cell k0_3; replace j0_0 := hb7.cell j0_0; replace j0_1 := hb7.cell j0_1; replace j0_2 := hb7.cell j0_2; replace j0_3 := hb7.cell j0_3; replace br0a := br0a.bw rItems_good hb7; replace br0b := br0b.bw rNodes_good hb7; replace br0c := br0c.bw rInts_good hb7; replace cr0a := cr0a.bw rItems_good hb7; replace cr0b := cr0b.bw rNodes_good hb7; replace cr0c := cr0c.bw rInts_good hb7))
  go_wp2
  go_ret
  exact Ret.bool rfl B9
set_option maxRecDepth 100000 in
theorem lifted_FnExactStandingLine (os : Os) (started : os.Started) (H : Type) (enc : TypeId × Value → H) :
    ReturnsInHanded {} Try.checked os 10 .any (Rows.fnExactStandingLineSpec.pre6 enc Try.prog Try.f10 Rows.fnExactStandingLineRow.domain false) (Rows.fnExactStandingLineSpec.post enc Try.prog Try.f10 false true false false) := by
  refine returnsInHanded_of_change (C := Try.checked) own_knob started (by kernel_rfl) Try.func10
    (ChangeSpec.witness6 (enc := enc) (C := Try.checked) false ⟨#[], #[.agg #[.slice none 0 0, .slice none 0 0, .slice none 0 0, .int .i64 0]], []⟩ 8 (by kernel_rfl) (by kernel_rfl) (by kernel_rfl) (by kernel_rfl)) ?_
  intro W base args ds gs before hval0 hW hcnd _
  have hval : ∀ (j : Nat) t v, Try.f10.params[j]? = some t → args[j]? = some v → Value.okWide Try.prog W .any base t v := hval0
  have hW' := hW
  obtain ⟨p, q, hA0, hV, rfl, hfz, hnd⟩ := hW
  have hA : DataW.TrodAll enc Try.prog W 0 (fun _ => true) true Try.f10.params.toList args.toList ds p := hA0
  rw [Try.params10] at hA hval
  obtain ⟨v0, vs0, d0, ds0, p0, q0, hargs, rfl, rfl, h0, r0⟩ := trodAll_cons hA
  obtain ⟨rfl, rfl, rfl⟩ := trodAll_nil r0
  obtain rfl : args = #[v0] := by cases args; simp_all
  obtain ⟨rfl, rfl⟩ := trodVars_none hV
  have k0 := h0
  have lt0 : ∀ x ∈ p0, x.block < W.heap.size := by obtain ⟨m, hm⟩ := k0; exact DataW.trod_lt m _ _ _ hm
  obtain ⟨cs0, rfl, hsz0⟩ := okWide_struct Try.underlying57 (hval 0 57 v0 rfl rfl)
  obtain ⟨x0, R0, Q0⟩ : ∃ xs, Rd rStanding W xs cs0.toList ∧ wfStanding xs := by obtain ⟨m, hm⟩ := h0; exact t_standing hm
  obtain ⟨ua0, ub0, uc0, e0, Ra0, Rb0, Rc0⟩ := R0
  obtain rfl : cs0 = #[ua0, ub0, uc0, .int .i64 x0.tests] := Array.toList_inj.1 e0
  clear hA0 hval0
  refine (walk_FnExactStandingLine W x0 _ _ _ Ra0 Rb0 Rc0 Q0).mono fun e W' ⟨he, bel⟩ => ?_
  subst he
  exact ⟨_, rfl, _, _, _, [], _, [], hW', trodAll_mk1 (shut_bool Try.underlying4 _), (trodAll_cons_mk (Below.trod laid_out (by kernel_rfl) (of_decide_eq_true (by kernel_rfl)) k0 bel lt0) trodAll_mk0), rfl, Below.frame bel _, fun h => by cases h⟩
/-- the statement -/
theorem FnExactStandingLine_holds : Rows.FnExactStandingLineSaid :=
  OpenClaim.holds_of_wide 10 Try.f10 rfl rfl rfl rfl rfl rfl rfl ⟨rfl, rfl, rfl, rfl, rfl⟩ rfl rfl rfl rfl rfl (by kernel_rfl) Try.func10 (by kernel_rfl)
    (of_decide_eq_true (by kernel_rfl)) (by unfold Func.isWrapper; first | (rw [if_pos (by decide +kernel)]; kernel_rfl) | (rw [if_neg (by decide +kernel)]; exact ⟨rfl, rfl⟩))
    (fun os started H enc _ => lifted_FnExactStandingLine os started H enc)
end Go.Proofs.Ytdfmgpmfalnffaa
