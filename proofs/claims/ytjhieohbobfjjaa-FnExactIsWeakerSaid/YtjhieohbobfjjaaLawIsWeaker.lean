/- For every input, FnExactIsWeaker returns true and leaves its arguments as they were. No condition. -/
import Derived.Test.YtjhieohbobfjjaaRows
import Derived.Test.YtjhieohbobfjjaaWeakS
import Derived.Test.YtjhieohbobfjjaaWishes3
import Derived.Test.YtjhieohbobfjjaaOpen
namespace Go.Proofs.Ytjhieohbobfjjaa
open Go.RowKit Go.ChangeShapes Go.WideShapes Go.ChangeAt
set_option linter.unusedVariables false
set_option maxRecDepth 100000 in
set_option maxHeartbeats 4000000 in
theorem walk_FnExactIsWeaker (w : World) (x0 : List GNode) (v0 : Value) (h0 : Rd rNodes w x0 [v0]) (q0 : ∀ x ∈ x0, wfNode x) (x1 : List GNode) (v1 : Value) (h1 : Rd rNodes w x1 [v1]) (q1 : ∀ x ∈ x1, wfNode x) :
    Calls Try.prog 14 #[v0, v1] w (Ret w (.bool true)) := by
  go_enter Try.func14, Try.ntmps14
  go_wp2_with fail
  refine (L_szNodeS _ x0 _ (h0.bw rNodes_good (Bw.refl w)) (1048576 : Int) (by omega) (by omega)).mono ?_
  rintro e w1 ⟨rfl, hb1⟩
  have B1 : Bw w _ := (Bw.refl w).then hb1
  by_cases s0 : (1048576 : Int) < ((totNodes x0 : Nat) : Int)
  · rw [show szM (1048576 : Int) (totNodes x0) = -1 from if_pos s0]
    go_wp2
    go_ret
    exact Ret.bool rfl B1
  rw [show szM (1048576 : Int) (totNodes x0) = ((1048576 : Int) - ((totNodes x0 : Nat) : Int)) from if_neg s0]
  have t0 : totNodes x0 ≤ 1048576 := by omega
  go_wp2_with fail
  refine (L_szNodeS _ x1 _ (h1.bw rNodes_good B1) ((1048576 : Int) - ((totNodes x0 : Nat) : Int)) (by omega) (by omega)).mono ?_
  rintro e w2 ⟨rfl, hb2⟩
  have B2 : Bw w _ := B1.then hb2
  by_cases s1 : ((1048576 : Int) - ((totNodes x0 : Nat) : Int)) < ((totNodes x1 : Nat) : Int)
  · rw [show szM ((1048576 : Int) - ((totNodes x0 : Nat) : Int)) (totNodes x1) = -1 from if_pos s1]
    go_wp2
    go_ret
    exact Ret.bool rfl B2
  rw [show szM ((1048576 : Int) - ((totNodes x0 : Nat) : Int)) (totNodes x1) = (((1048576 : Int) - ((totNodes x0 : Nat) : Int)) - ((totNodes x1 : Nat) : Int)) from if_neg s1]
  have t1 : totNodes x1 ≤ 1048576 := by omega
  go_wp2_with fail
  refine (L_toNodeS _ x0 _ (by exact (h0.bw rNodes_good B2)) t0).mono ?_
  rintro e w3 ⟨a0, rfl, ⟨aF0, ao0, af0⟩, hb3⟩
  have B3 : Bw w _ := B2.then hb3
  have ar0 := fNodes_Rd ao0
  go_wp2_with fail
  refine (L_toNodeS _ x1 _ (by exact (h1.bw rNodes_good B3)) t1).mono ?_
  rintro e w4 ⟨a1, rfl, ⟨aF1, ao1, af1⟩, hb4⟩
  have B4 : Bw w _ := B3.then hb4
  replace ar0 := ar0.bw rNodes_good hb4
  have ar1 := fNodes_Rd ao1
  go_wp2_with fail
  refine (S_IsWeaker _ x0 x1 _ _ (by exact ar0) (by exact ar1)).mono ?_
  rintro e w5 ⟨rfl, hb5⟩
  have B5 : Bw w _ := B4.then hb5
  replace ar0 := ar0.bw rNodes_good hb5
  replace ar1 := ar1.bw rNodes_good hb5
  clear ar0 ao0 af0 ar1 ao1 af1
  go_wp2_with fail
  refine (L_toNodeS _ x0 _ (by exact (h0.bw rNodes_good B5)) t0).mono ?_
  rintro e w6 ⟨b0, rfl, ⟨bF0, bo0, bf0⟩, hb6⟩
  have B6 : Bw w _ := B5.then hb6
  have br0 := fNodes_Rd bo0
  go_wp2_with fail
  refine (L_toNodeS _ x1 _ (by exact (h1.bw rNodes_good B6)) t1).mono ?_
  rintro e w7 ⟨b1, rfl, ⟨bF1, bo1, bf1⟩, hb7⟩
  have B7 : Bw w _ := B6.then hb7
  replace br0 := br0.bw rNodes_good hb7
  have br1 := fNodes_Rd bo1
  go_wp2_with fail
  refine (I_IsWeaker _ x0 x1 _ _ (by exact br0) (by exact br1)).mono ?_
  rintro e w8 ⟨rfl, hb8⟩
  have B8 : Bw w _ := B7.then hb8
  replace br0 := br0.bw rNodes_good hb8
  replace br1 := br1.bw rNodes_good hb8
  go_wp2_with fail
  refine (L_toNodeS _ x0 _ (by exact (h0.bw rNodes_good B8)) t0).mono ?_
  rintro e w9 ⟨c0, rfl, ⟨cF0, co0, cf0⟩, hb9⟩
  have B9 : Bw w _ := B8.then hb9
  replace br0 := br0.bw rNodes_good hb9
  replace br1 := br1.bw rNodes_good hb9
  have cr0 := fNodes_Rd co0
  go_wp2_with fail
  refine (L_eqNodeS _ x0 x0 _ _ (by exact br0) (by exact cr0)).mono ?_
  rintro e w10 ⟨rfl, hb10⟩
  have B10 : Bw w _ := B9.then hb10
  replace br0 := br0.bw rNodes_good hb10
  replace br1 := br1.bw rNodes_good hb10
  replace cr0 := cr0.bw rNodes_good hb10
  rw [show decide (x0 = x0) = true from by simp]
  go_wp2_with fail
  refine (L_toNodeS _ x1 _ (by exact (h1.bw rNodes_good B10)) t1).mono ?_
  rintro e w11 ⟨c1, rfl, ⟨cF1, co1, cf1⟩, hb11⟩
  have B11 : Bw w _ := B10.then hb11
  replace br0 := br0.bw rNodes_good hb11
  replace br1 := br1.bw rNodes_good hb11
  have cr1 := fNodes_Rd co1
  go_wp2_with fail
  refine (L_eqNodeS _ x1 x1 _ _ (by exact br1) (by exact cr1)).mono ?_
  rintro e w12 ⟨rfl, hb12⟩
  have B12 : Bw w _ := B11.then hb12
  replace br0 := br0.bw rNodes_good hb12
  replace br1 := br1.bw rNodes_good hb12
  replace cr1 := cr1.bw rNodes_good hb12
  rw [show decide (x1 = x1) = true from by simp]
  go_wp2
  go_ret
  exact Ret.bool rfl B12
set_option maxRecDepth 100000 in
theorem lifted_FnExactIsWeaker (os : Os) (started : os.Started) (H : Type) (enc : TypeId × Value → H) :
    ReturnsInHanded {} Try.checked os 14 .any (Rows.fnExactIsWeakerSpec.pre6 enc Try.prog Try.f14 Rows.fnExactIsWeakerRow.domain false) (Rows.fnExactIsWeakerSpec.post enc Try.prog Try.f14 false true false false) := by
  refine returnsInHanded_of_change (C := Try.checked) own_knob started (by kernel_rfl) Try.func14
    (ChangeSpec.witness6 (enc := enc) (C := Try.checked) false ⟨#[], #[.slice none 0 0, .slice none 0 0], []⟩ 8 (by kernel_rfl) (by kernel_rfl) (by kernel_rfl) (by kernel_rfl)) ?_
  intro W base args ds gs before hval0 hW hcnd _
  have hval : ∀ (j : Nat) t v, Try.f14.params[j]? = some t → args[j]? = some v → Value.okWide Try.prog W .any base t v := hval0
  have hW' := hW
  obtain ⟨p, q, hA0, hV, rfl, hfz, hnd⟩ := hW
  have hA : DataW.TrodAll enc Try.prog W 0 (fun _ => true) true Try.f14.params.toList args.toList ds p := hA0
  rw [Try.params14] at hA hval
  obtain ⟨v0, vs0, d0, ds0, p0, q0, hargs, rfl, rfl, h0, r0⟩ := trodAll_cons hA
  obtain ⟨v1, vs1, d1, ds1, p1, q1, rfl, rfl, rfl, h1, r1⟩ := trodAll_cons r0
  obtain ⟨rfl, rfl, rfl⟩ := trodAll_nil r1
  obtain rfl : args = #[v0, v1] := by cases args; simp_all
  obtain ⟨rfl, rfl⟩ := trodVars_none hV
  have k0 := h0
  have lt0 : ∀ x ∈ p0, x.block < W.heap.size := by obtain ⟨m, hm⟩ := k0; exact DataW.trod_lt m _ _ _ hm
  obtain ⟨a0, len0, cap0, rfl⟩ := okWide_slice Try.underlying62 (hval 0 62 v0 rfl rfl)
  obtain ⟨x0, R0, Q0⟩ : ∃ xs, Rd rNodes W xs [.slice a0 len0 cap0] ∧ ∀ x ∈ xs, wfNode x := by obtain ⟨m, hm⟩ := h0; exact t_nodes hm
  have k1 := h1
  have lt1 : ∀ x ∈ p1, x.block < W.heap.size := by obtain ⟨m, hm⟩ := k1; exact DataW.trod_lt m _ _ _ hm
  obtain ⟨a1, len1, cap1, rfl⟩ := okWide_slice Try.underlying62 (hval 1 62 v1 rfl rfl)
  obtain ⟨x1, R1, Q1⟩ : ∃ xs, Rd rNodes W xs [.slice a1 len1 cap1] ∧ ∀ x ∈ xs, wfNode x := by obtain ⟨m, hm⟩ := h1; exact t_nodes hm
  clear hA0 hval0
  refine (walk_FnExactIsWeaker W x0 _ R0 Q0 x1 _ R1 Q1).mono fun e W' ⟨he, bel⟩ => ?_
  subst he
  exact ⟨_, rfl, _, _, _, [], _, [], hW', trodAll_mk1 (shut_bool Try.underlying4 _), (trodAll_cons_mk (Below.trod laid_out (by kernel_rfl) (of_decide_eq_true (by kernel_rfl)) k0 bel lt0) (trodAll_cons_mk (Below.trod laid_out (by kernel_rfl) (of_decide_eq_true (by kernel_rfl)) k1 bel lt1) trodAll_mk0)), rfl, Below.frame bel _, fun h => by cases h⟩
/-- the statement -/
theorem FnExactIsWeaker_holds : Rows.FnExactIsWeakerSaid :=
  OpenClaim.holds_of_wide 14 Try.f14 rfl rfl rfl rfl rfl rfl rfl ⟨rfl, rfl, rfl, rfl, rfl⟩ rfl rfl rfl rfl rfl (by kernel_rfl) Try.func14 (by kernel_rfl)
    (of_decide_eq_true (by kernel_rfl)) (by unfold Func.isWrapper; first | (rw [if_pos (by decide +kernel)]; kernel_rfl) | (rw [if_neg (by decide +kernel)]; exact ⟨rfl, rfl⟩))
    (fun os started H enc _ => lifted_FnExactIsWeaker os started H enc)
end Go.Proofs.Ytjhieohbobfjjaa
