/- For every input, FnExactRewriteLine returns true and leaves its arguments as they were. No condition. -/
import Derived.Test.YtdfmgpmfalnffaaRows
import Derived.Test.YtdfmgpmfalnffaaRew
import Derived.Test.YtdfmgpmfalnffaaWishes3
import Derived.Test.YtdfmgpmfalnffaaOpen
namespace Go.Proofs.Ytdfmgpmfalnffaa
open Go.RowKit Go.ChangeShapes Go.WideShapes Go.ChangeAt
set_option linter.unusedVariables false
theorem rew_wf {x : GRewriting} (h : wfRewriting x) : (Lit.int .i64 x.pos).wf = true := by first | exact h.2.1 | exact h.1 | exact h.2.2
def totRewriting (x : GRewriting) : Nat := totNodes x.after
theorem eqRewriting_dec (x y : GRewriting) : decide (x = y) = (decide (x.rule = y.rule) && (decide (x.pos = y.pos) && decide (x.after = y.after))) := by
  rw [Bool.eq_iff_iff]; simp [GRewriting.eq_iff]
/-- the call returned a rewriting in new memory -/
def RetRewriting (w : World) (x : GRewriting) (e : Ending) (w' : World) : Prop := ∃ v, e = .returned (.agg #[.int .i64 x.rule, .int .i64 x.pos, v]) ∧ Made fNodes w.heap.size x.after w' v ∧ Bw w w'
set_option maxHeartbeats 400000 in
theorem L_szRewriting (w : World) (x : GRewriting) (v : Value) (h : Rd rNodes w x.after [v]) (left : Int) (h0 : 0 ≤ left) (h1 : left ≤ 1048576) :
    Calls Try.prog 15 #[.agg #[.int .i64 x.rule, .int .i64 x.pos, v], .int .i64 left] w (Ret w (.int .i64 (szM left (totRewriting x)))) := by
  obtain ⟨m, hm⟩ : ∃ m, m = totRewriting x := ⟨_, rfl⟩
  have c1 := L_szNodeS _ x.after _ (h.bw rNodes_good ((Bw.refl w).alloc (.cells #[.int .i64 x.rule, .int .i64 x.pos, v] 24))) left h0 h1
  rw [show totNodes x.after = m from hm.symm] at c1
  rw [← hm]
  clear hm
  go_enter Try.func15, Try.ntmps15
  go_wp2_with fail
  refine c1.mono ?_
  rintro e w2 ⟨rfl, hb2⟩
  have B2 := ((Bw.refl w).alloc _).then hb2
  by_cases hs : left < m
  · rw [show szM left m = -1 from if_pos hs]
    go_wp2
    go_ret
    exact Ret.int (if_pos hs).symm B2
  · rw [show szM left m = left - m from if_neg hs]
    go_wp2
    go_ret
    exact Ret.int (if_neg (by omega)).symm B2
set_option maxHeartbeats 400000 in
theorem L_toRewriting (w : World) (x : GRewriting) (v : Value) (h : Rd rNodes w x.after [v]) (hn : totRewriting x ≤ 1048576) :
    Calls Try.prog 17 #[.agg #[.int .i64 x.rule, .int .i64 x.pos, v]] w (RetRewriting w x) := by
  go_enter Try.func17, Try.ntmps17
  go_wp2_with fail
  refine (L_toNodeS _ x.after _ (h.bw rNodes_good ((((Bw.refl w).alloc _).alloc _).alloc _)) hn).mono ?_
  rintro e w2 ⟨v2, rfl, ⟨F, hv, hF⟩, hb2⟩
  have hc := bw_cell hb2
  have hf := bw_frozen hb2
  have hz : w.heap.size + 3 ≤ w2.heap.size := by have := hb2.size; simp at this; omega
  obtain ⟨A, c, rfl, _⟩ := rSl_shape (fNodes_Rd hv)
  have B2 : Bw w w2 := ((((Bw.refl w).alloc _).alloc _).alloc _).then hb2
  go_wp2
  have hFz : ∀ b ∈ F, w.heap.size + 3 ≤ b := fun b hb => by have := hF.ge b hb; simpa using this
  refine bodyPost_ret (v := .agg #[.int .i64 x.rule, .int .i64 x.pos, .slice A x.after.length c]) (by simp [results, Try.results17, go_sem, hc]) rfl ⟨_, rfl, ⟨F, ?_, ⟨hF.nodup, fun b hb => by have := hFz b hb; omega⟩⟩, ?_⟩
  · refine (fNodes_good (B := 0)).step (fun b hb => ?_) hv
    rcases hb with hb | hb
    · have := hFz b hb
      repeat rw [Below.heap_setCell _ _ _ _ (by dsimp only; omega)]
    · omega
  · repeat (first | exact B2 | refine Bw.set ?_ (by dsimp only; omega) _)
set_option maxHeartbeats 400000 in
theorem L_eqRewriting (w : World) (x y : GRewriting) (v1 v2 : Value) (h1 : Rd rNodes w x.after [v1]) (h2 : Rd rNodes w y.after [v2]) :
    Calls Try.prog 19 #[.agg #[.int .i64 x.rule, .int .i64 x.pos, v1], .agg #[.int .i64 y.rule, .int .i64 y.pos, v2]] w (Ret w (.bool (decide (x = y)))) := by
  have B0 : Bw w ((w.alloc (.cells #[.int .i64 x.rule, .int .i64 x.pos, v1] 29)).alloc (.cells #[.int .i64 y.rule, .int .i64 y.pos, v2] 29)) := ((Bw.refl w).alloc _).alloc _
  have c1 := L_eqNodeS _ x.after y.after _ _ (h1.bw rNodes_good B0) (h2.bw rNodes_good B0)
  rw [eqRewriting_dec]
  obtain ⟨d, hd⟩ : ∃ d, d = decide (x.after = y.after) := ⟨_, rfl⟩
  rw [← hd] at c1 ⊢
  clear hd
  by_cases hid : x.rule = y.rule
  · have HD := Lib.hid (show decide (x.rule = y.rule) = true by simpa using hid)
    have hne : (x.rule != y.rule) = false := by simpa using hid
    clear hid
    by_cases hip : x.pos = y.pos
    · have HP := Lib.hid (show decide (x.pos = y.pos) = true by simpa using hip)
      have hnp : (x.pos != y.pos) = false := by simpa using hip
      clear hip
      go_enter Try.func19, Try.ntmps19
      go_wp2_with fail
      refine c1.mono ?_
      rintro e w2 ⟨rfl, hb2⟩
      have B2 := B0.then hb2
      cases d with
      | true =>
        go_wp2
        go_ret
        exact Ret.bool (by rw [HD.out, HP.out]; rfl) B2
      | false =>
        go_wp2
        go_ret
        exact Ret.bool (by simp) B2
    · have HP := Lib.hid (show decide (x.pos = y.pos) = false by simpa using hip)
      have hnp : (x.pos != y.pos) = true := by simpa using hip
      clear hip
      go_enter Try.func19, Try.ntmps19
      go_wp2
      go_ret
      exact Ret.bool (by rw [HP.out]; simp) B0
  · have HD := Lib.hid (show decide (x.rule = y.rule) = false by simpa using hid)
    have hne : (x.rule != y.rule) = true := by simpa using hid
    clear hid
    go_enter Try.func19, Try.ntmps19
    go_wp2
    go_ret
    exact Ret.bool (by rw [HD.out]; rfl) B0
set_option maxRecDepth 100000 in
set_option maxHeartbeats 4000000 in
theorem walk_FnExactRewriteLine (w : World) (x0 : GRewriting) (v0 : Value) (h0 : Rd rNodes w x0.after [v0]) (q0 : wfRewriting x0) :
    Calls Try.prog 3 #[.agg #[.int .i64 x0.rule, .int .i64 x0.pos, v0]] w (Ret w (.bool true)) := by
  go_enter Try.func3, Try.ntmps3
  have B0 : Bw w (w.alloc (.cells #[.int .i64 x0.rule, .int .i64 x0.pos, v0] 24)) := ((Bw.refl w).alloc _)
  have k0_0 : (w.alloc (.cells #[.int .i64 x0.rule, .int .i64 x0.pos, v0] 24)).cell? ⟨w.heap.size, 0, none⟩ = some (.int .i64 x0.rule) := by go_simp
  have k0_1 : (w.alloc (.cells #[.int .i64 x0.rule, .int .i64 x0.pos, v0] 24)).cell? ⟨w.heap.size, 1, none⟩ = some (.int .i64 x0.pos) := by go_simp
  have k0_2 : (w.alloc (.cells #[.int .i64 x0.rule, .int .i64 x0.pos, v0] 24)).cell? ⟨w.heap.size, 2, none⟩ = some (v0) := by go_simp
  go_wp2_with fail
  refine (L_szRewriting _ x0 _ (h0.bw rNodes_good B0) (1048576 : Int) (by omega) (by omega)).mono ?_
  rintro e w1 ⟨rfl, hb1⟩
  have B1 : Bw w _ := B0.then hb1
  replace k0_0 := hb1.cell k0_0
  replace k0_1 := hb1.cell k0_1
  replace k0_2 := hb1.cell k0_2
  by_cases s0 : (1048576 : Int) < ((totRewriting x0 : Nat) : Int)
  · rw [show szM (1048576 : Int) (totRewriting x0) = -1 from if_pos s0]
    go_wp2
    go_ret
    exact Ret.bool rfl B1
  rw [show szM (1048576 : Int) (totRewriting x0) = ((1048576 : Int) - ((totRewriting x0 : Nat) : Int)) from if_neg s0]
  have t0 : totRewriting x0 ≤ 1048576 := by omega
  go_wp2_with fail
  refine (L_toRewriting _ x0 _ (by exact (h0.bw rNodes_good B1)) t0).mono ?_
  rintro e w2 ⟨a0, rfl, ⟨aF0, ao0, af0⟩, hb2⟩
  have B2 : Bw w _ := B1.then hb2
  replace k0_0 := hb2.cell k0_0
  replace k0_1 := hb2.cell k0_1
  replace k0_2 := hb2.cell k0_2
  have ar0 := fNodes_Rd ao0
  go_wp2_with fail
  refine (S_RewriteLine _ x0 _ (by exact ar0) (rew_wf q0)).mono ?_
  rintro e w3 ⟨rfl, hb3⟩
  have B3 : Bw w _ := B2.then hb3
  replace k0_0 := hb3.cell k0_0
  replace k0_1 := hb3.cell k0_1
  replace k0_2 := hb3.cell k0_2
  replace ar0 := ar0.bw rNodes_good hb3
  clear ar0 ao0 af0
  go_wp2_with fail
  refine (L_toRewriting _ x0 _ (by exact (h0.bw rNodes_good B3)) t0).mono ?_
  rintro e w4 ⟨b0, rfl, ⟨bF0, bo0, bf0⟩, hb4⟩
  have B4 : Bw w _ := B3.then hb4
  replace k0_0 := hb4.cell k0_0
  replace k0_1 := hb4.cell k0_1
  replace k0_2 := hb4.cell k0_2
  have br0 := fNodes_Rd bo0
  obtain ⟨Ab0, cb0, rfl, _⟩ := rSl_shape br0
  have hA4 := (Bw.refl w4).alloc (.cells #[.int .i64 x0.rule, .int .i64 x0.pos, .slice Ab0 x0.after.length cb0] 29)
  have B5 : Bw w _ := B4.then hA4
  replace k0_0 := hA4.cell k0_0
  replace k0_1 := hA4.cell k0_1
  replace k0_2 := hA4.cell k0_2
  replace br0 := br0.bw rNodes_good hA4
  have j0_0 : (w4.alloc (.cells #[.int .i64 x0.rule, .int .i64 x0.pos, .slice Ab0 x0.after.length cb0] 29)).cell? ⟨w4.heap.size, 0, none⟩ = some (.int .i64 x0.rule) := by go_simp
  have j0_1 : (w4.alloc (.cells #[.int .i64 x0.rule, .int .i64 x0.pos, .slice Ab0 x0.after.length cb0] 29)).cell? ⟨w4.heap.size, 1, none⟩ = some (.int .i64 x0.pos) := by go_simp
  have j0_2 : (w4.alloc (.cells #[.int .i64 x0.rule, .int .i64 x0.pos, .slice Ab0 x0.after.length cb0] 29)).cell? ⟨w4.heap.size, 2, none⟩ = some (.slice Ab0 x0.after.length cb0) := by go_simp
  go_wp2_with fail
  refine (I_RewriteLine _ x0 _ (by exact br0) (rew_wf q0)).mono ?_
  rintro e w5 ⟨rfl, hb5⟩
  have B6 : Bw w _ := B5.then hb5
  replace k0_0 := hb5.cell k0_0
  replace k0_1 := hb5.cell k0_1
  replace k0_2 := hb5.cell k0_2
  replace j0_0 := hb5.cell j0_0
  replace j0_1 := hb5.cell j0_1
  replace j0_2 := hb5.cell j0_2
  replace br0 := br0.bw rNodes_good hb5
  go_wp2_with fail
  have B7 : Bw w w5.drew := B6.drew
  replace k0_0 : w5.drew.cell? ⟨w.heap.size, 0, none⟩ = some (.int .i64 x0.rule) := k0_0
  replace k0_1 : w5.drew.cell? ⟨w.heap.size, 1, none⟩ = some (.int .i64 x0.pos) := k0_1
  replace k0_2 : w5.drew.cell? ⟨w.heap.size, 2, none⟩ = some (v0) := k0_2
  replace j0_0 : w5.drew.cell? ⟨w4.heap.size, 0, none⟩ = some (.int .i64 x0.rule) := j0_0
  replace j0_1 : w5.drew.cell? ⟨w4.heap.size, 1, none⟩ = some (.int .i64 x0.pos) := j0_1
  replace j0_2 : w5.drew.cell? ⟨w4.heap.size, 2, none⟩ = some (.slice Ab0 x0.after.length cb0) := j0_2
  replace br0 := br0.bw rNodes_good (Bw.refl w5).drew
  go_region_held3 (fun w' => w'.cell? ⟨w.heap.size, 0, none⟩ = some (.int .i64 x0.rule) ∧ w'.cell? ⟨w.heap.size, 1, none⟩ = some (.int .i64 x0.pos) ∧ w'.cell? ⟨w.heap.size, 2, none⟩ = some (v0) ∧ w'.cell? ⟨w4.heap.size, 0, none⟩ = some (.int .i64 x0.rule) ∧ w'.cell? ⟨w4.heap.size, 1, none⟩ = some (.int .i64 x0.pos) ∧ w'.cell? ⟨w4.heap.size, 2, none⟩ = some (.slice Ab0 x0.after.length cb0)) (first | go_keep | exact ⟨k0_0, k0_1, k0_2, j0_0, j0_1, j0_2⟩)
    (first
      | (go_at_call 17; refine (L_toRewriting _ x0 _ (by exact (h0.bw rNodes_good B7)) t0).mono ?_; rintro e w6 ⟨c0, rfl, ⟨cF0, co0, cf0⟩, hb6⟩; have B8 : Bw w _ := B7.then hb6; replace k0_0 := hb6.cell k0_0; replace k0_1 := hb6.cell k0_1; replace k0_2 := hb6.cell k0_2; replace j0_0 := hb6.cell j0_0; replace j0_1 := hb6.cell j0_1; replace j0_2 := hb6.cell j0_2; replace br0 := br0.bw rNodes_good hb6; have cr0 := fNodes_Rd co0)
      | (go_at_call 19; refine (L_eqRewriting _ x0 x0 _ _ (by exact br0) (by exact cr0)).mono ?_; rintro e w7 ⟨rfl, hb7⟩; have B9 : Bw w _ := B8.then hb7; replace k0_0 := hb7.cell k0_0; replace k0_1 := hb7.cell k0_1; replace k0_2 := hb7.cell k0_2; replace j0_0 := hb7.cell j0_0; replace j0_1 := hb7.cell j0_1; replace j0_2 := hb7.cell j0_2; replace br0 := br0.bw rNodes_good hb7; replace cr0 := cr0.bw rNodes_good hb7))
  go_wp2
  go_ret
  exact Ret.bool rfl B9
set_option maxRecDepth 100000 in
theorem lifted_FnExactRewriteLine (os : Os) (started : os.Started) (H : Type) (enc : TypeId × Value → H) :
    ReturnsInHanded {} Try.checked os 3 .any (Rows.fnExactRewriteLineSpec.pre6 enc Try.prog Try.f3 Rows.fnExactRewriteLineRow.domain false) (Rows.fnExactRewriteLineSpec.post enc Try.prog Try.f3 false true false false) := by
  refine returnsInHanded_of_change (C := Try.checked) own_knob started (by kernel_rfl) Try.func3
    (ChangeSpec.witness6 (enc := enc) (C := Try.checked) false ⟨#[], #[.agg #[.int .i64 0, .int .i64 0, .slice none 0 0]], []⟩ 8 (by kernel_rfl) (by kernel_rfl) (by kernel_rfl) (by kernel_rfl)) ?_
  intro W base args ds gs before hval0 hW hcnd _
  have hval : ∀ (j : Nat) t v, Try.f3.params[j]? = some t → args[j]? = some v → Value.okWide Try.prog W .any base t v := hval0
  have hW' := hW
  obtain ⟨p, q, hA0, hV, rfl, hfz, hnd⟩ := hW
  have hA : DataW.TrodAll enc Try.prog W 0 (fun _ => true) true Try.f3.params.toList args.toList ds p := hA0
  rw [Try.params3] at hA hval
  obtain ⟨v0, vs0, d0, ds0, p0, q0, hargs, rfl, rfl, h0, r0⟩ := trodAll_cons hA
  obtain ⟨rfl, rfl, rfl⟩ := trodAll_nil r0
  obtain rfl : args = #[v0] := by cases args; simp_all
  obtain ⟨rfl, rfl⟩ := trodVars_none hV
  have k0 := h0
  have lt0 : ∀ x ∈ p0, x.block < W.heap.size := by obtain ⟨m, hm⟩ := k0; exact DataW.trod_lt m _ _ _ hm
  obtain ⟨cs0, rfl, hsz0⟩ := okWide_struct Try.underlying24 (hval 0 24 v0 rfl rfl)
  obtain ⟨x0, R0, Q0⟩ : ∃ xs, Rd rRewriting W xs cs0.toList ∧ wfRewriting xs := by obtain ⟨m, hm⟩ := h0; exact t_rewriting hm
  obtain ⟨u0, e0, R0⟩ := R0
  obtain rfl : cs0 = #[.int .i64 x0.rule, .int .i64 x0.pos, u0] := Array.toList_inj.1 e0
  clear hA0 hval0
  refine (walk_FnExactRewriteLine W x0 _ R0 Q0).mono fun e W' ⟨he, bel⟩ => ?_
  subst he
  exact ⟨_, rfl, _, _, _, [], _, [], hW', trodAll_mk1 (shut_bool Try.underlying4 _), (trodAll_cons_mk (Below.trod laid_out (by kernel_rfl) (of_decide_eq_true (by kernel_rfl)) k0 bel lt0) trodAll_mk0), rfl, Below.frame bel _, fun h => by cases h⟩
/-- the statement -/
theorem FnExactRewriteLine_holds : Rows.FnExactRewriteLineSaid :=
  OpenClaim.holds_of_wide 3 Try.f3 rfl rfl rfl rfl rfl rfl rfl ⟨rfl, rfl, rfl, rfl, rfl⟩ rfl rfl rfl rfl rfl (by kernel_rfl) Try.func3 (by kernel_rfl)
    (of_decide_eq_true (by kernel_rfl)) (by unfold Func.isWrapper; first | (rw [if_pos (by decide +kernel)]; kernel_rfl) | (rw [if_neg (by decide +kernel)]; exact ⟨rfl, rfl⟩))
    (fun os started H enc _ => lifted_FnExactRewriteLine os started H enc)
end Go.Proofs.Ytdfmgpmfalnffaa
