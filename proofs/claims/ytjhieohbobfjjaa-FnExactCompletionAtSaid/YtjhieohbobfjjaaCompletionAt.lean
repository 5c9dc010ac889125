/- For every input, FnExactCompletionAt returns true and leaves its arguments as they were. No condition. -/
import Derived.Test.YtjhieohbobfjjaaRows
import Derived.Test.YtjhieohbobfjjaaCompl
import Derived.Test.YtjhieohbobfjjaaMarks2
import Derived.Test.YtjhieohbobfjjaaOpen
namespace Go.Proofs.Ytjhieohbobfjjaa
open Go.RowKit Go.ChangeShapes Go.WideShapes Go.ChangeAt
set_option linter.unusedVariables false
theorem tot_compl {xs : List GItem} {n : Int} (h : totItems xs ≤ 1048576) : totItems (complAt xs n) ≤ 1048576 := by
  unfold complAt
  split
  · rw [tot_fill]; exact h
  · simp [totItems, sumL]
set_option maxRecDepth 100000 in
set_option maxHeartbeats 6000000 in
theorem walk_FnExactCompletionAt (w : World) (x0 : List GItem) (v0 : Value) (h0 : Rd rItems w x0 [v0]) (q0 : ∀ x ∈ x0, wfItem x) (x1 : Int) (q1 : (Lit.int .i64 x1).wf = true) :
    Calls Try.prog 11 #[v0, .int .i64 x1] w (Ret w (.bool true)) := by
  go_enter Try.func11, Try.ntmps11
  go_wp2_with fail
  refine (L_szItemS _ x0 _ (h0.bw rItems_good (Bw.refl w)) (1048576 : Int) (by omega) (by omega)).mono ?_
  rintro e w1 ⟨rfl, hb1⟩
  have B1 : Bw w _ := (Bw.refl w).then hb1
  by_cases s0 : (1048576 : Int) < ((totItems x0 : Nat) : Int)
  · rw [show szM (1048576 : Int) (totItems x0) = -1 from if_pos s0]
    go_wp2
    go_ret
    exact Ret.bool rfl B1
  rw [show szM (1048576 : Int) (totItems x0) = ((1048576 : Int) - ((totItems x0 : Nat) : Int)) from if_neg s0]
  have t0 : totItems x0 ≤ 1048576 := by omega
  go_wp2_with fail
  refine (L_toItemS _ x0 _ (by exact (h0.bw rItems_good B1)) t0).mono ?_
  rintro e w2 ⟨a0, rfl, ⟨aF0, ao0, af0⟩, hb2⟩
  have B2 : Bw w _ := B1.then hb2
  have ar0 := fItems_Rd ao0
  go_wp2_with fail
  refine (S_CompletionAt _ x0 x1 _ (by exact ar0) t0).mono ?_
  rintro e w3 ⟨vW, rfl, ⟨FW, oW, fW⟩, hb3⟩
  have B3 : Bw w _ := B2.then hb3
  replace ar0 := ar0.bw rItems_good hb3
  obtain ⟨Y, hY⟩ : ∃ Y, Y = complAt x0 x1 := ⟨_, rfl⟩
  have tY : totItems Y ≤ 1048576 := by rw [hY]; exact tot_compl t0
  rw [← hY] at oW
  have rW := fItems_Rd oW
  have k0 := h0.bw rItems_good B3
  have HY := Lib.hid hY
  clear hY oW fW ar0 ao0 af0
  go_wp2_with fail
  refine (L_toItemS _ x0 _ (k0.bw rItems_good (Bw.refl w3)) t0).mono ?_
  rintro e w4 ⟨b0, rfl, ⟨bF0, bo0, bf0⟩, hb4⟩
  have C1 : Bw w3 _ := (Bw.refl w3).then hb4
  replace bf0 := bf0.mono (Bw.refl w3).size
  have lt0_G := (fItems_good (B := 0)).lt bo0
  go_wp2_with fail
  refine (I_CompletionAt _ x0 x1 _ (by exact fItems_Rd bo0) t0).mono ?_
  rintro e w5 ⟨vG, rfl, ⟨FG, oG, fG⟩, hb5⟩
  have C2 : Bw w3 _ := C1.then hb5
  replace bo0 := (fItems_good (B := w3.heap.size)).bw hb5 C1.size bo0
  have hd0_G : ∀ b ∈ FG, b ∉ bF0 := fun b hb hb2 => by have := fG.ge b hb; have := lt0_G b hb2; omega
  replace fG := fG.mono C1.size
  rw [← HY.out] at oG
  go_wp2_with fail
  refine (L_eqItemS _ Y Y _ _ (fItems_Rd oG) (rW.bw rItems_good C2)).mono ?_
  rintro e w6 ⟨rfl, hb6⟩
  have C3 : Bw w3 _ := C2.then hb6
  replace bo0 := (fItems_good (B := w3.heap.size)).bw hb6 C2.size bo0
  replace oG := (fItems_good (B := w3.heap.size)).bw hb6 C2.size oG
  rw [show decide (Y = Y) = true from by simp]
  go_wp2_with fail
  refine (L_toItemS _ x0 _ (k0.bw rItems_good C3) t0).mono ?_
  rintro e w7 ⟨c0, rfl, ⟨cF0, co0, cf0⟩, hb7⟩
  have C4 : Bw w3 _ := C3.then hb7
  replace bo0 := (fItems_good (B := w3.heap.size)).bw hb7 C3.size bo0
  replace oG := (fItems_good (B := w3.heap.size)).bw hb7 C3.size oG
  replace cf0 := cf0.mono C3.size
  go_wp2_with fail
  refine (L_eqItemS _ x0 x0 _ _ (fItems_Rd bo0) (fItems_Rd co0)).mono ?_
  rintro e w8 ⟨rfl, hb8⟩
  have C5 : Bw w3 _ := C4.then hb8
  replace bo0 := (fItems_good (B := w3.heap.size)).bw hb8 C4.size bo0
  replace oG := (fItems_good (B := w3.heap.size)).bw hb8 C4.size oG
  rw [show decide (x0 = x0) = true from by simp]
  clear co0 cf0
  have hm9 := fun (W : World) (o : _) (c : Bw w3 W) => L_markItemS w3 W x0 b0 bF0 1 o bf0 c (by omega) (by omega)
  obtain ⟨T0, hT0⟩ : ∃ T0, T0 = 1 + totItems x0 := ⟨_, rfl⟩
  rw [← hT0] at hm9
  have HT0 := Lib.hid hT0
  clear hT0
  go_wp2_with fail
  refine (hm9 _ bo0 C5).mono ?_
  rintro e w9 ⟨rfl, nw9, hO9, C6⟩
  replace oG := hO9.keeps (fItems_good (B := 0)) oG hd0_G
  replace bo0 := nw9
  clear hm9 nw9 hO9
  clear bo0
  go_wp2_with fail
  refine (L_eqItemS _ Y Y _ _ (fItems_Rd oG) (rW.bw rItems_good C6)).mono ?_
  rintro e w10 ⟨rfl, hb10⟩
  have C7 : Bw w3 _ := C6.then hb10
  replace oG := (fItems_good (B := w3.heap.size)).bw hb10 C6.size oG
  rw [show decide (Y = Y) = true from by simp]
  have hm11 := fun (W : World) (o : _) (c : Bw w3 W) => L_markItemS w3 W Y vG FG 1 o fG c (by omega) (by omega)
  obtain ⟨TM, hTM⟩ : ∃ TM, TM = 1 + totItems Y := ⟨_, rfl⟩
  rw [← hTM] at hm11
  have HTM := Lib.hid hTM
  clear hTM
  go_wp2_with fail
  refine (hm11 _ oG C7).mono ?_
  rintro e w11 ⟨rfl, nw11, hO11, C8⟩
  replace oG := nw11
  clear hm11 nw11 hO11
  have hh11 := fun (W : World) (o : _) => L_heldItemS W Y vG 1 o (by omega) (by omega)
  rw [← HTM.out] at hh11
  go_wp2_with fail
  refine (hh11 _ (fItems_Rd oG)).mono ?_
  rintro e w12 ⟨rfl, hb12⟩
  have C9 : Bw w3 _ := C8.then hb12
  replace oG := (fItems_good (B := w3.heap.size)).bw hb12 C8.size oG
  clear hh11
  go_wp2_with fail
  refine (L_toItemS _ x0 _ (k0.bw rItems_good C9) t0).mono ?_
  rintro e w13 ⟨d0, rfl, ⟨dF0, do0, df0⟩, hb13⟩
  have C10 : Bw w3 _ := C9.then hb13
  replace oG := (fItems_good (B := w3.heap.size)).bw hb13 C9.size oG
  replace df0 := df0.mono C9.size
  go_wp2_with fail
  refine (I_CompletionAt _ x0 x1 _ (by exact fItems_Rd do0) t0).mono ?_
  rintro e w14 ⟨vH, rfl, ⟨FH, oH, fH⟩, hb14⟩
  have C11 : Bw w3 _ := C10.then hb14
  replace oG := (fItems_good (B := w3.heap.size)).bw hb14 C10.size oG
  rw [← HY.out] at oH
  clear do0 df0
  go_wp2_with fail
  refine (L_eqItemS _ Y Y _ _ (fItems_Rd oH) (rW.bw rItems_good C11)).mono ?_
  rintro e w15 ⟨rfl, hb15⟩
  have C12 : Bw w3 _ := C11.then hb15
  replace oG := (fItems_good (B := w3.heap.size)).bw hb15 C11.size oG
  rw [show decide (Y = Y) = true from by simp]
  have hh15 := fun (W : World) (o : _) => L_heldItemS W Y vG 1 o (by omega) (by omega)
  rw [← HTM.out] at hh15
  go_wp2_with fail
  refine (hh15 _ (fItems_Rd oG)).mono ?_
  rintro e w16 ⟨rfl, hb16⟩
  have C13 : Bw w3 _ := C12.then hb16
  replace oG := (fItems_good (B := w3.heap.size)).bw hb16 C12.size oG
  clear hh15
  go_wp2
  go_ret
  exact Ret.bool rfl (B3.then C13)
set_option maxRecDepth 100000 in
theorem lifted_FnExactCompletionAt (os : Os) (started : os.Started) (H : Type) (enc : TypeId × Value → H) :
    ReturnsInHanded {} Try.checked os 11 .any (Rows.fnExactCompletionAtSpec.pre6 enc Try.prog Try.f11 Rows.fnExactCompletionAtRow.domain false) (Rows.fnExactCompletionAtSpec.post enc Try.prog Try.f11 false true false false) := by
  refine returnsInHanded_of_change (C := Try.checked) own_knob started (by kernel_rfl) Try.func11
    (ChangeSpec.witness6 (enc := enc) (C := Try.checked) false ⟨#[], #[.slice none 0 0, .int .i64 0], []⟩ 8 (by kernel_rfl) (by kernel_rfl) (by kernel_rfl) (by kernel_rfl)) ?_
  intro W base args ds gs before hval0 hW hcnd _
  have hval : ∀ (j : Nat) t v, Try.f11.params[j]? = some t → args[j]? = some v → Value.okWide Try.prog W .any base t v := hval0
  have hW' := hW
  obtain ⟨p, q, hA0, hV, rfl, hfz, hnd⟩ := hW
  have hA : DataW.TrodAll enc Try.prog W 0 (fun _ => true) true Try.f11.params.toList args.toList ds p := hA0
  rw [Try.params11] at hA hval
  obtain ⟨v0, vs0, d0, ds0, p0, q0, hargs, rfl, rfl, h0, r0⟩ := trodAll_cons hA
  obtain ⟨v1, vs1, d1, ds1, p1, q1, rfl, rfl, rfl, h1, r1⟩ := trodAll_cons r0
  obtain ⟨rfl, rfl, rfl⟩ := trodAll_nil r1
  obtain rfl : args = #[v0, v1] := by cases args; simp_all
  obtain ⟨rfl, rfl⟩ := trodVars_none hV
  have k0 := h0
  have lt0 : ∀ x ∈ p0, x.block < W.heap.size := by obtain ⟨m, hm⟩ := k0; exact DataW.trod_lt m _ _ _ hm
  obtain ⟨a0, len0, cap0, rfl⟩ := okWide_slice Try.underlying45 (hval 0 45 v0 rfl rfl)
  obtain ⟨x0, R0, Q0⟩ : ∃ xs, Rd rItems W xs [.slice a0 len0 cap0] ∧ ∀ x ∈ xs, wfItem x := by obtain ⟨m, hm⟩ := h0; exact t_items hm
  obtain ⟨x1, rfl, rfl, rfl, Q1⟩ := open_int Try.underlying3 (hval 1 3 v1 rfl rfl) h1
  clear hA0 hval0
  refine (walk_FnExactCompletionAt W x0 _ R0 Q0 x1 Q1).mono fun e W' ⟨he, bel⟩ => ?_
  subst he
  exact ⟨_, rfl, _, _, _, [], _, [], hW', trodAll_mk1 (shut_bool Try.underlying4 _), (trodAll_cons_mk (Below.trod laid_out (by kernel_rfl) (of_decide_eq_true (by kernel_rfl)) k0 bel lt0) (trodAll_cons_mk (shut_int Try.underlying3 Q1) trodAll_mk0)), rfl, Below.frame bel _, fun h => by cases h⟩
/-- the statement -/
theorem FnExactCompletionAt_holds : Rows.FnExactCompletionAtSaid :=
  OpenClaim.holds_of_wide 11 Try.f11 rfl rfl rfl rfl rfl rfl rfl ⟨rfl, rfl, rfl, rfl, rfl⟩ rfl rfl rfl rfl rfl (by kernel_rfl) Try.func11 (by kernel_rfl)
    (of_decide_eq_true (by kernel_rfl)) (by unfold Func.isWrapper; first | (rw [if_pos (by decide +kernel)]; kernel_rfl) | (rw [if_neg (by decide +kernel)]; exact ⟨rfl, rfl⟩))
    (fun os started H enc _ => lifted_FnExactCompletionAt os started H enc)
end Go.Proofs.Ytjhieohbobfjjaa
