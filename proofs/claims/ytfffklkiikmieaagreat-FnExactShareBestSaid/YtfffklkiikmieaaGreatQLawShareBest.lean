/- For every input, FnExactShareBest returns true and leaves its arguments as they were. No condition. -/
import Derived.Test.YtfffklkiikmieaaGreatRows
import Derived.Test.YtfffklkiikmieaaGreatQShareW
import Derived.Test.YtfffklkiikmieaaGreatQMarkSS
import Derived.Test.YtfffklkiikmieaaGreatQWishes3
import Derived.Test.YtfffklkiikmieaaGreatQOpen
namespace Go.Proofs.YtfffklkiikmieaaGreat
open Go.RowKit Go.ChangeShapes Go.WideShapes Go.ChangeAt
set_option linter.unusedVariables false
theorem sumL_small {α : Type} (f : α → Nat) (m : Nat) : ∀ {xs : List α}, (∀ x ∈ xs, f x ≤ m) → sumL f xs ≤ m * xs.length
  | [], _ => by simp [sumL]
  | x :: xs, h => by
    have h1 := sumL_small f m (xs := xs) (fun y hy => h y (by simp [hy]))
    have h2 := h x (by simp)
    simp only [sumL, List.length_cons, Nat.mul_add]; omega
theorem share_tot (l : List GItem) (g : List (List GNode)) : totIntss (shareL l g) ≤ 1048576 := by
  rcases Bool.eq_false_or_eq_true (isPoll l g) with hP | hP
  · rw [(share_yes hP).1]
    have h1 := outsTo_len l g g.length
    have h2 := sumL_small (fun x : List Int => x.length) 16 (xs := outsTo l g g.length) (fun x hx => Nat.le_trans (outsTo_small l g _ x hx) (areItems_len (isPoll_items hP)))
    have h3 := (areVoters_len (isPoll_voters hP)).2
    unfold totIntss
    rw [h1] at h2 ⊢
    omega
  · rw [(share_no hP).1]; decide
set_option maxRecDepth 100000 in
set_option maxHeartbeats 6000000 in
theorem walk_FnExactShareBest (w : World) (x0 : List GItem) (v0 : Value) (h0 : Rd rItems w x0 [v0]) (q0 : ∀ x ∈ x0, wfItem x) (x1 : List (List GNode)) (v1 : Value) (h1 : Rd rNodess w x1 [v1]) (q1 : ∀ x ∈ x1, ∀ y ∈ x, wfNode y) :
    Calls Tryz.prog 3 #[v0, v1] w (Ret w (.bool true)) := by
  go_enter Tryz.func3, Tryz.ntmps3
  go_wp2_with fail
  refine (L_szItemS _ x0 _ (h0.bw rItems_good (Bw.refl w)) (1048576 : Int) (by omega) (by omega)).mono ?_
  rintro e w1 ⟨rfl, hb1⟩
  have B1 : Bw w _ := (Bw.refl w).then hb1
  by_cases s0 : (1048576 : Int) < ((totItems x0 : Nat) : Int)
  · rw [show szM (1048576 : Int) (totItems x0) = -1 from if_pos s0]
    go_wp2
    go_ret
    exact Ret.bool rfl B1
  rw [show szM (1048576 : Int) (totItems x0) = ((1048576 : Int) - ((totItems x0 : Nat) : Int)) from if_neg s0]
  have t0 : totItems x0 ≤ 1048576 := by omega
  go_wp2_with fail
  refine (L_szNodeSS _ x1 _ (h1.bw rNodess_good B1) ((1048576 : Int) - ((totItems x0 : Nat) : Int)) (by omega) (by omega)).mono ?_
  rintro e w2 ⟨rfl, hb2⟩
  have B2 : Bw w _ := B1.then hb2
  by_cases s1 : ((1048576 : Int) - ((totItems x0 : Nat) : Int)) < ((totNodess x1 : Nat) : Int)
  · rw [show szM ((1048576 : Int) - ((totItems x0 : Nat) : Int)) (totNodess x1) = -1 from if_pos s1]
    go_wp2
    go_ret
    exact Ret.bool rfl B2
  rw [show szM ((1048576 : Int) - ((totItems x0 : Nat) : Int)) (totNodess x1) = (((1048576 : Int) - ((totItems x0 : Nat) : Int)) - ((totNodess x1 : Nat) : Int)) from if_neg s1]
  have t1 : totNodess x1 ≤ 1048576 := by omega
  go_wp2_with fail
  refine (L_toItemS _ x0 _ (by exact (h0.bw rItems_good B2)) t0).mono ?_
  rintro e w3 ⟨a0, rfl, ⟨aF0, ao0, af0⟩, hb3⟩
  have B3 : Bw w _ := B2.then hb3
  have ar0 := fItems_Rd ao0
  go_wp2_with fail
  refine (L_toNodeSS _ x1 _ (by exact (h1.bw rNodess_good B3)) t1).mono ?_
  rintro e w4 ⟨a1, rfl, ⟨aF1, ao1, af1⟩, hb4⟩
  have B4 : Bw w _ := B3.then hb4
  replace ar0 := ar0.bw rItems_good hb4
  have ar1 := fNodess_Rd ao1
  go_wp2_with fail
  refine (S_ShareBest _ x0 x1 _ _ (by exact ar0) (by exact ar1)).mono ?_
  rintro e w5 ⟨_, rfl, ⟨vW, rfl, ⟨FW, oW, fW⟩⟩, hb5⟩
  have B5 : Bw w _ := B4.then hb5
  replace ar0 := ar0.bw rItems_good hb5
  replace ar1 := ar1.bw rNodess_good hb5
  obtain ⟨Z0, hZ0⟩ : ∃ Z, Z = shareW x0 x1 := ⟨_, rfl⟩
  rw [← hZ0]
  have HZ0 := Lib.hid hZ0
  clear hZ0
  obtain ⟨Y, hY⟩ : ∃ Y, Y = shareL x0 x1 := ⟨_, rfl⟩
  have nY : totIntss Y ≤ 1048576 := by rw [hY]; exact share_tot x0 x1
  have mY := markIntss_le Y
  have tY : markIntss Y ≤ 1048576 := by omega
  rw [← hY] at oW
  have rW := fIntss_Rd oW
  have k0 := h0.bw rItems_good B5
  have k1 := h1.bw rNodess_good B5
  have HY := Lib.hid hY
  clear hY oW fW ar0 ao0 af0 ar1 ao1 af1
  go_wp2_with fail
  refine (L_toItemS _ x0 _ (by exact (k0.bw rItems_good (Bw.refl w5))) t0).mono ?_
  rintro e w6 ⟨b0, rfl, ⟨bF0, bo0, bf0⟩, hb6⟩
  have C1 : Bw w5 _ := (Bw.refl w5).then hb6
  replace bf0 := bf0.mono (Bw.refl w5).size
  have lt0_1 := (fItems_good (B := 0)).lt bo0
  go_wp2_with fail
  refine (L_toNodeSS _ x1 _ (by exact (k1.bw rNodess_good C1)) t1).mono ?_
  rintro e w7 ⟨b1, rfl, ⟨bF1, bo1, bf1⟩, hb7⟩
  have C2 : Bw w5 _ := C1.then hb7
  replace bo0 := (fItems_good (B := w5.heap.size)).bw hb7 C1.size bo0
  have hd0_1 : ∀ b ∈ bF1, b ∉ bF0 := fun b hb hb2 => by have := bf1.ge b hb; have := lt0_1 b hb2; omega
  replace bf1 := bf1.mono C1.size
  have lt0_G := (fItems_good (B := 0)).lt bo0
  have lt1_G := (fNodess_good (B := 0)).lt bo1
  go_wp2_with fail
  refine (I_ShareBest _ x0 x1 _ _ (by exact fItems_Rd bo0) (by exact fNodess_Rd bo1)).mono ?_
  rintro e w8 ⟨_, rfl, ⟨vG, rfl, ⟨FG, oG, fG⟩⟩, hb8⟩
  have C3 : Bw w5 _ := C2.then hb8
  replace bo0 := (fItems_good (B := w5.heap.size)).bw hb8 C2.size bo0
  replace bo1 := (fNodess_good (B := w5.heap.size)).bw hb8 C2.size bo1
  rw [← HZ0.out]
  have hd0_G : ∀ b ∈ FG, b ∉ bF0 := fun b hb hb2 => by have := fG.ge b hb; have := lt0_G b hb2; omega
  have hd1_G : ∀ b ∈ FG, b ∉ bF1 := fun b hb hb2 => by have := fG.ge b hb; have := lt1_G b hb2; omega
  replace fG := fG.mono C2.size
  rw [← HY.out] at oG
  go_wp2_with fail
  refine (L_eqIntSS _ Y Y _ _ (fIntss_Rd oG) (rW.bw rIntss_good C3)).mono ?_
  rintro e w9 ⟨rfl, hb9⟩
  have C4 : Bw w5 _ := C3.then hb9
  replace bo0 := (fItems_good (B := w5.heap.size)).bw hb9 C3.size bo0
  replace bo1 := (fNodess_good (B := w5.heap.size)).bw hb9 C3.size bo1
  replace oG := (fIntss_good (B := w5.heap.size)).bw hb9 C3.size oG
  rw [show decide (Y = Y) = true from by simp]
  go_wp2_with fail
  refine (L_toItemS _ x0 _ (by exact (k0.bw rItems_good C4)) t0).mono ?_
  rintro e w10 ⟨c0, rfl, ⟨cF0, co0, cf0⟩, hb10⟩
  have C5 : Bw w5 _ := C4.then hb10
  replace bo0 := (fItems_good (B := w5.heap.size)).bw hb10 C4.size bo0
  replace bo1 := (fNodess_good (B := w5.heap.size)).bw hb10 C4.size bo1
  replace oG := (fIntss_good (B := w5.heap.size)).bw hb10 C4.size oG
  go_wp2_with fail
  refine (L_eqItemS _ x0 x0 _ _ (fItems_Rd bo0) (fItems_Rd co0)).mono ?_
  rintro e w11 ⟨rfl, hb11⟩
  have C6 : Bw w5 _ := C5.then hb11
  replace bo0 := (fItems_good (B := w5.heap.size)).bw hb11 C5.size bo0
  replace bo1 := (fNodess_good (B := w5.heap.size)).bw hb11 C5.size bo1
  replace oG := (fIntss_good (B := w5.heap.size)).bw hb11 C5.size oG
  rw [show decide (x0 = x0) = true from by simp]
  clear co0 cf0
  go_wp2_with fail
  refine (L_toNodeSS _ x1 _ (by exact (k1.bw rNodess_good C6)) t1).mono ?_
  rintro e w12 ⟨c1, rfl, ⟨cF1, co1, cf1⟩, hb12⟩
  have C7 : Bw w5 _ := C6.then hb12
  replace bo0 := (fItems_good (B := w5.heap.size)).bw hb12 C6.size bo0
  replace bo1 := (fNodess_good (B := w5.heap.size)).bw hb12 C6.size bo1
  replace oG := (fIntss_good (B := w5.heap.size)).bw hb12 C6.size oG
  go_wp2_with fail
  refine (L_eqNodeSS _ x1 x1 _ _ (fNodess_Rd bo1) (fNodess_Rd co1)).mono ?_
  rintro e w13 ⟨rfl, hb13⟩
  have C8 : Bw w5 _ := C7.then hb13
  replace bo0 := (fItems_good (B := w5.heap.size)).bw hb13 C7.size bo0
  replace bo1 := (fNodess_good (B := w5.heap.size)).bw hb13 C7.size bo1
  replace oG := (fIntss_good (B := w5.heap.size)).bw hb13 C7.size oG
  rw [show decide (x1 = x1) = true from by simp]
  clear co1 cf1
  have hm14 := fun (W : World) (o : _) (c : Bw w5 W) => L_markItemS w5 W x0 b0 bF0 1 o bf0 c (by omega) (by omega)
  obtain ⟨T0, hT0⟩ : ∃ T0, T0 = 1 + totItems x0 := ⟨_, rfl⟩
  rw [← hT0] at hm14
  have BT0 : T0 ≤ 1048577 := by omega
  have HT0 := Lib.hid hT0
  clear hT0
  go_wp2_with fail
  refine (hm14 _ bo0 C8).mono ?_
  rintro e w14 ⟨rfl, nw14, hO14, C9⟩
  replace bo1 := hO14.keeps (fNodess_good (B := 0)) bo1 hd0_1
  replace oG := hO14.keeps (fIntss_good (B := 0)) oG hd0_G
  replace bo0 := nw14
  clear hm14 nw14 hO14
  clear bo0
  have mt1 := markNodess_le x1
  have hm15 := fun (W : World) (o : _) (c : Bw w5 W) => L_markNodeSSA w5 W x1 b1 bF1 T0 o bf1 c (by omega) (by have := HT0.out; omega)
  obtain ⟨T1, hT1⟩ : ∃ T1, T1 = T0 + markNodess x1 := ⟨_, rfl⟩
  rw [← hT1] at hm15
  have BT1 : T1 ≤ 4194305 := by have := HT0.out; omega
  have HT1 := Lib.hid hT1
  clear hT1
  go_wp2_with fail
  refine (hm15 _ bo1 C9).mono ?_
  rintro e w15 ⟨rfl, nw15, hO15, C10⟩
  replace oG := hO15.keeps (fIntss_good (B := 0)) oG hd1_G
  replace bo1 := nw15
  clear hm15 nw15 hO15
  clear bo1
  go_wp2_with fail
  refine (L_eqIntSS _ Y Y _ _ (fIntss_Rd oG) (rW.bw rIntss_good C10)).mono ?_
  rintro e w16 ⟨rfl, hb16⟩
  have C11 : Bw w5 _ := C10.then hb16
  replace oG := (fIntss_good (B := w5.heap.size)).bw hb16 C10.size oG
  rw [show decide (Y = Y) = true from by simp]
  have hm17 := fun (W : World) (o : _) (c : Bw w5 W) => L_markIntSSA w5 W Y vG FG 1 o fG c (by omega) (by omega)
  obtain ⟨TM, hTM⟩ : ∃ TM, TM = 1 + markIntss Y := ⟨_, rfl⟩
  rw [← hTM] at hm17
  have BTM : TM ≤ 1048577 := by omega
  have HTM := Lib.hid hTM
  clear hTM
  go_wp2_with fail
  refine (hm17 _ oG C11).mono ?_
  rintro e w17 ⟨rfl, nw17, hO17, C12⟩
  replace oG := nw17
  clear hm17 nw17 hO17
  have hh17 := fun (W : World) (o : _) => L_heldIntSSA W Y vG 1 o (by omega) (by omega)
  rw [← HTM.out] at hh17
  go_wp2_with fail
  refine (hh17 _ (fIntss_Rd oG)).mono ?_
  rintro e w18 ⟨rfl, hb18⟩
  have C13 : Bw w5 _ := C12.then hb18
  replace oG := (fIntss_good (B := w5.heap.size)).bw hb18 C12.size oG
  clear hh17
  go_wp2_with fail
  refine (L_toItemS _ x0 _ (by exact (k0.bw rItems_good C13)) t0).mono ?_
  rintro e w19 ⟨d0, rfl, ⟨dF0, do0, df0⟩, hb19⟩
  have C14 : Bw w5 _ := C13.then hb19
  replace oG := (fIntss_good (B := w5.heap.size)).bw hb19 C13.size oG
  go_wp2_with fail
  refine (L_toNodeSS _ x1 _ (by exact (k1.bw rNodess_good C14)) t1).mono ?_
  rintro e w20 ⟨d1, rfl, ⟨dF1, do1, df1⟩, hb20⟩
  have C15 : Bw w5 _ := C14.then hb20
  replace oG := (fIntss_good (B := w5.heap.size)).bw hb20 C14.size oG
  replace do0 := (fItems_good (B := w5.heap.size)).bw hb20 C14.size do0
  go_wp2_with fail
  refine (I_ShareBest _ x0 x1 _ _ (by exact fItems_Rd do0) (by exact fNodess_Rd do1)).mono ?_
  rintro e w21 ⟨_, rfl, ⟨vH, rfl, ⟨FH, oH, fH⟩⟩, hb21⟩
  have C16 : Bw w5 _ := C15.then hb21
  replace oG := (fIntss_good (B := w5.heap.size)).bw hb21 C15.size oG
  replace do0 := (fItems_good (B := w5.heap.size)).bw hb21 C15.size do0
  replace do1 := (fNodess_good (B := w5.heap.size)).bw hb21 C15.size do1
  rw [← HZ0.out]
  rw [← HY.out] at oH
  clear do0 df0
  clear do1 df1
  go_wp2_with fail
  refine (L_eqIntSS _ Y Y _ _ (fIntss_Rd oH) (rW.bw rIntss_good C16)).mono ?_
  rintro e w22 ⟨rfl, hb22⟩
  have C17 : Bw w5 _ := C16.then hb22
  replace oG := (fIntss_good (B := w5.heap.size)).bw hb22 C16.size oG
  rw [show decide (Y = Y) = true from by simp]
  have hh22 := fun (W : World) (o : _) => L_heldIntSSA W Y vG 1 o (by omega) (by omega)
  rw [← HTM.out] at hh22
  go_wp2_with fail
  refine (hh22 _ (fIntss_Rd oG)).mono ?_
  rintro e w23 ⟨rfl, hb23⟩
  have C18 : Bw w5 _ := C17.then hb23
  replace oG := (fIntss_good (B := w5.heap.size)).bw hb23 C17.size oG
  clear hh22
  go_wp2
  go_ret
  exact Ret.bool rfl (B5.then C18)
set_option maxRecDepth 100000 in
theorem lifted_FnExactShareBest (os : Os) (started : os.Started) (H : Type) (enc : TypeId × Value → H) :
    ReturnsInHanded {} Tryz.checked os 3 .any (Rows.fnExactShareBestSpec.pre6 enc Tryz.prog Tryz.f3 Rows.fnExactShareBestRow.domain false) (Rows.fnExactShareBestSpec.post enc Tryz.prog Tryz.f3 false true false false) := by
  refine returnsInHanded_of_change (C := Tryz.checked) own_knob started (by kernel_rfl) Tryz.func3
    (ChangeSpec.witness6 (enc := enc) (C := Tryz.checked) false ⟨#[], #[.slice none 0 0, .slice none 0 0], []⟩ 8 (by kernel_rfl) (by kernel_rfl) (by kernel_rfl) (by kernel_rfl)) ?_
  intro W base args ds gs before hval0 hW hcnd _
  have hval : ∀ (j : Nat) t v, Tryz.f3.params[j]? = some t → args[j]? = some v → Value.okWide Tryz.prog W .any base t v := hval0
  have hW' := hW
  obtain ⟨p, q, hA0, hV, rfl, hfz, hnd⟩ := hW
  have hA : DataW.TrodAll enc Tryz.prog W 0 (fun _ => true) true Tryz.f3.params.toList args.toList ds p := hA0
  rw [Tryz.params3] at hA hval
  obtain ⟨v0, vs0, d0, ds0, p0, q0, hargs, rfl, rfl, h0, r0⟩ := trodAll_cons hA
  obtain ⟨v1, vs1, d1, ds1, p1, q1, rfl, rfl, rfl, h1, r1⟩ := trodAll_cons r0
  obtain ⟨rfl, rfl, rfl⟩ := trodAll_nil r1
  obtain rfl : args = #[v0, v1] := by cases args; simp_all
  obtain ⟨rfl, rfl⟩ := trodVars_none hV
  have k0 := h0
  have lt0 : ∀ x ∈ p0, x.block < W.heap.size := by obtain ⟨m, hm⟩ := k0; exact DataW.trod_lt m _ _ _ hm
  obtain ⟨a0, len0, cap0, rfl⟩ := okWide_slice Tryz.underlying22 (hval 0 22 v0 rfl rfl)
  obtain ⟨x0, R0, Q0⟩ : ∃ xs, Rd rItems W xs [.slice a0 len0 cap0] ∧ ∀ x ∈ xs, wfItem x := by obtain ⟨m, hm⟩ := h0; exact t_items hm
  have k1 := h1
  have lt1 : ∀ x ∈ p1, x.block < W.heap.size := by obtain ⟨m, hm⟩ := k1; exact DataW.trod_lt m _ _ _ hm
  obtain ⟨a1, len1, cap1, rfl⟩ := okWide_slice Tryz.underlying23 (hval 1 23 v1 rfl rfl)
  obtain ⟨x1, R1, Q1⟩ : ∃ xs, Rd rNodess W xs [.slice a1 len1 cap1] ∧ ∀ x ∈ xs, ∀ y ∈ x, wfNode y := by obtain ⟨m, hm⟩ := h1; exact t_nodess hm
  clear hA0 hval0
  refine (walk_FnExactShareBest W x0 _ R0 Q0 x1 _ R1 Q1).mono fun e W' ⟨he, bel⟩ => ?_
  subst he
  exact ⟨_, rfl, _, _, _, [], _, [], hW', trodAll_mk1 (shut_bool Tryz.underlying4 _), (trodAll_cons_mk (Below.trod laid_out (by kernel_rfl) (of_decide_eq_true (by kernel_rfl)) k0 bel lt0) (trodAll_cons_mk (Below.trod laid_out (by kernel_rfl) (of_decide_eq_true (by kernel_rfl)) k1 bel lt1) trodAll_mk0)), rfl, Below.frame bel _, fun h => by cases h⟩
/-- the statement -/
theorem FnExactShareBest_holds : Rows.FnExactShareBestSaid :=
  OpenClaim.holds_of_wide 3 Tryz.f3 rfl rfl rfl rfl rfl rfl rfl ⟨rfl, rfl, rfl, rfl, rfl⟩ rfl rfl rfl rfl rfl (by kernel_rfl) Tryz.func3 (by kernel_rfl)
    (of_decide_eq_true (by kernel_rfl)) (by unfold Func.isWrapper; first | (rw [if_pos (by decide +kernel)]; kernel_rfl) | (rw [if_neg (by decide +kernel)]; exact ⟨rfl, rfl⟩))
    (fun os started H enc _ => lifted_FnExactShareBest os started H enc)
end Go.Proofs.YtfffklkiikmieaaGreat
