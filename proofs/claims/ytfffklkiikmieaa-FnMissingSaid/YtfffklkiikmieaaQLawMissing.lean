/- For every input, FnMissing returns true and leaves its argument as it was. No condition. -/
import Derived.Test.YtfffklkiikmieaaRows
import Derived.Test.YtfffklkiikmieaaQLawH
import Derived.Test.YtfffklkiikmieaaQDrawL
import Derived.Test.YtfffklkiikmieaaQMissP
import Derived.Test.YtfffklkiikmieaaQMissI2
import Derived.Test.YtfffklkiikmieaaQEqLists
import Derived.Test.YtfffklkiikmieaaQVoteD
import Derived.Test.YtfffklkiikmieaaQOpenB
namespace Go.Proofs.Ytfffklkiikmieaa
open Go.RowKit Go.ChangeShapes Go.WideShapes Go.ChangeAt
set_option linter.unusedVariables false
set_option linter.unusedSimpArgs false
/-- a comparison of a list with itself -/
theorem Ret.same {w : World} {α : Type} [DecidableEq α] {x : α} {e : Ending} {w' : World} (h : Ret w (.bool (decide (x = x))) e w') : Ret w (.bool true) e w' := by
  have e : decide (x = x) = true := decide_eq_true rfl
  rwa [e] at h
theorem gItems_tot {n : Nat} {xs : List GItem} (hn : n ≤ 16) (h : gItems n xs) : totItems xs ≤ 1048576 := by
  have h2 := sum_le (fun x : GItem => x.vals.length) 4 (l := xs) (fun x hx => (h.2 x hx).2.1)
  have h1 := h.1
  unfold totItems; omega
set_option maxRecDepth 100000 in
set_option maxHeartbeats 6400000 in
theorem walk_FnMissing (w : World) (x0 : List Int) (v : Value) (h0 : Rd rBytes w x0 [v]) (q0 : wfBytes x0) : Calls Try.prog 10 #[v] w (Ret w (.bool true)) := by
  have hcall := L_big w x0 v h0
  go_enter Try.func10, Try.ntmps10
  go_wp2_with fail
  refine hcall.mono ?_
  rintro e w1 ⟨rfl, hb1⟩
  clear hcall
  by_cases hbig : 1048576 < x0.length
  · have e1 : decide (1048576 < x0.length) = true := decide_eq_true hbig
    rw [e1]
    clear e1
    go_wp2
    go_ret
    exact ⟨rfl, hb1⟩
  · have e1 : decide (1048576 < x0.length) = false := decide_eq_false hbig
    rw [e1]
    clear e1
    have hcall := D_DrawPossibleBest w1 x0 v (h0.bw rBytes_good hb1) q0
    go_wp2_with fail
    refine hcall.mono ?_
    rintro e w2 ⟨va, vb, rfl, ⟨l, hl, gl⟩, ⟨q, hq, gq⟩, hb2⟩
    clear hcall
    have B2 := hb1.then hb2
    have ht := gItems_tot (by omega) gl
    have hcall := I_PossibleBest w2 l q va vb hl hq ht
    go_wp2_with fail
    refine hcall.mono ?_
    rintro e w3 ⟨v3, rfl, ⟨F3, o3, f3⟩, hb3⟩
    clear hcall
    have r3 := fInts_Rd o3
    have hcall := I_CertainBest w3 l q va vb (hl.bw rItems_good hb3) (hq.bw rNodes_good hb3) ht
    go_wp2_with fail
    refine hcall.mono ?_
    rintro e w4 ⟨v4, rfl, ⟨F4, o4, f4⟩, hb4⟩
    clear hcall
    have r4 := fInts_Rd o4
    have h24 := hb3.then hb4
    have hcall := S_PossibleBest w4 l q va vb (hl.bw rItems_good h24) (hq.bw rNodes_good h24) ht
    go_wp2_with fail
    refine hcall.mono ?_
    rintro e w5 ⟨v5, rfl, ⟨F5, o5, f5⟩, hb5⟩
    clear hcall
    have r5 := fInts_Rd o5
    have p5 := (r3.bw rInts_good hb4).bw rInts_good hb5
    have c5 := r4.bw rInts_good hb5
    have h25 := h24.then hb5
    have k5 := (L_sameInts w5 _ _ _ _ p5 r5).mono fun _ _ h => Ret.same h
    have hcall := k5
    go_wp2_with fail
    refine hcall.mono ?_
    rintro e w6 ⟨rfl, hb6⟩
    clear hcall
    have h26 := h25.then hb6
    have hcall := S_CertainBest w6 l q va vb (hl.bw rItems_good h26) (hq.bw rNodes_good h26) ht
    go_wp2_with fail
    refine hcall.mono ?_
    rintro e w7 ⟨v7, rfl, ⟨F7, o7, f7⟩, hb7⟩
    clear hcall
    have r7 := fInts_Rd o7
    have h57 := hb6.then hb7
    have h27 := h25.then h57
    have k7 := (L_sameInts w7 _ _ _ _ (c5.bw rInts_good h57) r7).mono fun _ _ h => Ret.same h
    have hcall := k7
    go_wp2_with fail
    refine hcall.mono ?_
    rintro e w8 ⟨rfl, hb8⟩
    clear hcall
    have h58 := h57.then hb8
    have h28 := h25.then h58
    have k8 := L_subset w8 _ _ _ _ (c5.bw rInts_good h58) (p5.bw rInts_good h58)
    have e8 : subsetM (certM l q) (possM l q) = true := subset_of (fun x hx => cert_poss hx)
    rw [e8] at k8
    clear e8
    have hcall := k8
    go_wp2_with fail
    refine hcall.mono ?_
    rintro e w9 ⟨rfl, hb9⟩
    clear hcall
    have h59 := h58.then hb9
    have h29 := h25.then h59
    obtain ⟨ip, hip⟩ : ∃ ip, ip = isPartial l := ⟨_, rfl⟩
    obtain ⟨c, hc⟩ : ∃ c, c = cntN l := ⟨_, rfl⟩
    have HC := Lib.hid hc
    have hc64 : c ≤ 64 := by rw [hc]; exact cntN_le l
    have HIP := Lib.hid hip
    clear hc hip
    have k9 := I_IsPartial w9 l va (hl.bw rItems_good h29) ht
    rw [← HIP.out] at k9
    have hcall := k9
    go_wp2_with fail
    refine hcall.mono ?_
    rintro e w10 ⟨rfl, hb10⟩
    clear hcall
    have h210 := h29.then hb10
    have k10 := S_IsPartial w10 l va (hl.bw rItems_good h210) ht
    rw [← HIP.out] at k10
    have gip : (ip != ip) = false := by simp
    have hcall := k10
    go_wp2_with fail
    refine hcall.mono ?_
    rintro e w11 ⟨rfl, hb11⟩
    clear hcall
    have h211 := h210.then hb11
    have k11 := I_CountCompletions w11 l va (hl.bw rItems_good h211) ht
    rw [cntN_eq, ← HC.out] at k11
    have hcall := k11
    go_wp2_with fail
    refine hcall.mono ?_
    rintro e w12 ⟨rfl, hb12⟩
    clear hcall
    have h212 := h211.then hb12
    have k12 := S_CountCompletions w12 l va (hl.bw rItems_good h212) ht
    rw [cntN_eq, ← HC.out] at k12
    have gcc : ((c : Int) != (c : Int)) = false := by simp
    have hcall := k12
    go_wp2_with fail
    refine hcall.mono ?_
    rintro e w13 ⟨rfl, hb13⟩
    clear hcall
    have h213 := h212.then hb13
    have k13 := I_CountCompletions w13 l va (hl.bw rItems_good h213) ht
    rw [cntN_eq, ← HC.out] at k13
    have hcall := k13
    go_wp2_with fail
    refine hcall.mono ?_
    rintro e w14 ⟨rfl, hb14⟩
    clear hcall
    have h214 := h213.then hb14
    have h514 := (((h59.then hb10).then hb11).then hb12).then (hb13.then hb14)
    have p14 := p5.bw rInts_good h514
    have c14 := c5.bw rInts_good h514
    have B14 := B2.then h214
    clear k5 k7 k8 k9 k10 k11 k12 k13 o3 o4 o5 o7 f3 f4 f5 f7 r3 r4 r5 r7 p5 c5 h24 h25 h26 h27 h28 h29 h210 h211 h212 h213 h57 h58 h59 h514 gip gcc
    by_cases hc0 : 0 < c
    · have ic0 : (c : Int) > 0 := by omega
      have ic1 : (c : Int) ≠ 0 := by omega
      have hcall := S_IsExpression w14 q vb (hq.bw rNodes_good h214)
      go_wp2_with fail
      refine hcall.mono ?_
      rintro e w15 ⟨rfl, hb15⟩
      clear hcall
      have h215 := h214.then hb15
      rcases Bool.eq_false_or_eq_true (isExpr q) with cq | cq
      · have HQ := Lib.hid cq
        rw [cq]
        clear cq
        have B15 := B14.then hb15
        have hA := atM_nat q0 0
        obtain ⟨av, hav⟩ : ∃ av : Nat, atM x0 0 = (av : Int) := ⟨(atM x0 0).toNat, by omega⟩
        have k15 := L_at w15 x0 0 v (h0.bw rBytes_good B15) q0 (by omega) (by omega)
        rw [hav] at k15
        have hav255 : av ≤ 255 := by omega
        clear hav hA
        have hcall := k15
        go_wp2_with fail
        refine hcall.mono ?_
        rintro e w16 ⟨rfl, hb16⟩
        clear hcall
        have h216 := h215.then hb16
        have hm : av % c < c := Nat.mod_lt _ hc0
        have key : ∀ X : Int, X = ((av % c : Nat) : Int) → Calls Try.prog 73 #[va, .int .i64 X] w16 (RetV w16 (Made fItems w16.heap.size (fillM l ((av % c : Nat) : Int)))) := by
          intro X hX
          subst hX
          have := I_CompletionAt w16 l ((av % c : Nat) : Int) va (hl.bw rItems_good h216) ht
          rwa [compl_fill (by rw [← HC.out]; exact hm)] at this
        have HM := Lib.hid (show av % c < cntN l by rw [← HC.out]; exact hm)
        obtain ⟨mm, hmm⟩ : ∃ mm, mm = av % c := ⟨_, rfl⟩
        rw [← hmm] at key HM
        have HMM := Lib.hid hmm
        clear hm hmm
        go_wp2_with fail
        refine (key _ ?_).mono ?_
        · have := HMM.out
          first
            | (rw [this]; rfl)
            | (rw [this]; simp; done)
            | (rw [Int.tmod_eq_emod_of_nonneg (by omega), this]; omega)
        rintro e w17 ⟨v17, rfl, ⟨F17, o17, f17⟩, hb17⟩
        have r17 := fItems_Rd o17
        have h217 := h216.then hb17
        have hare : areItems (fillM l (mm : Int)) = true := fill_are (cntN_pos (show 0 < cntN l by rw [← HC.out]; exact hc0)) mm
        have k17 := S_BestItems w17 (fillM l (mm : Int)) q v17 vb r17 (hq.bw rNodes_good h217)
        have ebm : bestItems (fillM l (mm : Int)) q = bestM (fillM l (mm : Int)) q := by unfold bestItems areBoth; rw [hare, HQ.out]; rfl
        rw [ebm] at k17
        have HARE := Lib.hid hare
        clear key ebm hare o17 f17
        have hcall := k17
        go_wp2_with fail
        refine hcall.mono ?_
        rintro e w18 ⟨v18, rfl, ⟨F18, o18, f18⟩, hb18⟩
        clear hcall
        have r18 := fInts_Rd o18
        have h1418 := ((hb15.then hb16).then hb17).then hb18
        have k18 := L_subset w18 _ _ _ _ (c14.bw rInts_good h1418) r18
        have e18 : subsetM (certM l q) (bestM (fillM l (mm : Int)) q) = true := subset_of (fun x hx => cert_best HM.out hx)
        rw [e18] at k18
        clear e18 k17
        have hcall := k18
        go_wp2_with fail
        refine hcall.mono ?_
        rintro e w19 ⟨rfl, hb19⟩
        clear hcall
        have h1419 := h1418.then hb19
        have k19 := L_subset w19 _ _ _ _ (r18.bw rInts_good hb19) (p14.bw rInts_good h1419)
        have e19 : subsetM (bestM (fillM l (mm : Int)) q) (possM l q) = true := subset_of (fun x hx => best_poss HQ.out HM.out hx)
        rw [e19] at k19
        clear e19 k18
        have hcall := k19
        go_wp2_with fail
        refine hcall.mono ?_
        rintro e w20 ⟨rfl, hb20⟩
        clear hcall
        have k20 := S_AreItems w20 (fillM l (mm : Int)) v17 (r17.bw rItems_good ((hb18.then hb19).then hb20))
        rw [HARE.out] at k20
        have hcall := k20
        go_wp2_with fail
        refine hcall.mono ?_
        rintro e w21 ⟨rfl, hb21⟩
        clear hcall
        have h1421 := (h1419.then hb20).then hb21
        have B21 := B14.then h1421
        have h221 := h214.then h1421
        have p21 := p14.bw rInts_good h1421
        have c21 := c14.bw rInts_good h1421
        clear k19 k20 r17 r18 o18 f18 p14 c14 hb17 hb18 hb19 hb20 hb21 h1418 h1419
        have hcall := D_DrawCompletionAt w21 x0 v (h0.bw rBytes_good (B21)) q0
        go_wp2_with fail
        refine hcall.mono ?_
        rintro e w40 ⟨vy, ky, rfl, ⟨ys, hys, gys⟩, hky, hb40⟩
        clear hcall
        have hty := gItems_tot (by omega) gys
        have k40 := I_CompletionAt w40 ys ky vy hys hty
        go_wp2_with fail
        refine k40.mono ?_
        rintro e w41 ⟨v41, rfl, ⟨F41, o41, f41⟩, hb41⟩
        have r41 := fItems_Rd o41
        have k41 := S_CompletionAt w41 ys ky vy (hys.bw rItems_good hb41) hty
        clear k40
        go_wp2_with fail
        refine k41.mono ?_
        rintro e w42 ⟨v42, rfl, ⟨F42, o42, f42⟩, hb42⟩
        have r42 := fItems_Rd o42
        clear k41
        have k42 := (S_EqualItems w42 _ _ _ _ (r41.bw rItems_good hb42) r42).mono fun _ _ h => Ret.same h
        go_wp2_with fail
        refine k42.mono ?_
        rintro e w43 ⟨rfl, hb43⟩
        clear k42
        have h43 := ((hb40.then hb41).then hb42).then hb43
        have k43 := I_HolesOf w43 l va (hl.bw rItems_good ((h221).then h43)) ht
        go_wp2_with fail
        refine k43.mono ?_
        rintro e w44 ⟨v44, rfl, ⟨F44, o44, f44⟩, hb44⟩
        obtain ⟨A44, c44, rfl, _⟩ := rSl_shape (fIntss_Rd o44)
        have h44 := h43.then hb44
        have k44 := S_HolesOf w44 l va (hl.bw rItems_good ((h221).then h44)) ht
        clear k43
        obtain ⟨hn, hhn⟩ : ∃ hn, hn = (holes l).length := ⟨_, rfl⟩
        rw [← hhn]
        have HHN := Lib.hid hhn
        clear hhn
        go_wp2_with fail
        refine k44.mono ?_
        rintro e w45 ⟨v45, rfl, ⟨F45, o45, f45⟩, hb45⟩
        obtain ⟨A45, c45, rfl, _⟩ := rSl_shape (fIntss_Rd o45)
        have h45 := h44.then hb45
        have B45 := (B21).then h45
        rw [← HHN.out]
        clear k44 o44 o45 f44 f45 o41 o42 f41 f42 r41 r42
        have ehh : ((hn : Int) == (hn : Int)) = true := by simp
        by_cases hc1 : c = 1
        · have HC1 := Lib.hid hc1
          have e1c : ((c : Int) != 1) = false := by simp; omega
          have k46 := S_IsExpression w45 q vb (hq.bw rNodes_good ((h221).then h45))
          clear hc1
          go_wp2_with fail
          refine k46.mono ?_
          rintro e w46 ⟨rfl, hb46⟩
          clear k46
          rcases Bool.eq_false_or_eq_true (isExpr q) with eq | eq
          · rw [eq]
            clear eq
            have hh := h45.then hb46
            have k47 := L_sameInts w46 _ _ _ _ ((p21).bw rInts_good hh) ((c21).bw rInts_good hh)
            have epc : decide (possM l q = certM l q) = true := decide_eq_true (poss_cert q (by rw [← HC.out]; exact HC1.out))
            rw [epc] at k47
            clear epc
            go_wp2_with fail
            refine k47.mono ?_
            rintro e w47 ⟨rfl, hb47⟩
            go_wp2
            go_ret
            exact ⟨rfl, (B45.then hb46).then hb47⟩
          · rw [eq]
            clear eq
            go_wp2
            go_ret
            exact ⟨rfl, B45.then hb46⟩
        · have e1c : ((c : Int) != 1) = true := by simp; omega
          clear hc1
          go_wp2
          go_ret
          exact ⟨rfl, B45⟩
      · rw [cq]
        clear cq
        have B15 := B14.then hb15
        have p15 := p14.bw rInts_good hb15
        have c15 := c14.bw rInts_good hb15
        have hcall := D_DrawCompletionAt w15 x0 v (h0.bw rBytes_good (B15)) q0
        go_wp2_with fail
        refine hcall.mono ?_
        rintro e w40 ⟨vy, ky, rfl, ⟨ys, hys, gys⟩, hky, hb40⟩
        clear hcall
        have hty := gItems_tot (by omega) gys
        have k40 := I_CompletionAt w40 ys ky vy hys hty
        go_wp2_with fail
        refine k40.mono ?_
        rintro e w41 ⟨v41, rfl, ⟨F41, o41, f41⟩, hb41⟩
        have r41 := fItems_Rd o41
        have k41 := S_CompletionAt w41 ys ky vy (hys.bw rItems_good hb41) hty
        clear k40
        go_wp2_with fail
        refine k41.mono ?_
        rintro e w42 ⟨v42, rfl, ⟨F42, o42, f42⟩, hb42⟩
        have r42 := fItems_Rd o42
        clear k41
        have k42 := (S_EqualItems w42 _ _ _ _ (r41.bw rItems_good hb42) r42).mono fun _ _ h => Ret.same h
        go_wp2_with fail
        refine k42.mono ?_
        rintro e w43 ⟨rfl, hb43⟩
        clear k42
        have h43 := ((hb40.then hb41).then hb42).then hb43
        have k43 := I_HolesOf w43 l va (hl.bw rItems_good ((h215).then h43)) ht
        go_wp2_with fail
        refine k43.mono ?_
        rintro e w44 ⟨v44, rfl, ⟨F44, o44, f44⟩, hb44⟩
        obtain ⟨A44, c44, rfl, _⟩ := rSl_shape (fIntss_Rd o44)
        have h44 := h43.then hb44
        have k44 := S_HolesOf w44 l va (hl.bw rItems_good ((h215).then h44)) ht
        clear k43
        obtain ⟨hn, hhn⟩ : ∃ hn, hn = (holes l).length := ⟨_, rfl⟩
        rw [← hhn]
        have HHN := Lib.hid hhn
        clear hhn
        go_wp2_with fail
        refine k44.mono ?_
        rintro e w45 ⟨v45, rfl, ⟨F45, o45, f45⟩, hb45⟩
        obtain ⟨A45, c45, rfl, _⟩ := rSl_shape (fIntss_Rd o45)
        have h45 := h44.then hb45
        have B45 := (B15).then h45
        rw [← HHN.out]
        clear k44 o44 o45 f44 f45 o41 o42 f41 f42 r41 r42
        have ehh : ((hn : Int) == (hn : Int)) = true := by simp
        by_cases hc1 : c = 1
        · have HC1 := Lib.hid hc1
          have e1c : ((c : Int) != 1) = false := by simp; omega
          have k46 := S_IsExpression w45 q vb (hq.bw rNodes_good ((h215).then h45))
          clear hc1
          go_wp2_with fail
          refine k46.mono ?_
          rintro e w46 ⟨rfl, hb46⟩
          clear k46
          rcases Bool.eq_false_or_eq_true (isExpr q) with eq | eq
          · rw [eq]
            clear eq
            have hh := h45.then hb46
            have k47 := L_sameInts w46 _ _ _ _ ((p15).bw rInts_good hh) ((c15).bw rInts_good hh)
            have epc : decide (possM l q = certM l q) = true := decide_eq_true (poss_cert q (by rw [← HC.out]; exact HC1.out))
            rw [epc] at k47
            clear epc
            go_wp2_with fail
            refine k47.mono ?_
            rintro e w47 ⟨rfl, hb47⟩
            go_wp2
            go_ret
            exact ⟨rfl, (B45.then hb46).then hb47⟩
          · rw [eq]
            clear eq
            go_wp2
            go_ret
            exact ⟨rfl, B45.then hb46⟩
        · have e1c : ((c : Int) != 1) = true := by simp; omega
          clear hc1
          go_wp2
          go_ret
          exact ⟨rfl, B45⟩
    · have ic0 : ¬ (c : Int) > 0 := by omega
      clear hc0
      have hcall := D_DrawCompletionAt w14 x0 v (h0.bw rBytes_good (B14)) q0
      go_wp2_with fail
      refine hcall.mono ?_
      rintro e w40 ⟨vy, ky, rfl, ⟨ys, hys, gys⟩, hky, hb40⟩
      clear hcall
      have hty := gItems_tot (by omega) gys
      have k40 := I_CompletionAt w40 ys ky vy hys hty
      go_wp2_with fail
      refine k40.mono ?_
      rintro e w41 ⟨v41, rfl, ⟨F41, o41, f41⟩, hb41⟩
      have r41 := fItems_Rd o41
      have k41 := S_CompletionAt w41 ys ky vy (hys.bw rItems_good hb41) hty
      clear k40
      go_wp2_with fail
      refine k41.mono ?_
      rintro e w42 ⟨v42, rfl, ⟨F42, o42, f42⟩, hb42⟩
      have r42 := fItems_Rd o42
      clear k41
      have k42 := (S_EqualItems w42 _ _ _ _ (r41.bw rItems_good hb42) r42).mono fun _ _ h => Ret.same h
      go_wp2_with fail
      refine k42.mono ?_
      rintro e w43 ⟨rfl, hb43⟩
      clear k42
      have h43 := ((hb40.then hb41).then hb42).then hb43
      have k43 := I_HolesOf w43 l va (hl.bw rItems_good ((h214).then h43)) ht
      go_wp2_with fail
      refine k43.mono ?_
      rintro e w44 ⟨v44, rfl, ⟨F44, o44, f44⟩, hb44⟩
      obtain ⟨A44, c44, rfl, _⟩ := rSl_shape (fIntss_Rd o44)
      have h44 := h43.then hb44
      have k44 := S_HolesOf w44 l va (hl.bw rItems_good ((h214).then h44)) ht
      clear k43
      obtain ⟨hn, hhn⟩ : ∃ hn, hn = (holes l).length := ⟨_, rfl⟩
      rw [← hhn]
      have HHN := Lib.hid hhn
      clear hhn
      go_wp2_with fail
      refine k44.mono ?_
      rintro e w45 ⟨v45, rfl, ⟨F45, o45, f45⟩, hb45⟩
      obtain ⟨A45, c45, rfl, _⟩ := rSl_shape (fIntss_Rd o45)
      have h45 := h44.then hb45
      have B45 := (B14).then h45
      rw [← HHN.out]
      clear k44 o44 o45 f44 f45 o41 o42 f41 f42 r41 r42
      have ehh : ((hn : Int) == (hn : Int)) = true := by simp
      by_cases hc1 : c = 1
      · have HC1 := Lib.hid hc1
        have e1c : ((c : Int) != 1) = false := by simp; omega
        have k46 := S_IsExpression w45 q vb (hq.bw rNodes_good ((h214).then h45))
        clear hc1
        go_wp2_with fail
        refine k46.mono ?_
        rintro e w46 ⟨rfl, hb46⟩
        clear k46
        rcases Bool.eq_false_or_eq_true (isExpr q) with eq | eq
        · rw [eq]
          clear eq
          have hh := h45.then hb46
          have k47 := L_sameInts w46 _ _ _ _ ((p14).bw rInts_good hh) ((c14).bw rInts_good hh)
          have epc : decide (possM l q = certM l q) = true := decide_eq_true (poss_cert q (by rw [← HC.out]; exact HC1.out))
          rw [epc] at k47
          clear epc
          go_wp2_with fail
          refine k47.mono ?_
          rintro e w47 ⟨rfl, hb47⟩
          go_wp2
          go_ret
          exact ⟨rfl, (B45.then hb46).then hb47⟩
        · rw [eq]
          clear eq
          go_wp2
          go_ret
          exact ⟨rfl, B45.then hb46⟩
      · have e1c : ((c : Int) != 1) = true := by simp; omega
        clear hc1
        go_wp2
        go_ret
        exact ⟨rfl, B45⟩
set_option maxRecDepth 100000 in
theorem lifted_FnMissing (os : Os) (started : os.Started) (H : Type) (enc : TypeId × Value → H) :
    ReturnsInHanded {} Try.checked os 10 .any (Rows.fnMissingSpec.pre6 enc Try.prog Try.f10 Rows.fnMissingRow.domain false) (Rows.fnMissingSpec.post enc Try.prog Try.f10 false true false false) := by
  refine returnsInHanded_of_change (C := Try.checked) own_knob started (by kernel_rfl) Try.func10
    (ChangeSpec.witness6 (enc := enc) (C := Try.checked) false ⟨#[], #[.slice none 0 0], []⟩ 8 (by kernel_rfl) (by kernel_rfl) (by kernel_rfl) (by kernel_rfl)) ?_
  intro W base args ds gs before hval0 hW hcnd _
  have hval : ∀ (j : Nat) t v, Try.f10.params[j]? = some t → args[j]? = some v → Value.okWide Try.prog W .any base t v := hval0
  have hW' := hW
  obtain ⟨p, q, hA0, hV, rfl, hfz, hnd⟩ := hW
  have hA : DataW.TrodAll enc Try.prog W 0 (fun _ => true) true Try.f10.params.toList args.toList ds p := hA0
  rw [Try.params10] at hA hval
  obtain ⟨v0, vs0, d0, ds0, p0, q0, hargs, rfl, rfl, h0, r0⟩ := trodAll_cons hA
  obtain ⟨rfl, rfl, rfl⟩ := trodAll_nil r0
  obtain rfl : args = #[v0] := by cases args; simp_all
  obtain ⟨rfl, rfl⟩ := trodVars_none hV
  have k0 := h0
  have lt0 : ∀ x ∈ p0, x.block < W.heap.size := by obtain ⟨m, hm⟩ := k0; exact DataW.trod_lt m _ _ _ hm
  obtain ⟨a0, len0, cap0, rfl⟩ := okWide_slice Try.underlying61 (hval 0 61 v0 rfl rfl)
  obtain ⟨x0, R0, Q0⟩ : ∃ xs, Rd rBytes W xs [.slice a0 len0 cap0] ∧ wfBytes xs := by obtain ⟨m, hm⟩ := h0; exact t_bytes hm
  clear hA0 hval0
  refine (walk_FnMissing W x0 _ R0 Q0).mono fun e W' ⟨he, bel⟩ => ?_
  subst he
  exact ⟨_, rfl, _, _, _, [], _, [], hW', trodAll_mk1 (shut_bool Try.underlying4 _), (trodAll_cons_mk (Below.trod laid_out (by kernel_rfl) (of_decide_eq_true (by kernel_rfl)) k0 bel lt0) trodAll_mk0), rfl, Below.frame bel _, fun h => by cases h⟩
/-- the statement -/
theorem FnMissing_holds : Rows.FnMissingSaid :=
  OpenClaim.holds_of_wide 10 Try.f10 rfl rfl rfl rfl rfl rfl rfl ⟨rfl, rfl, rfl, rfl, rfl⟩ rfl rfl rfl rfl rfl (by kernel_rfl) Try.func10 (by kernel_rfl)
    (of_decide_eq_true (by kernel_rfl)) (by unfold Func.isWrapper; first | (rw [if_pos (by decide +kernel)]; kernel_rfl) | (rw [if_neg (by decide +kernel)]; exact ⟨rfl, rfl⟩))
    (fun os started H enc _ => lifted_FnMissing os started H enc)
end Go.Proofs.Ytfffklkiikmieaa
