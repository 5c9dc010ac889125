/- For every input, FnJoins returns true and leaves its argument as it was. No condition. -/
import Derived.Test.YtfffklkiikmieaaRows
import Derived.Test.YtfffklkiikmieaaQLawH
import Derived.Test.YtfffklkiikmieaaQDrawL
import Derived.Test.YtfffklkiikmieaaQOpenB
namespace Go.Proofs.Ytfffklkiikmieaa
open Go.RowKit Go.ChangeShapes Go.WideShapes Go.ChangeAt
set_option linter.unusedVariables false
set_option linter.unusedSimpArgs false
/-- a comparison of a list with itself -/
theorem Ret.same {w : World} {α : Type} [DecidableEq α] {x : α} {e : Ending} {w' : World} (h : Ret w (.bool (decide (x = x))) e w') : Ret w (.bool true) e w' := by
  have e : decide (x = x) = true := decide_eq_true rfl
  rwa [e] at h
set_option maxRecDepth 100000 in
set_option maxHeartbeats 6400000 in
theorem walk_FnJoins (w : World) (x0 : List Int) (v : Value) (h0 : Rd rBytes w x0 [v]) (q0 : wfBytes x0) : Calls Try.prog 9 #[v] w (Ret w (.bool true)) := by
  have hcall := L_big w x0 v h0
  go_enter Try.func9, Try.ntmps9
  go_wp2_with fail
  refine hcall.mono ?_
  rintro e w1 ⟨rfl, hb1⟩
  clear hcall
  by_cases hbig : 1048576 < x0.length
  · have e1 : decide (1048576 < x0.length) = true := decide_eq_true hbig
    rw [e1]
    clear e1
    go_wp2
    go_ret
    exact ⟨rfl, hb1⟩
  · have e1 : decide (1048576 < x0.length) = false := decide_eq_false hbig
    rw [e1]
    clear e1
    have hcall := D_DrawFastCouples w1 x0 v (h0.bw rBytes_good hb1) q0
    go_wp2_with fail
    refine hcall.mono ?_
    rintro e w2 ⟨va, vb, f, g, vp, vq, rfl, ⟨a, ha, _⟩, ⟨b, hb, _⟩, ⟨p, hp, _⟩, ⟨q, hq, _⟩, hf, hg, hb2⟩
    clear hcall
    have B2 := hb1.then hb2
    obtain ⟨C, hC⟩ : ∃ C, C = bestCoup a b f g p q := ⟨_, rfl⟩
    obtain ⟨N, hN⟩ : ∃ N, N = fastN a b f g p q := ⟨_, rfl⟩
    obtain ⟨D, hD⟩ : ∃ D, D = couples a b f g := ⟨_, rfl⟩
    have HC := Lib.hid hC
    have HN := Lib.hid hN
    have HD := Lib.hid hD
    clear hC hN hD
    have k1 := I_FastCouples w2 a b f g p q va vb vp vq ha hb hp hq
    rw [fast_best, ← HC.out, ← HN.out] at k1
    have hcall := k1
    go_wp2_with fail
    refine hcall.mono ?_
    rintro e w3 ⟨u3, rfl, ⟨v3, rfl, ⟨F3, o3, f3⟩⟩, hb3⟩
    clear hcall
    have r3 := fCouples_Rd o3
    have B3 := B2.then hb3
    have k2 := S_FastCouples w3 a b f g p q va vb vp vq (ha.bw rItems_good hb3) (hb.bw rItems_good hb3) (hp.bw rNodes_good hb3) (hq.bw rNodes_good hb3)
    rw [fast_best, ← HC.out, ← HN.out] at k2
    have hcall := k2
    go_wp2_with fail
    refine hcall.mono ?_
    rintro e w4 ⟨u4, rfl, ⟨v4, rfl, ⟨F4, o4, f4⟩⟩, hb4⟩
    clear hcall
    have r4 := fCouples_Rd o4
    have hb24 := hb3.then hb4
    have k3 := I_BestCouples w4 a b f g p q va vb vp vq (ha.bw rItems_good hb24) (hb.bw rItems_good hb24) (hp.bw rNodes_good hb24) (hq.bw rNodes_good hb24)
    rw [← HC.out] at k3
    have hcall := k3
    go_wp2_with fail
    refine hcall.mono ?_
    rintro e w5 ⟨v5, rfl, ⟨F5, o5, f5⟩, hb5⟩
    clear hcall
    have r5 := fCouples_Rd o5
    have hb25 := hb24.then hb5
    have k4 := I_Couples w5 a b f g va vb (ha.bw rItems_good hb25) (hb.bw rItems_good hb25)
    rw [← HD.out] at k4
    have hcall := k4
    go_wp2_with fail
    refine hcall.mono ?_
    rintro e w6 ⟨v6, rfl, ⟨F6, o6, f6⟩, hb6⟩
    clear hcall
    have r6 := fCouples_Rd o6
    have hb26 := hb25.then hb6
    have s3 := ((r3.bw rPairs_good hb4).bw rPairs_good hb5).bw rPairs_good hb6
    have s4 := (r4.bw rPairs_good hb5).bw rPairs_good hb6
    have s5 := r5.bw rPairs_good hb6
    obtain ⟨A4, n4, c4, rfl, l4, _⟩ := rSl_open s4
    obtain ⟨A6, n6, c6, rfl, l6, _⟩ := rSl_open r6
    have L4 := Lib.hid l4
    have L6 := Lib.hid l6
    have hn4 : n4 ≤ 256 := by rw [l4, HC.out]; exact bestCoup_len _ _ _ _ _ _
    have hn6 : n6 ≤ 256 := by rw [l6, HD.out]; exact couples_len _ _ _ _
    have g1 : ¬ N > (n6 : Int) := by rw [l6, HN.out, HD.out]; have := fastN_le a b f g p q; omega
    have g2 : ¬ (n4 : Int) > N := by rw [l4, HN.out, HC.out, ← fast_best]; have := fastL_le a b f g p q; omega
    clear k1 k2 k3 k4 o3 o4 o5 o6 f3 f4 f5 f6 r3 r4 r5 l4 l6
    have gN : (N != N) = false := by simp
    have k5 := (S_EqualCouples w6 C C _ _ s3 s4).mono fun _ _ h => Ret.same h
    have hcall := k5
    go_wp2_with fail
    refine hcall.mono ?_
    rintro e w7 ⟨rfl, hb7⟩
    clear hcall
    have k6 := (S_EqualCouples w7 C C _ _ (s5.bw rPairs_good hb7) (s4.bw rPairs_good hb7)).mono fun _ _ h => Ret.same h
    have hcall := k6
    go_wp2_with fail
    refine hcall.mono ?_
    rintro e w8 ⟨rfl, hb8⟩
    clear hcall
    have hb68 := hb7.then hb8
    have hb28 := hb26.then hb68
    have k7 := S_Couples w8 a b f g va vb (ha.bw rItems_good hb28) (hb.bw rItems_good hb28)
    rw [← HD.out] at k7
    have hcall := k7
    go_wp2_with fail
    refine hcall.mono ?_
    rintro e w9 ⟨v9, rfl, ⟨F9, o9, f9⟩, hb9⟩
    clear hcall
    have r9 := fCouples_Rd o9
    have hb69 := hb68.then hb9
    have k8 := (S_EqualCouples w9 D D _ _ (r6.bw rPairs_good hb69) r9).mono fun _ _ h => Ret.same h
    have hcall := k8
    go_wp2_with fail
    refine hcall.mono ?_
    rintro e w10 ⟨rfl, hb10⟩
    clear hcall
    have hb610 := hb69.then hb10
    have hb210 := hb26.then hb610
    have B10 := B2.then hb210
    have t4 := s4.bw rPairs_good hb610
    have ha10 := ha.bw rItems_good hb210
    have hb10' := hb.bw rItems_good hb210
    have hp10 := hp.bw rNodes_good hb210
    have hq10 := hq.bw rNodes_good hb210
    clear k5 k6 k7 k8 s3 s4 s5 r6 r9 o9 f9 hb7 hb8 hb9 hb68 hb69 hb3 hb4 hb5 hb6 hb24 hb25 hb26 hb28 hb610 hb210 B2 B3 hb2 ha hb hp hq gN
    have HR := Lib.hid (fun (y : GPair) (hy : y ∈ C) => fast_in (show y ∈ bestCoup a b f g p q by rw [← HC.out]; exact hy))
    go_wp2
    go_loopg [15] n4 (fun gg i w' => ∃ k : Nat, k ≤ n4 ∧ gg = n4 - k ∧ i = .int .i64 k ∧ Bw w10 w')
    case atStart => exact ⟨0, by omega, rfl, rfl, Bw.refl _⟩
    case round =>
      obtain ⟨k, hk, rfl, rfl, hB⟩ := hrel
      by_cases hlt : k < n4
      · obtain ⟨y, hy⟩ := get_of_lt (xs := C) (k := k) (by have := L4.out; omega)
        obtain ⟨by', oy, rfl, _, c0, c1⟩ := rPairs_at t4 hy
        replace c0 := hB.cell c0
        replace c1 := hB.cell c1
        have HY := Lib.hid (HR.out y (List.mem_of_getElem? hy))
        have i1 : (0 : Int) ≤ (k : Int) := by omega
        have i2 : (k : Int) < (n4 : Int) := by omega
        have D1 : Bw wr wr.drew := (Bw.refl wr).drew
        have hBB := Bw.refl wr.drew
        have q0' := D1.cell c0
        have q1' := D1.cell c1
        have C1 := Lib.hid (fun W (B : Bw w10 W) => I_LocalBest W a f p va vp (ha10.bw rItems_good B) (hp10.bw rNodes_good B))
        have C2 := Lib.hid (fun W (B : Bw w10 W) => I_LocalBest W b g q vb vq (hb10'.bw rItems_good B) (hq10.bw rNodes_good B))
        have HBD := hB.then D1
        clear hy
        go_wp2_with fail
        go_region_held3 (fun w' => w'.cell? ⟨by', oy + k * 2, none⟩ = some (.int .i64 y.fst) ∧ w'.cell? ⟨by', oy + k * 2 + 1, none⟩ = some (.int .i64 y.snd)) (first | exact ⟨q0', q1'⟩ | exact ⟨hBB.cell q0', hBB.cell q1'⟩)
          (first
            | (go_at_call_of 57 va; refine (C1.out _ (HBD.then hBB)).mono ?_; rintro e' w11 ⟨v11, rfl, ⟨F11, o11, f11⟩, hb11⟩; replace hBB := hBB.then hb11; have r11 := fInts_Rd o11; clear o11 f11)
            | (go_at_call_of 57 vb; refine (C2.out _ (HBD.then hBB)).mono ?_; rintro e' w12 ⟨v12, rfl, ⟨F12, o12, f12⟩, hb12⟩; replace hBB := hBB.then hb12; have r12 := fInts_Rd o12; clear o12 f12)
            | (go_at_call_of 50 v11; refine (L_has _ _ _ _ r11).mono ?_; rintro e' w13 ⟨rfl, hb13⟩; rw [HY.out.1]; replace hBB := hBB.then hb13)
            | (go_at_call_of 50 v12; refine (L_has _ _ _ _ r12).mono ?_; rintro e' w14 ⟨rfl, hb14⟩; rw [HY.out.2]; replace hBB := hBB.then hb14))
        all_goals
          go_wp2
          go_roundg (n4 - (k + 1))
          case measure => omega
          case rel => exact ⟨k + 1, by omega, rfl, by go_num, HBD.then hBB⟩
      · obtain rfl : k = n4 := by omega
        have BW := B10.then hB
        have hpx := hp10
        have hqx := hq10
        clear hlt HR t4 ha10 hb10' hp10 hq10
        have hcall := D_DrawLocalBest wr x0 v (h0.bw rBytes_good BW) q0
        go_wp2_with fail
        refine hcall.mono ?_
        rintro e w20 ⟨va2, f2, vp2, rfl, ⟨a2, ha2, _⟩, ⟨p2, hp2, _⟩, hf2, hb20⟩
        clear hcall
        have hcall := D_DrawEqualCouples w20 x0 v (h0.bw rBytes_good (BW.then hb20)) q0
        go_wp2_with fail
        refine hcall.mono ?_
        rintro e w21 ⟨vx, vy, rfl, ⟨xs, hxs, _⟩, ⟨ys, hys, _⟩, hb21⟩
        clear hcall
        have B21 := (BW.then hb20).then hb21
        have hcall := I_LocalBest w21 a2 f2 p2 va2 vp2 (ha2.bw rItems_good hb21) (hp2.bw rNodes_good hb21)
        go_wp2_with fail
        refine hcall.mono ?_
        rintro e w22 ⟨v22, rfl, ⟨F22, o22, f22⟩, hb22⟩
        clear hcall
        have r22 := fInts_Rd o22
        have hb2022 := hb21.then hb22
        have hcall := S_LocalBest w22 a2 f2 p2 va2 vp2 (ha2.bw rItems_good hb2022) (hp2.bw rNodes_good hb2022)
        go_wp2_with fail
        refine hcall.mono ?_
        rintro e w23 ⟨v23, rfl, ⟨F23, o23, f23⟩, hb23⟩
        clear hcall
        have r23 := fInts_Rd o23
        have k5 := (L_sameInts w23 _ _ _ _ (r22.bw rInts_good hb23) r23).mono fun _ _ h => Ret.same h
        have hcall := k5
        go_wp2_with fail
        refine hcall.mono ?_
        rintro e w24 ⟨rfl, hb24⟩
        clear hcall
        have hb2124 := (hb22.then hb23).then hb24
        obtain ⟨d, hd⟩ : ∃ d, d = decide (xs = ys) := ⟨_, rfl⟩
        have k6 := I_EqualCouples w24 xs ys vx vy (hxs.bw rPairs_good hb2124) (hys.bw rPairs_good hb2124)
        rw [← hd] at k6
        have Hd := Lib.hid hd
        clear hd
        have hcall := k6
        go_wp2_with fail
        refine hcall.mono ?_
        rintro e w25 ⟨rfl, hb25⟩
        clear hcall
        have hb2125 := hb2124.then hb25
        have k7 := S_EqualCouples w25 xs ys vx vy (hxs.bw rPairs_good hb2125) (hys.bw rPairs_good hb2125)
        rw [← Hd.out] at k7
        have hcall := k7
        go_wp2_with fail
        refine hcall.mono ?_
        rintro e w26 ⟨rfl, hb26⟩
        clear hcall
        have B26 := B21.then (hb2125.then hb26)
        have hB26 := ((hB.then hb20).then hb21).then (hb2125.then hb26)
        have edd : (d == d) = true := by simp
        have B10' := hB26
        have hpq := Lib.hid (And.intro hpx hqx)
        by_cases hz6 : n6 = 0
        · have e6 : ((n6 : Int) == 0) = true := by simp; omega
          clear hz6
          go_wp2
          go_ret
          exact ⟨rfl, B26⟩
        · have e6 : ((n6 : Int) == 0) = false := by simp; omega
          have hcall := S_IsExpression w26 p vp (hpq.out.1.bw rNodes_good hB26)
          have HPOS := Lib.hid (fun (hp : isExpr p = true) (hq : isExpr q = true) => (show 0 < k from by
            have h1 : D ≠ [] := fun e => by have := L6.out; rw [e] at this; simp at this; exact hz6 this
            rw [HD.out] at h1
            have h2 := bestCoup_pos hp hq h1
            rw [← HC.out] at h2
            rw [L4.out]
            exact List.length_pos_iff.2 h2))
          clear hz6
          go_wp2_with fail
          refine hcall.mono ?_
          rintro e w27 ⟨rfl, hb27⟩
          clear hcall
          rcases Bool.eq_false_or_eq_true (isExpr p) with cp | cp
          · have hcall := S_IsExpression w27 q vq ((hpq.out.2.bw rNodes_good hB26).bw rNodes_good hb27)
            have HP := Lib.hid cp
            rw [cp]
            clear cp
            go_wp2_with fail
            refine hcall.mono ?_
            rintro e w28 ⟨rfl, hb28⟩
            clear hcall
            have B28 := (B26.then hb27).then hb28
            rcases Bool.eq_false_or_eq_true (isExpr q) with cq | cq
            · have h4 := HPOS.out HP.out cq
              have h5 : (k : Int) > 0 := by omega
              rw [cq]
              clear cq
              go_wp2
              go_ret
              exact ⟨rfl, B28⟩
            · rw [cq]
              clear cq
              go_wp2
              go_ret
              exact ⟨rfl, B28⟩
          · rw [cp]
            clear cp
            go_wp2
            go_ret
            exact ⟨rfl, B26.then hb27⟩
set_option maxRecDepth 100000 in
theorem lifted_FnJoins (os : Os) (started : os.Started) (H : Type) (enc : TypeId × Value → H) :
    ReturnsInHanded {} Try.checked os 9 .any (Rows.fnJoinsSpec.pre6 enc Try.prog Try.f9 Rows.fnJoinsRow.domain false) (Rows.fnJoinsSpec.post enc Try.prog Try.f9 false true false false) := by
  refine returnsInHanded_of_change (C := Try.checked) own_knob started (by kernel_rfl) Try.func9
    (ChangeSpec.witness6 (enc := enc) (C := Try.checked) false ⟨#[], #[.slice none 0 0], []⟩ 8 (by kernel_rfl) (by kernel_rfl) (by kernel_rfl) (by kernel_rfl)) ?_
  intro W base args ds gs before hval0 hW hcnd _
  have hval : ∀ (j : Nat) t v, Try.f9.params[j]? = some t → args[j]? = some v → Value.okWide Try.prog W .any base t v := hval0
  have hW' := hW
  obtain ⟨p, q, hA0, hV, rfl, hfz, hnd⟩ := hW
  have hA : DataW.TrodAll enc Try.prog W 0 (fun _ => true) true Try.f9.params.toList args.toList ds p := hA0
  rw [Try.params9] at hA hval
  obtain ⟨v0, vs0, d0, ds0, p0, q0, hargs, rfl, rfl, h0, r0⟩ := trodAll_cons hA
  obtain ⟨rfl, rfl, rfl⟩ := trodAll_nil r0
  obtain rfl : args = #[v0] := by cases args; simp_all
  obtain ⟨rfl, rfl⟩ := trodVars_none hV
  have k0 := h0
  have lt0 : ∀ x ∈ p0, x.block < W.heap.size := by obtain ⟨m, hm⟩ := k0; exact DataW.trod_lt m _ _ _ hm
  obtain ⟨a0, len0, cap0, rfl⟩ := okWide_slice Try.underlying61 (hval 0 61 v0 rfl rfl)
  obtain ⟨x0, R0, Q0⟩ : ∃ xs, Rd rBytes W xs [.slice a0 len0 cap0] ∧ wfBytes xs := by obtain ⟨m, hm⟩ := h0; exact t_bytes hm
  clear hA0 hval0
  refine (walk_FnJoins W x0 _ R0 Q0).mono fun e W' ⟨he, bel⟩ => ?_
  subst he
  exact ⟨_, rfl, _, _, _, [], _, [], hW', trodAll_mk1 (shut_bool Try.underlying4 _), (trodAll_cons_mk (Below.trod laid_out (by kernel_rfl) (of_decide_eq_true (by kernel_rfl)) k0 bel lt0) trodAll_mk0), rfl, Below.frame bel _, fun h => by cases h⟩
/-- the statement -/
theorem FnJoins_holds : Rows.FnJoinsSaid :=
  OpenClaim.holds_of_wide 9 Try.f9 rfl rfl rfl rfl rfl rfl rfl ⟨rfl, rfl, rfl, rfl, rfl⟩ rfl rfl rfl rfl rfl (by kernel_rfl) Try.func9 (by kernel_rfl)
    (of_decide_eq_true (by kernel_rfl)) (by unfold Func.isWrapper; first | (rw [if_pos (by decide +kernel)]; kernel_rfl) | (rw [if_neg (by decide +kernel)]; exact ⟨rfl, rfl⟩))
    (fun os started H enc _ => lifted_FnJoins os started H enc)
end Go.Proofs.Ytfffklkiikmieaa
