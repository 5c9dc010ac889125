/- Valid standings in both programs. -/
import Derived.Test.YtpihighajaeabaaGreatQBand
import Derived.Test.YtpihighajaeabaaGreatQReach
import Derived.Test.YtpihighajaeabaaGreatQSortP
import Derived.Test.YtpihighajaeabaaGreatQBestS
namespace Go.Proofs.YtpihighajaeabaaGreat
open Go.RowKit
set_option linter.unusedVariables false
set_option linter.unusedSimpArgs false
set_option maxHeartbeats 400000 in
theorem S_BestItems (w : World) (l : List GItem) (e : List GNode) (v u : Value) (h : Rd rItems w l [v]) (h' : Rd rNodes w e [u]) : Calls Tryz.prog 42 #[v, u] w (RetV w (Made fInts w.heap.size (bestItems l e))) := by
  go_enter Tryz.func42, Tryz.ntmps42
  go_wp2_with fail
  refine (S_l7Fine _ l e _ _ h h').mono ?_
  rintro e w2 ⟨rfl, hb2⟩
  rcases Bool.eq_false_or_eq_true (areBoth l e) with e1 | e1
  · have E := Lib.hid e1
    rw [e1]
    clear e1
    go_wp2_with fail
    refine (S_l7Best _ l e _ _ (h.bw rItems_good hb2) (h'.bw rNodes_good hb2) (areBoth_items E.out) (areBoth_expr E.out)).mono ?_
    rintro e w3 ⟨v3, rfl, ⟨F, o, f⟩, hb3⟩
    rw [show bestM l e = bestItems l e by rw [bestItems, if_pos E.out]] at o
    go_wp2
    go_ret
    exact ⟨_, rfl, ⟨F, o, f.mono hb2.size⟩, hb2.then hb3⟩
  · have E := Lib.hid e1
    rw [e1]
    clear e1
    have hv0 := fSl_empty (e := 3) (sz := 1) (R := fInt) w2
    rw [show ([] : List Int) = bestItems l e by rw [bestItems, E.out]; rfl] at hv0
    have hz := hb2.size
    go_wp2
    go_ret
    exact ⟨_, rfl, ⟨_, hv0, ⟨by simp, by simpa using hz⟩⟩, hb2.alloc _⟩
end Go.Proofs.YtpihighajaeabaaGreat

namespace Go.Proofs.YtpihighajaeabaaGreat
open Go.RowKit
set_option linter.unusedVariables false
set_option linter.unusedSimpArgs false
end Go.Proofs.YtpihighajaeabaaGreat

namespace Go.Proofs.YtpihighajaeabaaGreat
open Go.RowKit
set_option linter.unusedVariables false
set_option linter.unusedSimpArgs false
theorem bestItems_yes {l : List GItem} {e : List GNode} (h : areBoth l e = true) : bestItems l e = bestM l e := by rw [bestItems, if_pos h]
set_option maxRecDepth 100000 in
set_option maxHeartbeats 3200000 in
theorem I_IsStanding (w : World) (x : GStanding) (va vb vc : Value) (ha : Rd rItems w x.items [va]) (hb : Rd rNodes w x.wanted [vb]) (hc : Rd rInts w x.best [vc]) :
    Calls Tryz.prog 16 #[.agg #[va, vb, vc, .int .i64 x.tests]] w (Ret w (.bool (isStand x))) := by
  have B0 : Bw w (w.alloc (.cells #[va, vb, vc, .int .i64 x.tests] 28)).drew := ((Bw.refl w).alloc _).drew
  have q0 : (w.alloc (.cells #[va, vb, vc, .int .i64 x.tests] 28)).drew.cell? ⟨w.heap.size, 0, none⟩ = some va := by go_simp
  have q1 : (w.alloc (.cells #[va, vb, vc, .int .i64 x.tests] 28)).drew.cell? ⟨w.heap.size, 1, none⟩ = some vb := by go_simp
  have q2 : (w.alloc (.cells #[va, vb, vc, .int .i64 x.tests] 28)).drew.cell? ⟨w.heap.size, 2, none⟩ = some vc := by go_simp
  have q3 : (w.alloc (.cells #[va, vb, vc, .int .i64 x.tests] 28)).drew.cell? ⟨w.heap.size, 3, none⟩ = some (.int .i64 x.tests) := by go_simp
  have ka := ha.bw rItems_good B0
  have kb := hb.bw rNodes_good B0
  have kc := hc.bw rInts_good B0
  clear ha hb hc
  rcases Bool.eq_false_or_eq_true (areBoth x.items x.wanted) with e1 | e1
  · by_cases e2 : x.best = bestM x.items x.wanted
    · have d2 : decide (x.best = bestM x.items x.wanted) = true := by simpa using e2
      have E1 := Lib.hid e1
      have D2 := Lib.hid d2
      rcases Bool.eq_false_or_eq_true (inB x.tests 0 1000000) with e3 | e3
      · have HF := Lib.hid (show isStand x = true by rw [isStand, e1, d2, e3]; rfl)
        clear e2
        go_enter Tryz.func16, Tryz.ntmps16
        go_wp2_with fail
        go_region_held3 (fun w' => w'.cell? ⟨w.heap.size, 0, none⟩ = some va ∧ w'.cell? ⟨w.heap.size, 1, none⟩ = some vb ∧ w'.cell? ⟨w.heap.size, 2, none⟩ = some vc ∧ w'.cell? ⟨w.heap.size, 3, none⟩ = some (.int .i64 x.tests)) (first | go_keep | exact ⟨q0, q1, q2, q3⟩)
          (first
            | (go_at_call 92; refine (Calls_weak (I_areBoth _ x.items x.wanted _ _ ka kb) (congrArg Value.bool e1)).mono ?_; rintro e w1 ⟨rfl, hb1⟩; replace q0 := hb1.cell q0; replace q1 := hb1.cell q1; replace q2 := hb1.cell q2; replace q3 := hb1.cell q3; have B1 := B0.then hb1; replace ka := ka.bw rItems_good hb1; replace kb := kb.bw rNodes_good hb1; replace kc := kc.bw rInts_good hb1)
            | (go_at_call 37; refine (I_BestItems _ x.items x.wanted _ _ ka kb).mono ?_; rintro e w2 ⟨v2, rfl, ⟨F2, o2, f2⟩, hb2⟩; rw [bestItems_yes E1.out] at o2; replace q0 := hb2.cell q0; replace q1 := hb2.cell q1; replace q2 := hb2.cell q2; replace q3 := hb2.cell q3; have B2 := B1.then hb2; replace kc := kc.bw rInts_good hb2)
            | (go_at_call 93; refine (Calls_weak (slices_Equal_ints _ x.best (bestM x.items x.wanted) _ _ kc (fInts_Rd o2)) (congrArg Value.bool d2)).mono ?_; rintro e w3 ⟨rfl, hb3⟩; replace q0 := hb3.cell q0; replace q1 := hb3.cell q1; replace q2 := hb3.cell q2; replace q3 := hb3.cell q3; have B3 := B2.then hb3)
            | (go_at_call 94; refine (Calls_weak (I_within _ _ _ _) (congrArg Value.bool e3)).mono ?_; rintro e w4 ⟨rfl, hb4⟩; replace q0 := hb4.cell q0; replace q1 := hb4.cell q1; replace q2 := hb4.cell q2; replace q3 := hb4.cell q3; have B4 := B3.then hb4))
        go_wp2
        go_ret
        exact Ret.bool HF.out.symm B4
      · have HF := Lib.hid (show isStand x = false by rw [isStand, e1, d2, e3]; rfl)
        clear e2
        go_enter Tryz.func16, Tryz.ntmps16
        go_wp2_with fail
        go_region_held3 (fun w' => w'.cell? ⟨w.heap.size, 0, none⟩ = some va ∧ w'.cell? ⟨w.heap.size, 1, none⟩ = some vb ∧ w'.cell? ⟨w.heap.size, 2, none⟩ = some vc ∧ w'.cell? ⟨w.heap.size, 3, none⟩ = some (.int .i64 x.tests)) (first | go_keep | exact ⟨q0, q1, q2, q3⟩)
          (first
            | (go_at_call 92; refine (Calls_weak (I_areBoth _ x.items x.wanted _ _ ka kb) (congrArg Value.bool e1)).mono ?_; rintro e w1 ⟨rfl, hb1⟩; replace q0 := hb1.cell q0; replace q1 := hb1.cell q1; replace q2 := hb1.cell q2; replace q3 := hb1.cell q3; have B1 := B0.then hb1; replace ka := ka.bw rItems_good hb1; replace kb := kb.bw rNodes_good hb1; replace kc := kc.bw rInts_good hb1)
            | (go_at_call 37; refine (I_BestItems _ x.items x.wanted _ _ ka kb).mono ?_; rintro e w2 ⟨v2, rfl, ⟨F2, o2, f2⟩, hb2⟩; rw [bestItems_yes E1.out] at o2; replace q0 := hb2.cell q0; replace q1 := hb2.cell q1; replace q2 := hb2.cell q2; replace q3 := hb2.cell q3; have B2 := B1.then hb2; replace kc := kc.bw rInts_good hb2)
            | (go_at_call 93; refine (Calls_weak (slices_Equal_ints _ x.best (bestM x.items x.wanted) _ _ kc (fInts_Rd o2)) (congrArg Value.bool d2)).mono ?_; rintro e w3 ⟨rfl, hb3⟩; replace q0 := hb3.cell q0; replace q1 := hb3.cell q1; replace q2 := hb3.cell q2; replace q3 := hb3.cell q3; have B3 := B2.then hb3)
            | (go_at_call 94; refine (Calls_weak (I_within _ _ _ _) (congrArg Value.bool e3)).mono ?_; rintro e w4 ⟨rfl, hb4⟩; replace q0 := hb4.cell q0; replace q1 := hb4.cell q1; replace q2 := hb4.cell q2; replace q3 := hb4.cell q3; have B4 := B3.then hb4))
        go_wp2
        go_ret
        exact Ret.bool HF.out.symm B4
    · have d2 : decide (x.best = bestM x.items x.wanted) = false := by simpa using e2
      have E1 := Lib.hid e1
      have HF := Lib.hid (show isStand x = false by rw [isStand, e1, d2]; rfl)
      clear e2
      go_enter Tryz.func16, Tryz.ntmps16
      go_wp2_with fail
      refine wp_region_noPanic ?_
      refine wp_region_held_drew (S := (fun w' => w'.cell? ⟨w.heap.size, 0, none⟩ = some va ∧ w'.cell? ⟨w.heap.size, 1, none⟩ = some vb ∧ w'.cell? ⟨w.heap.size, 2, none⟩ = some vc ∧ w'.cell? ⟨w.heap.size, 3, none⟩ = some (.int .i64 x.tests))) (by kernel_rfl) ?_ (fun hHeld => ?_)
      · exact ⟨q0, q1, q2, q3⟩
      refine wpAnyH_take (i := 0) (oi := _) (v := ?_) rfl (by kernel_rfl) (by kernel_rfl) (by kernel_rfl) (fun _ _ _ h => h) (Or.inl ⟨by rfl, ?_⟩) (by assumption) ?_
      rotate_left 1
      · (intro wS hSw; (try dsimp only at hSw); go_simp; try with_reducible rfl)
      try simp only [Act.put, List.getElem_toArray, List.getElem_cons_zero, List.getElem_cons_succ, List.setIfInBounds_toArray, List.set_cons_zero, List.set_cons_succ]
      refine wpAnyH_take (i := 1) (oi := _) (v := ?_) rfl (by kernel_rfl) (by kernel_rfl) (by kernel_rfl) (fun _ _ _ h => h) (Or.inl ⟨by rfl, ?_⟩) (by assumption) ?_
      rotate_left 1
      · (intro wS hSw; (try dsimp only at hSw); go_simp; try with_reducible rfl)
      try simp only [Act.put, List.getElem_toArray, List.getElem_cons_zero, List.getElem_cons_succ, List.setIfInBounds_toArray, List.set_cons_zero, List.set_cons_succ]
      refine wpAnyH_take (i := 2) (oi := _) (v := ?_) rfl (by kernel_rfl) (by kernel_rfl) (by kernel_rfl) (fun _ _ _ h => h) (Or.inl ⟨by rfl, ?_⟩) (by assumption) ?_
      rotate_left 1
      · (intro wS hSw; (try dsimp only at hSw); go_simp; try with_reducible rfl)
      try simp only [Act.put, List.getElem_toArray, List.getElem_cons_zero, List.getElem_cons_succ, List.setIfInBounds_toArray, List.set_cons_zero, List.set_cons_succ]
      refine wpAnyH_take (i := 3) (oi := _) (v := ?_) rfl (by kernel_rfl) (by kernel_rfl) (by kernel_rfl) (fun _ _ _ h => h) (Or.inl ⟨by rfl, ?_⟩) (by assumption) ?_
      rotate_left 1
      · (intro wS hSw; (try dsimp only at hSw); go_simp; try with_reducible rfl)
      try simp only [Act.put, List.getElem_toArray, List.getElem_cons_zero, List.getElem_cons_succ, List.setIfInBounds_toArray, List.set_cons_zero, List.set_cons_succ]
      refine wpAnyH_ready (rs := [4]) (by kernel_rfl) (by simp) (AllReadyH.cons (o := _) rfl (fun K hK => ?_) AllReadyH.nil)
      go_simp
      refine (Calls_weak (I_areBoth _ x.items x.wanted _ _ ka kb) (congrArg Value.bool e1)).mono ?_
      rintro e w1 ⟨rfl, hb1⟩
      replace q0 := hb1.cell q0
      replace q1 := hb1.cell q1
      replace q2 := hb1.cell q2
      replace q3 := hb1.cell q3
      have B1 := B0.then hb1
      replace ka := ka.bw rItems_good hb1
      replace kb := kb.bw rNodes_good hb1
      replace kc := kc.bw rInts_good hb1
      refine hK.out _ _ ⟨q0, q1, q2, q3⟩ (fun hHeld => ?_)
      clear hK K
      try simp only [Act.put, List.getElem_toArray, List.getElem_cons_zero, List.getElem_cons_succ, List.setIfInBounds_toArray, List.set_cons_zero, List.set_cons_succ]
      refine wpAnyH_take (i := 5) (oi := _) (v := ?_) rfl (by kernel_rfl) (by kernel_rfl) (by kernel_rfl) (fun _ _ _ h => h) (Or.inl ⟨by rfl, ?_⟩) (by assumption) ?_
      rotate_left 1
      · (intro wS hSw; (try dsimp only at hSw); go_simp; try with_reducible rfl)
      try simp only [Act.put, List.getElem_toArray, List.getElem_cons_zero, List.getElem_cons_succ, List.setIfInBounds_toArray, List.set_cons_zero, List.set_cons_succ]
      refine wpAnyH_take (i := 6) (oi := _) (v := ?_) rfl (by kernel_rfl) (by kernel_rfl) (by kernel_rfl) (fun _ _ _ h => h) (Or.inl ⟨by rfl, ?_⟩) (by assumption) ?_
      rotate_left 1
      · (intro wS hSw; (try dsimp only at hSw); go_simp; try with_reducible rfl)
      try simp only [Act.put, List.getElem_toArray, List.getElem_cons_zero, List.getElem_cons_succ, List.setIfInBounds_toArray, List.set_cons_zero, List.set_cons_succ]
      refine wpAnyH_take (i := 7) (oi := _) (v := ?_) rfl (by kernel_rfl) (by kernel_rfl) (by kernel_rfl) (fun _ _ _ h => h) (Or.inl ⟨by rfl, ?_⟩) (by assumption) ?_
      rotate_left 1
      · (intro wS hSw; (try dsimp only at hSw); go_simp; try with_reducible rfl)
      try simp only [Act.put, List.getElem_toArray, List.getElem_cons_zero, List.getElem_cons_succ, List.setIfInBounds_toArray, List.set_cons_zero, List.set_cons_succ]
      refine wpAnyH_take (i := 8) (oi := _) (v := ?_) rfl (by kernel_rfl) (by kernel_rfl) (by kernel_rfl) (fun _ _ _ h => h) (Or.inl ⟨by rfl, ?_⟩) (by assumption) ?_
      rotate_left 1
      · (intro wS hSw; (try dsimp only at hSw); go_simp; try with_reducible rfl)
      try simp only [Act.put, List.getElem_toArray, List.getElem_cons_zero, List.getElem_cons_succ, List.setIfInBounds_toArray, List.set_cons_zero, List.set_cons_succ]
      refine wpAnyH_take (i := 9) (oi := _) (v := ?_) rfl (by kernel_rfl) (by kernel_rfl) (by kernel_rfl) (fun _ _ _ h => h) (Or.inl ⟨by rfl, ?_⟩) (by assumption) ?_
      rotate_left 1
      · (intro wS hSw; (try dsimp only at hSw); go_simp; try with_reducible rfl)
      try simp only [Act.put, List.getElem_toArray, List.getElem_cons_zero, List.getElem_cons_succ, List.setIfInBounds_toArray, List.set_cons_zero, List.set_cons_succ]
      refine wpAnyH_take (i := 10) (oi := _) (v := ?_) rfl (by kernel_rfl) (by kernel_rfl) (by kernel_rfl) (fun _ _ _ h => h) (Or.inl ⟨by rfl, ?_⟩) (by assumption) ?_
      rotate_left 1
      · (intro wS hSw; (try dsimp only at hSw); go_simp; try with_reducible rfl)
      try simp only [Act.put, List.getElem_toArray, List.getElem_cons_zero, List.getElem_cons_succ, List.setIfInBounds_toArray, List.set_cons_zero, List.set_cons_succ]
      refine wpAnyH_take (i := 11) (oi := _) (v := ?_) rfl (by kernel_rfl) (by kernel_rfl) (by kernel_rfl) (fun _ _ _ h => h) (Or.inl ⟨by rfl, ?_⟩) (by assumption) ?_
      rotate_left 1
      · (intro wS hSw; (try dsimp only at hSw); go_simp; try with_reducible rfl)
      try simp only [Act.put, List.getElem_toArray, List.getElem_cons_zero, List.getElem_cons_succ, List.setIfInBounds_toArray, List.set_cons_zero, List.set_cons_succ]
      refine wpAnyH_ready (rs := [12]) (by kernel_rfl) (by simp) (AllReadyH.cons (o := _) rfl (fun K hK => ?_) AllReadyH.nil)
      go_simp
      refine (I_BestItems _ x.items x.wanted _ _ ka kb).mono ?_
      rintro e w2 ⟨v2, rfl, ⟨F2, o2, f2⟩, hb2⟩
      rw [bestItems_yes E1.out] at o2
      replace q0 := hb2.cell q0
      replace q1 := hb2.cell q1
      replace q2 := hb2.cell q2
      replace q3 := hb2.cell q3
      have B2 := B1.then hb2
      replace kc := kc.bw rInts_good hb2
      refine hK.out _ _ ⟨q0, q1, q2, q3⟩ (fun hHeld => ?_)
      clear hK K
      try simp only [Act.put, List.getElem_toArray, List.getElem_cons_zero, List.getElem_cons_succ, List.setIfInBounds_toArray, List.set_cons_zero, List.set_cons_succ]
      refine wpAnyH_ready (rs := [13]) (by kernel_rfl) (by simp) (AllReadyH.cons (o := _) rfl (fun K hK => ?_) AllReadyH.nil)
      go_simp
      refine (Calls_weak (slices_Equal_ints _ x.best (bestM x.items x.wanted) _ _ kc (fInts_Rd o2)) (congrArg Value.bool d2)).mono ?_
      rintro e w3 ⟨rfl, hb3⟩
      replace q0 := hb3.cell q0
      replace q1 := hb3.cell q1
      replace q2 := hb3.cell q2
      replace q3 := hb3.cell q3
      have B3 := B2.then hb3
      refine hK.out _ _ ⟨q0, q1, q2, q3⟩ (fun hHeld => ?_)
      clear hK K
      try simp only [Act.put, List.getElem_toArray, List.getElem_cons_zero, List.getElem_cons_succ, List.setIfInBounds_toArray, List.set_cons_zero, List.set_cons_succ]
      refine wpAnyH_take (i := 14) (oi := _) (v := ?_) rfl (by kernel_rfl) (by kernel_rfl) (by kernel_rfl) (fun _ _ _ h => h) (Or.inl ⟨by rfl, ?_⟩) (by assumption) ?_
      rotate_left 1
      · (intro wS hSw; (try dsimp only at hSw); go_simp; try with_reducible rfl)
      try simp only [Act.put, List.getElem_toArray, List.getElem_cons_zero, List.getElem_cons_succ, List.setIfInBounds_toArray, List.set_cons_zero, List.set_cons_succ]
      refine wpAnyH_take (i := 15) (oi := _) (v := ?_) rfl (by kernel_rfl) (by kernel_rfl) (by kernel_rfl) (fun _ _ _ h => h) (Or.inl ⟨by rfl, ?_⟩) (by assumption) ?_
      rotate_left 1
      · (intro wS hSw; (try dsimp only at hSw); go_simp; try with_reducible rfl)
      try simp only [Act.put, List.getElem_toArray, List.getElem_cons_zero, List.getElem_cons_succ, List.setIfInBounds_toArray, List.set_cons_zero, List.set_cons_succ]
      refine wpAnyH_take (i := 16) (oi := _) (v := undef) rfl (by kernel_rfl) (by kernel_rfl) (by kernel_rfl) (fun _ _ _ h => h) (Or.inr ⟨by rfl, rfl⟩) (by assumption) ?_
      try simp only [Act.put, List.getElem_toArray, List.getElem_cons_zero, List.getElem_cons_succ, List.setIfInBounds_toArray, List.set_cons_zero, List.set_cons_succ]
      refine wpAnyH_take (i := 17) (oi := _) (v := undef) rfl (by kernel_rfl) (by kernel_rfl) (by kernel_rfl) (fun _ _ _ h => h) (Or.inr ⟨by rfl, rfl⟩) (by assumption) ?_
      try simp only [Act.put, List.getElem_toArray, List.getElem_cons_zero, List.getElem_cons_succ, List.setIfInBounds_toArray, List.set_cons_zero, List.set_cons_succ]
      refine wpAnyH_take (i := 18) (oi := _) (v := undef) rfl (by kernel_rfl) (by kernel_rfl) (by kernel_rfl) (fun _ _ _ h => h) (Or.inr ⟨by rfl, rfl⟩) (by assumption) ?_
      try simp only [Act.put, List.getElem_toArray, List.getElem_cons_zero, List.getElem_cons_succ, List.setIfInBounds_toArray, List.set_cons_zero, List.set_cons_succ]
      refine wpAnyH_take (i := 19) (oi := _) (v := ?_) rfl (by kernel_rfl) (by kernel_rfl) (by kernel_rfl) (fun _ _ _ h => h) (Or.inl ⟨by rfl, ?_⟩) (by assumption) ?_
      rotate_left 1
      · (intro wS hSw; (try dsimp only at hSw); go_simp; try with_reducible rfl)
      try simp only [Act.put, List.getElem_toArray, List.getElem_cons_zero, List.getElem_cons_succ, List.setIfInBounds_toArray, List.set_cons_zero, List.set_cons_succ]
      refine wpAnyH_take (i := 20) (oi := _) (v := ?_) rfl (by kernel_rfl) (by kernel_rfl) (by kernel_rfl) (fun _ _ _ h => h) (Or.inl ⟨by rfl, ?_⟩) (by assumption) ?_
      rotate_left 1
      · (intro wS hSw; (try dsimp only at hSw); go_simp; try with_reducible rfl)
      try simp only [Act.put, List.getElem_toArray, List.getElem_cons_zero, List.getElem_cons_succ, List.setIfInBounds_toArray, List.set_cons_zero, List.set_cons_succ]
      refine wpAnyH_done (by kernel_rfl) ?_ _
      refine NoPanic.normal ?_
      go_wp2
      go_ret
      exact Ret.bool HF.out.symm B3
  · have HF := Lib.hid (show isStand x = false by rw [isStand, e1]; rfl)
    have A0 : Bw w (w.alloc (.cells #[va, vb, vc, .int .i64 x.tests] 28)) := (Bw.refl w).alloc _
    have s0 := since_cell (show (w.alloc (.cells #[va, vb, vc, .int .i64 x.tests] 28)).cell? ⟨w.heap.size, 0, none⟩ = some va from q0)
    have s1 := since_cell (show (w.alloc (.cells #[va, vb, vc, .int .i64 x.tests] 28)).cell? ⟨w.heap.size, 1, none⟩ = some vb from q1)
    have ka' : Rd rItems (w.alloc (.cells #[va, vb, vc, .int .i64 x.tests] 28)) x.items [va] := ka
    have kb' : Rd rNodes (w.alloc (.cells #[va, vb, vc, .int .i64 x.tests] 28)) x.wanted [vb] := kb
    clear q0 q1 q2 q3
    go_enter Tryz.func16, Tryz.ntmps16
    go_wp2
    refine wp_region_since (by kernel_rfl) (by kernel_rfl) ?_
    repeat (first | go_big_quiet_skip | (go_big_quiet_want; go_big_quiet_op; first | go_big_quiet_on | (apply Exists.intro; refine ⟨fun _ => ?_, ?_⟩; (· (((first | (go_at_call 92; exact Calls_since (Calls_weak (I_areBoth _ x.items x.wanted _ _ (ka'.bw rItems_good (Since.bw _)) (kb'.bw rNodes_good (Since.bw _))) (congrArg Value.bool e1))))))); go_big_quiet_on)))
    refine wpQuiet_nil ?_
    rintro ⟨wq, hbq⟩
    dsimp only at *
    go_wp2
    go_ret
    exact Ret.bool HF.out.symm (A0.then hbq)
end Go.Proofs.YtpihighajaeabaaGreat
