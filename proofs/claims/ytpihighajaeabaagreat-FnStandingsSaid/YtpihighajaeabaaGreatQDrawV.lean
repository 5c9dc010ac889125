/- Draws: a standing and an id; items and an expression. -/
import Derived.Test.YtpihighajaeabaaGreatQDrawU
namespace Go.Proofs.YtpihighajaeabaaGreat
open Go.RowKit
set_option linter.unusedVariables false
set_option linter.unusedSimpArgs false
theorem wpAnyH_more {P : Program} {md : Region.Mode} {ops : Array Oper} {Q : Exit → Act → World → Prop} {S S' : World → Prop} (hSS : ∀ w, S' w → S w) : ∀ (fuel : Nat) (listed : Array Bool) (a : Act) (w : World), wpAnyH P md ops Q S' fuel listed a w → wpAnyH P md ops Q S fuel listed a w
  | 0, _, _, _, h => h
  | fuel + 1, listed, a, w, h => ⟨h.1, fun i hi => wpOp_mono (fun a' w' h2 => ⟨hSS w' h2.1, wpAnyH_more hSS fuel _ a' w' h2.2⟩) (h.2 i hi)⟩
set_option maxRecDepth 100000 in
set_option maxHeartbeats 6400000 in
theorem D_DrawDeleteItem (w : World) (xs : List Int) (v : Value) (h : Rd rBytes w xs [v]) (hx : wfBytes xs) : Calls Tryz.prog 17 #[v] w fun e W =>
    ∃ v1 id, e = .returned (.tuple #[v1, .int .i64 id]) ∧ TSt W v1 ∧ Bw w W := by
  have A0 : Bw w (w.alloc (.cells #[.slice none 0 0, .slice none 0 0, .slice none 0 0, .int .i64 0] 28)) := (Bw.refl w).alloc _
  have bR := Box.new w #[.slice none 0 0, .slice none 0 0, .slice none 0 0, .int .i64 0] 28
  have hcall0 := D_l1New _ xs v (h.bw rBytes_good A0) hx
  obtain ⟨W, hW⟩ : ∃ W, W = (w.alloc (.cells #[.slice none 0 0, .slice none 0 0, .slice none 0 0, .int .i64 0] 28)) := ⟨_, rfl⟩
  rw [← hW] at bR hcall0 A0
  have HW := Lib.hid hW
  clear h hW
  have hWz := bR.lt
  go_enter Tryz.func17, Tryz.ntmps17
  go_wp2_with fail
  rw [← HW.out]
  refine hcall0.mono ?_
  rintro e w1 ⟨p, rfl, hA1⟩
  clear hcall0
  have hpW := hA1.ge
  have hp1 := hA1.lt
  replace bR := bR.bw hA1.bw
  have D0 := Dn.start hA1
  have hcall := D_l15Any W w1 p hA1
  go_wp2_with fail
  refine hcall.mono ?_
  rintro e w4 ⟨v4, rfl, ⟨s, va, vb, vc, F, rfl, o4, f4, sm⟩, hO4, hA4⟩
  clear hcall
  have D4 := D0.call hO4 hA4
  have bR4 := bR.only hO4 (by simp; omega)
  obtain ⟨A1, c1, A2, c2, A3, c3, eS⟩ := fStanding_shape o4
  injection eS with eS1 eS
  injection eS with eS2 eS
  injection eS with eS3 eS
  subst eS1 eS2 eS3
  clear eS
  obtain ⟨n1, hn1⟩ : ∃ n, n = s.items.length := ⟨_, rfl⟩
  obtain ⟨n2, hn2⟩ : ∃ n, n = s.wanted.length := ⟨_, rfl⟩
  obtain ⟨n3, hn3⟩ : ∃ n, n = s.best.length := ⟨_, rfl⟩
  have L3 := Lib.hid hn3
  have hn3m : n3 ≤ 1048576 := by rw [hn3]; exact sm.2.2
  rw [← hn1, ← hn2, ← hn3] at o4 ⊢
  clear hn1 hn2 hn3
  have hFlt := (fStanding_good (B := 0)).lt o4
  have hAl := (Bw.refl w4).alloc (.cells #[.slice A1 n1 c1, .slice A2 n2 c2, .slice A3 n3 c3, .int .i64 s.tests] 28)
  have bX := Box.new w4 #[.slice A1 n1 c1, .slice A2 n2 c2, .slice A3 n3 c3, .int .i64 s.tests] 28
  have D5 := D4.bw hAl
  have bR5 := bR4.bw hAl
  have o5 := keepBw hAl fStanding_good o4
  obtain ⟨b, hb⟩ : ∃ b, b = w4.heap.size := ⟨_, rfl⟩
  obtain ⟨X, hX⟩ : ∃ X, X = w4.alloc (.cells #[.slice A1 n1 c1, .slice A2 n2 c2, .slice A3 n3 c3, .int .i64 s.tests] 28) := ⟨_, rfl⟩
  rw [← hX] at D5 bX bR5 o5
  rw [← hb] at bX hFlt
  have hbW : w1.heap.size ≤ b := by have := hO4.1; omega
  have hbp : b ≠ p := by omega
  have HX := Lib.hid hX
  have HBB := Lib.hid hb
  have hcall := D_l1Once W X p D5.at' 3 (by omega) (by omega)
  have hne1 : b ≠ w.heap.size := by omega
  clear hX hb o4 hAl D4 bR bR4 hO4 hA4
  by_cases hpos : 0 < n3
  · have hpi : (n3 : Int) > 0 := by omega
    go_wp2_with fail
    rw [← HX.out]
    refine hcall.mono ?_
    rintro e w7 ⟨v5, rfl, ⟨sw, rfl⟩, hO5, hA5⟩
    have D7 := D5.call hO5 hA5
    have bX7 := bX.only hO5 (by simpa using hbp)
    have bR7 := bR5.only hO5 (by simp; omega)
    have o7 := D5.keep hO5 fStanding_good o5 (fun c hc => by have := f4.ge c hc; omega)
    rw [← HBB.out]
    clear hcall hO5 hA5 D5 bX bR5 o5 D0
    cases sw
    · have AD : Bw w7 w7.drew := (Bw.refl w7).drew
      have D8 := D7.bw AD
      have bX8 := bX7.bw AD
      have bR8 := bR7.bw AD
      have o8 := keepBw AD fStanding_good o7
      have hcall := D_l1Below W w7.drew p D8.at' n3 (by omega) (by omega)
      have x0 := bX8.c 0 _ rfl
      have x1 := bX8.c 1 _ rfl
      have x2 := bX8.c 2 _ rfl
      have x3 := bX8.c 3 _ rfl
      have xf := bX8.fr
      clear D7 bX7 bR7 o7
      go_wp2_with fail
      refine wp_region_held_drew (S := (fun w' => w'.cell? ⟨b, 0, none⟩ = some (.slice A1 n1 c1) ∧ w'.cell? ⟨b, 1, none⟩ = some (.slice A2 n2 c2) ∧ w'.cell? ⟨b, 2, none⟩ = some (.slice A3 n3 c3) ∧ w'.cell? ⟨b, 3, none⟩ = some (.int .i64 s.tests))) (by kernel_rfl) ?_ (fun hHeld => ?_)
      · exact ⟨x0, x1, x2, x3⟩
      refine wpAnyH_take (i := 0) (oi := _) (v := ?_) rfl (by kernel_rfl) (by kernel_rfl) (by kernel_rfl) (fun _ _ _ h => h) (Or.inl ⟨by rfl, ?_⟩) (by assumption) ?_
      rotate_left 1
      · (intro wS hSw; (try dsimp only at hSw); go_simp; try with_reducible rfl)
      try simp only [Act.put, List.getElem_toArray, List.getElem_cons_zero, List.getElem_cons_succ, List.setIfInBounds_toArray, List.set_cons_zero, List.set_cons_succ]
      refine wpAnyH_take (i := 1) (oi := _) (v := ?_) rfl (by kernel_rfl) (by kernel_rfl) (by kernel_rfl) (fun _ _ _ h => h) (Or.inl ⟨by rfl, ?_⟩) (by assumption) ?_
      rotate_left 1
      · (intro wS hSw; (try dsimp only at hSw); go_simp; try with_reducible rfl)
      try simp only [Act.put, List.getElem_toArray, List.getElem_cons_zero, List.getElem_cons_succ, List.setIfInBounds_toArray, List.set_cons_zero, List.set_cons_succ]
      refine wpAnyH_take (i := 2) (oi := _) (v := ?_) rfl (by kernel_rfl) (by kernel_rfl) (by kernel_rfl) (fun _ _ _ h => h) (Or.inl ⟨by rfl, ?_⟩) (by assumption) ?_
      rotate_left 1
      · (intro wS hSw; (try dsimp only at hSw); go_simp; try with_reducible rfl)
      try simp only [Act.put, List.getElem_toArray, List.getElem_cons_zero, List.getElem_cons_succ, List.setIfInBounds_toArray, List.set_cons_zero, List.set_cons_succ]
      refine wpAnyH_take (i := 3) (oi := _) (v := ?_) rfl (by kernel_rfl) (by kernel_rfl) (by kernel_rfl) (fun _ _ _ h => h) (Or.inl ⟨by rfl, ?_⟩) (by assumption) ?_
      rotate_left 1
      · (intro wS hSw; (try dsimp only at hSw); go_simp; try with_reducible rfl)
      try simp only [Act.put, List.getElem_toArray, List.getElem_cons_zero, List.getElem_cons_succ, List.setIfInBounds_toArray, List.set_cons_zero, List.set_cons_succ]
      refine wpAnyH_take (i := 4) (oi := _) (v := ?_) rfl (by kernel_rfl) (by kernel_rfl) (by kernel_rfl) (fun _ _ _ h => h) (Or.inl ⟨by rfl, ?_⟩) (by assumption) ?_
      rotate_left 1
      · (intro wS hSw; (try dsimp only at hSw); go_simp; try with_reducible rfl)
      try simp only [Act.put, List.getElem_toArray, List.getElem_cons_zero, List.getElem_cons_succ, List.setIfInBounds_toArray, List.set_cons_zero, List.set_cons_succ]
      refine wpAnyH_take (i := 5) (oi := _) (v := ?_) rfl (by kernel_rfl) (by kernel_rfl) (by kernel_rfl) (fun _ _ _ h => h) (Or.inl ⟨by rfl, ?_⟩) (by assumption) ?_
      rotate_left 1
      · (intro wS hSw; (try dsimp only at hSw); go_simp; try with_reducible rfl)
      try simp only [Act.put, List.getElem_toArray, List.getElem_cons_zero, List.getElem_cons_succ, List.setIfInBounds_toArray, List.set_cons_zero, List.set_cons_succ]
      refine wpAnyH_take (i := 6) (oi := _) (v := ?_) rfl (by kernel_rfl) (by kernel_rfl) (by kernel_rfl) (fun _ _ _ h => h) (Or.inl ⟨by rfl, ?_⟩) (by assumption) ?_
      rotate_left 1
      · (intro wS hSw; (try dsimp only at hSw); go_simp; try with_reducible rfl)
      try simp only [Act.put, List.getElem_toArray, List.getElem_cons_zero, List.getElem_cons_succ, List.setIfInBounds_toArray, List.set_cons_zero, List.set_cons_succ]
      refine wpAnyH_ready (rs := [7]) (by kernel_rfl) (by simp) (AllReadyH.cons (o := _) rfl (fun K hK => ?_) AllReadyH.nil)
      go_simp
      refine hcall.mono ?_
      rintro e w9 ⟨v9, rfl, ⟨id, rfl, d1, d2⟩, hO9, hA9⟩
      have D9 := D8.call hO9 hA9
      have bX9 := bX8.only hO9 (by simpa using hbp)
      have bR9 := bR8.only hO9 (by simp; omega)
      have o9 := D8.keep hO9 fStanding_good o8 (fun c hc => by have := f4.ge c hc; omega)
      obtain ⟨k, rfl⟩ : ∃ k : Nat, id = (k : Int) := ⟨id.toNat, by omega⟩
      obtain ⟨y, hy⟩ := get_of_lt (xs := s.best) (k := k) (by have := L3.out; omega)
      obtain ⟨G, H, I, y1, y2, y3, eF, _⟩ := fSt_parts o9
      obtain ⟨bb, oo, rfl, hbb, hc0⟩ := rInts_at (fInts_rd (B := 0) y3) hy
      have hbbF : bb ∈ F := by rw [eF]; have := hbb.resolve_right (Nat.not_lt_zero _); simp [this]
      have hbbR : bb ≠ w.heap.size := fun h => by have := f4.ge _ hbbF; omega
      have i2 : (k : Int) < (n3 : Int) := by omega
      have i1 : (0 : Int) ≤ (k : Int) := by omega
      clear x0 x1 x2 x3 xf
      clear hcall o8 bX8 bR8 hO9 hA9 D8 hy y1 y2 y3
      refine hK.out _ _ ⟨bX9.c 0 _ rfl, bX9.c 1 _ rfl, bX9.c 2 _ rfl, bX9.c 3 _ rfl⟩ (fun hHeld => ?_)
      clear hK K
      try simp only [Act.put, List.getElem_toArray, List.getElem_cons_zero, List.getElem_cons_succ, List.setIfInBounds_toArray, List.set_cons_zero, List.set_cons_succ]
      refine wpAnyH_more (S' := (fun w' => (w'.cell? ⟨b, 0, none⟩ = some (.slice A1 n1 c1) ∧ w'.cell? ⟨b, 1, none⟩ = some (.slice A2 n2 c2) ∧ w'.cell? ⟨b, 2, none⟩ = some (.slice (some ⟨bb, oo, none⟩) n3 c3) ∧ w'.cell? ⟨b, 3, none⟩ = some (.int .i64 s.tests)) ∧ w'.cell? ⟨bb, oo + k, none⟩ = some (.int .i64 y))) (fun _ h => h.1) _ _ _ _ ?_
      replace hHeld := And.intro hHeld hc0
      refine wpAnyH_take (i := 8) (oi := _) (v := ?_) rfl (by kernel_rfl) (by kernel_rfl) (by kernel_rfl) (fun _ _ _ h => h) (Or.inl ⟨by rfl, ?_⟩) (by assumption) ?_
      rotate_left 1
      · (intro wS hSw; (try dsimp only at hSw); go_simp; try with_reducible rfl)
      try simp only [Act.put, List.getElem_toArray, List.getElem_cons_zero, List.getElem_cons_succ, List.setIfInBounds_toArray, List.set_cons_zero, List.set_cons_succ]
      refine wpAnyH_take (i := 9) (oi := _) (v := ?_) rfl (by kernel_rfl) (by kernel_rfl) (by kernel_rfl) (fun _ _ _ h => h) (Or.inl ⟨by rfl, ?_⟩) (by assumption) ?_
      rotate_left 1
      · (intro wS hSw; (try dsimp only at hSw); go_simp; try with_reducible rfl)
      try simp only [Act.put, List.getElem_toArray, List.getElem_cons_zero, List.getElem_cons_succ, List.setIfInBounds_toArray, List.set_cons_zero, List.set_cons_succ]
      have hm : bb ∉ [w.heap.size] := by simpa using hbbR
      refine wpAnyH_ready (rs := [10]) (by kernel_rfl) (by simp) (AllReadyH.cons (o := _) rfl (fun K hK => ?_) AllReadyH.nil)
      have r0 := bR9.c 0 _ rfl
      have r1 := bR9.c 1 _ rfl
      have r2 := bR9.c 2 _ rfl
      have r3 := bR9.c 3 _ rfl
      have rf := bR9.fr
      go_simp
      clear r0 r1 r2 r3 rf
      have nR : w.heap.size ∉ F := fun h => by have := f4.ge _ h; omega
      have bR10 := (((bR9.set (j := 0) (by simp) (.slice A1 n1 c1)).set (j := 1) (by simp) (.slice A2 n2 c2)).set (j := 2) (by simp) (.slice (some ⟨bb, oo, none⟩) n3 c3)).set (j := 3) (by simp) (.int .i64 s.tests)
      have bX10 := (((bX9.only (only_setCell w.heap.size 0 w9 (.slice A1 n1 c1)) (by simpa using hne1)).only (only_setCell w.heap.size 1 _ (.slice A2 n2 c2)) (by simpa using hne1)).only (only_setCell w.heap.size 2 _ (.slice (some ⟨bb, oo, none⟩) n3 c3)) (by simpa using hne1)).only (only_setCell w.heap.size 3 _ (.int .i64 s.tests)) (by simpa using hne1)
      have o10 := keepSet4 (b := w.heap.size) (a0 := .slice A1 n1 c1) (a1 := .slice A2 n2 c2) (a2 := .slice (some ⟨bb, oo, none⟩) n3 c3) (a3 := .int .i64 s.tests) fStanding_good o9 nR
      have B10 := Bw.set4 (b := w.heap.size) (a0 := .slice A1 n1 c1) (a1 := .slice A2 n2 c2) (a2 := .slice (some ⟨bb, oo, none⟩) n3 c3) (a3 := .int .i64 s.tests) (A0.then D9.at'.bw) (Nat.le_refl _)
      unfold set4 at o10 B10
      obtain ⟨Z, hZ⟩ : ∃ Z, Z = (((w9.setCell ⟨w.heap.size, 0, none⟩ (.slice A1 n1 c1)).setCell ⟨w.heap.size, 1, none⟩ (.slice A2 n2 c2)).setCell ⟨w.heap.size, 2, none⟩ (.slice (some ⟨bb, oo, none⟩) n3 c3)).setCell ⟨w.heap.size, 3, none⟩ (.int .i64 s.tests) := ⟨_, rfl⟩
      rw [← hZ] at bR10 bX10 o10 B10 ⊢
      have HZ := Lib.hid hZ
      clear hZ
      have c10 : Z.cell? ⟨bb, oo + k, none⟩ = some (.int .i64 y) := by rw [HZ.out]; exact (only_setCell _ 3 _ _).cell ((only_setCell _ 2 _ _).cell ((only_setCell _ 1 _ _).cell ((only_setCell _ 0 _ _).cell hc0 hm) hm) hm) hm
      refine hK.out _ _ ⟨⟨bX10.c 0 _ rfl, bX10.c 1 _ rfl, bX10.c 2 _ rfl, bX10.c 3 _ rfl⟩, c10⟩ (fun hHeld => ?_)
      clear hK K
      try simp only [Act.put, List.getElem_toArray, List.getElem_cons_zero, List.getElem_cons_succ, List.setIfInBounds_toArray, List.set_cons_zero, List.set_cons_succ]
      refine wpAnyH_take (i := 11) (oi := _) (v := ?_) rfl (by kernel_rfl) (by kernel_rfl) (by kernel_rfl) (fun _ _ _ h => h) (Or.inl ⟨by rfl, ?_⟩) (by assumption) ?_
      rotate_left 1
      · (intro wS hSw; (try dsimp only at hSw); go_simp; try with_reducible rfl)
      try simp only [Act.put, List.getElem_toArray, List.getElem_cons_zero, List.getElem_cons_succ, List.setIfInBounds_toArray, List.set_cons_zero, List.set_cons_succ]
      refine wpAnyH_done (by kernel_rfl) ?_ _
      clear bX10 bX9 bR9 o9 hHeld
      have r0 := bR10.c 0 _ rfl
      have r1 := bR10.c 1 _ rfl
      have r2 := bR10.c 2 _ rfl
      have r3 := bR10.c 3 _ rfl
      have rf := bR10.fr
      go_wp2
      refine bodyPost_ret (v := .tuple #[.agg #[.slice A1 n1 c1, .slice A2 n2 c2, .slice (some ⟨bb, oo, none⟩) n3 c3, .int .i64 s.tests], .int .i64 (y)]) (by simp [results, Tryz.results17, go_sem, r0, r1, r2, r3]) rfl ?_
      exact ⟨_, _, rfl, fSt_TSt o10 sm, B10⟩
    · skip
      have AD : Bw w7 w7.drew := (Bw.refl w7).drew
      have D8 := Dn.bw D7 AD
      have bX8 := Box.bw bX7 AD
      have bR8 := Box.bw bR7 AD
      have o8 := keepBw AD fStanding_good o7
      have hcall := D_l1Below W w7.drew p D8.at' 10 (by omega) (by omega)
      have x0 := bX8.c 0 _ rfl
      have x1 := bX8.c 1 _ rfl
      have x2 := bX8.c 2 _ rfl
      have x3 := bX8.c 3 _ rfl
      have xf := bX8.fr
      clear D7 bX7 bR7 o7
      go_wp2_with fail
      skip
      refine wp_region_held_drew (S := (fun w' => w'.cell? ⟨b, 0, none⟩ = some (.slice A1 n1 c1) ∧ w'.cell? ⟨b, 1, none⟩ = some (.slice A2 n2 c2) ∧ w'.cell? ⟨b, 2, none⟩ = some (.slice A3 n3 c3) ∧ w'.cell? ⟨b, 3, none⟩ = some (.int .i64 s.tests))) (by kernel_rfl) ?_ (fun hHeld => ?_)
      · exact ⟨x0, x1, x2, x3⟩
      refine wpAnyH_take (i := 0) (oi := _) (v := ?_) rfl (by kernel_rfl) (by kernel_rfl) (by kernel_rfl) (fun _ _ _ h => h) (Or.inl ⟨by rfl, ?_⟩) (by assumption) ?_
      rotate_left 1
      · (intro wS hSw; (try dsimp only at hSw); go_simp; try with_reducible rfl)
      try simp only [Act.put, List.getElem_toArray, List.getElem_cons_zero, List.getElem_cons_succ, List.setIfInBounds_toArray, List.set_cons_zero, List.set_cons_succ]
      refine wpAnyH_take (i := 1) (oi := _) (v := ?_) rfl (by kernel_rfl) (by kernel_rfl) (by kernel_rfl) (fun _ _ _ h => h) (Or.inl ⟨by rfl, ?_⟩) (by assumption) ?_
      rotate_left 1
      · (intro wS hSw; (try dsimp only at hSw); go_simp; try with_reducible rfl)
      try simp only [Act.put, List.getElem_toArray, List.getElem_cons_zero, List.getElem_cons_succ, List.setIfInBounds_toArray, List.set_cons_zero, List.set_cons_succ]
      refine wpAnyH_ready (rs := [2]) (by kernel_rfl) (by simp) (AllReadyH.cons (o := _) rfl (fun K hK => ?_) AllReadyH.nil)
      go_simp
      refine hcall.mono ?_
      rintro e w9 ⟨v9, rfl, ⟨id, rfl, d1, d2⟩, hO9, hA9⟩
      have D9 := D8.call hO9 hA9
      have bX9 := bX8.only hO9 (by simpa using hbp)
      have bR9 := bR8.only hO9 (by simp; omega)
      have o9 := D8.keep hO9 fStanding_good o8 (fun c hc => by have := f4.ge c hc; omega)
      clear x0 x1 x2 x3 xf
      clear hcall o8 bX8 bR8 hO9 hA9 D8
      refine hK.out _ _ ⟨bX9.c 0 _ rfl, bX9.c 1 _ rfl, bX9.c 2 _ rfl, bX9.c 3 _ rfl⟩ (fun hHeld => ?_)
      clear hK K
      try simp only [Act.put, List.getElem_toArray, List.getElem_cons_zero, List.getElem_cons_succ, List.setIfInBounds_toArray, List.set_cons_zero, List.set_cons_succ]
      have hwr : IntKind.i64.wrap (id - 1) = id - 1 := by simp [IntKind.wrap, IntKind.bits, IntKind.signed]; omega
      refine wpAnyH_take (i := 3) (oi := _) (v := ?_) rfl (by kernel_rfl) (by kernel_rfl) (by kernel_rfl) (fun _ _ _ h => h) (Or.inl ⟨by rfl, ?_⟩) (by assumption) ?_
      rotate_left 1
      · (intro wS hSw; (try dsimp only at hSw); go_simp; try with_reducible rfl)
      try simp only [Act.put, List.getElem_toArray, List.getElem_cons_zero, List.getElem_cons_succ, List.setIfInBounds_toArray, List.set_cons_zero, List.set_cons_succ]
      clear hwr
      refine wpAnyH_ready (rs := [4]) (by kernel_rfl) (by simp) (AllReadyH.cons (o := _) rfl (fun K hK => ?_) AllReadyH.nil)
      have r0 := bR9.c 0 _ rfl
      have r1 := bR9.c 1 _ rfl
      have r2 := bR9.c 2 _ rfl
      have r3 := bR9.c 3 _ rfl
      have rf := bR9.fr
      go_simp
      clear r0 r1 r2 r3 rf
      have nR : w.heap.size ∉ F := fun h => by have := f4.ge _ h; omega
      have bR10 := (((bR9.set (j := 0) (by simp) (.slice A1 n1 c1)).set (j := 1) (by simp) (.slice A2 n2 c2)).set (j := 2) (by simp) (.slice (A3) n3 c3)).set (j := 3) (by simp) (.int .i64 s.tests)
      have bX10 := (((bX9.only (only_setCell w.heap.size 0 w9 (.slice A1 n1 c1)) (by simpa using hne1)).only (only_setCell w.heap.size 1 _ (.slice A2 n2 c2)) (by simpa using hne1)).only (only_setCell w.heap.size 2 _ (.slice (A3) n3 c3)) (by simpa using hne1)).only (only_setCell w.heap.size 3 _ (.int .i64 s.tests)) (by simpa using hne1)
      have o10 := keepSet4 (b := w.heap.size) (a0 := .slice A1 n1 c1) (a1 := .slice A2 n2 c2) (a2 := .slice (A3) n3 c3) (a3 := .int .i64 s.tests) fStanding_good o9 nR
      have B10 := Bw.set4 (b := w.heap.size) (a0 := .slice A1 n1 c1) (a1 := .slice A2 n2 c2) (a2 := .slice (A3) n3 c3) (a3 := .int .i64 s.tests) (A0.then D9.at'.bw) (Nat.le_refl _)
      unfold set4 at o10 B10
      obtain ⟨Z, hZ⟩ : ∃ Z, Z = (((w9.setCell ⟨w.heap.size, 0, none⟩ (.slice A1 n1 c1)).setCell ⟨w.heap.size, 1, none⟩ (.slice A2 n2 c2)).setCell ⟨w.heap.size, 2, none⟩ (.slice (A3) n3 c3)).setCell ⟨w.heap.size, 3, none⟩ (.int .i64 s.tests) := ⟨_, rfl⟩
      rw [← hZ] at bR10 bX10 o10 B10 ⊢
      have HZ := Lib.hid hZ
      clear hZ
      skip
      refine hK.out _ _ ⟨bX10.c 0 _ rfl, bX10.c 1 _ rfl, bX10.c 2 _ rfl, bX10.c 3 _ rfl⟩ (fun hHeld => ?_)
      clear hK K
      try simp only [Act.put, List.getElem_toArray, List.getElem_cons_zero, List.getElem_cons_succ, List.setIfInBounds_toArray, List.set_cons_zero, List.set_cons_succ]
      refine wpAnyH_take (i := 5) (oi := _) (v := ?_) rfl (by kernel_rfl) (by kernel_rfl) (by kernel_rfl) (fun _ _ _ h => h) (Or.inl ⟨by rfl, ?_⟩) (by assumption) ?_
      rotate_left 1
      · (intro wS hSw; (try dsimp only at hSw); go_simp; try with_reducible rfl)
      try simp only [Act.put, List.getElem_toArray, List.getElem_cons_zero, List.getElem_cons_succ, List.setIfInBounds_toArray, List.set_cons_zero, List.set_cons_succ]
      refine wpAnyH_done (by kernel_rfl) ?_ _
      clear bX10 bX9 bR9 o9 hHeld
      have r0 := bR10.c 0 _ rfl
      have r1 := bR10.c 1 _ rfl
      have r2 := bR10.c 2 _ rfl
      have r3 := bR10.c 3 _ rfl
      have rf := bR10.fr
      go_wp2
      refine bodyPost_ret (v := .tuple #[.agg #[.slice A1 n1 c1, .slice A2 n2 c2, .slice (A3) n3 c3, .int .i64 s.tests], .int .i64 (id - 1)]) (by simp [results, Tryz.results17, go_sem, r0, r1, r2, r3]) rfl ?_
      exact ⟨_, _, rfl, fSt_TSt o10 sm, B10⟩
  · have hpi : ¬ (n3 : Int) > 0 := by omega
    clear hcall
    have AD : Bw X X.drew := (Bw.refl X).drew
    have D8 := Dn.bw D5 AD
    have bX8 := Box.bw bX AD
    have bR8 := Box.bw bR5 AD
    have o8 := keepBw AD fStanding_good o5
    have hcall := D_l1Below W X.drew p D8.at' 10 (by omega) (by omega)
    have x0 := bX8.c 0 _ rfl
    have x1 := bX8.c 1 _ rfl
    have x2 := bX8.c 2 _ rfl
    have x3 := bX8.c 3 _ rfl
    have xf := bX8.fr
    clear D5 bX bR5 o5
    go_wp2_with fail
    rw [← HX.out, ← HBB.out]
    refine wp_region_held_drew (S := (fun w' => w'.cell? ⟨b, 0, none⟩ = some (.slice A1 n1 c1) ∧ w'.cell? ⟨b, 1, none⟩ = some (.slice A2 n2 c2) ∧ w'.cell? ⟨b, 2, none⟩ = some (.slice A3 n3 c3) ∧ w'.cell? ⟨b, 3, none⟩ = some (.int .i64 s.tests))) (by kernel_rfl) ?_ (fun hHeld => ?_)
    · exact ⟨x0, x1, x2, x3⟩
    refine wpAnyH_take (i := 0) (oi := _) (v := ?_) rfl (by kernel_rfl) (by kernel_rfl) (by kernel_rfl) (fun _ _ _ h => h) (Or.inl ⟨by rfl, ?_⟩) (by assumption) ?_
    rotate_left 1
    · (intro wS hSw; (try dsimp only at hSw); go_simp; try with_reducible rfl)
    try simp only [Act.put, List.getElem_toArray, List.getElem_cons_zero, List.getElem_cons_succ, List.setIfInBounds_toArray, List.set_cons_zero, List.set_cons_succ]
    refine wpAnyH_take (i := 1) (oi := _) (v := ?_) rfl (by kernel_rfl) (by kernel_rfl) (by kernel_rfl) (fun _ _ _ h => h) (Or.inl ⟨by rfl, ?_⟩) (by assumption) ?_
    rotate_left 1
    · (intro wS hSw; (try dsimp only at hSw); go_simp; try with_reducible rfl)
    try simp only [Act.put, List.getElem_toArray, List.getElem_cons_zero, List.getElem_cons_succ, List.setIfInBounds_toArray, List.set_cons_zero, List.set_cons_succ]
    refine wpAnyH_ready (rs := [2]) (by kernel_rfl) (by simp) (AllReadyH.cons (o := _) rfl (fun K hK => ?_) AllReadyH.nil)
    go_simp
    refine hcall.mono ?_
    rintro e w9 ⟨v9, rfl, ⟨id, rfl, d1, d2⟩, hO9, hA9⟩
    have D9 := D8.call hO9 hA9
    have bX9 := bX8.only hO9 (by simpa using hbp)
    have bR9 := bR8.only hO9 (by simp; omega)
    have o9 := D8.keep hO9 fStanding_good o8 (fun c hc => by have := f4.ge c hc; omega)
    clear x0 x1 x2 x3 xf
    clear hcall o8 bX8 bR8 hO9 hA9 D8
    refine hK.out _ _ ⟨bX9.c 0 _ rfl, bX9.c 1 _ rfl, bX9.c 2 _ rfl, bX9.c 3 _ rfl⟩ (fun hHeld => ?_)
    clear hK K
    try simp only [Act.put, List.getElem_toArray, List.getElem_cons_zero, List.getElem_cons_succ, List.setIfInBounds_toArray, List.set_cons_zero, List.set_cons_succ]
    have hwr : IntKind.i64.wrap (id - 1) = id - 1 := by simp [IntKind.wrap, IntKind.bits, IntKind.signed]; omega
    refine wpAnyH_take (i := 3) (oi := _) (v := ?_) rfl (by kernel_rfl) (by kernel_rfl) (by kernel_rfl) (fun _ _ _ h => h) (Or.inl ⟨by rfl, ?_⟩) (by assumption) ?_
    rotate_left 1
    · (intro wS hSw; (try dsimp only at hSw); go_simp; try with_reducible rfl)
    try simp only [Act.put, List.getElem_toArray, List.getElem_cons_zero, List.getElem_cons_succ, List.setIfInBounds_toArray, List.set_cons_zero, List.set_cons_succ]
    clear hwr
    refine wpAnyH_ready (rs := [4]) (by kernel_rfl) (by simp) (AllReadyH.cons (o := _) rfl (fun K hK => ?_) AllReadyH.nil)
    have r0 := bR9.c 0 _ rfl
    have r1 := bR9.c 1 _ rfl
    have r2 := bR9.c 2 _ rfl
    have r3 := bR9.c 3 _ rfl
    have rf := bR9.fr
    go_simp
    clear r0 r1 r2 r3 rf
    have nR : w.heap.size ∉ F := fun h => by have := f4.ge _ h; omega
    have bR10 := (((bR9.set (j := 0) (by simp) (.slice A1 n1 c1)).set (j := 1) (by simp) (.slice A2 n2 c2)).set (j := 2) (by simp) (.slice (A3) n3 c3)).set (j := 3) (by simp) (.int .i64 s.tests)
    have bX10 := (((bX9.only (only_setCell w.heap.size 0 w9 (.slice A1 n1 c1)) (by simpa using hne1)).only (only_setCell w.heap.size 1 _ (.slice A2 n2 c2)) (by simpa using hne1)).only (only_setCell w.heap.size 2 _ (.slice (A3) n3 c3)) (by simpa using hne1)).only (only_setCell w.heap.size 3 _ (.int .i64 s.tests)) (by simpa using hne1)
    have o10 := keepSet4 (b := w.heap.size) (a0 := .slice A1 n1 c1) (a1 := .slice A2 n2 c2) (a2 := .slice (A3) n3 c3) (a3 := .int .i64 s.tests) fStanding_good o9 nR
    have B10 := Bw.set4 (b := w.heap.size) (a0 := .slice A1 n1 c1) (a1 := .slice A2 n2 c2) (a2 := .slice (A3) n3 c3) (a3 := .int .i64 s.tests) (A0.then D9.at'.bw) (Nat.le_refl _)
    unfold set4 at o10 B10
    obtain ⟨Z, hZ⟩ : ∃ Z, Z = (((w9.setCell ⟨w.heap.size, 0, none⟩ (.slice A1 n1 c1)).setCell ⟨w.heap.size, 1, none⟩ (.slice A2 n2 c2)).setCell ⟨w.heap.size, 2, none⟩ (.slice (A3) n3 c3)).setCell ⟨w.heap.size, 3, none⟩ (.int .i64 s.tests) := ⟨_, rfl⟩
    rw [← hZ] at bR10 bX10 o10 B10 ⊢
    have HZ := Lib.hid hZ
    clear hZ
    skip
    refine hK.out _ _ ⟨bX10.c 0 _ rfl, bX10.c 1 _ rfl, bX10.c 2 _ rfl, bX10.c 3 _ rfl⟩ (fun hHeld => ?_)
    clear hK K
    try simp only [Act.put, List.getElem_toArray, List.getElem_cons_zero, List.getElem_cons_succ, List.setIfInBounds_toArray, List.set_cons_zero, List.set_cons_succ]
    refine wpAnyH_take (i := 5) (oi := _) (v := ?_) rfl (by kernel_rfl) (by kernel_rfl) (by kernel_rfl) (fun _ _ _ h => h) (Or.inl ⟨by rfl, ?_⟩) (by assumption) ?_
    rotate_left 1
    · (intro wS hSw; (try dsimp only at hSw); go_simp; try with_reducible rfl)
    try simp only [Act.put, List.getElem_toArray, List.getElem_cons_zero, List.getElem_cons_succ, List.setIfInBounds_toArray, List.set_cons_zero, List.set_cons_succ]
    refine wpAnyH_done (by kernel_rfl) ?_ _
    clear bX10 bX9 bR9 o9 hHeld
    have r0 := bR10.c 0 _ rfl
    have r1 := bR10.c 1 _ rfl
    have r2 := bR10.c 2 _ rfl
    have r3 := bR10.c 3 _ rfl
    have rf := bR10.fr
    go_wp2
    refine bodyPost_ret (v := .tuple #[.agg #[.slice A1 n1 c1, .slice A2 n2 c2, .slice (A3) n3 c3, .int .i64 s.tests], .int .i64 (id - 1)]) (by simp [results, Tryz.results17, go_sem, r0, r1, r2, r3]) rfl ?_
    exact ⟨_, _, rfl, fSt_TSt o10 sm, B10⟩
end Go.Proofs.YtpihighajaeabaaGreat
