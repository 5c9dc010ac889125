/- Draws: any items, any expression, wishes. -/
import Derived.Test.YtpihighajaeabaaGreatQHoles
import Derived.Test.YtpihighajaeabaaGreatQRuleR
namespace Go.Proofs.YtpihighajaeabaaGreat
open Go.RowKit
set_option linter.unusedVariables false
set_option linter.unusedSimpArgs false
set_option maxRecDepth 100000 in
set_option maxHeartbeats 6400000 in
theorem D_l4Any (w0 w : World) (p : Nat) (hA : At w0 p w) : Calls Tryz.prog 231 #[.pointer (some ⟨p, 0, none⟩)] w
    (RetD w0 p w (DWish w.heap.size gWishA)) := by
  obtain ⟨i0, hi, hz0, hz1, hz2⟩ := info_parts info_int
  have D0 := Dn.start hA
  have hlt := hA.lt
  have D1 := D0.alloc (.cells #[.int .i64 0, .int .i64 0, .int .i64 0, .slice none 0 0, .slice none 0 0] 109)
  have bR := Box.new w #[.int .i64 0, .int .i64 0, .int .i64 0, .slice none 0 0, .slice none 0 0] 109
  have hcall := D_l4Wish w0 _ p D1.at'
  go_enter Tryz.func231, Tryz.ntmps231
  go_wp2_with fail
  refine hcall.mono ?_
  rintro e w1 ⟨v1, rfl, ⟨⟨kd, fd, va, l, ps⟩, u, t, F, G, rfl, o1, o2, hF, hx⟩, hO1, hA1⟩
  dsimp only at o1 o2
  have D2 := D1.call hO1 hA1
  replace bR := bR.only hO1 (by simp; omega)
  have hw1 : w.heap.size < (w.alloc (.cells #[.int .i64 0, .int .i64 0, .int .i64 0, .slice none 0 0, .slice none 0 0] 109)).heap.size := by simp
  obtain ⟨m1, hz1'⟩ : ∃ m1, m1 = (w.alloc (.cells #[.int .i64 0, .int .i64 0, .int .i64 0, .slice none 0 0, .slice none 0 0] 109)).heap.size := ⟨_, rfl⟩
  rw [← hz1'] at hF hw1
  have hz1w : m1 ≤ w1.heap.size := by rw [hz1']; exact hO1.1
  clear hz1'
  obtain ⟨Al, nl, cl, rfl, l1, _⟩ := rSl_open (fInts_Rd o1)
  obtain ⟨Ap, np, cp, rfl, l2, _⟩ := rSl_open (fPairs_Rd o2)
  have HL1 := Lib.hid l1
  have HL2 := Lib.hid l2
  have HX := Lib.hid hx
  have bX := Box.new w1 #[.int .i64 kd, .int .i64 fd, .int .i64 va, .slice Al nl cl, .slice Ap np cp] 109
  have D4 := D2.alloc (.cells #[.int .i64 kd, .int .i64 fd, .int .i64 va, .slice Al nl cl, .slice Ap np cp] 109)
  have hFlt := (fInts_good (B := 0)).lt o1
  have hGlt := (fPairs_good (B := 0)).lt o2
  have hAl := (Bw.refl w1).alloc (.cells #[.int .i64 kd, .int .i64 fd, .int .i64 va, .slice Al nl cl, .slice Ap np cp] 109)
  replace o1 := keepBw hAl fInts_good o1
  replace o2 := keepBw hAl fPairs_good o2
  replace bR := bR.bw hAl
  obtain ⟨b, hb⟩ : ∃ b, b = w1.heap.size := ⟨_, rfl⟩
  obtain ⟨W, hW⟩ : ∃ W, W = w1.alloc (.cells #[.int .i64 kd, .int .i64 fd, .int .i64 va, .slice Al nl cl, .slice Ap np cp] 109) := ⟨_, rfl⟩
  rw [← hW] at D4 bX bR o1 o2
  rw [← hb] at bX hFlt hGlt hz1w
  have HW := Lib.hid hW
  have HB := Lib.hid hb
  have hcall2 := D_l1Below w0 W p D4.at' 10 (by omega) (by omega)
  clear hcall hW hb D1 D2 hO1 hA1 hAl hx l1 l2
  have hne1 : b ≠ w.heap.size := by omega
  have hne2 : w.heap.size ≠ b := by omega
  go_wp2_with fail
  rw [← HW.out]
  refine hcall2.mono ?_
  rintro e w3 ⟨v3, rfl, ⟨sw, rfl, s1, s2⟩, hO3, hA3⟩
  have D5 := D4.call hO3 hA3
  replace bX := bX.only hO3 (by simp; omega)
  replace bR := bR.only hO3 (by simp; omega)
  replace o1 := D4.keep hO3 fInts_good o1 (fun c hc => by have := hF.ge c (List.mem_append_left _ hc); omega)
  replace o2 := D4.keep hO3 fPairs_good o2 (fun c hc => by have := hF.ge c (List.mem_append_right _ hc); omega)
  rw [← HB.out]
  clear hcall2 hO3 D4
  have nbF : b ∉ F := fun h => by have := hFlt _ h; omega
  have nbG : b ∉ G := fun h => by have := hGlt _ h; omega
  by_cases h0 : sw = 0
  · subst h0
    have hcall := D_l1Below w0 w3 p hA3 7 (by omega) (by omega)
    clear hA3
    go_wp2_with fail
    refine hcall.mono ?_
    rintro e w4 ⟨v4, rfl, ⟨y, rfl, y1, y2⟩, hO4, hA4⟩
    have D6 := D5.call hO4 hA4
    have bX6 := bX.only hO4 (by simp; omega)
    have bR6 := bR.only hO4 (by simp; omega)
    have p1 := keepSet (b := b) (o := 0) (u := .int .i64 (y - 1)) fInts_good (D5.keep hO4 fInts_good o1 (fun c hc => by have := hF.ge c (List.mem_append_left _ hc); omega)) nbF
    have p2 := keepSet (b := b) (o := 0) (u := .int .i64 (y - 1)) fPairs_good (D5.keep hO4 fPairs_good o2 (fun c hc => by have := hF.ge c (List.mem_append_right _ hc); omega)) nbG
    have D7 := D6.set (b := b) (o := 0) (by omega) (.int .i64 (y - 1))
    have HQ := Lib.hid (show gWishA ⟨y - 1, fd, va, l, ps⟩ from ⟨⟨by dsimp only; omega, by dsimp only; omega⟩, HX.out.a.2⟩)
    clear hcall D6 hO4 hA4 bX bR o1 o2
    have x0 := bX6.c 0 _ rfl
    have x1 := bX6.c 1 _ rfl
    have x2 := bX6.c 2 _ rfl
    have x3 := bX6.c 3 _ rfl
    have x4 := bX6.c 4 _ rfl
    have xf := bX6.fr
    have r0 := bR6.c 0 _ rfl
    have r1 := bR6.c 1 _ rfl
    have r2 := bR6.c 2 _ rfl
    have r3 := bR6.c 3 _ rfl
    have r4 := bR6.c 4 _ rfl
    have rf := bR6.fr
    go_wp2
    refine bodyPost_ret (v := .agg #[.int .i64 (y - 1), .int .i64 fd, .int .i64 va, .slice Al nl cl, .slice Ap np cp]) (by simp [results, Tryz.results231, go_sem, r0, r1, r2, r3, r4, hne1, hne2]) rfl ?_
    exact (D7.set5 (Nat.le_refl _)).ret (DWish.mk (keepSet5 fInts_good p1 (fun h => by have := hF.ge _ (List.mem_append_left _ h); omega)) (keepSet5 fPairs_good p2 (fun h => by have := hF.ge _ (List.mem_append_right _ h); omega)) (hF.mono (by omega)) HQ.out)
  · by_cases h1 : sw = 1
    · subst h1
      have DW := D5.alloc (.cells #[.int .i64 (-1), .int .i64 3] 3)
      have hAl := (Bw.refl w3).alloc (.cells #[.int .i64 (-1), .int .i64 3] 3)
      have hl := fInts_two w3 (-1) 3
      have hz3 := bX.lt
      have hcall := D_l1PickInt w0 _ p DW.at' [-1, 3] _ _ hl (by simp; omega) (by decide) (by decide)
      clear hl h0
      go_wp2_with fail
      refine hcall.mono ?_
      rintro e w4 ⟨v4, rfl, ⟨y, hy, rfl⟩, hO4, hA4⟩
      have D6 := DW.call hO4 hA4
      have bX6 := (bX.bw hAl).only hO4 (by simp; omega)
      have bR6 := (bR.bw hAl).only hO4 (by simp; omega)
      have p1 := keepSet (b := b) (o := 1) (u := .int .i64 y) fInts_good (DW.keep hO4 fInts_good (keepBw hAl fInts_good o1) (fun c hc => by have := hF.ge c (List.mem_append_left _ hc); omega)) nbF
      have p2 := keepSet (b := b) (o := 1) (u := .int .i64 y) fPairs_good (DW.keep hO4 fPairs_good (keepBw hAl fPairs_good o2) (fun c hc => by have := hF.ge c (List.mem_append_right _ hc); omega)) nbG
      have D7 := D6.set (b := b) (o := 1) (by omega) (.int .i64 y)
      have HQ := Lib.hid (show gWishA ⟨kd, y, va, l, ps⟩ from ⟨HX.out.a.1, ⟨by simp at hy; dsimp only; omega, by simp at hy; dsimp only; omega⟩, HX.out.a.2.2⟩)
      clear hcall hy D6 DW hO4 hA4 bX bR o1 o2 hAl
      have x0 := bX6.c 0 _ rfl
      have x1 := bX6.c 1 _ rfl
      have x2 := bX6.c 2 _ rfl
      have x3 := bX6.c 3 _ rfl
      have x4 := bX6.c 4 _ rfl
      have xf := bX6.fr
      have r0 := bR6.c 0 _ rfl
      have r1 := bR6.c 1 _ rfl
      have r2 := bR6.c 2 _ rfl
      have r3 := bR6.c 3 _ rfl
      have r4 := bR6.c 4 _ rfl
      have rf := bR6.fr
      go_wp2
      refine bodyPost_ret (v := .agg #[.int .i64 kd, .int .i64 y, .int .i64 va, .slice Al nl cl, .slice Ap np cp]) (by simp [results, Tryz.results231, go_sem, r0, r1, r2, r3, r4, hne1, hne2]) rfl ?_
      exact (D7.set5 (Nat.le_refl _)).ret (DWish.mk (keepSet5 fInts_good p1 (fun h => by have := hF.ge _ (List.mem_append_left _ h); omega)) (keepSet5 fPairs_good p2 (fun h => by have := hF.ge _ (List.mem_append_right _ h); omega)) (hF.mono (by omega)) HQ.out)
    · by_cases h2 : sw = 2
      · subst h2
        have DW := D5.alloc (.cells #[.int .i64 (-1), .int .i64 9, .int .i64 10] 3)
        have hAl := (Bw.refl w3).alloc (.cells #[.int .i64 (-1), .int .i64 9, .int .i64 10] 3)
        have hl := fInts_tri w3 (-1) 9 10
        have hz3 := bX.lt
        have hcall := D_l1PickInt w0 _ p DW.at' [-1, 9, 10] _ _ hl (by simp; omega) (by decide) (by decide)
        clear hl h0 h1
        go_wp2_with fail
        refine hcall.mono ?_
        rintro e w4 ⟨v4, rfl, ⟨y, hy, rfl⟩, hO4, hA4⟩
        have D6 := DW.call hO4 hA4
        have bX6 := (bX.bw hAl).only hO4 (by simp; omega)
        have bR6 := (bR.bw hAl).only hO4 (by simp; omega)
        have p1 := keepSet (b := b) (o := 2) (u := .int .i64 y) fInts_good (DW.keep hO4 fInts_good (keepBw hAl fInts_good o1) (fun c hc => by have := hF.ge c (List.mem_append_left _ hc); omega)) nbF
        have p2 := keepSet (b := b) (o := 2) (u := .int .i64 y) fPairs_good (DW.keep hO4 fPairs_good (keepBw hAl fPairs_good o2) (fun c hc => by have := hF.ge c (List.mem_append_right _ hc); omega)) nbG
        have D7 := D6.set (b := b) (o := 2) (by omega) (.int .i64 y)
        have HQ := Lib.hid (show gWishA ⟨kd, fd, y, l, ps⟩ from ⟨HX.out.a.1, HX.out.a.2.1, ⟨by simp at hy; dsimp only; omega, by simp at hy; dsimp only; omega⟩, HX.out.a.2.2.2⟩)
        clear hcall hy D6 DW hO4 hA4 bX bR o1 o2 hAl
        have x0 := bX6.c 0 _ rfl
        have x1 := bX6.c 1 _ rfl
        have x2 := bX6.c 2 _ rfl
        have x3 := bX6.c 3 _ rfl
        have x4 := bX6.c 4 _ rfl
        have xf := bX6.fr
        have r0 := bR6.c 0 _ rfl
        have r1 := bR6.c 1 _ rfl
        have r2 := bR6.c 2 _ rfl
        have r3 := bR6.c 3 _ rfl
        have r4 := bR6.c 4 _ rfl
        have rf := bR6.fr
        go_wp2
        refine bodyPost_ret (v := .agg #[.int .i64 kd, .int .i64 fd, .int .i64 y, .slice Al nl cl, .slice Ap np cp]) (by simp [results, Tryz.results231, go_sem, r0, r1, r2, r3, r4, hne1, hne2]) rfl ?_
        exact (D7.set5 (Nat.le_refl _)).ret (DWish.mk (keepSet5 fInts_good p1 (fun h => by have := hF.ge _ (List.mem_append_left _ h); omega)) (keepSet5 fPairs_good p2 (fun h => by have := hF.ge _ (List.mem_append_right _ h); omega)) (hF.mono (by omega)) HQ.out)
      · by_cases h3 : sw = 3
        · subst h3
          have AD : Bw w3 (w3.drew.alloc (.cells #[.int .i64 0, .int .i64 9, .int .i64 10] 3)) := ((Bw.refl w3).drew).alloc (.cells #[.int .i64 0, .int .i64 9, .int .i64 10] 3)
          have DW := D5.bw AD
          have hl := fInts_tri w3.drew 0 9 10
          have hz3 := bX.lt
          have hzd : w3.drew.heap.size = w3.heap.size := rfl
          have hcall := D_l1PickInt w0 _ p DW.at' [0, 9, 10] _ _ hl (by simp; omega) (by decide) (by decide)
          have bXd := bX.bw ((Bw.refl w3).drew)
          have bXa := bX.bw AD
          have bRa := bR.bw AD
          have o1a := keepBw AD fInts_good o1
          have o2a := keepBw AD fPairs_good o2
          clear hl h0 h1 h2
          have x0 := bX.c 0 _ rfl
          have x1 := bX.c 1 _ rfl
          have x2 := bX.c 2 _ rfl
          have x3 := bX.c 3 _ rfl
          have x4 := bX.c 4 _ rfl
          have xf := bX.fr
          have y0 := bXd.c 0 _ rfl
          have y1 := bXd.c 1 _ rfl
          have y2 := bXd.c 2 _ rfl
          have y3 := bXd.c 3 _ rfl
          have y4 := bXd.c 4 _ rfl
          have yf := bXd.fr
          have z0 := bXa.c 0 _ rfl
          have z1 := bXa.c 1 _ rfl
          have z2 := bXa.c 2 _ rfl
          have z3 := bXa.c 3 _ rfl
          have z4 := bXa.c 4 _ rfl
          have zf := bXa.fr
          go_wp2_with fail
          go_region_law (first
            | (refine step_push2 _ (by rfl) (.tmp 29) (.tmp 33) 26 (by rfl) w0 3 i0 _ 1 8 Tryz.underlying26 hi hz0 hz1 hz2 rfl (by omega) fInt_good _ l F (by rfl) vW hF0 ⟨w4.heap.size, 0, none⟩ 1 (by rfl) y [.int .i64 y] [] hcl ⟨rfl, rfl⟩ rfl w4.heap.size hFm Fresh.nil hz4 (by have := HX.out.2.2.2.1.1; dsimp only at this; omega) (by have := HX.out.2.2.2.1.1; dsimp only at this; omega) hbW ?_; intro v' w' F' hv' hF' hb' hO' hs'; obtain ⟨g', L', c', rfl, l', _⟩ := fSl_lit' hv' (by simp); have eP := bXw.only hO' nbF; have e0 := eP.c 0 _ rfl; have e1 := eP.c 1 _ rfl; have e2 := eP.c 2 _ rfl; have e3 := eP.c 3 _ rfl; have e4 := eP.c 4 _ rfl; have ef := eP.fr)
            | (go_simp; go_at_call 155; refine hcall.mono ?_; rintro e w4 ⟨v4, rfl, ⟨y, hy, rfl⟩, hO4, hA4⟩; have bX6 := bXa.only hO4 (by simp; omega); have bR6 := bRa.only hO4 (by simp; omega); have u0 := bX6.c 0 _ rfl; have u1 := bX6.c 1 _ rfl; have u2 := bX6.c 2 _ rfl; have u3 := bX6.c 3 _ rfl; have u4 := bX6.c 4 _ rfl; have uf := bX6.fr; have D6 := DW.call hO4 hA4; have p1 := DW.keep hO4 fInts_good o1a (fun c hc => by (have := hF.ge c (List.mem_append_left _ hc); omega)); have p2 := DW.keep hO4 fPairs_good o2a (fun c hc => by (have := hF.ge c (List.mem_append_right _ hc); omega)); have hW4 := (Bw.refl w4).alloc (.cells #[.int .i64 y] 3); have vW := keepBw hW4 fInts_good p1; have bXw := bX6.bw hW4; have bRw := bR6.bw hW4; have t3 := bXw.c 3 _ rfl; have hcl := cell_one_new w4 (.int .i64 y) 3; have hFm := (fInts_good (B := 0)).lt p1; have hbW := D6.at'.bw.then hW4; have hz4 := D6.at'.bw.size; have hle := D6.le; have hF0 : Fresh w0.heap.size F := ⟨(List.nodup_append.1 hF.nodup).1, fun c hc => by (have := hF.ge c (List.mem_append_left _ hc); omega)⟩))
          all_goals
            have DW7 : Dn w0 w p w' := (D6.bw hW4).next hO' (fun c hc => by have := hF.ge c (List.mem_append_left _ hc); omega) hb'
            have bR7 := bRw.only hO' (fun h => by have := hF.ge _ (List.mem_append_left _ h); omega)
            have D7 := DW7.set (b := b) (o := 3) (by omega) (.slice (some ⟨g', 0, none⟩) L' c')
            have hb4 := bX6.lt
            have nb' : b ∉ F' := fun h => (hs' b h).elim nbF (fun h => h.elim (fun h => by simp at h) (fun h => by have := bXw.lt; omega))
            have hs4 : ∀ c ∈ F', m1 ≤ c ∧ c ∉ G := fun c hc => by
              rcases hs' c hc with h | h | h
              · exact ⟨hF.ge c (List.mem_append_left _ h), fun h2 => (List.nodup_append.1 hF.nodup).2.2 c h c h2 rfl⟩
              · simp at h
              · have := bXw.lt
                exact ⟨by omega, fun h2 => by have := hGlt c h2; omega⟩
            have p2' := hO'.keeps fPairs_good (keepBw hW4 fPairs_good p2) (fun c h h2 => (List.nodup_append.1 hF.nodup).2.2 c h2 c h rfl)
            have q1 := keepSet (b := b) (o := 3) (u := .slice (some ⟨g', 0, none⟩) L' c') fInts_good hv' nb'
            have q2 := keepSet (b := b) (o := 3) (u := .slice (some ⟨g', 0, none⟩) L' c') fPairs_good p2' nbG
            have hFr : Fresh m1 (F' ++ G) := ⟨List.nodup_append.2 ⟨hF'.nodup, (List.nodup_append.1 hF.nodup).2.1, fun a ha c hc e => (hs4 a ha).2 (e ▸ hc)⟩, fun c hc => (List.mem_append.1 hc).elim (fun h => (hs4 c h).1) (fun h => hF.ge c (List.mem_append_right _ h))⟩
            have HQ := Lib.hid (show gWishA ⟨kd, fd, va, l ++ [y], ps⟩ from ⟨HX.out.a.1, HX.out.a.2.1, HX.out.a.2.2.1, ⟨by have := HX.out.2.2.2.1.1; dsimp only at this ⊢; rw [List.length_append, List.length_singleton]; omega, fun z hz => (List.mem_append.1 hz).elim (HX.out.2.2.2.1.2 z) (fun h => by rw [List.mem_singleton.1 h]; simp at hy; omega)⟩, HX.out.a.2.2.2.2⟩)
            clear x0 x1 x2 x3 x4 xf
            clear y0 y1 y2 y3 y4 yf
            clear z0 z1 z2 z3 z4 zf
            clear u0 u1 u2 u3 u4 uf t3 hcall hy
            clear e0 e1 e2 e3 e4 ef
            have bX8 := eP
            have x0 := bX8.c 0 _ rfl
            have x1 := bX8.c 1 _ rfl
            have x2 := bX8.c 2 _ rfl
            have x3 := bX8.c 3 _ rfl
            have x4 := bX8.c 4 _ rfl
            have xf := bX8.fr
            have r0 := bR7.c 0 _ rfl
            have r1 := bR7.c 1 _ rfl
            have r2 := bR7.c 2 _ rfl
            have r3 := bR7.c 3 _ rfl
            have r4 := bR7.c 4 _ rfl
            have rf := bR7.fr
            go_wp2
            refine bodyPost_ret (v := .agg #[.int .i64 kd, .int .i64 fd, .int .i64 va, .slice (some ⟨g', 0, none⟩) L' c', .slice Ap np cp]) (by simp [results, Tryz.results231, go_sem, r0, r1, r2, r3, r4, hne1, hne2]) rfl ?_
            exact (D7.set5 (Nat.le_refl _)).ret (DWish.mk (keepSet5 fInts_good q1 (fun h => by have := hFr.ge _ (List.mem_append_left _ h); omega)) (keepSet5 fPairs_good q2 (fun h => by have := hFr.ge _ (List.mem_append_right _ h); omega)) (hFr.mono (by omega)) HQ.out)
        · have e0 : (sw == 0) = false := by simpa using h0
          have e1 : (sw == 1) = false := by simpa using h1
          have e2 : (sw == 2) = false := by simpa using h2
          have e3 : (sw == 3) = false := by simpa using h3
          clear h0 h1 h2 h3
          have x0 := bX.c 0 _ rfl
          have x1 := bX.c 1 _ rfl
          have x2 := bX.c 2 _ rfl
          have x3 := bX.c 3 _ rfl
          have x4 := bX.c 4 _ rfl
          have xf := bX.fr
          have r0 := bR.c 0 _ rfl
          have r1 := bR.c 1 _ rfl
          have r2 := bR.c 2 _ rfl
          have r3 := bR.c 3 _ rfl
          have r4 := bR.c 4 _ rfl
          have rf := bR.fr
          go_wp2
          refine bodyPost_ret (v := .agg #[.int .i64 kd, .int .i64 fd, .int .i64 va, .slice Al nl cl, .slice Ap np cp]) (by simp [results, Tryz.results231, go_sem, r0, r1, r2, r3, r4, hne1, hne2]) rfl ?_
          exact (D5.set5 (Nat.le_refl _)).ret (DWish.mk (keepSet5 fInts_good o1 (fun h => by have := hF.ge _ (List.mem_append_left _ h); omega)) (keepSet5 fPairs_good o2 (fun h => by have := hF.ge _ (List.mem_append_right _ h); omega)) (hF.mono (by omega)) HX.out.a)
end Go.Proofs.YtpihighajaeabaaGreat

namespace Go.Proofs.YtpihighajaeabaaGreat
open Go.RowKit
set_option linter.unusedVariables false
set_option linter.unusedSimpArgs false
def gItems (n : Nat) (xs : List GItem) : Prop := xs.length ≤ n ∧ ∀ x ∈ xs, gItem x
def gNodes (n : Nat) (xs : List GNode) : Prop := xs.length ≤ n ∧ ∀ x ∈ xs, gNode x
/-- a list of the call's own, to be read -/
def DR {α : Type} (R : Rep α) (B : Nat) (Q : α → Prop) (W : World) (v : Value) : Prop := ∃ xs, R W (fun b => B ≤ b ∧ b < W.heap.size) xs [v] ∧ Q xs
theorem Only.read {α : Type} {R : Rep α} (hR : Good R) {p B : Nat} {W W' : World} {Q : α → Prop} {v : Value} (hO : Only [p] W W') (hp : p < B) (h : DR R B Q W v) : DR R B Q W' v := by
  obtain ⟨xs, h, hq⟩ := h
  exact ⟨xs, hR.step ⟨fun b hb => ⟨hb.1, Nat.lt_of_lt_of_le hb.2 hO.1⟩, fun q hq => World.cell?_of_block (hO.2 _ hq.2 (by have := hq.1; simp; omega))⟩ h, hq⟩
theorem DR.bw {α : Type} {R : Rep α} (hR : Good R) {B : Nat} {W W' : World} {Q : α → Prop} {v : Value} (h : DR R B Q W v) (hb : Bw W W') : DR R B Q W' v := by
  obtain ⟨xs, h, hq⟩ := h
  exact ⟨xs, hR.step ⟨fun b h => ⟨h.1, Nat.lt_of_lt_of_le h.2 hb.size⟩, fun q hq => Below.cell hb hq.2⟩ h, hq⟩
theorem DR.low {α : Type} {R : Rep α} (hR : Good R) {B B' : Nat} {W : World} {Q Q' : α → Prop} {v : Value} (h : DR R B Q W v) (hB : B' ≤ B) (hQ : ∀ x, Q x → Q' x) : DR R B' Q' W v := by
  obtain ⟨xs, h, hq⟩ := h
  exact ⟨xs, hR.step ⟨fun b h => ⟨Nat.le_trans hB h.1, h.2⟩, fun _ _ => rfl⟩ h, hQ xs hq⟩
theorem DR.rd {α : Type} {R : Rep α} (hR : Good R) {B : Nat} {W : World} {Q : α → Prop} {v : Value} (h : DR R B Q W v) : ∃ xs, Rd R W xs [v] ∧ Q xs := by
  obtain ⟨xs, h, hq⟩ := h
  exact ⟨xs, hR.step ⟨fun b h => h.2, fun _ _ => rfl⟩ h, hq⟩
theorem own_read {α : Type} {R : Rep α} (hR : Good R) {F : List Nat} {B : Nat} {W : World} {x : α} {cs : List Value} (h : R W (fun b => b ∈ F ∨ b < 0) x cs) (hF : Fresh B F) (hlt : ∀ b ∈ F, b < W.heap.size) : R W (fun b => B ≤ b ∧ b < W.heap.size) x cs :=
  hR.step ⟨fun b hb => hb.elim (fun hb => ⟨hF.ge b hb, hlt b hb⟩) (fun hb => absurd hb (Nat.not_lt_zero _)), fun _ _ => rfl⟩ h
theorem DL.items {B : Nat} {Q : List GItem → Prop} {W : World} {v : Value} (h : DL fItems B Q W v) : DR rItems B Q W v := by
  obtain ⟨xs, F, hv, hF, hq⟩ := h
  exact ⟨xs, own_read rItems_good (fItems_rd (B := 0) hv) hF ((fItems_good (B := 0)).lt hv), hq⟩
theorem DL.nodes {B : Nat} {Q : List GNode → Prop} {W : World} {v : Value} (h : DL fNodes B Q W v) : DR rNodes B Q W v := by
  obtain ⟨xs, F, hv, hF, hq⟩ := h
  exact ⟨xs, own_read rNodes_good (fNodes_rd (B := 0) hv) hF ((fNodes_good (B := 0)).lt hv), hq⟩
theorem DL.mono {α : Type} {f : Fp α} {B B' : Nat} {Q Q' : α → Prop} {W : World} {v : Value} (h : DL f B Q W v) (hB : B' ≤ B) (hQ : ∀ x, Q x → Q' x) : DL f B' Q' W v := by
  obtain ⟨xs, F, hv, hF, hq⟩ := h
  exact ⟨xs, F, hv, hF.mono hB, hQ xs hq⟩
set_option maxRecDepth 100000 in
set_option maxHeartbeats 3200000 in
theorem D_l2Any (w0 w : World) (p : Nat) (hA : At w0 p w) : Calls Tryz.prog 170 #[.pointer (some ⟨p, 0, none⟩)] w
    (RetD w0 p w (DL fItems w.heap.size (gItems 8))) := by
  obtain ⟨i0, hi, hz0, hz1, hz2⟩ := info_parts info_Item
  have D0 := Dn.start hA
  have hlt := hA.lt
  have hcall := D_l2Items w0 w p hA 7 (by omega) (by omega)
  go_enter Tryz.func170, Tryz.ntmps170
  go_wp2_with fail
  refine hcall.mono ?_
  rintro e w1 ⟨v1, rfl, ⟨xs, F, hv, hF, hx⟩, hO1, hA1⟩
  have D1 := D0.call hO1 hA1
  have hcall2 := D_l1Once w0 w1 p hA1 8 (by omega) (by omega)
  have HX := Lib.hid (show xs.length ≤ 7 ∧ ∀ x ∈ xs, gItem x from ⟨by have := hx.1; omega, fun x h => (hx.2 x h).g⟩)
  clear hcall hO1 hA1 hx
  go_wp2_with fail
  refine hcall2.mono ?_
  rintro e w2 ⟨v2, rfl, ⟨q, rfl⟩, hO2, hA2⟩
  have D2 := D1.call hO2 hA2
  have hv2 := D1.keep hO2 fItems_good hv hF.ge
  clear hcall2 hv hO2
  cases q with
  | true =>
    have hcall := D_l2AnyItem w0 w2 p hA2
    have hFm := (fItems_good (B := 0)).lt hv2
    obtain ⟨Ax, nx, cx, rfl, lx, _⟩ := rSl_open (fItems_Rd hv2)
    clear lx
    go_wp2_with fail
    refine hcall.mono ?_
    rintro e w3 ⟨v3, rfl, ⟨y, u, G, rfl, hy, hG, hg⟩, hO3, hA3⟩
    have D3 := D2.call hO3 hA3
    have hv3 := D2.keep hO3 fItems_good hv2 hF.ge
    obtain ⟨Ay, ny, cy, rfl, ly, _⟩ := rSl_open (fInts_Rd hy)
    have HG := Lib.hid hg
    have DW := D3.alloc (.cells #[.int .i64 y.id, .slice Ay ny cy] 30)
    have hAl := (Bw.refl w3).alloc (.cells #[.int .i64 y.id, .slice Ay ny cy] 30)
    have hvW := keepBw hAl fItems_good hv3
    have hyW := keepBw hAl fInts_good hy
    have hcl : ∀ j t, [Value.int .i64 y.id, .slice Ay ny cy][j]? = some t → (w3.alloc (.cells #[.int .i64 y.id, .slice Ay ny cy] 30)).cell? ((⟨w3.heap.size, 0, none⟩ : Addr).add j) = some t := World.news_of_block (cs := #[.int .i64 y.id, .slice Ay ny cy]) (t := 30) (fr := (0, 0)) (heap_alloc_new w3 _)
    have hzW := DW.size
    have hz2' := D2.size
    clear hcall hv2 hv3 hy hg ly
    go_wp2_with (at_builtin; refine wpList_pushD _ rfl (.tmp 8) (.tmp 11) 24 rfl w0 w p DW w.heap.size (Nat.le_refl _) hzW 30 i0 _ 2 32 Tryz.underlying24 hi hz0 hz1 hz2 rfl (by omega) fItem_good _ xs F rfl hvW hF ⟨w3.heap.size, 0, none⟩ 1 rfl y [.int .i64 y.id, .slice Ay ny cy] G hcl ⟨_, rfl, hyW⟩ rfl w2.heap.size hFm hG hz2' (by have := HX.out.1; omega) (by have := HX.out.1; omega) ?_; intro v7 w7 F7 hv7 hF7 hD7 hO7)
    go_ret
    exact hD7.ret ⟨_, F7, hv7, hF7, by rw [List.length_append, List.length_singleton]; have := HX.out.1; omega, fun z hz => (List.mem_append.1 hz).elim (HX.out.2 z) (fun h => by rw [List.mem_singleton.1 h]; exact HG.out)⟩
  | false =>
    go_wp2
    go_ret
    exact D2.ret ⟨_, F, hv2, hF, by have := HX.out.1; omega, HX.out.2⟩
set_option maxRecDepth 100000 in
set_option maxHeartbeats 3200000 in
theorem D_l5Any (w0 w : World) (p : Nat) (hA : At w0 p w) : Calls Tryz.prog 171 #[.pointer (some ⟨p, 0, none⟩)] w
    (RetD w0 p w (DR rNodes w.heap.size (gNodes 8))) := by
  obtain ⟨i0, hi, hz0, hz1, hz2⟩ := info_parts info_Node
  have D0 := Dn.start hA
  have hlt := hA.lt
  have hcall := D_l5Expression w0 w p hA
  go_enter Tryz.func171, Tryz.ntmps171
  go_wp2_with fail
  refine hcall.mono ?_
  rintro e w1 ⟨v1, rfl, ⟨xs, F, hv, hF, hx⟩, hO1, hA1⟩
  have D1 := D0.call hO1 hA1
  have hcall2 := D_l1Below w0 w1 p hA1 12 (by omega) (by omega)
  have HX := Lib.hid hx
  clear hcall hO1 hA1 hx
  go_wp2_with fail
  refine hcall2.mono ?_
  rintro e w2 ⟨v2, rfl, ⟨sw, rfl, s1, s2⟩, hO2, hA2⟩
  have D2 := D1.call hO2 hA2
  have hv2 := D1.keep hO2 fNodes_good hv hF.ge
  clear hcall2 hv hO2
  have hFm := (fNodes_good (B := 0)).lt hv2
  have hz2' := D2.size
  obtain ⟨g, n, c, rfl, lx, hnc, hcm, hn0⟩ := fSl_lit' hv2 HX.out.1
  by_cases h0 : sw = 0
  · subst h0
    have hcall := D_l1Below w0 w2 p hA2 7 (by omega) (by omega)
    clear hA2
    go_wp2_with fail
    refine hcall.mono ?_
    rintro e w3 ⟨v3, rfl, ⟨y, rfl, y1, y2⟩, hO3, hA3⟩
    have D3 := D2.call hO3 hA3
    have hv3 := D2.keep hO3 fNodes_good hv2 hF.ge
    have HG := Lib.hid (gNode_op (n := y - 1) (by omega) (by omega))
    have hval := fNode_opn w3 (y - 1)
    clear hcall hv2 hO3 hA3
    have DW := D3.alloc (.cells #[.int .i64 (y - 1), .int .i64 0, .int .i64 0, .int .i64 0, .slice none 0 0, .slice none 0 0] 111)
    have hAl := (Bw.refl w3).alloc (.cells #[.int .i64 (y - 1), .int .i64 0, .int .i64 0, .int .i64 0, .slice none 0 0, .slice none 0 0] 111)
    have hvW := keepBw hAl fNodes_good hv3
    have hyW := keepBw hAl fNode_good hval
    have hcl : ∀ j t, [.int .i64 (y - 1), .int .i64 0, .int .i64 0, .int .i64 0, .slice none 0 0, .slice none 0 0][j]? = some t → (w3.alloc (.cells #[.int .i64 (y - 1), .int .i64 0, .int .i64 0, .int .i64 0, .slice none 0 0, .slice none 0 0] 111)).cell? ((⟨w3.heap.size, 0, none⟩ : Addr).add j) = some t := World.news_of_block (cs := #[.int .i64 (y - 1), .int .i64 0, .int .i64 0, .int .i64 0, .slice none 0 0, .slice none 0 0]) (t := 111) (fr := (0, 0)) (heap_alloc_new w3 _)
    have hzW := DW.size
    clear hv3
    go_wp2_with (at_builtin; refine wpList_pushD _ rfl (.tmp 10) (.tmp 15) 25 rfl w0 w p DW w.heap.size (Nat.le_refl _) hzW 111 i0 _ 6 80 Tryz.underlying25 hi hz0 hz1 hz2 rfl (by omega) fNode_good _ xs F rfl hvW hF ⟨w3.heap.size, 0, none⟩ 1 rfl ⟨y - 1, ⟨0, 0, 0, [], []⟩⟩ [.int .i64 (y - 1), .int .i64 0, .int .i64 0, .int .i64 0, .slice none 0 0, .slice none 0 0] [] hcl hyW rfl w2.heap.size hFm Fresh.nil hz2' (by have := HX.out.2.1; omega) (by have := HX.out.2.1; omega) ?_; intro v7 w7 F7 hv7 hF7 hD7 hO7)
    go_ret
    refine hD7.ret (DL.nodes ⟨_, F7, hv7, hF7, by rw [List.length_append, List.length_singleton]; have := HX.out.2.1; omega, fun z hz => (List.mem_append.1 hz).elim (HX.out.2.2 z) (fun h => by rw [List.mem_singleton.1 h]; exact HG.out)⟩)
  · by_cases h1 : sw = 1
    · subst h1
      have hcall := D_l4Any w0 w2 p hA2
      clear hA2 h0
      go_wp2_with fail
      refine hcall.mono ?_
      rintro e w3 ⟨v3, rfl, ⟨⟨kd, fd, va, l, ps⟩, u, t, G1, G2, rfl, o1, o2, hG, hg⟩, hO3, hA3⟩
      have D3 := D2.call hO3 hA3
      have hv3 := D2.keep hO3 fNodes_good hv2 hF.ge
      obtain ⟨Al, nl, cl, rfl, l1, _⟩ := rSl_open (fInts_Rd o1)
      obtain ⟨Ap, np, cp, rfl, l2, _⟩ := rSl_open (fPairs_Rd o2)
      have HG := Lib.hid (gNode_wish hg)
      have hval := fNode_wish o1 o2 0 (kd := kd) (fd := fd) (va := va)
      clear hcall hv2 hO3 hA3 l1 l2 hg o1 o2
      have DW := D3.alloc (.cells #[.int .i64 0, .int .i64 kd, .int .i64 fd, .int .i64 va, .slice Al nl cl, .slice Ap np cp] 111)
      have hAl := (Bw.refl w3).alloc (.cells #[.int .i64 0, .int .i64 kd, .int .i64 fd, .int .i64 va, .slice Al nl cl, .slice Ap np cp] 111)
      have hvW := keepBw hAl fNodes_good hv3
      have hyW := keepBw hAl fNode_good hval
      have hcl : ∀ j t, [.int .i64 0, .int .i64 kd, .int .i64 fd, .int .i64 va, .slice Al nl cl, .slice Ap np cp][j]? = some t → (w3.alloc (.cells #[.int .i64 0, .int .i64 kd, .int .i64 fd, .int .i64 va, .slice Al nl cl, .slice Ap np cp] 111)).cell? ((⟨w3.heap.size, 0, none⟩ : Addr).add j) = some t := World.news_of_block (cs := #[.int .i64 0, .int .i64 kd, .int .i64 fd, .int .i64 va, .slice Al nl cl, .slice Ap np cp]) (t := 111) (fr := (0, 0)) (heap_alloc_new w3 _)
      have hzW := DW.size
      clear hv3
      go_wp2_with (at_builtin; refine wpList_pushD _ rfl (.tmp 19) (.tmp 23) 25 rfl w0 w p DW w.heap.size (Nat.le_refl _) hzW 111 i0 _ 6 80 Tryz.underlying25 hi hz0 hz1 hz2 rfl (by omega) fNode_good _ xs F rfl hvW hF ⟨w3.heap.size, 0, none⟩ 1 rfl ⟨0, ⟨kd, fd, va, l, ps⟩⟩ [.int .i64 0, .int .i64 kd, .int .i64 fd, .int .i64 va, .slice Al nl cl, .slice Ap np cp] (G1 ++ G2) hcl hyW rfl w2.heap.size hFm hG hz2' (by have := HX.out.2.1; omega) (by have := HX.out.2.1; omega) ?_; intro v7 w7 F7 hv7 hF7 hD7 hO7)
      go_ret
      refine hD7.ret (DL.nodes ⟨_, F7, hv7, hF7, by rw [List.length_append, List.length_singleton]; have := HX.out.2.1; omega, fun z hz => (List.mem_append.1 hz).elim (HX.out.2.2 z) (fun h => by rw [List.mem_singleton.1 h]; exact HG.out)⟩)
    · by_cases h2 : sw = 2
      · subst h2
        have hr := own_read rNodes_good (fNodes_rd (B := 0) hv2) hF hFm
        have hsub := rSl_sub hr 1 n (by omega) (Nat.le_refl _) lx.out.symm
        have HQ := Lib.hid (show gNodes 8 ((xs.drop 1).take (n - 1)) from ⟨by rw [List.length_take, List.length_drop]; have := HX.out.2.1; omega, fun z hz => HX.out.2.2 z (List.mem_of_mem_drop (List.mem_of_mem_take hz))⟩)
        clear h0 h1 hr
        by_cases hc1 : c = 1
        · subst hc1
          obtain rfl : n = 1 := by omega
          have e0 : ((xs.drop 1).take (1 - 1)) = [] := by simp
          go_wp2
          go_ret
          exact D2.ret ⟨[], ⟨_, _, rfl, by simp, by simp [maxLen], fun k x hx => by simp at hx⟩, by simp, by simp⟩
        · go_wp2
          go_ret
          exact D2.ret ⟨_, hsub, HQ.out⟩
      · have e0 : (sw == 0) = false := by simpa using h0
        have e1 : (sw == 1) = false := by simpa using h1
        have e2 : (sw == 2) = false := by simpa using h2
        clear h0 h1 h2
        go_wp2
        go_ret
        exact D2.ret (DL.nodes ⟨_, F, hv2, hF, by have := HX.out.2.1; omega, HX.out.2.2⟩)
end Go.Proofs.YtpihighajaeabaaGreat
