/- Draws: any wish, any items, any expression. -/
import Derived.Test.YthlaabaffbffkaaGreatQTree
import Derived.Test.YthlaabaffbffkaaGreatQParts
namespace Go.Proofs.YthlaabaffbffkaaGreat
open Go.RowKit
set_option linter.unusedVariables false
set_option linter.unusedSimpArgs false
set_option maxRecDepth 100000 in
set_option maxHeartbeats 6400000 in
theorem D_l4Any (w0 w : World) (p : Nat) (hA : At w0 p w) : Calls Tryz.prog 178 #[.pointer (some ⟨p, 0, none⟩)] w
    (RetD w0 p w (DWish w.heap.size gWishA)) := by
  obtain ⟨i0, hi, hz0, hz1, hz2⟩ := info_parts info_int
  have D0 := Dn.start hA
  have hlt := hA.lt
  have D1 := D0.alloc (.cells #[.int .i64 0, .int .i64 0, .int .i64 0, .slice none 0 0, .slice none 0 0] 129)
  have bR := Box.new w #[.int .i64 0, .int .i64 0, .int .i64 0, .slice none 0 0, .slice none 0 0] 129
  have hcall := D_l4Wish w0 _ p D1.at'
  go_enter Tryz.func178, Tryz.ntmps178
  go_wp2_with fail
  refine hcall.mono ?_
  rintro e w1 ⟨v1, rfl, ⟨⟨kd, fd, va, l, ps⟩, u, t, F, G, rfl, o1, o2, hF, hx⟩, hO1, hA1⟩
  dsimp only at o1 o2
  have D2 := D1.call hO1 hA1
  replace bR := bR.only hO1 (by simp; omega)
  have hw1 : w.heap.size < (w.alloc (.cells #[.int .i64 0, .int .i64 0, .int .i64 0, .slice none 0 0, .slice none 0 0] 129)).heap.size := by simp
  obtain ⟨m1, hz1'⟩ : ∃ m1, m1 = (w.alloc (.cells #[.int .i64 0, .int .i64 0, .int .i64 0, .slice none 0 0, .slice none 0 0] 129)).heap.size := ⟨_, rfl⟩
  rw [← hz1'] at hF hw1
  have hz1w : m1 ≤ w1.heap.size := by rw [hz1']; exact hO1.1
  clear hz1'
  obtain ⟨Al, nl, cl, rfl, l1, _⟩ := rSl_open (fInts_Rd o1)
  obtain ⟨Ap, np, cp, rfl, l2, _⟩ := rSl_open (fPairs_Rd o2)
  have HL1 := Lib.hid l1
  have HL2 := Lib.hid l2
  have HX := Lib.hid hx
  have bX := Box.new w1 #[.int .i64 kd, .int .i64 fd, .int .i64 va, .slice Al nl cl, .slice Ap np cp] 129
  have D4 := D2.alloc (.cells #[.int .i64 kd, .int .i64 fd, .int .i64 va, .slice Al nl cl, .slice Ap np cp] 129)
  have hFlt := (fInts_good (B := 0)).lt o1
  have hGlt := (fPairs_good (B := 0)).lt o2
  have hAl := (Bw.refl w1).alloc (.cells #[.int .i64 kd, .int .i64 fd, .int .i64 va, .slice Al nl cl, .slice Ap np cp] 129)
  replace o1 := keepBw hAl fInts_good o1
  replace o2 := keepBw hAl fPairs_good o2
  replace bR := bR.bw hAl
  obtain ⟨b, hb⟩ : ∃ b, b = w1.heap.size := ⟨_, rfl⟩
  obtain ⟨W, hW⟩ : ∃ W, W = w1.alloc (.cells #[.int .i64 kd, .int .i64 fd, .int .i64 va, .slice Al nl cl, .slice Ap np cp] 129) := ⟨_, rfl⟩
  rw [← hW] at D4 bX bR o1 o2
  rw [← hb] at bX hFlt hGlt hz1w
  have HW := Lib.hid hW
  have HB := Lib.hid hb
  have hcall2 := D_l1Below w0 W p D4.at' 10 (by omega) (by omega)
  clear hcall hW hb D1 D2 hO1 hA1 hAl hx l1 l2
  have hne1 : b ≠ w.heap.size := by omega
  have hne2 : w.heap.size ≠ b := by omega
  go_wp2_with fail
  rw [← HW.out]
  refine hcall2.mono ?_
  rintro e w3 ⟨v3, rfl, ⟨sw, rfl, s1, s2⟩, hO3, hA3⟩
  have D5 := D4.call hO3 hA3
  replace bX := bX.only hO3 (by simp; omega)
  replace bR := bR.only hO3 (by simp; omega)
  replace o1 := D4.keep hO3 fInts_good o1 (fun c hc => by have := hF.ge c (List.mem_append_left _ hc); omega)
  replace o2 := D4.keep hO3 fPairs_good o2 (fun c hc => by have := hF.ge c (List.mem_append_right _ hc); omega)
  rw [← HB.out]
  clear hcall2 hO3 D4
  have nbF : b ∉ F := fun h => by have := hFlt _ h; omega
  have nbG : b ∉ G := fun h => by have := hGlt _ h; omega
  by_cases h0 : sw = 0
  · subst h0
    have hcall := D_l1Below w0 w3 p hA3 7 (by omega) (by omega)
    clear hA3
    go_wp2_with fail
    refine hcall.mono ?_
    rintro e w4 ⟨v4, rfl, ⟨y, rfl, y1, y2⟩, hO4, hA4⟩
    have D6 := D5.call hO4 hA4
    have bX6 := bX.only hO4 (by simp; omega)
    have bR6 := bR.only hO4 (by simp; omega)
    have p1 := keepSet (b := b) (o := 0) (u := .int .i64 (y - 1)) fInts_good (D5.keep hO4 fInts_good o1 (fun c hc => by have := hF.ge c (List.mem_append_left _ hc); omega)) nbF
    have p2 := keepSet (b := b) (o := 0) (u := .int .i64 (y - 1)) fPairs_good (D5.keep hO4 fPairs_good o2 (fun c hc => by have := hF.ge c (List.mem_append_right _ hc); omega)) nbG
    have D7 := D6.set (b := b) (o := 0) (by omega) (.int .i64 (y - 1))
    have HQ := Lib.hid (show gWishA ⟨y - 1, fd, va, l, ps⟩ from ⟨⟨by dsimp only; omega, by dsimp only; omega⟩, HX.out.a.2⟩)
    clear hcall D6 hO4 hA4 bX bR o1 o2
    have x0 := bX6.c 0 _ rfl
    have x1 := bX6.c 1 _ rfl
    have x2 := bX6.c 2 _ rfl
    have x3 := bX6.c 3 _ rfl
    have x4 := bX6.c 4 _ rfl
    have xf := bX6.fr
    have r0 := bR6.c 0 _ rfl
    have r1 := bR6.c 1 _ rfl
    have r2 := bR6.c 2 _ rfl
    have r3 := bR6.c 3 _ rfl
    have r4 := bR6.c 4 _ rfl
    have rf := bR6.fr
    go_wp2
    refine bodyPost_ret (v := .agg #[.int .i64 (y - 1), .int .i64 fd, .int .i64 va, .slice Al nl cl, .slice Ap np cp]) (by simp [results, Tryz.results178, go_sem, r0, r1, r2, r3, r4, hne1, hne2]) rfl ?_
    exact (D7.set5 (Nat.le_refl _)).ret (DWish.mk (keepSet5 fInts_good p1 (fun h => by have := hF.ge _ (List.mem_append_left _ h); omega)) (keepSet5 fPairs_good p2 (fun h => by have := hF.ge _ (List.mem_append_right _ h); omega)) (hF.mono (by omega)) HQ.out)
  · by_cases h1 : sw = 1
    · subst h1
      have DW := D5.alloc (.cells #[.int .i64 (-1), .int .i64 3] 3)
      have hAl := (Bw.refl w3).alloc (.cells #[.int .i64 (-1), .int .i64 3] 3)
      have hl := fInts_two w3 (-1) 3
      have hz3 := bX.lt
      have hcall := D_l1PickInt w0 _ p DW.at' [-1, 3] _ _ hl (by simp; omega) (by decide) (by decide)
      clear hl h0
      go_wp2_with fail
      refine hcall.mono ?_
      rintro e w4 ⟨v4, rfl, ⟨y, hy, rfl⟩, hO4, hA4⟩
      have D6 := DW.call hO4 hA4
      have bX6 := (bX.bw hAl).only hO4 (by simp; omega)
      have bR6 := (bR.bw hAl).only hO4 (by simp; omega)
      have p1 := keepSet (b := b) (o := 1) (u := .int .i64 y) fInts_good (DW.keep hO4 fInts_good (keepBw hAl fInts_good o1) (fun c hc => by have := hF.ge c (List.mem_append_left _ hc); omega)) nbF
      have p2 := keepSet (b := b) (o := 1) (u := .int .i64 y) fPairs_good (DW.keep hO4 fPairs_good (keepBw hAl fPairs_good o2) (fun c hc => by have := hF.ge c (List.mem_append_right _ hc); omega)) nbG
      have D7 := D6.set (b := b) (o := 1) (by omega) (.int .i64 y)
      have HQ := Lib.hid (show gWishA ⟨kd, y, va, l, ps⟩ from ⟨HX.out.a.1, ⟨by simp at hy; dsimp only; omega, by simp at hy; dsimp only; omega⟩, HX.out.a.2.2⟩)
      clear hcall hy D6 DW hO4 hA4 bX bR o1 o2 hAl
      have x0 := bX6.c 0 _ rfl
      have x1 := bX6.c 1 _ rfl
      have x2 := bX6.c 2 _ rfl
      have x3 := bX6.c 3 _ rfl
      have x4 := bX6.c 4 _ rfl
      have xf := bX6.fr
      have r0 := bR6.c 0 _ rfl
      have r1 := bR6.c 1 _ rfl
      have r2 := bR6.c 2 _ rfl
      have r3 := bR6.c 3 _ rfl
      have r4 := bR6.c 4 _ rfl
      have rf := bR6.fr
      go_wp2
      refine bodyPost_ret (v := .agg #[.int .i64 kd, .int .i64 y, .int .i64 va, .slice Al nl cl, .slice Ap np cp]) (by simp [results, Tryz.results178, go_sem, r0, r1, r2, r3, r4, hne1, hne2]) rfl ?_
      exact (D7.set5 (Nat.le_refl _)).ret (DWish.mk (keepSet5 fInts_good p1 (fun h => by have := hF.ge _ (List.mem_append_left _ h); omega)) (keepSet5 fPairs_good p2 (fun h => by have := hF.ge _ (List.mem_append_right _ h); omega)) (hF.mono (by omega)) HQ.out)
    · by_cases h2 : sw = 2
      · subst h2
        have DW := D5.alloc (.cells #[.int .i64 (-1), .int .i64 9, .int .i64 10] 3)
        have hAl := (Bw.refl w3).alloc (.cells #[.int .i64 (-1), .int .i64 9, .int .i64 10] 3)
        have hl := fInts_tri w3 (-1) 9 10
        have hz3 := bX.lt
        have hcall := D_l1PickInt w0 _ p DW.at' [-1, 9, 10] _ _ hl (by simp; omega) (by decide) (by decide)
        clear hl h0 h1
        go_wp2_with fail
        refine hcall.mono ?_
        rintro e w4 ⟨v4, rfl, ⟨y, hy, rfl⟩, hO4, hA4⟩
        have D6 := DW.call hO4 hA4
        have bX6 := (bX.bw hAl).only hO4 (by simp; omega)
        have bR6 := (bR.bw hAl).only hO4 (by simp; omega)
        have p1 := keepSet (b := b) (o := 2) (u := .int .i64 y) fInts_good (DW.keep hO4 fInts_good (keepBw hAl fInts_good o1) (fun c hc => by have := hF.ge c (List.mem_append_left _ hc); omega)) nbF
        have p2 := keepSet (b := b) (o := 2) (u := .int .i64 y) fPairs_good (DW.keep hO4 fPairs_good (keepBw hAl fPairs_good o2) (fun c hc => by have := hF.ge c (List.mem_append_right _ hc); omega)) nbG
        have D7 := D6.set (b := b) (o := 2) (by omega) (.int .i64 y)
        have HQ := Lib.hid (show gWishA ⟨kd, fd, y, l, ps⟩ from ⟨HX.out.a.1, HX.out.a.2.1, ⟨by simp at hy; dsimp only; omega, by simp at hy; dsimp only; omega⟩, HX.out.a.2.2.2⟩)
        clear hcall hy D6 DW hO4 hA4 bX bR o1 o2 hAl
        have x0 := bX6.c 0 _ rfl
        have x1 := bX6.c 1 _ rfl
        have x2 := bX6.c 2 _ rfl
        have x3 := bX6.c 3 _ rfl
        have x4 := bX6.c 4 _ rfl
        have xf := bX6.fr
        have r0 := bR6.c 0 _ rfl
        have r1 := bR6.c 1 _ rfl
        have r2 := bR6.c 2 _ rfl
        have r3 := bR6.c 3 _ rfl
        have r4 := bR6.c 4 _ rfl
        have rf := bR6.fr
        go_wp2
        refine bodyPost_ret (v := .agg #[.int .i64 kd, .int .i64 fd, .int .i64 y, .slice Al nl cl, .slice Ap np cp]) (by simp [results, Tryz.results178, go_sem, r0, r1, r2, r3, r4, hne1, hne2]) rfl ?_
        exact (D7.set5 (Nat.le_refl _)).ret (DWish.mk (keepSet5 fInts_good p1 (fun h => by have := hF.ge _ (List.mem_append_left _ h); omega)) (keepSet5 fPairs_good p2 (fun h => by have := hF.ge _ (List.mem_append_right _ h); omega)) (hF.mono (by omega)) HQ.out)
      · by_cases h3 : sw = 3
        · subst h3
          have AD : Bw w3 (w3.drew.alloc (.cells #[.int .i64 0, .int .i64 9, .int .i64 10] 3)) := ((Bw.refl w3).drew).alloc (.cells #[.int .i64 0, .int .i64 9, .int .i64 10] 3)
          have DW := D5.bw AD
          have hl := fInts_tri w3.drew 0 9 10
          have hz3 := bX.lt
          have hzd : w3.drew.heap.size = w3.heap.size := rfl
          have hcall := D_l1PickInt w0 _ p DW.at' [0, 9, 10] _ _ hl (by simp; omega) (by decide) (by decide)
          have bXd := bX.bw ((Bw.refl w3).drew)
          have bXa := bX.bw AD
          have bRa := bR.bw AD
          have o1a := keepBw AD fInts_good o1
          have o2a := keepBw AD fPairs_good o2
          clear hl h0 h1 h2
          have x0 := bX.c 0 _ rfl
          have x1 := bX.c 1 _ rfl
          have x2 := bX.c 2 _ rfl
          have x3 := bX.c 3 _ rfl
          have x4 := bX.c 4 _ rfl
          have xf := bX.fr
          have y0 := bXd.c 0 _ rfl
          have y1 := bXd.c 1 _ rfl
          have y2 := bXd.c 2 _ rfl
          have y3 := bXd.c 3 _ rfl
          have y4 := bXd.c 4 _ rfl
          have yf := bXd.fr
          have z0 := bXa.c 0 _ rfl
          have z1 := bXa.c 1 _ rfl
          have z2 := bXa.c 2 _ rfl
          have z3 := bXa.c 3 _ rfl
          have z4 := bXa.c 4 _ rfl
          have zf := bXa.fr
          go_wp2_with fail
          go_region_law (first
            | (refine step_push2 _ (by rfl) (.tmp 29) (.tmp 33) 33 (by rfl) w0 3 i0 _ 1 8 Tryz.underlying33 hi hz0 hz1 hz2 rfl (by omega) fInt_good _ l F (by rfl) vW hF0 ⟨w4.heap.size, 0, none⟩ 1 (by rfl) y [.int .i64 y] [] hcl ⟨rfl, rfl⟩ rfl w4.heap.size hFm Fresh.nil hz4 (by have := HX.out.2.2.2.1.1; dsimp only at this; omega) (by have := HX.out.2.2.2.1.1; dsimp only at this; omega) hbW ?_; intro v' w' F' hv' hF' hb' hO' hs'; obtain ⟨g', L', c', rfl, l', _⟩ := fSl_lit' hv' (by simp); have eP := bXw.only hO' nbF; have e0 := eP.c 0 _ rfl; have e1 := eP.c 1 _ rfl; have e2 := eP.c 2 _ rfl; have e3 := eP.c 3 _ rfl; have e4 := eP.c 4 _ rfl; have ef := eP.fr)
            | (go_simp; go_at_call 153; refine hcall.mono ?_; rintro e w4 ⟨v4, rfl, ⟨y, hy, rfl⟩, hO4, hA4⟩; have bX6 := bXa.only hO4 (by simp; omega); have bR6 := bRa.only hO4 (by simp; omega); have u0 := bX6.c 0 _ rfl; have u1 := bX6.c 1 _ rfl; have u2 := bX6.c 2 _ rfl; have u3 := bX6.c 3 _ rfl; have u4 := bX6.c 4 _ rfl; have uf := bX6.fr; have D6 := DW.call hO4 hA4; have p1 := DW.keep hO4 fInts_good o1a (fun c hc => by (have := hF.ge c (List.mem_append_left _ hc); omega)); have p2 := DW.keep hO4 fPairs_good o2a (fun c hc => by (have := hF.ge c (List.mem_append_right _ hc); omega)); have hW4 := (Bw.refl w4).alloc (.cells #[.int .i64 y] 3); have vW := keepBw hW4 fInts_good p1; have bXw := bX6.bw hW4; have bRw := bR6.bw hW4; have t3 := bXw.c 3 _ rfl; have hcl := cell_one_new w4 (.int .i64 y) 3; have hFm := (fInts_good (B := 0)).lt p1; have hbW := D6.at'.bw.then hW4; have hz4 := D6.at'.bw.size; have hle := D6.le; have hF0 : Fresh w0.heap.size F := ⟨(List.nodup_append.1 hF.nodup).1, fun c hc => by (have := hF.ge c (List.mem_append_left _ hc); omega)⟩))
          all_goals
            have DW7 : Dn w0 w p w' := (D6.bw hW4).next hO' (fun c hc => by have := hF.ge c (List.mem_append_left _ hc); omega) hb'
            have bR7 := bRw.only hO' (fun h => by have := hF.ge _ (List.mem_append_left _ h); omega)
            have D7 := DW7.set (b := b) (o := 3) (by omega) (.slice (some ⟨g', 0, none⟩) L' c')
            have hb4 := bX6.lt
            have nb' : b ∉ F' := fun h => (hs' b h).elim nbF (fun h => h.elim (fun h => by simp at h) (fun h => by have := bXw.lt; omega))
            have hs4 : ∀ c ∈ F', m1 ≤ c ∧ c ∉ G := fun c hc => by
              rcases hs' c hc with h | h | h
              · exact ⟨hF.ge c (List.mem_append_left _ h), fun h2 => (List.nodup_append.1 hF.nodup).2.2 c h c h2 rfl⟩
              · simp at h
              · have := bXw.lt
                exact ⟨by omega, fun h2 => by have := hGlt c h2; omega⟩
            have p2' := hO'.keeps fPairs_good (keepBw hW4 fPairs_good p2) (fun c h h2 => (List.nodup_append.1 hF.nodup).2.2 c h2 c h rfl)
            have q1 := keepSet (b := b) (o := 3) (u := .slice (some ⟨g', 0, none⟩) L' c') fInts_good hv' nb'
            have q2 := keepSet (b := b) (o := 3) (u := .slice (some ⟨g', 0, none⟩) L' c') fPairs_good p2' nbG
            have hFr : Fresh m1 (F' ++ G) := ⟨List.nodup_append.2 ⟨hF'.nodup, (List.nodup_append.1 hF.nodup).2.1, fun a ha c hc e => (hs4 a ha).2 (e ▸ hc)⟩, fun c hc => (List.mem_append.1 hc).elim (fun h => (hs4 c h).1) (fun h => hF.ge c (List.mem_append_right _ h))⟩
            have HQ := Lib.hid (show gWishA ⟨kd, fd, va, l ++ [y], ps⟩ from ⟨HX.out.a.1, HX.out.a.2.1, HX.out.a.2.2.1, ⟨by have := HX.out.2.2.2.1.1; dsimp only at this ⊢; rw [List.length_append, List.length_singleton]; omega, fun z hz => (List.mem_append.1 hz).elim (HX.out.2.2.2.1.2 z) (fun h => by rw [List.mem_singleton.1 h]; simp at hy; omega)⟩, HX.out.a.2.2.2.2⟩)
            clear x0 x1 x2 x3 x4 xf
            clear y0 y1 y2 y3 y4 yf
            clear z0 z1 z2 z3 z4 zf
            clear u0 u1 u2 u3 u4 uf t3 hcall hy
            clear e0 e1 e2 e3 e4 ef
            have bX8 := eP
            have x0 := bX8.c 0 _ rfl
            have x1 := bX8.c 1 _ rfl
            have x2 := bX8.c 2 _ rfl
            have x3 := bX8.c 3 _ rfl
            have x4 := bX8.c 4 _ rfl
            have xf := bX8.fr
            have r0 := bR7.c 0 _ rfl
            have r1 := bR7.c 1 _ rfl
            have r2 := bR7.c 2 _ rfl
            have r3 := bR7.c 3 _ rfl
            have r4 := bR7.c 4 _ rfl
            have rf := bR7.fr
            go_wp2
            refine bodyPost_ret (v := .agg #[.int .i64 kd, .int .i64 fd, .int .i64 va, .slice (some ⟨g', 0, none⟩) L' c', .slice Ap np cp]) (by simp [results, Tryz.results178, go_sem, r0, r1, r2, r3, r4, hne1, hne2]) rfl ?_
            exact (D7.set5 (Nat.le_refl _)).ret (DWish.mk (keepSet5 fInts_good q1 (fun h => by have := hFr.ge _ (List.mem_append_left _ h); omega)) (keepSet5 fPairs_good q2 (fun h => by have := hFr.ge _ (List.mem_append_right _ h); omega)) (hFr.mono (by omega)) HQ.out)
        · have e0 : (sw == 0) = false := by simpa using h0
          have e1 : (sw == 1) = false := by simpa using h1
          have e2 : (sw == 2) = false := by simpa using h2
          have e3 : (sw == 3) = false := by simpa using h3
          clear h0 h1 h2 h3
          have x0 := bX.c 0 _ rfl
          have x1 := bX.c 1 _ rfl
          have x2 := bX.c 2 _ rfl
          have x3 := bX.c 3 _ rfl
          have x4 := bX.c 4 _ rfl
          have xf := bX.fr
          have r0 := bR.c 0 _ rfl
          have r1 := bR.c 1 _ rfl
          have r2 := bR.c 2 _ rfl
          have r3 := bR.c 3 _ rfl
          have r4 := bR.c 4 _ rfl
          have rf := bR.fr
          go_wp2
          refine bodyPost_ret (v := .agg #[.int .i64 kd, .int .i64 fd, .int .i64 va, .slice Al nl cl, .slice Ap np cp]) (by simp [results, Tryz.results178, go_sem, r0, r1, r2, r3, r4, hne1, hne2]) rfl ?_
          exact (D5.set5 (Nat.le_refl _)).ret (DWish.mk (keepSet5 fInts_good o1 (fun h => by have := hF.ge _ (List.mem_append_left _ h); omega)) (keepSet5 fPairs_good o2 (fun h => by have := hF.ge _ (List.mem_append_right _ h); omega)) (hF.mono (by omega)) HX.out.a)
end Go.Proofs.YthlaabaffbffkaaGreat
