/- An item is added to a standing answer, in the program: the way on which it is added. -/
import Derived.Test.YtpihighajaeabaaGreatQInsI
import Derived.Deep.RegionLaw
namespace Go.Proofs.YtpihighajaeabaaGreat
open Go.RowKit
set_option linter.unusedVariables false
set_option linter.unusedSimpArgs false
theorem cell_far {W : World} {b c o k : Nat} {x u : Value} (h : b ≠ c) (hc : W.cell? ⟨b, k, none⟩ = some x) : (W.setCell ⟨c, o, none⟩ u).cell? ⟨b, k, none⟩ = some x := (World.cell?_of_block (Below.heap_setCell _ _ _ _ h)).trans hc
set_option maxRecDepth 100000 in
set_option maxHeartbeats 6400000 in
theorem I_InsertItem_yes (w : World) (s : GStanding) (x : GItem) (va vb vc u : Value) (ha : Rd rItems w s.items [va]) (hb : Rd rNodes w s.wanted [vb]) (hc : Rd rInts w s.best [vc]) (hx : Rd rInts w x.vals [u]) (t1 : totItems s.items ≤ 1048576) (t2 : totNodes s.wanted ≤ 1048576) (t3 : s.best.length ≤ 1048576) (hok : insOk s x = true) :
    Calls Tryz.prog 11 #[.agg #[va, vb, vc, .int .i64 s.tests], .agg #[.int .i64 x.id, u]] w (RetV w (TwoA fStanding w.heap.size (insertS s x) (.bool true))) := by
  obtain ⟨i0, hi, hz0, hz1, hz2⟩ := info_parts info_int
  obtain ⟨E1, E2, hfx, h16, hts⟩ := insOk_parts hok
  have HB := Lib.hid (stand_both E1).1
  have HI := Lib.hid (areBoth_items HB.out)
  have hts0 := (stand_tests E1).1
  have hml := stand_best_len E1
  obtain ⟨A, n, c, rfl, L0, Lc, Lm⟩ := rSl_open ha
  unfold maxLen at Lm
  have L := Lib.hid L0
  clear L0
  obtain ⟨B, m, c4, rfl, M0, Mc, Mm⟩ := rSl_open hc
  unfold maxLen at Mm
  have M := Lib.hid M0
  clear M0
  obtain ⟨W0, hW0⟩ : ∃ W0, W0 = ((w.alloc (.cells #[.slice A n c, vb, .slice B m c4, .int .i64 s.tests] 28)).alloc (.cells #[.int .i64 x.id, u] 30)).alloc (.cells #[.slice none 0 0, .slice none 0 0, .slice none 0 0, .int .i64 0] 28) := ⟨_, rfl⟩
  have A0 : Bw w W0 := by rw [hW0]; exact (((Bw.refl w).alloc _).alloc _).alloc _
  have bS : Box W0 w.heap.size [.slice A n c, vb, .slice B m c4, .int .i64 s.tests] := by rw [hW0]; exact (Box.new w #[.slice A n c, vb, .slice B m c4, .int .i64 s.tests] 28).bw (((Bw.refl _).alloc _).alloc _)
  have bX : Box W0 (w.heap.size + 1) [.int .i64 x.id, u] := by
    have := Box.new (w.alloc (.cells #[.slice A n c, vb, .slice B m c4, .int .i64 s.tests] 28)) #[.int .i64 x.id, u] 30
    rw [show (w.alloc (.cells #[.slice A n c, vb, .slice B m c4, .int .i64 s.tests] 28)).heap.size = w.heap.size + 1 from by simp] at this
    rw [hW0]; exact this.bw ((Bw.refl _).alloc _)
  have bR : Box W0 (w.heap.size + 1 + 1) [.slice none 0 0, .slice none 0 0, .slice none 0 0, .int .i64 0] := by
    have := Box.new ((w.alloc (.cells #[.slice A n c, vb, .slice B m c4, .int .i64 s.tests] 28)).alloc (.cells #[.int .i64 x.id, u] 30)) #[.slice none 0 0, .slice none 0 0, .slice none 0 0, .int .i64 0] 28
    rw [show ((w.alloc (.cells #[.slice A n c, vb, .slice B m c4, .int .i64 s.tests] 28)).alloc (.cells #[.int .i64 x.id, u] 30)).heap.size = w.heap.size + 1 + 1 from by simp] at this
    rw [hW0]; exact this
  have z0 : W0.heap.size = w.heap.size + 3 := by rw [hW0]; simp
  have hcopy := I_copyStanding W0 s _ vb _ (ha.bw rItems_good A0) (hb.bw rNodes_good A0) (hc.bw rInts_good A0) t1 t2 t3
  have HW0 := Lib.hid hW0
  clear hW0
  go_enter Tryz.func11, Tryz.ntmps11
  go_wp2_with fail
  rw [← HW0.out]
  refine hcopy.mono ?_
  rintro e w1 ⟨cs, F0, rfl, oS, fS, hb1⟩
  obtain ⟨A1, c1, A2, c2, A3, c3, rfl⟩ := fStanding_shape oS
  obtain ⟨F1, F2, F3, o1, o2, o3, rfl⟩ := fStanding_parts oS
  obtain ⟨m1, hm1⟩ : ∃ m, m = s.items.length := ⟨_, rfl⟩
  obtain ⟨m2, hm2⟩ : ∃ m, m = s.wanted.length := ⟨_, rfl⟩
  obtain ⟨m3, hm3⟩ : ∃ m, m = s.best.length := ⟨_, rfl⟩
  rw [← hm1] at o1
  rw [← hm2] at o2
  rw [← hm3] at o3
  dsimp only
  rw [← hm1, ← hm2, ← hm3]
  have bS1 := (bS.bw hb1).bw ((Bw.refl w1).alloc (.cells #[.slice A1 m1 c1, .slice A2 m2 c2, .slice A3 m3 c3, .int .i64 s.tests] 28))
  have y0 := bS1.c 0 _ rfl
  have y1 := bS1.c 1 _ rfl
  have y2 := bS1.c 2 _ rfl
  have y3 := bS1.c 3 _ rfl
  have HM1 := Lib.hid hm1
  have HM2 := Lib.hid hm2
  have HM3 := Lib.hid hm3
  clear hm1 hm2 hm3
  go_wp2_with fail
  obtain ⟨V, hV⟩ : ∃ V, V = w1.alloc (.cells #[.slice A1 m1 c1, .slice A2 m2 c2, .slice A3 m3 c3, .int .i64 s.tests] 28) := ⟨_, rfl⟩
  have A1' : Bw w1 V := by rw [hV]; exact (Bw.refl w1).alloc _
  have bO : Box V w1.heap.size [.slice A1 m1 c1, .slice A2 m2 c2, .slice A3 m3 c3, .int .i64 s.tests] := by rw [hV]; exact Box.new w1 #[.slice A1 m1 c1, .slice A2 m2 c2, .slice A3 m3 c3, .int .i64 s.tests] 28
  have zV : V.heap.size = w1.heap.size + 1 := by rw [hV]; simp
  have BV : Bw w V := A0.then (hb1.then A1')
  replace bS := bS.bw (hb1.then A1')
  replace bX := bX.bw (hb1.then A1')
  replace bR := bR.bw (hb1.then A1')
  have zw : w.heap.size + 3 ≤ w1.heap.size := by have := hb1.size; omega
  have lS := (fStanding_good (B := 0)).lt oS
  replace o1 := keepBw A1' fItems_good o1
  replace o2 := keepBw A1' fNodes_good o2
  replace o3 := keepBw A1' fInts_good o3
  have fV : Fresh (w.heap.size + 3) (F1 ++ (F2 ++ F3)) := fS.mono (by omega)
  have HLS := Lib.hid lS
  have HV := Lib.hid hV
  have k1 := Lib.hid (fun W (B : Bw V W) => I_IsStanding W s _ vb _ (ha.bw rItems_good (BV.then B)) (hb.bw rNodes_good (BV.then B)) (hc.bw rInts_good (BV.then B)))
  have k2 := Lib.hid (fun W (B : Bw V W) => I_IsItem W x u (hx.bw rInts_good (BV.then B)))
  have k3 := Lib.hid (fun W (B : Bw V W) => I_FindItem W s.items x.id _ (ha.bw rItems_good (BV.then B)))
  obtain ⟨b6, hb6⟩ : ∃ b, b = w1.heap.size := ⟨_, rfl⟩
  rw [← hb6] at bO zV zw lS
  have HB6 := Lib.hid hb6
  rw [← HV.out, ← HB6.out]
  clear hV oS fS hcopy hb1 A0 hb6 lS y0 y1 y2 y3 bS1
  refine (k1.out _ (Bw.refl V)).mono ?_
  rintro e w2 ⟨rfl, hb2⟩
  rw [E1]
  have bS2 := bS.bw hb2
  have bX2 := bX.bw hb2
  have y0 := bS2.c 0 _ rfl
  have y1 := bS2.c 1 _ rfl
  have y2 := bS2.c 2 _ rfl
  have y3 := bS2.c 3 _ rfl
  have yf := bS2.fr
  have x0 := bX2.c 0 _ rfl
  have x1 := bX2.c 1 _ rfl
  have xf := bX2.fr
  have hcall := k2.out _ hb2
  rw [E2] at hcall
  clear bS2 bX2
  go_wp2_with fail
  refine hcall.mono ?_
  rintro e w3 ⟨rfl, hb3⟩
  have hB3 := hb2.then hb3
  clear y0 y1 y2 y3 yf
  clear x0 x1 xf
  have bS3 := bS.bw hB3
  have bX3 := bX.bw hB3
  have y0 := bS3.c 0 _ rfl
  have y1 := bS3.c 1 _ rfl
  have y2 := bS3.c 2 _ rfl
  have y3 := bS3.c 3 _ rfl
  have yf := bS3.fr
  have x0 := bX3.c 0 _ rfl
  have x1 := bX3.c 1 _ rfl
  have xf := bX3.fr
  have hcall := k3.out _ hB3
  obtain ⟨K, hK⟩ : ∃ K, K = findIdx s.items x.id := ⟨_, rfl⟩
  rw [← hK] at hcall hfx
  have HK := Lib.hid hK
  clear bS3 bX3 hK
  go_wp2_with fail
  refine hcall.mono ?_
  rintro e w4 ⟨rfl, hb4⟩
  have hB4 := hB3.then hb4
  clear y0 y1 y2 y3 yf
  clear x0 x1 xf
  have hm16 : m ≤ 16 := by have := M.out; omega
  have bS4 := bS.bw hB4
  have bX4 := bX.bw hB4
  have bR4 := bR.bw hB4
  have bO4 := bO.bw hB4
  have y0 := bS4.c 0 _ rfl
  have y1 := bS4.c 1 _ rfl
  have y2 := bS4.c 2 _ rfl
  have y3 := bS4.c 3 _ rfl
  have yf := bS4.fr
  have q0 := bO4.c 0 _ rfl
  have q1 := bO4.c 1 _ rfl
  have q2 := bO4.c 2 _ rfl
  have q3 := bO4.c 3 _ rfl
  have qf := bO4.fr
  have hK1 : ¬ (0 : Int) ≤ K := by omega
  have hn1 : ((n : Int) == 16) = false := by rw [beq_eq_false_iff_ne]; have := L.out; omega
  have ht1 : ¬ (999900 : Int) < s.tests := by omega
  have hne : b6 ≠ w.heap.size ∧ b6 ≠ w.heap.size + 1 ∧ b6 ≠ w.heap.size + 1 + 1 := by omega
  obtain ⟨hne1, hne2, hne3⟩ := hne
  have hne4 := hne1.symm
  have hne5 := hne2.symm
  have hne6 := hne3.symm
  obtain ⟨X, hX⟩ : ∃ X, X = w4.setCell ⟨b6, 3, none⟩ (.int .i64 (s.tests + (m : Int))) := ⟨_, rfl⟩
  have zX : X.heap.size = w4.heap.size := by rw [hX]; simp
  have z4 := hB4.size
  have BX : Bw w X := by rw [hX]; exact (BV.then hB4).set (by dsimp only; omega) _
  have UX : Bw w1 X := by rw [hX]; exact (A1'.then hB4).set (p := ⟨b6, 3, none⟩) (by have := HB6.out; dsimp only; omega) _
  have cO : Box X b6 [.slice A1 m1 c1, .slice A2 m2 c2, .slice A3 m3 c3, .int .i64 (s.tests + (m : Int))] := by rw [hX]; exact bO4.set (by simp) _
  have cS : Box X w.heap.size [.slice A n c, vb, .slice B m c4, .int .i64 s.tests] := by rw [hX]; exact bS4.only (only_setCell _ _ _ _) (by simp; omega)
  have cX : Box X (w.heap.size + 1) [.int .i64 x.id, u] := by rw [hX]; exact bX4.only (only_setCell _ _ _ _) (by simp; omega)
  have cR : Box X (w.heap.size + 1 + 1) [.slice none 0 0, .slice none 0 0, .slice none 0 0, .int .i64 0] := by rw [hX]; exact bR4.only (only_setCell _ _ _ _) (by simp; omega)
  have hls := HLS.out
  rw [← HB6.out] at hls
  have n1 : b6 ∉ F1 := fun h => by have := hls b6 (List.mem_append_left _ h); omega
  have n2 : b6 ∉ F2 := fun h => by have := hls b6 (List.mem_append_right _ (List.mem_append_left _ h)); omega
  have n3 : b6 ∉ F3 := fun h => by have := hls b6 (List.mem_append_right _ (List.mem_append_right _ h)); omega
  have l123 : ∀ c ∈ F1 ++ (F2 ++ F3), c < b6 := hls
  have p1 : fItems X s.items [.slice A1 m1 c1] F1 := by rw [hX]; exact keepSet fItems_good (keepBw hB4 fItems_good o1) n1
  have p2 : fNodes X s.wanted [.slice A2 m2 c2] F2 := by rw [hX]; exact keepSet fNodes_good (keepBw hB4 fNodes_good o2) n2
  have p3 : fInts X s.best [.slice A3 m3 c3] F3 := by rw [hX]; exact keepSet fInts_good (keepBw hB4 fInts_good o3) n3
  have hv0 := fSl_empty (e := 3) (sz := 1) (R := fInt) X
  have B5 : Bw X (X.alloc (.cells #[] 3)) := (Bw.refl X).alloc _
  have j2 := (cS.bw B5).c 2 _ rfl
  rw [hX] at j2
  have HX := Lib.hid hX
  have HST := Lib.hid E1
  have HIX := Lib.hid E2
  have HA := Lib.hid ha
  have HC := Lib.hid hc
  clear bS4 bX4 bR4 bO4 hcall k1 k2 k3 hok E1 E2 hb2 hb3 hb4 hB3 ha hc hX hls o1 o2 o3
  go_wp2
  rw [← HX.out]
  rw [show w4.heap.size = X.heap.size from zX.symm]
  rw [← zX] at z4
  clear zX
  go_loopg [7, 8, 53] m (fun g s7 s8 s9 w' => ∃ (k : Nat) (F : List Nat), k ≤ m ∧ g = m - k ∧ s9 = .int .i64 k ∧ s7 = .bool (beatTo s x k) ∧ fInts w' (keptTo s x k) [s8] F ∧ Fresh X.heap.size F ∧ Bw X w')
  case atStart => exact ⟨0, [X.heap.size], by omega, rfl, rfl, rfl, hv0, ⟨by simp, by simp⟩, B5⟩
  case round =>
    clear y0 y1 y2 y3 yf
    clear q0 q1 q2 q3 qf
    clear hv0 B5 j2
    obtain ⟨k, F, hk, rfl, rfl, rfl, hv, hF, hbk⟩ := hrel
    obtain ⟨Q, hQ⟩ : ∃ Q, Q = beatTo s x k := ⟨_, rfl⟩
    rw [← hQ]
    have HQ := Lib.hid hQ
    have HKL := Lib.hid (keptTo_len s x k)
    clear hQ
    have bSk := cS.bw hbk
    have bw0 := BX.then hbk
    by_cases hlt : k < m
    · obtain ⟨d, hd⟩ := get_of_lt (xs := s.best) (k := k) (by have := M.out; omega)
      obtain ⟨bb, ob, rfl, _, hcd⟩ := rInts_at (HC.out.bw rInts_good bw0) hd
      have hdm := List.mem_of_getElem? hd
      obtain ⟨bA, oA, rfl⟩ : ∃ b o, A = some ⟨b, o, none⟩ := by
        obtain ⟨y, hy, _⟩ := best_item HST.out hdm
        obtain ⟨k', hk'⟩ := List.mem_iff_getElem?.1 hy
        obtain ⟨b, o, A2, c2, e, _⟩ := rItems_at HA.out hk'
        exact ⟨b, o, e⟩
      obtain ⟨kd, Ad, cd, hdf, hdn, hdi, hdc0, hdc1, hdc2⟩ := item_cells HA.out L.out HI.out (best_item HST.out hdm)
      have i1 : (0 : Int) ≤ (k : Int) := by omega
      have i2 : (k : Int) < (m : Int) := by omega
      have i3 : (0 : Int) ≤ (kd : Int) := by omega
      have i4 : (kd : Int) < (n : Int) := by omega
      have D1 : Bw wr wr.drew := (Bw.refl wr).drew
      have bwD := bw0.then D1
      have f2 := fun W (B : Bw wr W) => I_FindItem W s.items d _ (HA.out.bw rItems_good (bw0.then B))
      rw [hdf] at f2
      have gk0 := bw0.cell hdc0
      have gk1 := bw0.cell hdc1
      have HDI := Lib.hid hdi
      have HD2 := Lib.hid hdc2
      have yk0 := bSk.c 0 _ rfl
      have yk1 := bSk.c 1 _ rfl
      have yk2 := bSk.c 2 _ rfl
      have hA1 := ((Bw.refl wr).alloc (.cells #[.int .i64 0, .slice none 0 0] 30)).drew
      have ne1 : w.heap.size ≠ wr.heap.size := by have := bSk.lt; omega
      have ne2 : bA ≠ wr.heap.size := by have := World.block_lt_of_cell? _ _ gk0; dsimp only at this; omega
      have HBS := Lib.hid (beatTo_succ (x := x) hd)
      have HKY := Lib.hid (fun h => keptTo_yes (x := x) hd h)
      have HKN := Lib.hid (fun h => keptTo_no (x := x) hd h)
      obtain ⟨y, hy⟩ : ∃ y, y = itemAt s.items d := ⟨_, rfl⟩
      rw [← hy] at gk0 HBS HKY HKN HDI HD2
      clear hd hdm hdf hdi hdc0 hdc1 hdc2 hy
      go_wp2_with fail
      go_region_held3 (fun w' => w'.cell? ⟨w.heap.size, 0, none⟩ = some (.slice (some ⟨bA, oA, none⟩) n c) ∧ w'.cell? ⟨bA, oA + kd * 2, none⟩ = some (.int .i64 y.id) ∧ w'.cell? ⟨bA, oA + kd * 2 + 1, none⟩ = some (.slice Ad 3 cd)) (first | go_keep | exact ⟨yk0, gk0, gk1⟩ | exact ⟨hA1.cell yk0, hA1.cell gk0, hA1.cell gk1⟩ | exact ⟨y0, g0, g1⟩ | exact ⟨cell_far ne1 (cell_far ne1 y0), cell_far ne2 (cell_far ne2 g0), cell_far ne2 (cell_far ne2 g1)⟩)
        (first
          | (go_at_call 77; (first
            | (refine (f2 _ (Bw.refl wr).drew).mono ?_; rintro e w5 ⟨rfl, hb5⟩; have hb6 := (Bw.refl wr).drew.then hb5)
            | (refine (f2 _ ((Bw.refl wr).alloc (.cells #[.int .i64 0, .slice none 0 0] 30)).drew).mono ?_; rintro e w5 ⟨rfl, hb5⟩; have hb6 := ((Bw.refl wr).alloc (.cells #[.int .i64 0, .slice none 0 0] 30)).drew.then hb5; have bY := (Box.new wr #[.int .i64 0, .slice none 0 0] 30).bw ((Bw.refl _).drew.then hb5); have h0 := bY.c 0 _ rfl; have h1 := bY.c 1 _ rfl; have hf := bY.fr)); have y0 := hb6.cell yk0; have g0 := hb6.cell gk0; have g1 := hb6.cell gk1))
      all_goals (first
        | (obtain ⟨U, hU⟩ : ∃ U, U = w5.alloc (.cells #[.int .i64 y.id, .slice Ad 3 cd] 30) := ⟨_, rfl⟩
           obtain ⟨by', hby⟩ : ∃ b, b = w5.heap.size := ⟨_, rfl⟩
           rw [← hU, ← hby]
           have bYU : Box U by' [.int .i64 y.id, .slice Ad 3 cd] := by rw [hU, hby]; exact Box.new w5 #[.int .i64 y.id, .slice Ad 3 cd] 30
           have hbU : Bw wr U := by rw [hU]; exact hb6.then ((Bw.refl w5).alloc _)
           have HU := Lib.hid hU
           have HBY := Lib.hid hby
           clear hU hby)
        | (obtain ⟨U, hU⟩ : ∃ U, U = (w5.setCell ⟨wr.heap.size, 0, none⟩ (.int .i64 y.id)).setCell ⟨wr.heap.size, 1, none⟩ (.slice Ad 3 cd) := ⟨_, rfl⟩
           obtain ⟨by', hby⟩ : ∃ b, b = wr.heap.size := ⟨_, rfl⟩
           rw [← hU, ← hby]
           have bYU : Box U by' [.int .i64 y.id, .slice Ad 3 cd] := by rw [hU, hby]; exact (bY.set (by simp) _).set (by simp) _
           have hbU : Bw wr U := by rw [hU]; exact (hb6.set (p := ⟨wr.heap.size, 0, none⟩) (Nat.le_refl _) _).set (p := ⟨wr.heap.size, 1, none⟩) (Nat.le_refl _) _
           have HU := Lib.hid hU
           have HBY := Lib.hid hby
           clear hU hby))
      all_goals
        have hbkU := hbk.then hbU
        have bSU := cS.bw hbkU
        have bXU := cX.bw hbkU
        have vU := keepBw hbU fInts_good hv
        have bwU := BX.then hbkU
        have c1 := Lib.hid (fun W (B : Bw U W) => I_compareBy W s.wanted y x _ _ _ (hb.bw rNodes_good (bwU.then B)) (HD2.out.bw rInts_good (bwU.then B)) (hx.bw rInts_good (bwU.then B)) (areBoth_expr HB.out) HDI.out HIX.out)
        have c2 := Lib.hid (fun W (B : Bw U W) => I_compareBy W s.wanted x y _ _ _ (hb.bw rNodes_good (bwU.then B)) (hx.bw rInts_good (bwU.then B)) (HD2.out.bw rInts_good (bwU.then B)) (areBoth_expr HB.out) HIX.out HDI.out)
        have hrr : cmpBy s.wanted x y = 1 ↔ cmpBy s.wanted y x = -1 := by
          rw [(cmpBy_PO (areBoth_expr HB.out)).anti x y HIX.out HDI.out]
          unfold neg2
          split <;> omega
        obtain ⟨r, hr⟩ : ∃ r, r = cmpBy s.wanted y x := ⟨_, rfl⟩
        obtain ⟨r2, hr2⟩ : ∃ r, r = cmpBy s.wanted x y := ⟨_, rfl⟩
        rw [← hr] at c1 HBS HKY HKN hrr
        rw [← hr2] at c2 hrr
        rw [← HQ.out] at HBS
        have HRR := Lib.hid hrr
        clear hrr hr hr2 hcd yk0 yk1 yk2 y0 g0 g1 gk0 gk1 f2 bSk D1 bwD hA1 hv
        have y0 := bSU.c 0 _ rfl
        have y1 := bSU.c 1 _ rfl
        have y2 := bSU.c 2 _ rfl
        have y3 := bSU.c 3 _ rfl
        have yf := bSU.fr
        have z0 := bXU.c 0 _ rfl
        have z1 := bXU.c 1 _ rfl
        have zf := bXU.fr
        have h0 := bYU.c 0 _ rfl
        have h1 := bYU.c 1 _ rfl
        have hf := bYU.fr
        cases Q with
        | true =>
          have HBT := Lib.hid (show beatTo s x (k + 1) = true by rw [HBS.out]; simp)
          go_wp2_with fail
          refine (c2.out _ (Bw.refl U)).mono ?_
          rintro e w7 ⟨rfl, hb7⟩
          have v7 := keepBw hb7 fInts_good vU
          have hbk7 := hbkU.then hb7
          by_cases rm : r2 = 1
          · have e2 : (r2 == 1) = true := by simpa using rm
            have HKT := Lib.hid (HKN.out (HRR.out.1 rm))
            clear rm
            go_wp2
            go_roundg (m - (k + 1))
            case measure => omega
            case rel => exact ⟨k + 1, F, by omega, rfl, by go_num, by (have hbt := HBT.out; first | (simp [hbt]; done) | (simp [hbt, e1]; done)), by rw [HKT.out]; exact v7, hF, hbk7⟩
          · have e2 : (r2 == 1) = false := by simpa using rm
            have HKT := Lib.hid (HKY.out (fun h => rm (HRR.out.2 h)))
            have hFm := (fInts_good (B := 0)).lt v7
            have hvW := keepBw ((Bw.refl w7).alloc (.cells #[.int .i64 d] 3)) fInts_good v7
            have hbW := hbk7.alloc (.cells #[.int .i64 d] 3)
            have hcl := cell_one_new w7 (.int .i64 d) 3
            have hbs := hbk7.size
            clear v7 rm
            go_wp2_with (at_builtin; refine wpList_push _ rfl (.tmp 80) (.tmp 82) 26 rfl X 3 i0 _ 1 8 Tryz.underlying26 hi hz0 hz1 hz2 rfl (by omega) fInt_good _ (keptTo s x k) F rfl hvW hF ⟨w7.heap.size, 0, none⟩ 1 rfl d [.int .i64 d] [] hcl ⟨rfl, rfl⟩ rfl _ hFm Fresh.nil hbs (by have := HKL.out; omega) (by have := HKL.out; omega) hbW ?_; intro v' w' F' hv' hF' hb')
            go_roundg (m - (k + 1))
            case measure => omega
            case rel => exact ⟨k + 1, F', by omega, rfl, by go_num, by (have hbt := HBT.out; first | (simp [hbt]; done) | (simp [hbt, e1]; done)), by rw [HKT.out]; exact hv', hF', hb'⟩
        | false =>
          go_wp2_with fail
          refine (c1.out _ (Bw.refl U)).mono ?_
          rintro e w6 ⟨rfl, hb6'⟩
          clear y0 y1 y2 y3 yf
          clear z0 z1 zf
          clear h0 h1 hf
          have bSU6 := bSU.bw hb6'
          have bXU6 := bXU.bw hb6'
          have bYU6 := bYU.bw hb6'
          have y0 := bSU6.c 0 _ rfl
          have y1 := bSU6.c 1 _ rfl
          have y2 := bSU6.c 2 _ rfl
          have y3 := bSU6.c 3 _ rfl
          have yf := bSU6.fr
          have z0 := bXU6.c 0 _ rfl
          have z1 := bXU6.c 1 _ rfl
          have zf := bXU6.fr
          have h0 := bYU6.c 0 _ rfl
          have h1 := bYU6.c 1 _ rfl
          have hf := bYU6.fr
          have hcall := c2.out _ hb6'
          by_cases r1 : r = 1
          · have e1 : (r == 1) = true := by simpa using r1
            have HBT := Lib.hid (show beatTo s x (k + 1) = true by rw [HBS.out, r1]; rfl)
            clear r1
            go_wp2_with fail
            refine hcall.mono ?_
            rintro e w7 ⟨rfl, hb7⟩
            have v7 := keepBw (hb6'.then hb7) fInts_good vU
            have hbk7 := hbkU.then (hb6'.then hb7)
            by_cases rm : r2 = 1
            · have e2 : (r2 == 1) = true := by simpa using rm
              have HKT := Lib.hid (HKN.out (HRR.out.1 rm))
              clear rm
              go_wp2
              go_roundg (m - (k + 1))
              case measure => omega
              case rel => exact ⟨k + 1, F, by omega, rfl, by go_num, by (have hbt := HBT.out; first | (simp [hbt]; done) | (simp [hbt, e1]; done)), by rw [HKT.out]; exact v7, hF, hbk7⟩
            · have e2 : (r2 == 1) = false := by simpa using rm
              have HKT := Lib.hid (HKY.out (fun h => rm (HRR.out.2 h)))
              have hFm := (fInts_good (B := 0)).lt v7
              have hvW := keepBw ((Bw.refl w7).alloc (.cells #[.int .i64 d] 3)) fInts_good v7
              have hbW := hbk7.alloc (.cells #[.int .i64 d] 3)
              have hcl := cell_one_new w7 (.int .i64 d) 3
              have hbs := hbk7.size
              clear v7 rm
              go_wp2_with (at_builtin; refine wpList_push _ rfl (.tmp 80) (.tmp 82) 26 rfl X 3 i0 _ 1 8 Tryz.underlying26 hi hz0 hz1 hz2 rfl (by omega) fInt_good _ (keptTo s x k) F rfl hvW hF ⟨w7.heap.size, 0, none⟩ 1 rfl d [.int .i64 d] [] hcl ⟨rfl, rfl⟩ rfl _ hFm Fresh.nil hbs (by have := HKL.out; omega) (by have := HKL.out; omega) hbW ?_; intro v' w' F' hv' hF' hb')
              go_roundg (m - (k + 1))
              case measure => omega
              case rel => exact ⟨k + 1, F', by omega, rfl, by go_num, by (have hbt := HBT.out; first | (simp [hbt]; done) | (simp [hbt, e1]; done)), by rw [HKT.out]; exact hv', hF', hb'⟩
          · have e1 : (r == 1) = false := by simpa using r1
            have HBT := Lib.hid (show beatTo s x (k + 1) = false by rw [HBS.out, decide_eq_false r1]; rfl)
            clear r1
            go_wp2_with fail
            refine hcall.mono ?_
            rintro e w7 ⟨rfl, hb7⟩
            have v7 := keepBw (hb6'.then hb7) fInts_good vU
            have hbk7 := hbkU.then (hb6'.then hb7)
            by_cases rm : r2 = 1
            · have e2 : (r2 == 1) = true := by simpa using rm
              have HKT := Lib.hid (HKN.out (HRR.out.1 rm))
              clear rm
              go_wp2
              go_roundg (m - (k + 1))
              case measure => omega
              case rel => exact ⟨k + 1, F, by omega, rfl, by go_num, by (have hbt := HBT.out; first | (simp [hbt]; done) | (simp [hbt, e1]; done)), by rw [HKT.out]; exact v7, hF, hbk7⟩
            · have e2 : (r2 == 1) = false := by simpa using rm
              have HKT := Lib.hid (HKY.out (fun h => rm (HRR.out.2 h)))
              have hFm := (fInts_good (B := 0)).lt v7
              have hvW := keepBw ((Bw.refl w7).alloc (.cells #[.int .i64 d] 3)) fInts_good v7
              have hbW := hbk7.alloc (.cells #[.int .i64 d] 3)
              have hcl := cell_one_new w7 (.int .i64 d) 3
              have hbs := hbk7.size
              clear v7 rm
              go_wp2_with (at_builtin; refine wpList_push _ rfl (.tmp 80) (.tmp 82) 26 rfl X 3 i0 _ 1 8 Tryz.underlying26 hi hz0 hz1 hz2 rfl (by omega) fInt_good _ (keptTo s x k) F rfl hvW hF ⟨w7.heap.size, 0, none⟩ 1 rfl d [.int .i64 d] [] hcl ⟨rfl, rfl⟩ rfl _ hFm Fresh.nil hbs (by have := HKL.out; omega) (by have := HKL.out; omega) hbW ?_; intro v' w' F' hv' hF' hb')
              go_roundg (m - (k + 1))
              case measure => omega
              case rel => exact ⟨k + 1, F', by omega, rfl, by go_num, by (have hbt := HBT.out; first | (simp [hbt]; done) | (simp [hbt, e1]; done)), by rw [HKT.out]; exact hv', hF', hb'⟩
    · obtain rfl : k = m := by omega
      obtain ⟨A7, c7, rfl, _⟩ := rSl_shape (fInts_Rd hv)
      have HKM := Lib.hid (show s.best.length = k from M.out.symm)
      have HQ2 := Lib.hid (show Q = beatTo s x s.best.length by rw [HQ.out, HKM.out])
      have HKL2 := Lib.hid (show (keptTo s x k).length ≤ 16 by have := HKL.out; have := HKM.out; omega)
      have L16 := Lib.hid (show s.items.length < 16 from h16)
      have zk := hbk.size
      have b6X : b6 < X.heap.size := cO.lt
      have zwX : w.heap.size + 3 ≤ X.heap.size := by have := BX.size; omega
      have hF1 : Fresh w.heap.size F1 := ⟨(List.nodup_append.1 fV.nodup).1, fun b hb => by have := fV.ge b (List.mem_append_left _ hb); omega⟩
      have nx1 : w.heap.size + 1 ∉ F1 := fun h => by have := fV.ge _ (List.mem_append_left _ h); omega
      have nr1 : w.heap.size + 1 + 1 ∉ F1 := fun h => by have := fV.ge _ (List.mem_append_left _ h); omega
      cases Q with
      | true =>
        have HYR := Lib.hid (show insertS s x = ⟨putM s.items x, s.wanted, s.best, s.tests + (k : Int)⟩ by unfold insertS; rw [← HQ2.out, HKM.out]; rfl)
        have bOY := cO.bw hbk
        have bXY := cX.bw hbk
        have bRY := cR.bw hbk
        have q1 := keepBw hbk fItems_good p1
        have q2 := keepBw hbk fNodes_good p2
        have q3 := keepBw hbk fInts_good p3
        have BY := BX.then hbk
        have nH : F3.Nodup := (List.nodup_append.1 (List.nodup_append.1 fV.nodup).2.1).2.1
        have dH : ∀ c ∈ F3, c ∉ F1 ∧ c ∉ F2 ∧ c ≠ b6 ∧ w.heap.size + 3 ≤ c ∧ c < wr.heap.size := fun c hc => ⟨fun h => (List.nodup_append.1 fV.nodup).2.2 c h c (List.mem_append_right _ hc) rfl, fun h => (List.nodup_append.1 (List.nodup_append.1 fV.nodup).2.1).2.2 c h c hc rfl, fun e => n3 (e ▸ hc), fV.ge c (List.mem_append_right _ (List.mem_append_right _ hc)), by have := l123 c (List.mem_append_right _ (List.mem_append_right _ hc)); omega⟩
        clear hv
        have hYb : b6 < wr.heap.size := bOY.lt
        have wYb := BY.size
        have hDz : (wr.drew).heap.size = wr.heap.size := rfl
        have y0 := bOY.c 0 _ rfl
        have y1 := bOY.c 1 _ rfl
        have y2 := bOY.c 2 _ rfl
        have y3 := bOY.c 3 _ rfl
        have yf := bOY.fr
        have z0 := bXY.c 0 _ rfl
        have z1 := bXY.c 1 _ rfl
        have zf := bXY.fr
        have D1 : Bw wr wr.drew := (Bw.refl _).drew
        have hxI := hx.bw rInts_good (BY.then D1)
        have hxl : x.vals.length ≤ 1048576 := by rw [isItem_len HIX.out]; omega
        have ltq1 := (fItems_good (B := 0)).lt q1
        obtain ⟨j0, ji, jz0, jz1, jz2⟩ := info_parts info_Item
        go_wp2_with fail
        go_region_law
          (first
            | (refine step_push2 _ (by rfl) (.tmp 97) (.tmp 100) 24 (by rfl) w 30 j0 _ 2 32 Tryz.underlying24 ji jz0 jz1 jz2 rfl (by omega) fItem_good _ s.items F1 (by rfl) qW hF1 ⟨w10.heap.size, 0, none⟩ 1 (by rfl) x [.int .i64 x.id, .slice Av x.vals.length cv] F10 hcl ⟨_, rfl, oW⟩ rfl wr.heap.size ltq1 f10' wYb (by have := L16.out; omega) (by have := L16.out; omega) hbW ?_; intro v' w' F' hv' hF' hb' hO' hs'; obtain ⟨g', L', c', rfl, l', _⟩ := fSl_lit' hv' (by simp); have bOP := bOW.only hO' n1; have e0 := bOP.c 0 _ rfl; have ef := bOP.fr)
            | (go_simp; go_at_call 80; refine (I_copyItem _ x _ hxI hxl).mono ?_; rintro e w10 ⟨v10, rfl, ⟨F10, o10, f10⟩, hb10⟩; obtain ⟨Av, cv, rfl, _⟩ := rSl_shape (fInts_Rd o10); have hbD := D1.then hb10; have y0 := hbD.cell y0; have hAl := (Bw.refl w10).alloc (.cells #[.int .i64 x.id, .slice Av x.vals.length cv] 30); have ya := hAl.cell y0; have hbYW := hbD.then hAl; have qW := keepBw hbYW fItems_good q1; have oW := keepBw hAl fInts_good o10; have hbW := BY.then hbYW; have f10' : Fresh wr.heap.size F10 := f10.mono (by rw [hDz]; exact Nat.le_refl _); have bOW := bOY.bw hbYW; have hcl : ∀ j t, [Value.int .i64 x.id, .slice Av x.vals.length cv][j]? = some t → (w10.alloc (.cells #[.int .i64 x.id, .slice Av x.vals.length cv] 30)).cell? ((⟨w10.heap.size, 0, none⟩ : Addr).add j) = some t := World.news_of_block (cs := #[.int .i64 x.id, .slice Av x.vals.length cv]) (t := 30) (fr := (0, 0)) (heap_alloc_new w10 _); go_wp2_with fail))
        all_goals
          obtain ⟨Z, hZ⟩ : ∃ Z, Z = w'.setCell ⟨b6, 0, none⟩ (.slice (some ⟨g', 0, none⟩) L' c') := ⟨_, rfl⟩
          rw [← hZ]
          have mF : ∀ b ∈ F', b ∉ F2 ∧ b ∉ F3 ∧ b ≠ b6 ∧ w.heap.size + 3 ≤ b := by
            intro b hb
            have h1 := hbYW.size
            rcases hs' b hb with h | h | h
            · refine ⟨fun h2 => ?_, fun h2 => (dH b h2).1 h, fun e => n1 (e ▸ h), fV.ge b (List.mem_append_left _ h)⟩
              exact (List.nodup_append.1 fV.nodup).2.2 b h b (List.mem_append_left _ h2) rfl
            · have h3 := f10'.ge b h
              refine ⟨fun h2 => ?_, fun h2 => ?_, by omega, by omega⟩
              · have := l123 b (List.mem_append_right _ (List.mem_append_left _ h2)); omega
              · have := (dH b h2).2.2.2.2; omega
            · refine ⟨fun h2 => ?_, fun h2 => ?_, by omega, by omega⟩
              · have := l123 b (List.mem_append_right _ (List.mem_append_left _ h2)); omega
              · have := (dH b h2).2.2.2.2; omega
          have gF : g' ∈ F' := by
            obtain ⟨g2, c2', e, _, _, hg⟩ := fSl_lit hv' (by simp)
            injection e with e
            injection e with e
            injection e with e
            rw [e]; exact hg
          have mg := mF g' gF
          have Zb : Bw w Z := by rw [hZ]; exact hb'.set (by dsimp only; omega) _
          have qZ : fItems Z (s.items ++ [x]) [.slice (some ⟨g', 0, none⟩) L' c'] F' := by rw [hZ]; exact keepSet fItems_good hv' (fun h => (mF b6 h).2.2.1 rfl)
          have bOZ : Box Z b6 [.slice (some ⟨g', 0, none⟩) L' c', .slice A2 m2 c2, .slice A3 m3 c3, .int .i64 (s.tests + (k : Int))] := by rw [hZ]; exact bOP.set (by simp) _
          have bRZ : Box Z (w.heap.size + 1 + 1) [.slice none 0 0, .slice none 0 0, .slice none 0 0, .int .i64 0] := by rw [hZ]; exact ((bRY.bw hbYW).only hO' nr1).only (only_setCell _ _ _ _) (by simp; omega)
          have q2Z : fNodes Z s.wanted [.slice A2 m2 c2] F2 := by rw [hZ]; exact keepSet fNodes_good (hO'.keeps fNodes_good (keepBw hbYW fNodes_good q2) (fun c h h2 => (List.nodup_append.1 fV.nodup).2.2 c h2 c (List.mem_append_left _ h) rfl)) n2
          have q3Z : fInts Z s.best [.slice A3 m3 c3] F3 := by rw [hZ]; exact keepSet fInts_good (hO'.keeps fInts_good (keepBw hbYW fInts_good q3) (fun c h => (dH c h).1)) (fun h => (dH b6 h).2.2.1 rfl)
          have hcall := I_SortItems Z (s.items ++ [x]) g' c' F' (by rw [l'.out]; exact qZ) hF'.nodup (fun y hy => isItem_id ((List.mem_append.1 hy).elim (fun h => areItems_mem HI.out h) (fun h => by rw [List.mem_singleton.1 h]; exact HIX.out))) (by have := L16.out; simp; omega)
          rw [l'.out] at hcall
          have HZ := Lib.hid hZ
          have e0 := bOZ.c 0 _ rfl
          clear hZ y0 y1 y2 y3 yf z0 z1 zf e0 ef
          have e0 := bOZ.c 0 _ rfl
          go_wp2_with fail
          refine hcall.mono ?_
          rintro e w12 ⟨rfl, ys, F12, hp, hys, o12, hFp, hO12, hB12⟩
          have hyp : ys = putM s.items x := put_uniq hp hys (items_sorted HI.out) (find_none (by rw [← HK.out]; exact hfx))
          subst hyp
          have bO12 := bOZ.only hO12 (by simp; exact fun e => mg.2.2.1 e.symm)
          have bR12 := bRZ.only hO12 (by simp; omega)
          have q2' := hO12.keeps fNodes_good q2Z (fun c h h2 => by rw [List.mem_singleton.1 h2] at h; exact mg.1 h)
          have q3' := hO12.keeps fInts_good q3Z (fun c h h2 => by rw [List.mem_singleton.1 h2] at h; exact mg.2.1 h)
          have B12 := hB12 w Zb (by omega)
          clear hcall e0
          have t0 := bO12.c 0 _ rfl
          have t1 := bO12.c 1 _ rfl
          have t2 := bO12.c 2 _ rfl
          have t3 := bO12.c 3 _ rfl
          have tf := bO12.fr
          have r0 := bR12.c 0 _ rfl
          have r1 := bR12.c 1 _ rfl
          have r2 := bR12.c 2 _ rfl
          have r3 := bR12.c 3 _ rfl
          have rf := bR12.fr
          go_wp2
          rw [HYR.out]
          refine bodyPost_ret (v := .tuple #[.agg #[.slice (some ⟨g', 0, none⟩) L' c', .slice A2 m2 c2, .slice A3 m3 c3, .int .i64 (s.tests + (k : Int))], .bool true]) (by simp [results, Tryz.results11, go_sem, t0, t1, t2, t3, r0, r1, r2, r3, hne3, hne6]) rfl ?_
          refine stand_ret (y := ⟨putM s.items x, s.wanted, s.best, s.tests + (k : Int)⟩) (F := F12) (G := F2) (H := F3) o12 q2' q3' ⟨?_, ?_⟩ (by omega) B12
          · rw [List.nodup_append, List.nodup_append]
            refine ⟨hFp.nodup_iff.2 hF'.nodup, ⟨(List.nodup_append.1 (List.nodup_append.1 fV.nodup).2.1).1, nH, fun a ha b hb e => (dH b hb).2.1 (e ▸ ha)⟩, fun a ha b hb e => ?_⟩
            have h1 := mF a (hFp.mem_iff.1 ha)
            exact (List.mem_append.1 hb).elim (fun h => h1.1 (e ▸ h)) (fun h => h1.2.1 (e ▸ h))
          · intro b hb
            rcases List.mem_append.1 hb with hb | hb
            · have := (mF b (hFp.mem_iff.1 hb)).2.2.2; omega
            · rcases List.mem_append.1 hb with hb | hb
              · have := fV.ge b (List.mem_append_right _ (List.mem_append_left _ hb)); omega
              · have := (dH b hb).2.2.2.1; omega
      | false =>
        have HYR := Lib.hid (show insertS s x = ⟨putM s.items x, s.wanted, sortI (keptTo s x k ++ [x.id]), s.tests + (k : Int)⟩ by unfold insertS; rw [← HQ2.out, HKM.out]; rfl)
        have bXk := cX.bw hbk
        have z0 := bXk.c 0 _ rfl
        have z1 := bXk.c 1 _ rfl
        have zf := bXk.fr
        have AW := (Bw.refl wr).alloc (.cells #[.int .i64 x.id] 3)
        have vW := keepBw AW fInts_good hv
        have UW := hbk.then AW
        have hFm := (fInts_good (B := 0)).lt hv
        have hcl := cell_one_new wr (.int .i64 x.id) 3
        go_wp2_with (at_builtin; refine wpList_push2 _ rfl (.tmp 87) (.tmp 90) 26 rfl X 3 i0 _ 1 8 Tryz.underlying26 hi hz0 hz1 hz2 rfl (by omega) fInt_good _ (keptTo s x k) F rfl vW hF ⟨wr.heap.size, 0, none⟩ 1 rfl x.id [.int .i64 x.id] [] hcl ⟨rfl, rfl⟩ rfl wr.heap.size hFm Fresh.nil zk (by have := HKL2.out; omega) (by have := HKL2.out; omega) UW ?_; intro v8 w8 F8 hv8 hF8 hb8 hO8 hs8; obtain ⟨g8, L8, c8, rfl, l8, _⟩ := fSl_lit' hv8 (by simp); have d8 := cO.bw hb8; have e2 := d8.c 2 _ rfl; have ef := d8.fr)
        obtain ⟨Y1, hY1⟩ : ∃ Y1, Y1 = w8.setCell ⟨b6, 2, none⟩ (.slice (some ⟨g8, 0, none⟩) L8 c8) := ⟨_, rfl⟩
        rw [← hY1]
        have zb8 := hb8.size
        have n8 : b6 ∉ F8 := fun h => by have := hF8.ge _ h; omega
        have v9 : fInts Y1 (keptTo s x k ++ [x.id]) [.slice (some ⟨g8, 0, none⟩) L8 c8] F8 := by rw [hY1]; exact keepSet fInts_good hv8 n8
        have hcall := I_Sort Y1 (keptTo s x k ++ [x.id]) g8 c8 F8 (by rw [l8.out]; exact v9) (by have := HKL2.out; simp; omega)
        rw [l8.out] at hcall
        refine hcall.mono ?_
        rintro e wq ⟨rfl, q3, hO9, hB9⟩
        have B1 : Bw w Y1 := by rw [hY1]; exact (BX.then hb8).set (by dsimp only; omega) _
        have g8' : ∀ c ∈ F8, X.heap.size ≤ c := hF8.ge
        have BY := hB9 w B1 (fun b hb => by have := g8' b hb; omega)
        have bOY : Box wq b6 [.slice A1 m1 c1, .slice A2 m2 c2, .slice (some ⟨g8, 0, none⟩) L8 c8, .int .i64 (s.tests + (k : Int))] := Box.only (by rw [hY1]; exact d8.set (by simp) _) hO9 n8
        have bXY : Box wq (w.heap.size + 1) [.int .i64 x.id, u] := Box.only (by rw [hY1]; exact (cX.bw hb8).only (only_setCell _ _ _ _) (by simp; omega)) hO9 (fun h => by have := g8' _ h; omega)
        have bRY : Box wq (w.heap.size + 1 + 1) [.slice none 0 0, .slice none 0 0, .slice none 0 0, .int .i64 0] := Box.only (by rw [hY1]; exact (cR.bw hb8).only (only_setCell _ _ _ _) (by simp; omega)) hO9 (fun h => by have := g8' _ h; omega)
        have q1 : fItems wq s.items [.slice A1 m1 c1] F1 := hO9.keeps fItems_good (by rw [hY1]; exact keepSet fItems_good (keepBw hb8 fItems_good p1) n1) (fun c h h2 => by have := g8' c h2; have := l123 c (List.mem_append_left _ h); omega)
        have q2 : fNodes wq s.wanted [.slice A2 m2 c2] F2 := hO9.keeps fNodes_good (by rw [hY1]; exact keepSet fNodes_good (keepBw hb8 fNodes_good p2) n2) (fun c h h2 => by have := g8' c h2; have := l123 c (List.mem_append_right _ (List.mem_append_left _ h)); omega)
        have nH : F8.Nodup := hF8.nodup
        have lt8 := (fInts_good (B := 0)).lt q3
        have dH : ∀ c ∈ F8, c ∉ F1 ∧ c ∉ F2 ∧ c ≠ b6 ∧ w.heap.size + 3 ≤ c ∧ c < wq.heap.size := fun c hc => ⟨fun h => by have := g8' c hc; have := l123 c (List.mem_append_left _ h); omega, fun h => by have := g8' c hc; have := l123 c (List.mem_append_right _ (List.mem_append_left _ h)); omega, fun e => n8 (e ▸ hc), by have := g8' c hc; omega, lt8 c hc⟩
        clear hv hcall vW e2 ef hY1 z0 z1 zf hv8 d8 v9 hb8 hO8 hs8
        have hYb : b6 < wq.heap.size := bOY.lt
        have wYb := BY.size
        have hDz : (wq.drew).heap.size = wq.heap.size := rfl
        have y0 := bOY.c 0 _ rfl
        have y1 := bOY.c 1 _ rfl
        have y2 := bOY.c 2 _ rfl
        have y3 := bOY.c 3 _ rfl
        have yf := bOY.fr
        have z0 := bXY.c 0 _ rfl
        have z1 := bXY.c 1 _ rfl
        have zf := bXY.fr
        have D1 : Bw wq wq.drew := (Bw.refl _).drew
        have hxI := hx.bw rInts_good (BY.then D1)
        have hxl : x.vals.length ≤ 1048576 := by rw [isItem_len HIX.out]; omega
        have ltq1 := (fItems_good (B := 0)).lt q1
        obtain ⟨j0, ji, jz0, jz1, jz2⟩ := info_parts info_Item
        go_wp2_with fail
        go_region_law
          (first
            | (refine step_push2 _ (by rfl) (.tmp 97) (.tmp 100) 24 (by rfl) w 30 j0 _ 2 32 Tryz.underlying24 ji jz0 jz1 jz2 rfl (by omega) fItem_good _ s.items F1 (by rfl) qW hF1 ⟨w10.heap.size, 0, none⟩ 1 (by rfl) x [.int .i64 x.id, .slice Av x.vals.length cv] F10 hcl ⟨_, rfl, oW⟩ rfl wq.heap.size ltq1 f10' wYb (by have := L16.out; omega) (by have := L16.out; omega) hbW ?_; intro v' w' F' hv' hF' hb' hO' hs'; obtain ⟨g', L', c', rfl, l', _⟩ := fSl_lit' hv' (by simp); have bOP := bOW.only hO' n1; have e0 := bOP.c 0 _ rfl; have ef := bOP.fr)
            | (go_simp; go_at_call 80; refine (I_copyItem _ x _ hxI hxl).mono ?_; rintro e w10 ⟨v10, rfl, ⟨F10, o10, f10⟩, hb10⟩; obtain ⟨Av, cv, rfl, _⟩ := rSl_shape (fInts_Rd o10); have hbD := D1.then hb10; have y0 := hbD.cell y0; have hAl := (Bw.refl w10).alloc (.cells #[.int .i64 x.id, .slice Av x.vals.length cv] 30); have ya := hAl.cell y0; have hbYW := hbD.then hAl; have qW := keepBw hbYW fItems_good q1; have oW := keepBw hAl fInts_good o10; have hbW := BY.then hbYW; have f10' : Fresh wq.heap.size F10 := f10.mono (by rw [hDz]; exact Nat.le_refl _); have bOW := bOY.bw hbYW; have hcl : ∀ j t, [Value.int .i64 x.id, .slice Av x.vals.length cv][j]? = some t → (w10.alloc (.cells #[.int .i64 x.id, .slice Av x.vals.length cv] 30)).cell? ((⟨w10.heap.size, 0, none⟩ : Addr).add j) = some t := World.news_of_block (cs := #[.int .i64 x.id, .slice Av x.vals.length cv]) (t := 30) (fr := (0, 0)) (heap_alloc_new w10 _); go_wp2_with fail))
        all_goals
          obtain ⟨Z, hZ⟩ : ∃ Z, Z = w'.setCell ⟨b6, 0, none⟩ (.slice (some ⟨g', 0, none⟩) L' c') := ⟨_, rfl⟩
          rw [← hZ]
          have mF : ∀ b ∈ F', b ∉ F2 ∧ b ∉ F8 ∧ b ≠ b6 ∧ w.heap.size + 3 ≤ b := by
            intro b hb
            have h1 := hbYW.size
            rcases hs' b hb with h | h | h
            · refine ⟨fun h2 => ?_, fun h2 => (dH b h2).1 h, fun e => n1 (e ▸ h), fV.ge b (List.mem_append_left _ h)⟩
              exact (List.nodup_append.1 fV.nodup).2.2 b h b (List.mem_append_left _ h2) rfl
            · have h3 := f10'.ge b h
              refine ⟨fun h2 => ?_, fun h2 => ?_, by omega, by omega⟩
              · have := l123 b (List.mem_append_right _ (List.mem_append_left _ h2)); omega
              · have := (dH b h2).2.2.2.2; omega
            · refine ⟨fun h2 => ?_, fun h2 => ?_, by omega, by omega⟩
              · have := l123 b (List.mem_append_right _ (List.mem_append_left _ h2)); omega
              · have := (dH b h2).2.2.2.2; omega
          have gF : g' ∈ F' := by
            obtain ⟨g2, c2', e, _, _, hg⟩ := fSl_lit hv' (by simp)
            injection e with e
            injection e with e
            injection e with e
            rw [e]; exact hg
          have mg := mF g' gF
          have Zb : Bw w Z := by rw [hZ]; exact hb'.set (by dsimp only; omega) _
          have qZ : fItems Z (s.items ++ [x]) [.slice (some ⟨g', 0, none⟩) L' c'] F' := by rw [hZ]; exact keepSet fItems_good hv' (fun h => (mF b6 h).2.2.1 rfl)
          have bOZ : Box Z b6 [.slice (some ⟨g', 0, none⟩) L' c', .slice A2 m2 c2, .slice (some ⟨g8, 0, none⟩) L8 c8, .int .i64 (s.tests + (k : Int))] := by rw [hZ]; exact bOP.set (by simp) _
          have bRZ : Box Z (w.heap.size + 1 + 1) [.slice none 0 0, .slice none 0 0, .slice none 0 0, .int .i64 0] := by rw [hZ]; exact ((bRY.bw hbYW).only hO' nr1).only (only_setCell _ _ _ _) (by simp; omega)
          have q2Z : fNodes Z s.wanted [.slice A2 m2 c2] F2 := by rw [hZ]; exact keepSet fNodes_good (hO'.keeps fNodes_good (keepBw hbYW fNodes_good q2) (fun c h h2 => (List.nodup_append.1 fV.nodup).2.2 c h2 c (List.mem_append_left _ h) rfl)) n2
          have q3Z : fInts Z (sortI (keptTo s x k ++ [x.id])) [.slice (some ⟨g8, 0, none⟩) L8 c8] F8 := by rw [hZ]; exact keepSet fInts_good (hO'.keeps fInts_good (keepBw hbYW fInts_good q3) (fun c h => (dH c h).1)) (fun h => (dH b6 h).2.2.1 rfl)
          have hcall := I_SortItems Z (s.items ++ [x]) g' c' F' (by rw [l'.out]; exact qZ) hF'.nodup (fun y hy => isItem_id ((List.mem_append.1 hy).elim (fun h => areItems_mem HI.out h) (fun h => by rw [List.mem_singleton.1 h]; exact HIX.out))) (by have := L16.out; simp; omega)
          rw [l'.out] at hcall
          have HZ := Lib.hid hZ
          have e0 := bOZ.c 0 _ rfl
          clear hZ y0 y1 y2 y3 yf z0 z1 zf e0 ef
          have e0 := bOZ.c 0 _ rfl
          go_wp2_with fail
          refine hcall.mono ?_
          rintro e w12 ⟨rfl, ys, F12, hp, hys, o12, hFp, hO12, hB12⟩
          have hyp : ys = putM s.items x := put_uniq hp hys (items_sorted HI.out) (find_none (by rw [← HK.out]; exact hfx))
          subst hyp
          have bO12 := bOZ.only hO12 (by simp; exact fun e => mg.2.2.1 e.symm)
          have bR12 := bRZ.only hO12 (by simp; omega)
          have q2' := hO12.keeps fNodes_good q2Z (fun c h h2 => by rw [List.mem_singleton.1 h2] at h; exact mg.1 h)
          have q3' := hO12.keeps fInts_good q3Z (fun c h h2 => by rw [List.mem_singleton.1 h2] at h; exact mg.2.1 h)
          have B12 := hB12 w Zb (by omega)
          clear hcall e0
          have t0 := bO12.c 0 _ rfl
          have t1 := bO12.c 1 _ rfl
          have t2 := bO12.c 2 _ rfl
          have t3 := bO12.c 3 _ rfl
          have tf := bO12.fr
          have r0 := bR12.c 0 _ rfl
          have r1 := bR12.c 1 _ rfl
          have r2 := bR12.c 2 _ rfl
          have r3 := bR12.c 3 _ rfl
          have rf := bR12.fr
          go_wp2
          rw [HYR.out]
          refine bodyPost_ret (v := .tuple #[.agg #[.slice (some ⟨g', 0, none⟩) L' c', .slice A2 m2 c2, .slice (some ⟨g8, 0, none⟩) L8 c8, .int .i64 (s.tests + (k : Int))], .bool true]) (by simp [results, Tryz.results11, go_sem, t0, t1, t2, t3, r0, r1, r2, r3, hne3, hne6]) rfl ?_
          refine stand_ret (y := ⟨putM s.items x, s.wanted, (sortI (keptTo s x k ++ [x.id])), s.tests + (k : Int)⟩) (F := F12) (G := F2) (H := F8) o12 q2' q3' ⟨?_, ?_⟩ (by omega) B12
          · rw [List.nodup_append, List.nodup_append]
            refine ⟨hFp.nodup_iff.2 hF'.nodup, ⟨(List.nodup_append.1 (List.nodup_append.1 fV.nodup).2.1).1, nH, fun a ha b hb e => (dH b hb).2.1 (e ▸ ha)⟩, fun a ha b hb e => ?_⟩
            have h1 := mF a (hFp.mem_iff.1 ha)
            exact (List.mem_append.1 hb).elim (fun h => h1.1 (e ▸ h)) (fun h => h1.2.1 (e ▸ h))
          · intro b hb
            rcases List.mem_append.1 hb with hb | hb
            · have := (mF b (hFp.mem_iff.1 hb)).2.2.2; omega
            · rcases List.mem_append.1 hb with hb | hb
              · have := fV.ge b (List.mem_append_right _ (List.mem_append_left _ hb)); omega
              · have := (dH b hb).2.2.2.1; omega
end Go.Proofs.YtpihighajaeabaaGreat
