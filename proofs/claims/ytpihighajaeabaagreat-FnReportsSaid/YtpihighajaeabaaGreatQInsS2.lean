/- An item is added to a standing answer, in the reference: the way on which it is added. -/
import Derived.Test.YtpihighajaeabaaGreatQInsS
namespace Go.Proofs.YtpihighajaeabaaGreat
open Go.RowKit
set_option linter.unusedVariables false
set_option linter.unusedSimpArgs false
set_option maxRecDepth 100000 in
set_option maxHeartbeats 6400000 in
theorem S_InsertItem_yes (w : World) (s : GStanding) (x : GItem) (va vb vc u : Value) (ha : Rd rItems w s.items [va]) (hb : Rd rNodes w s.wanted [vb]) (hc : Rd rInts w s.best [vc]) (hx : Rd rInts w x.vals [u]) (t1 : totItems s.items ≤ 1048576) (t2 : totNodes s.wanted ≤ 1048576) (t3 : s.best.length ≤ 1048576) (hok : insOk s x = true) :
    Calls Tryz.prog 12 #[.agg #[va, vb, vc, .int .i64 s.tests], .agg #[.int .i64 x.id, u]] w (RetV w (TwoA fStanding w.heap.size (insertS s x) (.bool true))) := by
  obtain ⟨i0, hi, hz0, hz1, hz2⟩ := info_parts info_int
  obtain ⟨E1, E2, hfx, h16, hts⟩ := insOk_parts hok
  have HB := Lib.hid (stand_both E1).1
  have HI := Lib.hid (areBoth_items HB.out)
  have hts0 := (stand_tests E1).1
  have hml := stand_best_len E1
  obtain ⟨A, n, c, rfl, L0, Lc, Lm⟩ := rSl_open ha
  unfold maxLen at Lm
  have L := Lib.hid L0
  clear L0
  obtain ⟨B, m, c4, rfl, M0, Mc, Mm⟩ := rSl_open hc
  unfold maxLen at Mm
  have M := Lib.hid M0
  clear M0
  obtain ⟨W0, hW0⟩ : ∃ W0, W0 = ((w.alloc (.cells #[.slice A n c, vb, .slice B m c4, .int .i64 s.tests] 28)).alloc (.cells #[.int .i64 x.id, u] 30)).alloc (.cells #[.slice none 0 0, .slice none 0 0, .slice none 0 0, .int .i64 0] 28) := ⟨_, rfl⟩
  have A0 : Bw w W0 := by rw [hW0]; exact (((Bw.refl w).alloc _).alloc _).alloc _
  have bS : Box W0 w.heap.size [.slice A n c, vb, .slice B m c4, .int .i64 s.tests] := by rw [hW0]; exact (Box.new w #[.slice A n c, vb, .slice B m c4, .int .i64 s.tests] 28).bw (((Bw.refl _).alloc _).alloc _)
  have bX : Box W0 (w.heap.size + 1) [.int .i64 x.id, u] := by
    have := Box.new (w.alloc (.cells #[.slice A n c, vb, .slice B m c4, .int .i64 s.tests] 28)) #[.int .i64 x.id, u] 30
    rw [show (w.alloc (.cells #[.slice A n c, vb, .slice B m c4, .int .i64 s.tests] 28)).heap.size = w.heap.size + 1 from by simp] at this
    rw [hW0]; exact this.bw ((Bw.refl _).alloc _)
  have bR : Box W0 (w.heap.size + 1 + 1) [.slice none 0 0, .slice none 0 0, .slice none 0 0, .int .i64 0] := by
    have := Box.new ((w.alloc (.cells #[.slice A n c, vb, .slice B m c4, .int .i64 s.tests] 28)).alloc (.cells #[.int .i64 x.id, u] 30)) #[.slice none 0 0, .slice none 0 0, .slice none 0 0, .int .i64 0] 28
    rw [show ((w.alloc (.cells #[.slice A n c, vb, .slice B m c4, .int .i64 s.tests] 28)).alloc (.cells #[.int .i64 x.id, u] 30)).heap.size = w.heap.size + 1 + 1 from by simp] at this
    rw [hW0]; exact this
  have z0 : W0.heap.size = w.heap.size + 3 := by rw [hW0]; simp
  have hcopy := S_l15Copy W0 s _ vb _ (ha.bw rItems_good A0) (hb.bw rNodes_good A0) (hc.bw rInts_good A0) t1 t2 t3
  have HW0 := Lib.hid hW0
  clear hW0
  go_enter Tryz.func12, Tryz.ntmps12
  go_wp2_with fail
  rw [← HW0.out]
  refine hcopy.mono ?_
  rintro e w1 ⟨cs, F0, rfl, oS, fS, hb1⟩
  obtain ⟨A1, c1, A2, c2, A3, c3, rfl⟩ := fStanding_shape oS
  obtain ⟨F1, F2, F3, o1, o2, o3, rfl⟩ := fStanding_parts oS
  obtain ⟨m1, hm1⟩ : ∃ m, m = s.items.length := ⟨_, rfl⟩
  obtain ⟨m2, hm2⟩ : ∃ m, m = s.wanted.length := ⟨_, rfl⟩
  obtain ⟨m3, hm3⟩ : ∃ m, m = s.best.length := ⟨_, rfl⟩
  rw [← hm1] at o1
  rw [← hm2] at o2
  rw [← hm3] at o3
  dsimp only
  rw [← hm1, ← hm2, ← hm3]
  have bS1 := (bS.bw hb1).bw ((Bw.refl w1).alloc (.cells #[.slice A1 m1 c1, .slice A2 m2 c2, .slice A3 m3 c3, .int .i64 s.tests] 28))
  have y0 := bS1.c 0 _ rfl
  have y1 := bS1.c 1 _ rfl
  have y2 := bS1.c 2 _ rfl
  have y3 := bS1.c 3 _ rfl
  have HM1 := Lib.hid hm1
  have HM2 := Lib.hid hm2
  have HM3 := Lib.hid hm3
  clear hm1 hm2 hm3
  go_wp2_with fail
  obtain ⟨V, hV⟩ : ∃ V, V = w1.alloc (.cells #[.slice A1 m1 c1, .slice A2 m2 c2, .slice A3 m3 c3, .int .i64 s.tests] 28) := ⟨_, rfl⟩
  have A1' : Bw w1 V := by rw [hV]; exact (Bw.refl w1).alloc _
  have bO : Box V w1.heap.size [.slice A1 m1 c1, .slice A2 m2 c2, .slice A3 m3 c3, .int .i64 s.tests] := by rw [hV]; exact Box.new w1 #[.slice A1 m1 c1, .slice A2 m2 c2, .slice A3 m3 c3, .int .i64 s.tests] 28
  have zV : V.heap.size = w1.heap.size + 1 := by rw [hV]; simp
  have BV : Bw w V := A0.then (hb1.then A1')
  replace bS := bS.bw (hb1.then A1')
  replace bX := bX.bw (hb1.then A1')
  replace bR := bR.bw (hb1.then A1')
  have zw : w.heap.size + 3 ≤ w1.heap.size := by have := hb1.size; omega
  have lS := (fStanding_good (B := 0)).lt oS
  replace o1 := keepBw A1' fItems_good o1
  replace o2 := keepBw A1' fNodes_good o2
  replace o3 := keepBw A1' fInts_good o3
  have fV : Fresh (w.heap.size + 3) (F1 ++ (F2 ++ F3)) := fS.mono (by omega)
  have HLS := Lib.hid lS
  have HV := Lib.hid hV
  have k1 := Lib.hid (fun W (B : Bw V W) => S_IsStanding W s _ vb _ (ha.bw rItems_good (BV.then B)) (hb.bw rNodes_good (BV.then B)) (hc.bw rInts_good (BV.then B)))
  have k2 := Lib.hid (fun W (B : Bw V W) => S_IsItem W x u (hx.bw rInts_good (BV.then B)))
  have k3 := Lib.hid (fun W (B : Bw V W) => S_FindItem W s.items x.id _ (ha.bw rItems_good (BV.then B)))
  obtain ⟨b6, hb6⟩ : ∃ b, b = w1.heap.size := ⟨_, rfl⟩
  rw [← hb6] at bO zV zw lS
  have HB6 := Lib.hid hb6
  rw [← HV.out, ← HB6.out]
  clear hV oS fS hcopy hb1 A0 hb6 lS y0 y1 y2 y3 bS1
  refine (k1.out _ (Bw.refl V)).mono ?_
  rintro e w2 ⟨rfl, hb2⟩
  rw [E1]
  have bS2 := bS.bw hb2
  have bX2 := bX.bw hb2
  have y0 := bS2.c 0 _ rfl
  have y1 := bS2.c 1 _ rfl
  have y2 := bS2.c 2 _ rfl
  have y3 := bS2.c 3 _ rfl
  have yf := bS2.fr
  have x0 := bX2.c 0 _ rfl
  have x1 := bX2.c 1 _ rfl
  have xf := bX2.fr
  have hcall := k2.out _ hb2
  rw [E2] at hcall
  clear bS2 bX2
  go_wp2_with fail
  refine hcall.mono ?_
  rintro e w3 ⟨rfl, hb3⟩
  have hB3 := hb2.then hb3
  clear y0 y1 y2 y3 yf
  clear x0 x1 xf
  have bS3 := bS.bw hB3
  have bX3 := bX.bw hB3
  have y0 := bS3.c 0 _ rfl
  have y1 := bS3.c 1 _ rfl
  have y2 := bS3.c 2 _ rfl
  have y3 := bS3.c 3 _ rfl
  have yf := bS3.fr
  have x0 := bX3.c 0 _ rfl
  have x1 := bX3.c 1 _ rfl
  have xf := bX3.fr
  have hcall := k3.out _ hB3
  obtain ⟨K, hK⟩ : ∃ K, K = findIdx s.items x.id := ⟨_, rfl⟩
  rw [← hK] at hcall hfx
  have HK := Lib.hid hK
  clear bS3 bX3 hK
  go_wp2_with fail
  refine hcall.mono ?_
  rintro e w4 ⟨rfl, hb4⟩
  have hB4 := hB3.then hb4
  clear y0 y1 y2 y3 yf
  clear x0 x1 xf
  have bS4 := bS.bw hB4
  have y0 := bS4.c 0 _ rfl
  have y1 := bS4.c 1 _ rfl
  have y2 := bS4.c 2 _ rfl
  have y3 := bS4.c 3 _ rfl
  have yf := bS4.fr
  have hK1 : ¬ (0 : Int) ≤ K := by omega
  have hn1 : ¬ (16 : Int) ≤ (n : Int) := by have := L.out; omega
  have ht1 : ¬ (999900 : Int) < s.tests := by omega
  have hv0 := fSl_empty (e := 3) (sz := 1) (R := fInt) w4
  have B5 : Bw V (w4.alloc (.cells #[] 3)) := hB4.alloc _
  have hs4 := hB4.size
  have HST := Lib.hid E1
  have HIX := Lib.hid E2
  have HA := Lib.hid ha
  have HC := Lib.hid hc
  have hm16 : m ≤ 16 := by have := M.out; omega
  clear bS4 hcall k1 k2 k3 hok E1 E2 hb2 hb3 hb4 hB3 ha hc
  go_wp2
  go_loopg [7, 8, 9] m (fun g s7 s8 s9 w' => ∃ (k : Nat) (F : List Nat), k ≤ m ∧ g = m - k ∧ s9 = .int .i64 k ∧ s8 = .bool (!beatTo s x k) ∧ fInts w' (keptTo s x k) [s7] F ∧ Fresh V.heap.size F ∧ Bw V w')
  case atStart => exact ⟨0, [w4.heap.size], by omega, rfl, rfl, rfl, hv0, ⟨by simp, by simpa using hs4⟩, B5⟩
  case round =>
    clear y0 y1 y2 y3 yf
    clear hv0 B5
    obtain ⟨k, F, hk, rfl, rfl, rfl, hv, hF, hbk⟩ := hrel
    obtain ⟨Q, hQ⟩ : ∃ Q, Q = beatTo s x k := ⟨_, rfl⟩
    rw [← hQ]
    have HQ := Lib.hid hQ
    have HKL := Lib.hid (keptTo_len s x k)
    clear hQ
    have bSk := bS.bw hbk
    have bXk := bX.bw hbk
    have y0 := bSk.c 0 _ rfl
    have y1 := bSk.c 1 _ rfl
    have y2 := bSk.c 2 _ rfl
    have y3 := bSk.c 3 _ rfl
    have yf := bSk.fr
    have z0 := bXk.c 0 _ rfl
    have z1 := bXk.c 1 _ rfl
    have zf := bXk.fr
    have bw0 := BV.then hbk
    by_cases hlt : k < m
    · obtain ⟨d, hd⟩ := get_of_lt (xs := s.best) (k := k) (by have := M.out; omega)
      obtain ⟨bb, ob, rfl, _, hcd⟩ := rInts_at (HC.out.bw rInts_good bw0) hd
      have hdm := List.mem_of_getElem? hd
      obtain ⟨bA, oA, rfl⟩ : ∃ b o, A = some ⟨b, o, none⟩ := by
        obtain ⟨y, hy, _⟩ := best_item HST.out hdm
        obtain ⟨k', hk'⟩ := List.mem_iff_getElem?.1 hy
        obtain ⟨b, o, A2, c2, e, _⟩ := rItems_at HA.out hk'
        exact ⟨b, o, e⟩
      obtain ⟨kd, Ad, cd, hdf, hdn, hdi, hdc0, hdc1, hdc2⟩ := item_cells HA.out L.out HI.out (best_item HST.out hdm)
      have i1 : (0 : Int) ≤ (k : Int) := by omega
      have i2 : (k : Int) < (m : Int) := by omega
      have s0 := since_cell y0
      have s1 := since_cell y1
      have s2 := since_cell y2
      have s3 := since_cell hcd
      have s4 := since_cell z0
      have s5 := since_cell z1
      have c8 : ∀ q : Since wr, Calls Tryz.prog 86 #[.slice (some ⟨bA, oA, none⟩) n c, .int .i64 d] q.1 (Ret q.1 (.agg #[.int .i64 (itemAt s.items d).id, .slice Ad 3 cd])) := fun q => S_l8Item q.1 s.items d bA oA n c kd (itemAt s.items d) Ad 3 cd (HA.out.bw rItems_good (bw0.then q.bw)) hdf hdn ((bw0.then q.bw).cell hdc0) ((bw0.then q.bw).cell hdc1)
      have c5 : ∀ q : Since wr, Calls Tryz.prog 85 #[vb, .agg #[.int .i64 (itemAt s.items d).id, .slice Ad 3 cd], .agg #[.int .i64 x.id, u]] q.1 (Ret q.1 (.int .i64 (cmpBy s.wanted (itemAt s.items d) x))) := fun q => S_l5Compare q.1 s.wanted (itemAt s.items d) x _ _ _ (hb.bw rNodes_good (bw0.then q.bw)) (hdc2.bw rInts_good (bw0.then q.bw)) (hx.bw rInts_good (bw0.then q.bw)) (areBoth_expr HB.out) hdi HIX.out
      have HBS := Lib.hid (beatTo_succ (x := x) hd)
      have HKY := Lib.hid (fun h => keptTo_yes (x := x) hd h)
      have HKN := Lib.hid (fun h => keptTo_no (x := x) hd h)
      obtain ⟨y, hy⟩ : ∃ y, y = itemAt s.items d := ⟨_, rfl⟩
      rw [← hy] at c8 c5 HBS HKY HKN
      obtain ⟨r, hr⟩ : ∃ r, r = cmpBy s.wanted y x := ⟨_, rfl⟩
      rw [← hr] at c5 HBS HKY HKN
      clear hd hdm hdf hdn hdi hdc0 hdc1 hdc2 hy hr
      go_wp2_with fail
      refine wp_region_since (by kernel_rfl) (by kernel_rfl) ?_
      repeat (first | go_big_quiet_skip | (go_big_quiet_want; go_big_quiet_op; first | go_big_quiet_on | (apply Exists.intro; refine ⟨fun _ => ?_, ?_⟩; (· (((first | (go_at_call 86; exact Calls_since (c8 _)) | (go_at_call 85; exact Calls_since (c5 _)))))); go_big_quiet_on)))
      refine wpQuiet_nil ?_
      rintro ⟨wq, hbq⟩
      dsimp only at *
      have hbq2 := hbk.then hbq
      have hvq := keepBw hbq fInts_good hv
      have bSq := bS.bw hbq2
      have hcdq := hbq.cell hcd
      clear s0 s1 s2 s3 s4 s5 c8 c5 hv hcd bSk bXk
      clear y0 y1 y2 y3 yf
      clear z0 z1 zf
      have y0 := bSq.c 0 _ rfl
      have y1 := bSq.c 1 _ rfl
      have y2 := bSq.c 2 _ rfl
      have y3 := bSq.c 3 _ rfl
      have yf := bSq.fr
      rw [← HQ.out] at HBS
      by_cases r1 : r = 1
      · subst r1
        have HBT := Lib.hid (show beatTo s x (k + 1) = true by rw [HBS.out]; simp)
        have HKT := Lib.hid (HKY.out (by omega))
        clear HKN HKY HBS
        cases Q with
        | true =>
          clear HQ
          have hFm := (fInts_good (B := 0)).lt hvq
          have hvW := keepBw ((Bw.refl wq).alloc (.cells #[.int .i64 d] 3)) fInts_good hvq
          have hbW := hbq2.alloc (.cells #[.int .i64 d] 3)
          have hcl := cell_one_new wq (.int .i64 d) 3
          have hbs := hbq2.size
          clear hvq
          go_wp2_with (at_builtin; refine wpList_push _ rfl (.tmp 68) (.tmp 74) 26 rfl V 3 i0 _ 1 8 Tryz.underlying26 hi hz0 hz1 hz2 rfl (by omega) fInt_good _ (keptTo s x k) F rfl hvW hF ⟨wq.heap.size, 0, none⟩ 1 rfl d [.int .i64 d] [] hcl ⟨rfl, rfl⟩ rfl _ hFm Fresh.nil hbs (by have := HKL.out; omega) (by have := HKL.out; omega) hbW ?_; intro v' w' F' hv' hF' hb')
          go_roundg (m - (k + 1))
          case measure => omega
          case rel => exact ⟨k + 1, F', by omega, rfl, by go_num, by (have hbt := HBT.out; first | (simp [hbt]; done) | (simp [hbt]; omega)), by rw [HKT.out]; exact hv', hF', hb'⟩
        | false =>
          clear HQ
          have hFm := (fInts_good (B := 0)).lt hvq
          have hvW := keepBw ((Bw.refl wq).alloc (.cells #[.int .i64 d] 3)) fInts_good hvq
          have hbW := hbq2.alloc (.cells #[.int .i64 d] 3)
          have hcl := cell_one_new wq (.int .i64 d) 3
          have hbs := hbq2.size
          clear hvq
          go_wp2_with (at_builtin; refine wpList_push _ rfl (.tmp 68) (.tmp 74) 26 rfl V 3 i0 _ 1 8 Tryz.underlying26 hi hz0 hz1 hz2 rfl (by omega) fInt_good _ (keptTo s x k) F rfl hvW hF ⟨wq.heap.size, 0, none⟩ 1 rfl d [.int .i64 d] [] hcl ⟨rfl, rfl⟩ rfl _ hFm Fresh.nil hbs (by have := HKL.out; omega) (by have := HKL.out; omega) hbW ?_; intro v' w' F' hv' hF' hb')
          go_roundg (m - (k + 1))
          case measure => omega
          case rel => exact ⟨k + 1, F', by omega, rfl, by go_num, by (have hbt := HBT.out; first | (simp [hbt]; done) | (simp [hbt]; omega)), by rw [HKT.out]; exact hv', hF', hb'⟩
      · by_cases r2 : r = -1
        · subst r2
          have HBT := Lib.hid (show beatTo s x (k + 1) = Q by rw [HBS.out]; simp)
          have HKT := Lib.hid (HKN.out rfl)
          clear HKN HKY HBS r1
          cases Q with
          | true =>
            clear HQ
            go_wp2
            go_roundg (m - (k + 1))
            case measure => omega
            case rel => exact ⟨k + 1, F, by omega, rfl, by go_num, by (have hbt := HBT.out; first | (simp [hbt]; done) | (simp [hbt]; omega)), by rw [HKT.out]; exact hvq, hF, hbq2⟩
          | false =>
            clear HQ
            go_wp2
            go_roundg (m - (k + 1))
            case measure => omega
            case rel => exact ⟨k + 1, F, by omega, rfl, by go_num, by (have hbt := HBT.out; first | (simp [hbt]; done) | (simp [hbt]; omega)), by rw [HKT.out]; exact hvq, hF, hbq2⟩
        · have HBT := Lib.hid (show beatTo s x (k + 1) = Q by rw [HBS.out]; simp [r1])
          have HKT := Lib.hid (HKY.out r2)
          have e1 : (r == 1) = false := by simpa using r1
          have e2 : (r == -1) = false := by simpa using r2
          clear HKN HKY HBS
          cases Q with
          | true =>
            clear HQ
            have hFm := (fInts_good (B := 0)).lt hvq
            have hvW := keepBw ((Bw.refl wq).alloc (.cells #[.int .i64 d] 3)) fInts_good hvq
            have hbW := hbq2.alloc (.cells #[.int .i64 d] 3)
            have hcl := cell_one_new wq (.int .i64 d) 3
            have hbs := hbq2.size
            clear hvq
            go_wp2_with (at_builtin; refine wpList_push _ rfl (.tmp 68) (.tmp 74) 26 rfl V 3 i0 _ 1 8 Tryz.underlying26 hi hz0 hz1 hz2 rfl (by omega) fInt_good _ (keptTo s x k) F rfl hvW hF ⟨wq.heap.size, 0, none⟩ 1 rfl d [.int .i64 d] [] hcl ⟨rfl, rfl⟩ rfl _ hFm Fresh.nil hbs (by have := HKL.out; omega) (by have := HKL.out; omega) hbW ?_; intro v' w' F' hv' hF' hb')
            go_roundg (m - (k + 1))
            case measure => omega
            case rel => exact ⟨k + 1, F', by omega, rfl, by go_num, by (have hbt := HBT.out; first | (simp [hbt]; done) | (simp [hbt]; omega)), by rw [HKT.out]; exact hv', hF', hb'⟩
          | false =>
            clear HQ
            have hFm := (fInts_good (B := 0)).lt hvq
            have hvW := keepBw ((Bw.refl wq).alloc (.cells #[.int .i64 d] 3)) fInts_good hvq
            have hbW := hbq2.alloc (.cells #[.int .i64 d] 3)
            have hcl := cell_one_new wq (.int .i64 d) 3
            have hbs := hbq2.size
            clear hvq
            go_wp2_with (at_builtin; refine wpList_push _ rfl (.tmp 68) (.tmp 74) 26 rfl V 3 i0 _ 1 8 Tryz.underlying26 hi hz0 hz1 hz2 rfl (by omega) fInt_good _ (keptTo s x k) F rfl hvW hF ⟨wq.heap.size, 0, none⟩ 1 rfl d [.int .i64 d] [] hcl ⟨rfl, rfl⟩ rfl _ hFm Fresh.nil hbs (by have := HKL.out; omega) (by have := HKL.out; omega) hbW ?_; intro v' w' F' hv' hF' hb')
            go_roundg (m - (k + 1))
            case measure => omega
            case rel => exact ⟨k + 1, F', by omega, rfl, by go_num, by (have hbt := HBT.out; first | (simp [hbt]; done) | (simp [hbt]; omega)), by rw [HKT.out]; exact hv', hF', hb'⟩
    · obtain rfl : k = m := by omega
      have i4 : (k : Int) ≤ 16 := by omega
      obtain ⟨A7, L7, c7, rfl, l7, _⟩ := rSl_open (fInts_Rd hv)
      replace l7 := Lib.hid l7
      have hcall := S_l15Put wr s.items x _ u (HA.out.bw rItems_good bw0) (hx.bw rInts_good bw0) (by omega) (fun y hy => by rw [isItem_len (areItems_mem HI.out hy)]; omega) (by rw [isItem_len HIX.out]; omega)
      clear bSk bXk
      go_wp2_with fail
      refine hcall.mono ?_
      rintro e w5 ⟨v5, rfl, ⟨F5, o5, f5⟩, hb5⟩
      obtain ⟨A5, n5, c5, rfl, l5, _⟩ := rSl_open (fItems_Rd o5)
      replace l5 := Lib.hid l5
      have hbk5 := hbk.then hb5
      have bS5 := bS.bw hbk5
      have bX5 := bX.bw hbk5
      have bR5 := bR.bw hbk5
      have bO5 := bO.bw hbk5
      clear y0 y1 y2 y3 yf
      clear z0 z1 zf
      have y0 := bS5.c 0 _ rfl
      have y1 := bS5.c 1 _ rfl
      have y2 := bS5.c 2 _ rfl
      have y3 := bS5.c 3 _ rfl
      have yf := bS5.fr
      have q0 := bO5.c 0 _ rfl
      have q1 := bO5.c 1 _ rfl
      have q2 := bO5.c 2 _ rfl
      have q3 := bO5.c 3 _ rfl
      have qf := bO5.fr
      have hB5 := BV.then hbk5
      have zk := hbk.size
      have zk5 := hbk5.size
      have ltF := (fInts_good (B := 0)).lt hv
      have hv5 := keepBw hb5 fInts_good hv
      clear hcall hv
      obtain ⟨X1, hX1⟩ : ∃ X1, X1 = (w5.setCell ⟨b6, 0, none⟩ (.slice A5 n5 c5)).setCell ⟨b6, 3, none⟩ (.int .i64 (s.tests + (k : Int))) := ⟨_, rfl⟩
      have BX1 : Bw w X1 := by rw [hX1]; exact (hB5.set (by dsimp only; omega) _).set (by dsimp only; omega) _
      have U1 : Bw w1 X1 := by rw [hX1]; exact ((A1'.then hbk5).set (p := ⟨b6, 0, none⟩) (by have := HB6.out; dsimp only; omega) _).set (p := ⟨b6, 3, none⟩) (by have := HB6.out; dsimp only; omega) _
      have bO6 : Box X1 b6 [.slice A5 n5 c5, .slice A2 m2 c2, .slice A3 m3 c3, .int .i64 (s.tests + (k : Int))] := by rw [hX1]; exact (bO5.set (by simp) _).set (by simp) _
      have nb1 : b6 ∉ [b6] → False := by simp
      have bR6 : Box X1 (w.heap.size + 1 + 1) [.slice none 0 0, .slice none 0 0, .slice none 0 0, .int .i64 0] := by rw [hX1]; exact (bR5.only (only_setCell _ _ _ _) (by simp; omega)).only (only_setCell _ _ _ _) (by simp; omega)
      have bX6 : Box X1 (w.heap.size + 1) [.int .i64 x.id, u] := by rw [hX1]; exact (bX5.only (only_setCell _ _ _ _) (by simp; omega)).only (only_setCell _ _ _ _) (by simp; omega)
      have g5 : ∀ c ∈ F5, V.heap.size ≤ c := fun c hc => by have := f5.ge c hc; omega
      have o6 : fItems X1 (putM s.items x) [.slice A5 n5 c5] F5 := by rw [hX1]; exact keepSet fItems_good (keepSet fItems_good o5 (fun h => by have := g5 _ h; omega)) (fun h => by have := g5 _ h; omega)
      have v6 : fInts X1 (keptTo s x k) [.slice A7 L7 c7] F := by rw [hX1]; exact keepSet fInts_good (keepSet fInts_good hv5 (fun h => by have := hF.ge _ h; omega)) (fun h => by have := hF.ge _ h; omega)
      have hls := HLS.out
      rw [← HB6.out] at hls
      have n2 : b6 ∉ F2 := fun h => by have := hls b6 (List.mem_append_right _ (List.mem_append_left _ h)); omega
      have n3 : b6 ∉ F3 := fun h => by have := hls b6 (List.mem_append_right _ (List.mem_append_right _ h)); omega
      have p2 : fNodes X1 s.wanted [.slice A2 m2 c2] F2 := by rw [hX1]; exact keepSet fNodes_good (keepSet fNodes_good (keepBw hbk5 fNodes_good o2) n2) n2
      have p3 : fInts X1 s.best [.slice A3 m3 c3] F3 := by rw [hX1]; exact keepSet fInts_good (keepSet fInts_good (keepBw hbk5 fInts_good o3) n3) n3
      have zX : X1.heap.size = w5.heap.size := by rw [hX1]; simp
      have HX1 := Lib.hid hX1
      have HKM := Lib.hid (show s.best.length = k from M.out.symm)
      have HQ2 := Lib.hid (show Q = beatTo s x s.best.length by rw [HQ.out, HKM.out])
      have hne : b6 ≠ w.heap.size ∧ b6 ≠ w.heap.size + 1 ∧ b6 ≠ w.heap.size + 1 + 1 := by omega
      obtain ⟨hne1, hne2, hne3⟩ := hne
      have hne4 := hne1.symm
      have hne5 := hne2.symm
      have hne6 := hne3.symm
      have r0 := bR5.c 0 _ rfl
      have r1 := bR5.c 1 _ rfl
      have r2 := bR5.c 2 _ rfl
      have r3 := bR5.c 3 _ rfl
      have rf := bR5.fr
      have z0 := bX5.c 0 _ rfl
      have z1 := bX5.c 1 _ rfl
      have zf := bX5.fr
      have f25 : Fresh (w.heap.size + 3) (F2 ++ F3) := ⟨(List.nodup_append.1 fV.nodup).2.1, fun b hb => fV.ge b (List.mem_append_right _ hb)⟩
      have l23 : ∀ c ∈ F2 ++ F3, c < b6 := fun c hc => by have := HLS.out c (List.mem_append_right _ hc); have := HB6.out; omega
      have fE : Fresh (w.heap.size + 1 + 1 + 1) (F5 ++ (F2 ++ F3)) := ⟨List.nodup_append.2 ⟨f5.nodup, f25.nodup, fun a ha b hb e => by have := g5 a ha; have := l23 b hb; omega⟩, fun b hb => (List.mem_append.1 hb).elim (fun h => by have := g5 b h; omega) (fun h => by have := f25.ge b h; omega)⟩
      clear hX1 o5 hv5 bR5 bX5 nb1 hls bO5 f25
      cases Q with
      | true =>
        have HY := Lib.hid (show insertS s x = ⟨putM s.items x, s.wanted, s.best, s.tests + (k : Int)⟩ by unfold insertS; rw [← HQ2.out, HKM.out]; rfl)
        have HL5 := Lib.hid (l5.out)
        clear bO6 bX6 v6
        go_wp2
        rw [← HX1.out, HY.out]
        have t0 := bR6.c 0 _ rfl
        have t1 := bR6.c 1 _ rfl
        have t2 := bR6.c 2 _ rfl
        have t3 := bR6.c 3 _ rfl
        have tf := bR6.fr
        refine bodyPost_ret (v := .tuple #[.agg #[.slice A5 n5 c5, .slice A2 m2 c2, .slice A3 m3 c3, .int .i64 (s.tests + (k : Int))], .bool true]) (by simp [results, Tryz.results12, go_sem, t0, t1, t2, t3]) rfl ?_
        exact stand_ret (y := ⟨putM s.items x, s.wanted, s.best, s.tests + (k : Int)⟩) o6 p2 p3 fE (by omega) BX1
      | false =>
        have HY := Lib.hid (show insertS s x = ⟨putM s.items x, s.wanted, sortI (keptTo s x k ++ [x.id]), s.tests + (k : Int)⟩ by unfold insertS; rw [← HQ2.out, HKM.out]; rfl)
        have AW := (Bw.refl X1).alloc (.cells #[.int .i64 x.id] 3)
        have vW := keepBw AW fInts_good v6
        have UW := U1.then AW
        have hFm := (fInts_good (B := 0)).lt v6
        have hcl := cell_one_new X1 (.int .i64 x.id) 3
        have hF' : Fresh w1.heap.size F := hF.mono (by have := HB6.out; omega)
        have zX1 : w1.heap.size ≤ X1.heap.size := U1.size
        have bO7 := bO6.bw AW
        have bR7 := bR6.bw AW
        have q6 := keepBw AW fItems_good o6
        have q2 := keepBw AW fNodes_good p2
        have HKL2 := Lib.hid (show (keptTo s x k).length ≤ 16 by have := HKL.out; have := HKM.out; omega)
        go_wp2_with (at_builtin; rw [← HX1.out]; refine wpList_push2 _ rfl (.tmp 89) (.tmp 92) 26 rfl w1 3 i0 _ 1 8 Tryz.underlying26 hi hz0 hz1 hz2 rfl (by omega) fInt_good _ (keptTo s x k) F (by first | rfl | (go_simp; done)) vW hF' ⟨X1.heap.size, 0, none⟩ 1 (by first | rfl | (go_simp; done)) x.id [.int .i64 x.id] [] hcl ⟨rfl, rfl⟩ rfl X1.heap.size hFm Fresh.nil zX1 (by have := HKL2.out; omega) (by have := HKL2.out; omega) UW ?_; intro v8 w8 F8 hv8 hF8 hb8 hO8 hs8)
        have hcall := S_l8Sort w8 (keptTo s x k ++ [x.id]) v8 (fInts_Rd hv8) (by have := HKL2.out; simp; omega)
        have bO8 := bO7.only hO8 (fun h => by have := hF.ge _ h; omega)
        have bR8 := bR7.only hO8 (fun h => by have := hF.ge _ h; omega)
        have q7 := hO8.keeps fItems_good q6 (fun c hc h => by have := f5.ge c hc; have := ltF c h; omega)
        have q3 := hO8.keeps fNodes_good q2 (fun c hc h => by have := l23 c (List.mem_append_left _ hc); have := hF.ge c h; omega)
        have l5' := (fItems_good (B := 0)).lt q7
        refine hcall.mono ?_
        rintro e w9 ⟨v9, rfl, ⟨F9, o9, f9⟩, hb9⟩
        obtain ⟨A9, n9, c9, rfl, l9, _⟩ := rSl_open (fInts_Rd o9)
        replace l9 := Lib.hid l9
        have bO9 := bO8.bw hb9
        have bR9 := bR8.bw hb9
        have q8 := keepBw hb9 fItems_good q7
        have q4 := keepBw hb9 fNodes_good q3
        have z8 : X1.heap.size ≤ w8.heap.size := by have := hO8.1; simp at this; omega
        have ub8 : Bw w w8 := ⟨hb8.os.trans (by have h1 := U1.os; have h2 := BX1.os; exact h1.symm.trans h2), hb8.tape.trans (by have h1 := U1.tape; have h2 := BX1.tape; exact h1.symm.trans h2), hb8.output.trans (by have h1 := U1.output; have h2 := BX1.output; exact h1.symm.trans h2), by have := BX1.size; omega, fun c hc => by
          have h1 := hO8.2 c (by have := BX1.size; simp; omega) (fun h => by have := hF.ge c h; omega)
          rw [h1, Below.heap_alloc _ _ _ (by have := BX1.size; omega)]
          exact Below.block BX1 c hc⟩
        have ub9 := ub8.then hb9
        have a0 := bO9.c 0 _ rfl
        have a1 := bO9.c 1 _ rfl
        have a2 := bO9.c 2 _ rfl
        have a3 := bO9.c 3 _ rfl
        have af := bO9.fr
        have d0 := bR9.c 0 _ rfl
        have d1 := bR9.c 1 _ rfl
        have d2 := bR9.c 2 _ rfl
        have d3 := bR9.c 3 _ rfl
        have df := bR9.fr
        clear hcall vW hv8 bO7 bR7 bO8 bR8 q6 q2 q7 q3 hO8 hs8
        clear r0 r1 r2 r3 rf
        go_wp2
        rw [HY.out]
        refine bodyPost_ret (v := .tuple #[.agg #[.slice A5 n5 c5, .slice A2 m2 c2, .slice A9 n9 c9, .int .i64 (s.tests + (k : Int))], .bool true]) (by simp [results, Tryz.results12, go_sem, d0, d1, d2, d3, hne3, hne6]) rfl ?_
        refine stand_ret (y := ⟨putM s.items x, s.wanted, sortI (keptTo s x k ++ [x.id]), s.tests + (k : Int)⟩) (F := F5) (G := F2) (H := F9) (keepSet fItems_good q8 (fun h => by have := g5 _ h; omega)) (keepSet fNodes_good q4 n2) (keepSet fInts_good o9 (fun h => by have := f9.ge _ h; omega)) ⟨?_, ?_⟩ (by omega) (ub9.set (by dsimp only; omega) _)
        · rw [List.nodup_append, List.nodup_append]
          refine ⟨f5.nodup, ⟨(List.nodup_append.1 (List.nodup_append.1 fV.nodup).2.1).1, f9.nodup, fun a ha b hb e => by have := l23 a (List.mem_append_left _ ha); have := f9.ge b hb; omega⟩, fun a ha b hb e => ?_⟩
          rcases List.mem_append.1 hb with hb | hb
          · have := g5 a ha; have := l23 b (List.mem_append_left _ hb); omega
          · have := l5' a ha; have := f9.ge b hb; omega
        · intro b hb
          rcases List.mem_append.1 hb with hb | hb
          · have := g5 b hb; omega
          · rcases List.mem_append.1 hb with hb | hb
            · have := fV.ge b (List.mem_append_right _ (List.mem_append_left _ hb)); omega
            · have := f9.ge b hb; omega
end Go.Proofs.YtpihighajaeabaaGreat
