/- An item is added to a standing answer, in the program. -/
import Derived.Test.YtpihighajaeabaaGreatQDelS2
import Derived.Test.YtpihighajaeabaaGreatQSortU
namespace Go.Proofs.YtpihighajaeabaaGreat
open Go.RowKit
set_option linter.unusedVariables false
set_option linter.unusedSimpArgs false
set_option maxRecDepth 100000 in
set_option maxHeartbeats 6400000 in
theorem I_InsertItem_no (w : World) (s : GStanding) (x : GItem) (va vb vc u : Value) (ha : Rd rItems w s.items [va]) (hb : Rd rNodes w s.wanted [vb]) (hc : Rd rInts w s.best [vc]) (hx : Rd rInts w x.vals [u]) (t1 : totItems s.items ≤ 1048576) (t2 : totNodes s.wanted ≤ 1048576) (t3 : s.best.length ≤ 1048576) (hno : insOk s x = false) :
    Calls Tryz.prog 11 #[.agg #[va, vb, vc, .int .i64 s.tests], .agg #[.int .i64 x.id, u]] w (RetV w (TwoA fStanding w.heap.size s (.bool false))) := by
  obtain ⟨A, n, c, rfl, L0, Lc, Lm⟩ := rSl_open ha
  unfold maxLen at Lm
  have L := Lib.hid L0
  clear L0
  obtain ⟨B, m, c4, rfl, M0, Mc, Mm⟩ := rSl_open hc
  unfold maxLen at Mm
  have M := Lib.hid M0
  clear M0
  obtain ⟨W0, hW0⟩ : ∃ W0, W0 = ((w.alloc (.cells #[.slice A n c, vb, .slice B m c4, .int .i64 s.tests] 28)).alloc (.cells #[.int .i64 x.id, u] 30)).alloc (.cells #[.slice none 0 0, .slice none 0 0, .slice none 0 0, .int .i64 0] 28) := ⟨_, rfl⟩
  have A0 : Bw w W0 := by rw [hW0]; exact (((Bw.refl w).alloc _).alloc _).alloc _
  have bS : Box W0 w.heap.size [.slice A n c, vb, .slice B m c4, .int .i64 s.tests] := by rw [hW0]; exact (Box.new w #[.slice A n c, vb, .slice B m c4, .int .i64 s.tests] 28).bw (((Bw.refl _).alloc _).alloc _)
  have bX : Box W0 (w.heap.size + 1) [.int .i64 x.id, u] := by
    have := Box.new (w.alloc (.cells #[.slice A n c, vb, .slice B m c4, .int .i64 s.tests] 28)) #[.int .i64 x.id, u] 30
    rw [show (w.alloc (.cells #[.slice A n c, vb, .slice B m c4, .int .i64 s.tests] 28)).heap.size = w.heap.size + 1 from by simp] at this
    rw [hW0]; exact this.bw ((Bw.refl _).alloc _)
  have bR : Box W0 (w.heap.size + 1 + 1) [.slice none 0 0, .slice none 0 0, .slice none 0 0, .int .i64 0] := by
    have := Box.new ((w.alloc (.cells #[.slice A n c, vb, .slice B m c4, .int .i64 s.tests] 28)).alloc (.cells #[.int .i64 x.id, u] 30)) #[.slice none 0 0, .slice none 0 0, .slice none 0 0, .int .i64 0] 28
    rw [show ((w.alloc (.cells #[.slice A n c, vb, .slice B m c4, .int .i64 s.tests] 28)).alloc (.cells #[.int .i64 x.id, u] 30)).heap.size = w.heap.size + 1 + 1 from by simp] at this
    rw [hW0]; exact this
  have z0 : W0.heap.size = w.heap.size + 3 := by rw [hW0]; simp
  have hcopy := I_copyStanding W0 s _ vb _ (ha.bw rItems_good A0) (hb.bw rNodes_good A0) (hc.bw rInts_good A0) t1 t2 t3
  have HW0 := Lib.hid hW0
  clear hW0
  go_enter Tryz.func11, Tryz.ntmps11
  go_wp2_with fail
  rw [← HW0.out]
  refine hcopy.mono ?_
  rintro e w1 ⟨cs, F0, rfl, oS, fS, hb1⟩
  obtain ⟨A1, c1, A2, c2, A3, c3, rfl⟩ := fStanding_shape oS
  obtain ⟨F1, F2, F3, o1, o2, o3, rfl⟩ := fStanding_parts oS
  obtain ⟨m1, hm1⟩ : ∃ m, m = s.items.length := ⟨_, rfl⟩
  obtain ⟨m2, hm2⟩ : ∃ m, m = s.wanted.length := ⟨_, rfl⟩
  obtain ⟨m3, hm3⟩ : ∃ m, m = s.best.length := ⟨_, rfl⟩
  rw [← hm1] at o1
  rw [← hm2] at o2
  rw [← hm3] at o3
  dsimp only
  rw [← hm1, ← hm2, ← hm3]
  have bS1 := (bS.bw hb1).bw ((Bw.refl w1).alloc (.cells #[.slice A1 m1 c1, .slice A2 m2 c2, .slice A3 m3 c3, .int .i64 s.tests] 28))
  have y0 := bS1.c 0 _ rfl
  have y1 := bS1.c 1 _ rfl
  have y2 := bS1.c 2 _ rfl
  have y3 := bS1.c 3 _ rfl
  have HM1 := Lib.hid hm1
  have HM2 := Lib.hid hm2
  have HM3 := Lib.hid hm3
  clear hm1 hm2 hm3
  go_wp2_with fail
  obtain ⟨V, hV⟩ : ∃ V, V = w1.alloc (.cells #[.slice A1 m1 c1, .slice A2 m2 c2, .slice A3 m3 c3, .int .i64 s.tests] 28) := ⟨_, rfl⟩
  have A1' : Bw w1 V := by rw [hV]; exact (Bw.refl w1).alloc _
  have bO : Box V w1.heap.size [.slice A1 m1 c1, .slice A2 m2 c2, .slice A3 m3 c3, .int .i64 s.tests] := by rw [hV]; exact Box.new w1 #[.slice A1 m1 c1, .slice A2 m2 c2, .slice A3 m3 c3, .int .i64 s.tests] 28
  have zV : V.heap.size = w1.heap.size + 1 := by rw [hV]; simp
  have BV : Bw w V := A0.then (hb1.then A1')
  replace bS := bS.bw (hb1.then A1')
  replace bX := bX.bw (hb1.then A1')
  replace bR := bR.bw (hb1.then A1')
  have zw : w.heap.size + 3 ≤ w1.heap.size := by have := hb1.size; omega
  have lS := (fStanding_good (B := 0)).lt oS
  replace o1 := keepBw A1' fItems_good o1
  replace o2 := keepBw A1' fNodes_good o2
  replace o3 := keepBw A1' fInts_good o3
  have fV : Fresh (w.heap.size + 3) (F1 ++ (F2 ++ F3)) := fS.mono (by omega)
  have HLS := Lib.hid lS
  have HV := Lib.hid hV
  have k1 := Lib.hid (fun W (B : Bw V W) => I_IsStanding W s _ vb _ (ha.bw rItems_good (BV.then B)) (hb.bw rNodes_good (BV.then B)) (hc.bw rInts_good (BV.then B)))
  have k2 := Lib.hid (fun W (B : Bw V W) => I_IsItem W x u (hx.bw rInts_good (BV.then B)))
  have k3 := Lib.hid (fun W (B : Bw V W) => I_FindItem W s.items x.id _ (ha.bw rItems_good (BV.then B)))
  obtain ⟨b6, hb6⟩ : ∃ b, b = w1.heap.size := ⟨_, rfl⟩
  rw [← hb6] at bO zV zw lS
  have HB6 := Lib.hid hb6
  rw [← HV.out, ← HB6.out]
  clear hV oS fS hcopy hb1 A1' A0 hb6 lS y0 y1 y2 y3 bS1
  refine (k1.out _ (Bw.refl V)).mono ?_
  rintro e w2 ⟨rfl, hb2⟩
  rcases Bool.eq_false_or_eq_true (isStand s) with e1 | e1
  · have E1 := Lib.hid e1
    rw [e1]
    clear e1
    have bS2 := bS.bw hb2
    have bX2 := bX.bw hb2
    have y0 := bS2.c 0 _ rfl
    have y1 := bS2.c 1 _ rfl
    have y2 := bS2.c 2 _ rfl
    have y3 := bS2.c 3 _ rfl
    have yf := bS2.fr
    have x0 := bX2.c 0 _ rfl
    have x1 := bX2.c 1 _ rfl
    have xf := bX2.fr
    have hcall := k2.out _ hb2
    clear bS2 bX2
    go_wp2_with fail
    refine hcall.mono ?_
    rintro e w3 ⟨rfl, hb3⟩
    have hB3 := hb2.then hb3
    clear y0 y1 y2 y3 yf
    clear x0 x1 xf
    rcases Bool.eq_false_or_eq_true (isItem x) with e2 | e2
    · have E2 := Lib.hid e2
      rw [e2]
      clear e2
      have bS3 := bS.bw hB3
      have bX3 := bX.bw hB3
      have y0 := bS3.c 0 _ rfl
      have y1 := bS3.c 1 _ rfl
      have y2 := bS3.c 2 _ rfl
      have y3 := bS3.c 3 _ rfl
      have yf := bS3.fr
      have x0 := bX3.c 0 _ rfl
      have x1 := bX3.c 1 _ rfl
      have xf := bX3.fr
      have hcall := k3.out _ hB3
      obtain ⟨K, hK⟩ : ∃ K, K = findIdx s.items x.id := ⟨_, rfl⟩
      rw [← hK] at hcall
      have HK := Lib.hid hK
      clear bS3 bX3 hK
      go_wp2_with fail
      refine hcall.mono ?_
      rintro e w4 ⟨rfl, hb4⟩
      have hB4 := hB3.then hb4
      clear y0 y1 y2 y3 yf
      clear x0 x1 xf
      by_cases hK0 : 0 ≤ K
      · clear hno
        have bR2 := bR.bw hB4
        have bO2 := bO.bw hB4
        have r0 := bR2.c 0 _ rfl
        have r1 := bR2.c 1 _ rfl
        have r2 := bR2.c 2 _ rfl
        have r3 := bR2.c 3 _ rfl
        have rf := bR2.fr
        have q0 := bO2.c 0 _ rfl
        have q1 := bO2.c 1 _ rfl
        have q2 := bO2.c 2 _ rfl
        have q3 := bO2.c 3 _ rfl
        have qf := bO2.fr
        have hBB := BV.then hB4
        have p1 := keepBw hB4 fItems_good o1
        have p2 := keepBw hB4 fNodes_good o2
        have p3 := keepBw hB4 fInts_good o3
        clear bR2 bO2 o1 o2 o3 bR bO
        go_wp2
        rw [HM1.out] at p1 ⊢
        rw [HM2.out] at p2 ⊢
        rw [HM3.out] at p3 ⊢
        refine bodyPost_ret (v := .tuple #[.agg #[.slice A1 s.items.length c1, .slice A2 s.wanted.length c2, .slice A3 s.best.length c3, .int .i64 s.tests], .bool false]) (by simp [results, Tryz.results11, go_sem, r0, r1, r2, r3]) rfl (stand_ret p1 p2 p3 (fV.mono (by omega)) (by omega) hBB)
      · have hK1 : ¬ (0 : Int) ≤ K := hK0
        by_cases hn16 : 16 ≤ n
        · have hn2 : n = 16 := by
            have h1 := areItems_len (areBoth_items (stand_both E1.out).1)
            have := L.out; omega
          have hn1 : ((n : Int) == 16) = true := by rw [hn2]; rfl
          clear hn2
          have bS4 := bS.bw hB4
          have y0 := bS4.c 0 _ rfl
          have y1 := bS4.c 1 _ rfl
          have y2 := bS4.c 2 _ rfl
          have y3 := bS4.c 3 _ rfl
          have yf := bS4.fr
          clear hno bS4
          have bR2 := bR.bw hB4
          have bO2 := bO.bw hB4
          have r0 := bR2.c 0 _ rfl
          have r1 := bR2.c 1 _ rfl
          have r2 := bR2.c 2 _ rfl
          have r3 := bR2.c 3 _ rfl
          have rf := bR2.fr
          have q0 := bO2.c 0 _ rfl
          have q1 := bO2.c 1 _ rfl
          have q2 := bO2.c 2 _ rfl
          have q3 := bO2.c 3 _ rfl
          have qf := bO2.fr
          have hBB := BV.then hB4
          have p1 := keepBw hB4 fItems_good o1
          have p2 := keepBw hB4 fNodes_good o2
          have p3 := keepBw hB4 fInts_good o3
          clear bR2 bO2 o1 o2 o3 bR bO
          go_wp2
          rw [HM1.out] at p1 ⊢
          rw [HM2.out] at p2 ⊢
          rw [HM3.out] at p3 ⊢
          refine bodyPost_ret (v := .tuple #[.agg #[.slice A1 s.items.length c1, .slice A2 s.wanted.length c2, .slice A3 s.best.length c3, .int .i64 s.tests], .bool false]) (by simp [results, Tryz.results11, go_sem, r0, r1, r2, r3]) rfl (stand_ret p1 p2 p3 (fV.mono (by omega)) (by omega) hBB)
        · have hn1 : ((n : Int) == 16) = false := by rw [beq_eq_false_iff_ne]; omega
          have ht0 : 999900 < s.tests := by
            rcases Decidable.em (999900 < s.tests) with h | h
            · exact h
            · exfalso
              have h2 : insOk s x = true := by
                unfold insOk
                rw [E1.out, E2.out, decide_eq_true (show findIdx s.items x.id < 0 by rw [← HK.out]; omega), decide_eq_true (show s.items.length < 16 by rw [← L.out]; omega), decide_eq_true (show s.tests ≤ 999900 by omega)]; rfl
              rw [h2] at hno; cases hno
          have bS4 := bS.bw hB4
          have y0 := bS4.c 0 _ rfl
          have y1 := bS4.c 1 _ rfl
          have y2 := bS4.c 2 _ rfl
          have y3 := bS4.c 3 _ rfl
          have yf := bS4.fr
          clear hno bS4
          have bR2 := bR.bw hB4
          have bO2 := bO.bw hB4
          have r0 := bR2.c 0 _ rfl
          have r1 := bR2.c 1 _ rfl
          have r2 := bR2.c 2 _ rfl
          have r3 := bR2.c 3 _ rfl
          have rf := bR2.fr
          have q0 := bO2.c 0 _ rfl
          have q1 := bO2.c 1 _ rfl
          have q2 := bO2.c 2 _ rfl
          have q3 := bO2.c 3 _ rfl
          have qf := bO2.fr
          have hBB := BV.then hB4
          have p1 := keepBw hB4 fItems_good o1
          have p2 := keepBw hB4 fNodes_good o2
          have p3 := keepBw hB4 fInts_good o3
          clear bR2 bO2 o1 o2 o3 bR bO
          go_wp2
          rw [HM1.out] at p1 ⊢
          rw [HM2.out] at p2 ⊢
          rw [HM3.out] at p3 ⊢
          refine bodyPost_ret (v := .tuple #[.agg #[.slice A1 s.items.length c1, .slice A2 s.wanted.length c2, .slice A3 s.best.length c3, .int .i64 s.tests], .bool false]) (by simp [results, Tryz.results11, go_sem, r0, r1, r2, r3]) rfl (stand_ret p1 p2 p3 (fV.mono (by omega)) (by omega) hBB)
    · rw [e2]
      clear e2 hno
      have bR2 := bR.bw hB3
      have bO2 := bO.bw hB3
      have r0 := bR2.c 0 _ rfl
      have r1 := bR2.c 1 _ rfl
      have r2 := bR2.c 2 _ rfl
      have r3 := bR2.c 3 _ rfl
      have rf := bR2.fr
      have q0 := bO2.c 0 _ rfl
      have q1 := bO2.c 1 _ rfl
      have q2 := bO2.c 2 _ rfl
      have q3 := bO2.c 3 _ rfl
      have qf := bO2.fr
      have hBB := BV.then hB3
      have p1 := keepBw hB3 fItems_good o1
      have p2 := keepBw hB3 fNodes_good o2
      have p3 := keepBw hB3 fInts_good o3
      clear bR2 bO2 o1 o2 o3 bR bO
      go_wp2
      rw [HM1.out] at p1 ⊢
      rw [HM2.out] at p2 ⊢
      rw [HM3.out] at p3 ⊢
      refine bodyPost_ret (v := .tuple #[.agg #[.slice A1 s.items.length c1, .slice A2 s.wanted.length c2, .slice A3 s.best.length c3, .int .i64 s.tests], .bool false]) (by simp [results, Tryz.results11, go_sem, r0, r1, r2, r3]) rfl (stand_ret p1 p2 p3 (fV.mono (by omega)) (by omega) hBB)
  · rw [e1]
    clear e1 hno
    have bR2 := bR.bw hb2
    have bO2 := bO.bw hb2
    have r0 := bR2.c 0 _ rfl
    have r1 := bR2.c 1 _ rfl
    have r2 := bR2.c 2 _ rfl
    have r3 := bR2.c 3 _ rfl
    have rf := bR2.fr
    have q0 := bO2.c 0 _ rfl
    have q1 := bO2.c 1 _ rfl
    have q2 := bO2.c 2 _ rfl
    have q3 := bO2.c 3 _ rfl
    have qf := bO2.fr
    have hBB := BV.then hb2
    have p1 := keepBw hb2 fItems_good o1
    have p2 := keepBw hb2 fNodes_good o2
    have p3 := keepBw hb2 fInts_good o3
    clear bR2 bO2 o1 o2 o3 bR bO
    go_wp2
    rw [HM1.out] at p1 ⊢
    rw [HM2.out] at p2 ⊢
    rw [HM3.out] at p3 ⊢
    refine bodyPost_ret (v := .tuple #[.agg #[.slice A1 s.items.length c1, .slice A2 s.wanted.length c2, .slice A3 s.best.length c3, .int .i64 s.tests], .bool false]) (by simp [results, Tryz.results11, go_sem, r0, r1, r2, r3]) rfl (stand_ret p1 p2 p3 (fV.mono (by omega)) (by omega) hBB)
end Go.Proofs.YtpihighajaeabaaGreat
