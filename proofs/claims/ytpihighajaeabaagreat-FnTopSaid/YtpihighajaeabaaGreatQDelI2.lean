/- An item is taken from a standing answer, in the program: the ways on which it is taken. -/
import Derived.Test.YtpihighajaeabaaGreatQDelS2
import Derived.Test.YtpihighajaeabaaGreatQInsI
import Derived.Test.YtpihighajaeabaaGreatQExclI
import Derived.Test.YtpihighajaeabaaGreatQHeldF
import Derived.Test.YtpihighajaeabaaGreatQDelM
import Derived.Deep.RegionLaw
import Derived.IntWalk
namespace Go.Proofs.YtpihighajaeabaaGreat
open Go.RowKit
set_option linter.unusedVariables false
set_option linter.unusedSimpArgs false
set_option maxRecDepth 100000 in
set_option maxHeartbeats 6400000 in
theorem I_DeleteItem_no (w : World) (s : GStanding) (id : Int) (va vb vc : Value) (ha : Rd rItems w s.items [va]) (hb : Rd rNodes w s.wanted [vb]) (hc : Rd rInts w s.best [vc]) (t1 : totItems s.items ≤ 1048576) (t2 : totNodes s.wanted ≤ 1048576) (t3 : s.best.length ≤ 1048576) (hno : delOk s id = false) :
    Calls Tryz.prog 18 #[.agg #[va, vb, vc, .int .i64 s.tests], .int .i64 id] w (RetV w (TwoA fStanding w.heap.size s (.bool false))) := by
  obtain ⟨K, hK⟩ : ∃ K, K = findIdx s.items id := ⟨_, rfl⟩
  have HK := Lib.hid hK
  clear hK
  obtain ⟨A, n, c, rfl, L0, Lc, Lm⟩ := rSl_open ha
  unfold maxLen at Lm
  have L := Lib.hid L0
  clear L0
  obtain ⟨B, m, c4, rfl, M0, Mc, Mm⟩ := rSl_open hc
  unfold maxLen at Mm
  have M := Lib.hid M0
  clear M0
  obtain ⟨W0, hW0⟩ : ∃ W0, W0 = (w.alloc (.cells #[.slice A n c, vb, .slice B m c4, .int .i64 s.tests] 28)).alloc (.cells #[.slice none 0 0, .slice none 0 0, .slice none 0 0, .int .i64 0] 28) := ⟨_, rfl⟩
  have A0 : Bw w W0 := by rw [hW0]; exact ((Bw.refl w).alloc _).alloc _
  have bS : Box W0 w.heap.size [.slice A n c, vb, .slice B m c4, .int .i64 s.tests] := by rw [hW0]; exact (Box.new w #[.slice A n c, vb, .slice B m c4, .int .i64 s.tests] 28).bw ((Bw.refl _).alloc _)
  have bR : Box W0 (w.heap.size + 1) [.slice none 0 0, .slice none 0 0, .slice none 0 0, .int .i64 0] := by
    have := Box.new (w.alloc (.cells #[.slice A n c, vb, .slice B m c4, .int .i64 s.tests] 28)) #[.slice none 0 0, .slice none 0 0, .slice none 0 0, .int .i64 0] 28
    rw [show (w.alloc (.cells #[.slice A n c, vb, .slice B m c4, .int .i64 s.tests] 28)).heap.size = w.heap.size + 1 from by simp] at this
    rw [hW0]; exact this
  have z0 : W0.heap.size = w.heap.size + 2 := by rw [hW0]; simp
  have hcopy := I_copyStanding W0 s _ vb _ (ha.bw rItems_good A0) (hb.bw rNodes_good A0) (hc.bw rInts_good A0) t1 t2 t3
  have HW0 := Lib.hid hW0
  clear hW0
  go_enter Tryz.func18, Tryz.ntmps18
  go_wp2_with fail
  rw [← HW0.out]
  refine hcopy.mono ?_
  rintro e w1 ⟨cs, F0, rfl, oS, fS, hb1⟩
  obtain ⟨A1, c1, A2, c2, A3, c3, rfl⟩ := fStanding_shape oS
  obtain ⟨F1, F2, F3, o1, o2, o3, rfl⟩ := fStanding_parts oS
  obtain ⟨m1, hm1⟩ : ∃ m, m = s.items.length := ⟨_, rfl⟩
  obtain ⟨m2, hm2⟩ : ∃ m, m = s.wanted.length := ⟨_, rfl⟩
  obtain ⟨m3, hm3⟩ : ∃ m, m = s.best.length := ⟨_, rfl⟩
  rw [← hm1] at o1
  rw [← hm2] at o2
  rw [← hm3] at o3
  dsimp only
  rw [← hm1, ← hm2, ← hm3]
  have bS1 := (bS.bw hb1).bw ((Bw.refl w1).alloc (.cells #[.slice A1 m1 c1, .slice A2 m2 c2, .slice A3 m3 c3, .int .i64 s.tests] 28))
  have y0 := bS1.c 0 _ rfl
  have y1 := bS1.c 1 _ rfl
  have y2 := bS1.c 2 _ rfl
  have y3 := bS1.c 3 _ rfl
  have HM1 := Lib.hid hm1
  have HM2 := Lib.hid hm2
  have HM3 := Lib.hid hm3
  clear hm1 hm2 hm3
  go_wp2_with fail
  obtain ⟨V, hV⟩ : ∃ V, V = w1.alloc (.cells #[.slice A1 m1 c1, .slice A2 m2 c2, .slice A3 m3 c3, .int .i64 s.tests] 28) := ⟨_, rfl⟩
  have A1' : Bw w1 V := by rw [hV]; exact (Bw.refl w1).alloc _
  have bO : Box V w1.heap.size [.slice A1 m1 c1, .slice A2 m2 c2, .slice A3 m3 c3, .int .i64 s.tests] := by rw [hV]; exact Box.new w1 #[.slice A1 m1 c1, .slice A2 m2 c2, .slice A3 m3 c3, .int .i64 s.tests] 28
  have zV : V.heap.size = w1.heap.size + 1 := by rw [hV]; simp
  have BV : Bw w V := A0.then (hb1.then A1')
  replace bS := bS.bw (hb1.then A1')
  replace bR := bR.bw (hb1.then A1')
  have zw : w.heap.size + 2 ≤ w1.heap.size := by have := hb1.size; omega
  have lS := (fStanding_good (B := 0)).lt oS
  replace o1 := keepBw A1' fItems_good o1
  replace o2 := keepBw A1' fNodes_good o2
  replace o3 := keepBw A1' fInts_good o3
  have fV : Fresh (w.heap.size + 2) (F1 ++ (F2 ++ F3)) := fS.mono (by omega)
  have HLS := Lib.hid lS
  have HV := Lib.hid hV
  have k1 := Lib.hid (fun W (B : Bw V W) => I_IsStanding W s _ vb _ (ha.bw rItems_good (BV.then B)) (hb.bw rNodes_good (BV.then B)) (hc.bw rInts_good (BV.then B)))
  have k3 := Lib.hid (fun W (B : Bw V W) => I_FindItem W s.items id _ (ha.bw rItems_good (BV.then B)))
  obtain ⟨b6, hb6⟩ : ∃ b, b = w1.heap.size := ⟨_, rfl⟩
  rw [← hb6] at bO zV zw lS
  have HB6 := Lib.hid hb6
  rw [← HV.out, ← HB6.out]
  clear hV oS fS hcopy hb1 A0 hb6 lS y0 y1 y2 y3 bS1
  have hcall := k3.out _ (Bw.refl V)
  rw [← HK.out] at hcall
  have y0 := bS.c 0 _ rfl
  go_wp2_with fail
  refine hcall.mono ?_
  rintro e w2 ⟨rfl, hb2⟩
  clear y0
  have bS2 := bS.bw hb2
  have y0 := bS2.c 0 _ rfl
  have y1 := bS2.c 1 _ rfl
  have y2 := bS2.c 2 _ rfl
  have y3 := bS2.c 3 _ rfl
  have yf := bS2.fr
  have hcall := k1.out _ hb2
  clear bS2
  go_wp2_with fail
  refine hcall.mono ?_
  rintro e w3 ⟨rfl, hb3⟩
  have hB3 := hb2.then hb3
  clear y0 y1 y2 y3 yf
  rcases Bool.eq_false_or_eq_true (isStand s) with e1 | e1
  · have E1 := Lib.hid e1
    rw [e1]
    clear e1
    by_cases hK0 : K < 0
    · clear hno
      have bR2 := bR.bw hB3
      have bO2 := bO.bw hB3
      have r0 := bR2.c 0 _ rfl
      have r1 := bR2.c 1 _ rfl
      have r2 := bR2.c 2 _ rfl
      have r3 := bR2.c 3 _ rfl
      have rf := bR2.fr
      have q0 := bO2.c 0 _ rfl
      have q1 := bO2.c 1 _ rfl
      have q2 := bO2.c 2 _ rfl
      have q3 := bO2.c 3 _ rfl
      have qf := bO2.fr
      have hBB := BV.then hB3
      have p1 := keepBw hB3 fItems_good o1
      have p2 := keepBw hB3 fNodes_good o2
      have p3 := keepBw hB3 fInts_good o3
      clear bR2 bO2 o1 o2 o3 bR bO
      go_wp2
      rw [HM1.out] at p1 ⊢
      rw [HM2.out] at p2 ⊢
      rw [HM3.out] at p3 ⊢
      refine bodyPost_ret (v := .tuple #[.agg #[.slice A1 s.items.length c1, .slice A2 s.wanted.length c2, .slice A3 s.best.length c3, .int .i64 s.tests], .bool false]) (by simp [results, Tryz.results18, go_sem, r0, r1, r2, r3]) rfl (stand_ret p1 p2 p3 (fV.mono (by omega)) (by omega) hBB)
    · have hK1 : ¬ K < (0 : Int) := hK0
      have ht0 : 999900 < s.tests := by
        rcases Decidable.em (999900 < s.tests) with h | h
        · exact h
        · exfalso
          have h2 : delOk s id = true := by
            unfold delOk
            rw [E1.out, decide_eq_true (show 0 ≤ findIdx s.items id by rw [← HK.out]; omega), decide_eq_true (show s.tests ≤ 999900 by omega)]; rfl
          rw [h2] at hno; cases hno
      have bS3 := bS.bw hB3
      have y0 := bS3.c 0 _ rfl
      have y1 := bS3.c 1 _ rfl
      have y2 := bS3.c 2 _ rfl
      have y3 := bS3.c 3 _ rfl
      have yf := bS3.fr
      clear hno bS3
      have bR2 := bR.bw hB3
      have bO2 := bO.bw hB3
      have r0 := bR2.c 0 _ rfl
      have r1 := bR2.c 1 _ rfl
      have r2 := bR2.c 2 _ rfl
      have r3 := bR2.c 3 _ rfl
      have rf := bR2.fr
      have q0 := bO2.c 0 _ rfl
      have q1 := bO2.c 1 _ rfl
      have q2 := bO2.c 2 _ rfl
      have q3 := bO2.c 3 _ rfl
      have qf := bO2.fr
      have hBB := BV.then hB3
      have p1 := keepBw hB3 fItems_good o1
      have p2 := keepBw hB3 fNodes_good o2
      have p3 := keepBw hB3 fInts_good o3
      clear bR2 bO2 o1 o2 o3 bR bO
      go_wp2
      rw [HM1.out] at p1 ⊢
      rw [HM2.out] at p2 ⊢
      rw [HM3.out] at p3 ⊢
      refine bodyPost_ret (v := .tuple #[.agg #[.slice A1 s.items.length c1, .slice A2 s.wanted.length c2, .slice A3 s.best.length c3, .int .i64 s.tests], .bool false]) (by simp [results, Tryz.results18, go_sem, r0, r1, r2, r3]) rfl (stand_ret p1 p2 p3 (fV.mono (by omega)) (by omega) hBB)
  · rw [e1]
    clear e1 hno
    have bR2 := bR.bw hB3
    have bO2 := bO.bw hB3
    have r0 := bR2.c 0 _ rfl
    have r1 := bR2.c 1 _ rfl
    have r2 := bR2.c 2 _ rfl
    have r3 := bR2.c 3 _ rfl
    have rf := bR2.fr
    have q0 := bO2.c 0 _ rfl
    have q1 := bO2.c 1 _ rfl
    have q2 := bO2.c 2 _ rfl
    have q3 := bO2.c 3 _ rfl
    have qf := bO2.fr
    have hBB := BV.then hB3
    have p1 := keepBw hB3 fItems_good o1
    have p2 := keepBw hB3 fNodes_good o2
    have p3 := keepBw hB3 fInts_good o3
    clear bR2 bO2 o1 o2 o3 bR bO
    go_wp2
    rw [HM1.out] at p1 ⊢
    rw [HM2.out] at p2 ⊢
    rw [HM3.out] at p3 ⊢
    refine bodyPost_ret (v := .tuple #[.agg #[.slice A1 s.items.length c1, .slice A2 s.wanted.length c2, .slice A3 s.best.length c3, .int .i64 s.tests], .bool false]) (by simp [results, Tryz.results18, go_sem, r0, r1, r2, r3]) rfl (stand_ret p1 p2 p3 (fV.mono (by omega)) (by omega) hBB)
end Go.Proofs.YtpihighajaeabaaGreat

namespace Go.Proofs.YtpihighajaeabaaGreat
open Go.RowKit
set_option linter.unusedVariables false
set_option linter.unusedSimpArgs false
set_option maxRecDepth 100000 in
set_option maxHeartbeats 6400000 in
theorem I_DeleteItem_out (w : World) (s : GStanding) (id : Int) (va vb vc : Value) (ha : Rd rItems w s.items [va]) (hb : Rd rNodes w s.wanted [vb]) (hc : Rd rInts w s.best [vc]) (t1 : totItems s.items ≤ 1048576) (t2 : totNodes s.wanted ≤ 1048576) (t3 : s.best.length ≤ 1048576) (hok : delOk s id = true) (hno : s.best.contains id = false) :
    Calls Tryz.prog 18 #[.agg #[va, vb, vc, .int .i64 s.tests], .int .i64 id] w (RetV w (TwoA fStanding w.heap.size (delS s id) (.bool true))) := by
  obtain ⟨E1, hfx, hts⟩ := delOk_parts hok
  have HST := Lib.hid E1
  have HI := Lib.hid (areBoth_items (stand_both E1).1)
  obtain ⟨j0, ji, jz0, jz1, jz2⟩ := info_parts info_Item
  obtain ⟨kk, hkk, hkl⟩ : ∃ kk : Nat, findIdx s.items id = (kk : Int) ∧ kk < s.items.length := by
    rcases findIdx_cases s.items id with ⟨h, _⟩ | ⟨j, x, h1, h2, _⟩
    · omega
    · exact ⟨j, h1, (List.getElem?_eq_some_iff.1 h2).1⟩
  have HK := Lib.hid hkk.symm
  have HKK := Lib.hid hkl
  have HY := Lib.hid (show delS s id = ⟨onlyM s.items [id] false, s.wanted, s.best, s.tests⟩ by unfold delS; rw [hno]; rfl)
  clear hkk hkl hfx E1 hok
  obtain ⟨A, n, c, rfl, L0, Lc, Lm⟩ := rSl_open ha
  unfold maxLen at Lm
  have L := Lib.hid L0
  clear L0
  obtain ⟨B, m, c4, rfl, M0, Mc, Mm⟩ := rSl_open hc
  unfold maxLen at Mm
  have M := Lib.hid M0
  clear M0
  obtain ⟨W0, hW0⟩ : ∃ W0, W0 = (w.alloc (.cells #[.slice A n c, vb, .slice B m c4, .int .i64 s.tests] 28)).alloc (.cells #[.slice none 0 0, .slice none 0 0, .slice none 0 0, .int .i64 0] 28) := ⟨_, rfl⟩
  have A0 : Bw w W0 := by rw [hW0]; exact ((Bw.refl w).alloc _).alloc _
  have bS : Box W0 w.heap.size [.slice A n c, vb, .slice B m c4, .int .i64 s.tests] := by rw [hW0]; exact (Box.new w #[.slice A n c, vb, .slice B m c4, .int .i64 s.tests] 28).bw ((Bw.refl _).alloc _)
  have bR : Box W0 (w.heap.size + 1) [.slice none 0 0, .slice none 0 0, .slice none 0 0, .int .i64 0] := by
    have := Box.new (w.alloc (.cells #[.slice A n c, vb, .slice B m c4, .int .i64 s.tests] 28)) #[.slice none 0 0, .slice none 0 0, .slice none 0 0, .int .i64 0] 28
    rw [show (w.alloc (.cells #[.slice A n c, vb, .slice B m c4, .int .i64 s.tests] 28)).heap.size = w.heap.size + 1 from by simp] at this
    rw [hW0]; exact this
  have z0 : W0.heap.size = w.heap.size + 2 := by rw [hW0]; simp
  have hcopy := I_copyStanding W0 s _ vb _ (ha.bw rItems_good A0) (hb.bw rNodes_good A0) (hc.bw rInts_good A0) t1 t2 t3
  have HW0 := Lib.hid hW0
  clear hW0
  go_enter Tryz.func18, Tryz.ntmps18
  go_wp2_with fail
  rw [← HW0.out]
  refine hcopy.mono ?_
  rintro e w1 ⟨cs, F0, rfl, oS, fS, hb1⟩
  obtain ⟨A1, c1, A2, c2, A3, c3, rfl⟩ := fStanding_shape oS
  obtain ⟨F1, F2, F3, o1, o2, o3, rfl⟩ := fStanding_parts oS
  obtain ⟨m1, hm1⟩ : ∃ m, m = s.items.length := ⟨_, rfl⟩
  obtain ⟨m2, hm2⟩ : ∃ m, m = s.wanted.length := ⟨_, rfl⟩
  obtain ⟨m3, hm3⟩ : ∃ m, m = s.best.length := ⟨_, rfl⟩
  rw [← hm1] at o1
  rw [← hm2] at o2
  rw [← hm3] at o3
  dsimp only
  rw [← hm1, ← hm2, ← hm3]
  have bS1 := (bS.bw hb1).bw ((Bw.refl w1).alloc (.cells #[.slice A1 m1 c1, .slice A2 m2 c2, .slice A3 m3 c3, .int .i64 s.tests] 28))
  have y0 := bS1.c 0 _ rfl
  have y1 := bS1.c 1 _ rfl
  have y2 := bS1.c 2 _ rfl
  have y3 := bS1.c 3 _ rfl
  have HM1 := Lib.hid hm1
  have HM2 := Lib.hid hm2
  have HM3 := Lib.hid hm3
  clear hm1 hm2 hm3
  go_wp2_with fail
  obtain ⟨V, hV⟩ : ∃ V, V = w1.alloc (.cells #[.slice A1 m1 c1, .slice A2 m2 c2, .slice A3 m3 c3, .int .i64 s.tests] 28) := ⟨_, rfl⟩
  have A1' : Bw w1 V := by rw [hV]; exact (Bw.refl w1).alloc _
  have bO : Box V w1.heap.size [.slice A1 m1 c1, .slice A2 m2 c2, .slice A3 m3 c3, .int .i64 s.tests] := by rw [hV]; exact Box.new w1 #[.slice A1 m1 c1, .slice A2 m2 c2, .slice A3 m3 c3, .int .i64 s.tests] 28
  have zV : V.heap.size = w1.heap.size + 1 := by rw [hV]; simp
  have BV : Bw w V := A0.then (hb1.then A1')
  replace bS := bS.bw (hb1.then A1')
  replace bR := bR.bw (hb1.then A1')
  have zw : w.heap.size + 2 ≤ w1.heap.size := by have := hb1.size; omega
  have lS := (fStanding_good (B := 0)).lt oS
  replace o1 := keepBw A1' fItems_good o1
  replace o2 := keepBw A1' fNodes_good o2
  replace o3 := keepBw A1' fInts_good o3
  have fV : Fresh (w.heap.size + 2) (F1 ++ (F2 ++ F3)) := fS.mono (by omega)
  have HLS := Lib.hid lS
  have HV := Lib.hid hV
  have k1 := Lib.hid (fun W (B : Bw V W) => I_IsStanding W s _ vb _ (ha.bw rItems_good (BV.then B)) (hb.bw rNodes_good (BV.then B)) (hc.bw rInts_good (BV.then B)))
  have k3 := Lib.hid (fun W (B : Bw V W) => I_FindItem W s.items id _ (ha.bw rItems_good (BV.then B)))
  obtain ⟨b6, hb6⟩ : ∃ b, b = w1.heap.size := ⟨_, rfl⟩
  rw [← hb6] at bO zV zw lS
  have HB6 := Lib.hid hb6
  rw [← HV.out, ← HB6.out]
  clear hV oS fS hcopy hb1 A0 hb6 lS y0 y1 y2 y3 bS1
  have hcall := k3.out _ (Bw.refl V)
  rw [← HK.out] at hcall
  have y0 := bS.c 0 _ rfl
  go_wp2_with fail
  refine hcall.mono ?_
  rintro e w2 ⟨rfl, hb2⟩
  clear y0
  have bS2 := bS.bw hb2
  have y0 := bS2.c 0 _ rfl
  have y1 := bS2.c 1 _ rfl
  have y2 := bS2.c 2 _ rfl
  have y3 := bS2.c 3 _ rfl
  have yf := bS2.fr
  have hcall := k1.out _ hb2
  rw [HST.out] at hcall
  clear bS2
  go_wp2_with fail
  refine hcall.mono ?_
  rintro e w3 ⟨rfl, hb3⟩
  have hB3 := hb2.then hb3
  clear y0 y1 y2 y3 yf
  have hK1 : ¬ ((kk : Nat) : Int) < (0 : Int) := by omega
  have ht1 : ¬ (999900 : Int) < s.tests := by omega
  have hne : b6 ≠ w.heap.size ∧ b6 ≠ w.heap.size + 1 := by omega
  obtain ⟨hne1, hne2⟩ := hne
  have hne4 := hne1.symm
  have hne5 := hne2.symm
  have hkm : kk < m1 := by have h1 := HKK.out; have h2 := HM1.out; omega
  obtain ⟨g1, hg1, hm1', hgF⟩ := fSl_lit2 o1 (by have := HM1.out; omega)
  subst hg1
  clear hm1'
  have Lc1 := (rSl_len (fItems_Rd o1)).2.1
  have Lm1 := (rSl_len (fItems_Rd o1)).2.2
  unfold maxLen at Lm1
  have i1 : (0 : Int) ≤ (kk : Int) := by omega
  have i2 : (kk : Int) ≤ (m1 : Int) := by omega
  have i3 : (kk : Int) + 1 ≤ (m1 : Int) := by omega
  have i4 : (kk : Int) ≤ (c1 : Int) := by omega
  have i5 : (kk : Int) ≤ (kk : Int) + 1 := by omega
  have i6 : (0 : Int) ≤ (kk : Int) + 1 := by omega
  have i7 : ((kk : Int) + 1).toNat = kk + 1 := by omega
  have i8 : IntKind.i64.wrap ((kk : Int) + 1) = (kk : Int) + 1 := IntWalk.i64_in _ (by omega)
  have i9 : (m1 : Int) ≤ (c1 : Int) := by omega
  have D1 : Bw w3 w3.drew := (Bw.refl w3).drew
  have hBD := hB3.then D1
  have bO3 := bO.bw hBD
  have bS3 := bS.bw hBD
  have bR3 := bR.bw hBD
  have vW := keepBw hBD fItems_good o1
  have hbW := BV.then hBD
  have hF1 : Fresh w.heap.size F1 := ⟨(List.nodup_append.1 fV.nodup).1, fun b hb => by have := fV.ge b (List.mem_append_left _ hb); omega⟩
  have hls := HLS.out
  rw [← HB6.out] at hls
  have nb1 : b6 ∉ F1 := fun h => by have := hls b6 (List.mem_append_left _ h); omega
  have ns1 : w.heap.size ∉ F1 := fun h => by have := fV.ge _ (List.mem_append_left _ h); omega
  have nr1 : w.heap.size + 1 ∉ F1 := fun h => by have := fV.ge _ (List.mem_append_left _ h); omega
  have HM16 := Lib.hid (show m1 ≤ 16 by rw [HM1.out]; exact areItems_len HI.out)
  have bO3' := bO.bw hB3
  have bS3' := bS.bw hB3
  have y0 := bS3'.c 0 _ rfl
  have y1 := bS3'.c 1 _ rfl
  have y2 := bS3'.c 2 _ rfl
  have y3 := bS3'.c 3 _ rfl
  have yf := bS3'.fr
  have x0 := bO3'.c 0 _ rfl
  have x1 := bO3'.c 1 _ rfl
  have x2 := bO3'.c 2 _ rfl
  have x3 := bO3'.c 3 _ rfl
  have xf := bO3'.fr
  clear bO3' bS3'
  by_cases hcap : c1 = kk + 1
  · subst hcap
    go_wp2_with fail
    go_region_law (refine step_without _ (by rfl) (.tmp 32) (.tmp 37) 24 (by rfl) w 30 j0 _ 2 32 Tryz.underlying24 ji jz0 jz1 jz2 rfl (by omega) fItem_good g1 m1 _ s.items F1 vW hF1 kk hkm (by rfl) _ _ _ (by rfl) (by omega) (fun h => by exfalso; omega) (by have := HM16.out; omega) (by have := HM16.out; omega) hbW ?_; intro v' w' F' hv' hF' hb' hO' hs'; rw [← without_items HI.out HK.out.symm] at hv'; obtain ⟨A5, c5, rfl, _⟩ := rSl_shape (fItems_Rd hv'); obtain ⟨n5, hn5⟩ : ∃ n, n = (onlyM s.items [id] false).length := ⟨_, rfl⟩; rw [← hn5] at hv' ⊢; have HN5 := Lib.hid hn5; clear hn5; have eP := bO3.only hO' nb1; have e0 := eP.c 0 _ rfl; have ef := eP.fr)
    all_goals
      obtain ⟨X, hX⟩ : ∃ X, X = w'.setCell ⟨b6, 0, none⟩ (.slice A5 n5 c5) := ⟨_, rfl⟩
      rw [← hX]
      clear y0 y1 y2 y3 yf
      clear x0 x1 x2 x3 xf
      have n2 : b6 ∉ F2 := fun h => by have := hls b6 (List.mem_append_right _ (List.mem_append_left _ h)); omega
      have n3 : b6 ∉ F3 := fun h => by have := hls b6 (List.mem_append_right _ (List.mem_append_right _ h)); omega
      have l23 : ∀ c ∈ F2 ++ F3, c < b6 := fun c h => hls c (List.mem_append_right _ h)
      have b6W : b6 < w3.drew.heap.size := bO3.lt
      have mF : ∀ b ∈ F', b ∉ F2 ++ F3 ∧ b ≠ b6 ∧ w.heap.size + 2 ≤ b := by
        intro b hb
        rcases hs' b hb with h | h
        · exact ⟨fun h2 => (List.nodup_append.1 fV.nodup).2.2 b h b h2 rfl, fun e => nb1 (e ▸ h), fV.ge b (List.mem_append_left _ h)⟩
        · exact ⟨fun h2 => by have := l23 b h2; omega, by omega, by omega⟩
      have BX : Bw w X := by rw [hX]; exact hb'.set (by dsimp only; omega) _
      have cO : Box X b6 [.slice A5 n5 c5, .slice A2 m2 c2, .slice A3 m3 c3, .int .i64 s.tests] := by rw [hX]; exact eP.set (by simp) _
      have cS : Box X w.heap.size [.slice A n c, vb, .slice B m c4, .int .i64 s.tests] := by rw [hX]; exact (bS3.only hO' ns1).only (only_setCell _ _ _ _) (by simp; omega)
      have cR : Box X (w.heap.size + 1) [.slice none 0 0, .slice none 0 0, .slice none 0 0, .int .i64 0] := by rw [hX]; exact (bR3.only hO' nr1).only (only_setCell _ _ _ _) (by simp; omega)
      have p1 : fItems X (onlyM s.items [id] false) [.slice A5 n5 c5] F' := by rw [hX]; exact keepSet fItems_good hv' (fun h => (mF _ h).2.1 rfl)
      have p2 : fNodes X s.wanted [.slice A2 m2 c2] F2 := by rw [hX]; exact keepSet fNodes_good (hO'.keeps fNodes_good (keepBw hBD fNodes_good o2) (fun c h h2 => (List.nodup_append.1 fV.nodup).2.2 c h2 c (List.mem_append_left _ h) rfl)) n2
      have p3 : fInts X s.best [.slice A3 m3 c3] F3 := by rw [hX]; exact keepSet fInts_good (hO'.keeps fInts_good (keepBw hBD fInts_good o3) (fun c h h2 => (List.nodup_append.1 fV.nodup).2.2 c h2 c (List.mem_append_right _ h) rfl)) n3
      have hcall := slices_Index_ints X s.best id _ (hc.bw rInts_good BX)
      have hcon := idxI_contains id s.best 0
      obtain ⟨K2, hK2⟩ : ∃ K, K = idxI id s.best 0 := ⟨_, rfl⟩
      rw [← hK2] at hcall hcon
      have HK2 := Lib.hid hK2
      have HX := Lib.hid hX
      have nF' := hF'.nodup
      clear hX hK2 e0 ef i1 i2 i3 i4 i5 i6 i7 i8 i9 eP hv' hO' hs' hb' vW
      have y0 := cS.c 0 _ rfl
      have y1 := cS.c 1 _ rfl
      have y2 := cS.c 2 _ rfl
      have y3 := cS.c 3 _ rfl
      have yf := cS.fr
      go_wp2_with fail
      refine hcall.mono ?_
      rintro e w6 ⟨rfl, hb6⟩
      clear hcall
      clear y0 y1 y2 y3 yf
      rw [hno] at hcon
      have hi0 : ¬ (0 : Int) ≤ K2 := by simpa using hcon
      have cO6 := cO.bw hb6
      have cR6 := cR.bw hb6
      have B6 := BX.then hb6
      have q0 := cO6.c 0 _ rfl
      have q1 := cO6.c 1 _ rfl
      have q2 := cO6.c 2 _ rfl
      have q3 := cO6.c 3 _ rfl
      have qf := cO6.fr
      have r0 := cR6.c 0 _ rfl
      have r1 := cR6.c 1 _ rfl
      have r2 := cR6.c 2 _ rfl
      have r3 := cR6.c 3 _ rfl
      have rf := cR6.fr
      clear hcon hno
      go_wp2
      rw [HY.out]
      refine bodyPost_ret (v := .tuple #[.agg #[.slice A5 n5 c5, .slice A2 m2 c2, .slice A3 m3 c3, .int .i64 s.tests], .bool true]) (by simp [results, Tryz.results18, go_sem, q0, q1, q2, q3, r0, r1, r2, r3, hne2, hne5]) rfl ?_
      exact stand_ret (y := ⟨onlyM s.items [id] false, s.wanted, s.best, s.tests⟩) (F := F') (G := F2) (H := F3) (keepBw hb6 fItems_good p1) (keepBw hb6 fNodes_good p2) (keepBw hb6 fInts_good p3) ⟨List.nodup_append.2 ⟨nF', (List.nodup_append.1 fV.nodup).2.1, fun a ha b hb e => (mF a ha).1 (e ▸ hb)⟩, fun b hb => (List.mem_append.1 hb).elim (fun h => by have := (mF b h).2.2; omega) (fun h => fV.ge b (List.mem_append_right _ h))⟩ (by omega) B6
  · have hcap2 := hcap
    go_wp2_with fail
    go_region_law (refine step_without _ (by rfl) (.tmp 32) (.tmp 37) 24 (by rfl) w 30 j0 _ 2 32 Tryz.underlying24 ji jz0 jz1 jz2 rfl (by omega) fItem_good g1 m1 _ s.items F1 vW hF1 kk hkm (by rfl) _ _ _ (by rfl) (by omega) (fun h => rfl) (by have := HM16.out; omega) (by have := HM16.out; omega) hbW ?_; intro v' w' F' hv' hF' hb' hO' hs'; rw [← without_items HI.out HK.out.symm] at hv'; obtain ⟨A5, c5, rfl, _⟩ := rSl_shape (fItems_Rd hv'); obtain ⟨n5, hn5⟩ : ∃ n, n = (onlyM s.items [id] false).length := ⟨_, rfl⟩; rw [← hn5] at hv' ⊢; have HN5 := Lib.hid hn5; clear hn5; have eP := bO3.only hO' nb1; have e0 := eP.c 0 _ rfl; have ef := eP.fr)
    all_goals
      obtain ⟨X, hX⟩ : ∃ X, X = w'.setCell ⟨b6, 0, none⟩ (.slice A5 n5 c5) := ⟨_, rfl⟩
      rw [← hX]
      clear y0 y1 y2 y3 yf
      clear x0 x1 x2 x3 xf
      have n2 : b6 ∉ F2 := fun h => by have := hls b6 (List.mem_append_right _ (List.mem_append_left _ h)); omega
      have n3 : b6 ∉ F3 := fun h => by have := hls b6 (List.mem_append_right _ (List.mem_append_right _ h)); omega
      have l23 : ∀ c ∈ F2 ++ F3, c < b6 := fun c h => hls c (List.mem_append_right _ h)
      have b6W : b6 < w3.drew.heap.size := bO3.lt
      have mF : ∀ b ∈ F', b ∉ F2 ++ F3 ∧ b ≠ b6 ∧ w.heap.size + 2 ≤ b := by
        intro b hb
        rcases hs' b hb with h | h
        · exact ⟨fun h2 => (List.nodup_append.1 fV.nodup).2.2 b h b h2 rfl, fun e => nb1 (e ▸ h), fV.ge b (List.mem_append_left _ h)⟩
        · exact ⟨fun h2 => by have := l23 b h2; omega, by omega, by omega⟩
      have BX : Bw w X := by rw [hX]; exact hb'.set (by dsimp only; omega) _
      have cO : Box X b6 [.slice A5 n5 c5, .slice A2 m2 c2, .slice A3 m3 c3, .int .i64 s.tests] := by rw [hX]; exact eP.set (by simp) _
      have cS : Box X w.heap.size [.slice A n c, vb, .slice B m c4, .int .i64 s.tests] := by rw [hX]; exact (bS3.only hO' ns1).only (only_setCell _ _ _ _) (by simp; omega)
      have cR : Box X (w.heap.size + 1) [.slice none 0 0, .slice none 0 0, .slice none 0 0, .int .i64 0] := by rw [hX]; exact (bR3.only hO' nr1).only (only_setCell _ _ _ _) (by simp; omega)
      have p1 : fItems X (onlyM s.items [id] false) [.slice A5 n5 c5] F' := by rw [hX]; exact keepSet fItems_good hv' (fun h => (mF _ h).2.1 rfl)
      have p2 : fNodes X s.wanted [.slice A2 m2 c2] F2 := by rw [hX]; exact keepSet fNodes_good (hO'.keeps fNodes_good (keepBw hBD fNodes_good o2) (fun c h h2 => (List.nodup_append.1 fV.nodup).2.2 c h2 c (List.mem_append_left _ h) rfl)) n2
      have p3 : fInts X s.best [.slice A3 m3 c3] F3 := by rw [hX]; exact keepSet fInts_good (hO'.keeps fInts_good (keepBw hBD fInts_good o3) (fun c h h2 => (List.nodup_append.1 fV.nodup).2.2 c h2 c (List.mem_append_right _ h) rfl)) n3
      have hcall := slices_Index_ints X s.best id _ (hc.bw rInts_good BX)
      have hcon := idxI_contains id s.best 0
      obtain ⟨K2, hK2⟩ : ∃ K, K = idxI id s.best 0 := ⟨_, rfl⟩
      rw [← hK2] at hcall hcon
      have HK2 := Lib.hid hK2
      have HX := Lib.hid hX
      have nF' := hF'.nodup
      clear hX hK2 e0 ef i1 i2 i3 i4 i5 i6 i7 i8 i9 eP hv' hO' hs' hb' vW
      have y0 := cS.c 0 _ rfl
      have y1 := cS.c 1 _ rfl
      have y2 := cS.c 2 _ rfl
      have y3 := cS.c 3 _ rfl
      have yf := cS.fr
      go_wp2_with fail
      refine hcall.mono ?_
      rintro e w6 ⟨rfl, hb6⟩
      clear hcall
      clear y0 y1 y2 y3 yf
      rw [hno] at hcon
      have hi0 : ¬ (0 : Int) ≤ K2 := by simpa using hcon
      have cO6 := cO.bw hb6
      have cR6 := cR.bw hb6
      have B6 := BX.then hb6
      have q0 := cO6.c 0 _ rfl
      have q1 := cO6.c 1 _ rfl
      have q2 := cO6.c 2 _ rfl
      have q3 := cO6.c 3 _ rfl
      have qf := cO6.fr
      have r0 := cR6.c 0 _ rfl
      have r1 := cR6.c 1 _ rfl
      have r2 := cR6.c 2 _ rfl
      have r3 := cR6.c 3 _ rfl
      have rf := cR6.fr
      clear hcon hno
      go_wp2
      rw [HY.out]
      refine bodyPost_ret (v := .tuple #[.agg #[.slice A5 n5 c5, .slice A2 m2 c2, .slice A3 m3 c3, .int .i64 s.tests], .bool true]) (by simp [results, Tryz.results18, go_sem, q0, q1, q2, q3, r0, r1, r2, r3, hne2, hne5]) rfl ?_
      exact stand_ret (y := ⟨onlyM s.items [id] false, s.wanted, s.best, s.tests⟩) (F := F') (G := F2) (H := F3) (keepBw hb6 fItems_good p1) (keepBw hb6 fNodes_good p2) (keepBw hb6 fInts_good p3) ⟨List.nodup_append.2 ⟨nF', (List.nodup_append.1 fV.nodup).2.1, fun a ha b hb e => (mF a ha).1 (e ▸ hb)⟩, fun b hb => (List.mem_append.1 hb).elim (fun h => by have := (mF b h).2.2; omega) (fun h => fV.ge b (List.mem_append_right _ h))⟩ (by omega) B6
end Go.Proofs.YtpihighajaeabaaGreat
