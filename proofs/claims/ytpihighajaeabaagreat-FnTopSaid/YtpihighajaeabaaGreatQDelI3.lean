/- An item is taken from a standing answer, in the program: one of the best. -/
import Derived.Test.YtpihighajaeabaaGreatQDelI2
import Derived.Test.YtpihighajaeabaaGreatQOnly
import Derived.Test.YtpihighajaeabaaGreatQDelA
import Derived.Test.YtpihighajaeabaaGreatQDelS2
import Derived.Deep.RegionHeld3
import Derived.Deep.Cut
namespace Go.Proofs.YtpihighajaeabaaGreat
open Go.RowKit
set_option linter.unusedVariables false
set_option linter.unusedSimpArgs false
theorem cell_farI {W : World} {b c o k : Nat} {x u : Value} (h : b ≠ c) (hc : W.cell? ⟨b, k, none⟩ = some x) : (W.setCell ⟨c, o, none⟩ u).cell? ⟨b, k, none⟩ = some x := (World.cell?_of_block (Below.heap_setCell _ _ _ _ h)).trans hc
set_option maxRecDepth 100000 in
set_option maxHeartbeats 6400000 in
theorem I_DeleteItem_in (w : World) (s : GStanding) (id : Int) (va vb vc : Value) (ha : Rd rItems w s.items [va]) (hb : Rd rNodes w s.wanted [vb]) (hc : Rd rInts w s.best [vc]) (t1 : totItems s.items ≤ 1048576) (t2 : totNodes s.wanted ≤ 1048576) (t3 : s.best.length ≤ 1048576) (hok : delOk s id = true) (hin : s.best.contains id = true) :
    Calls Tryz.prog 18 #[.agg #[va, vb, vc, .int .i64 s.tests], .int .i64 id] w (RetV w (TwoA fStanding w.heap.size (delS s id) (.bool true))) := by
  obtain ⟨E1, hfx, hts⟩ := delOk_parts hok
  have HST := Lib.hid E1
  have HI := Lib.hid (areBoth_items (stand_both E1).1)
  have HB := Lib.hid (stand_both E1).1
  have hml := stand_best_len E1
  have hts0 := (stand_tests E1).1
  obtain ⟨j0, ji, jz0, jz1, jz2⟩ := info_parts info_Item
  obtain ⟨i0, hi, hz0, hz1, hz2⟩ := info_parts info_int
  obtain ⟨kk, hkk, hkl⟩ : ∃ kk : Nat, findIdx s.items id = (kk : Int) ∧ kk < s.items.length := by
    rcases findIdx_cases s.items id with ⟨h, _⟩ | ⟨j, x, h1, h2, _⟩
    · omega
    · exact ⟨j, h1, (List.getElem?_eq_some_iff.1 h2).1⟩
  have HK := Lib.hid hkk.symm
  have HKK := Lib.hid hkl
  have HY := Lib.hid (show delS s id = ⟨onlyM s.items [id] false, s.wanted, sortI (delLeft s id ++ delNew s id), s.tests + ((exclM s id).length : Int)⟩ by unfold delS; rw [hin]; rfl)
  clear hkk hkl hfx E1 hok
  obtain ⟨A, n, c, rfl, L0, Lc, Lm⟩ := rSl_open ha
  unfold maxLen at Lm
  have L := Lib.hid L0
  clear L0
  obtain ⟨B, m, c4, rfl, M0, Mc, Mm⟩ := rSl_open hc
  unfold maxLen at Mm
  have M := Lib.hid M0
  clear M0
  obtain ⟨W0, hW0⟩ : ∃ W0, W0 = (w.alloc (.cells #[.slice A n c, vb, .slice B m c4, .int .i64 s.tests] 28)).alloc (.cells #[.slice none 0 0, .slice none 0 0, .slice none 0 0, .int .i64 0] 28) := ⟨_, rfl⟩
  have A0 : Bw w W0 := by rw [hW0]; exact ((Bw.refl w).alloc _).alloc _
  have bS : Box W0 w.heap.size [.slice A n c, vb, .slice B m c4, .int .i64 s.tests] := by rw [hW0]; exact (Box.new w #[.slice A n c, vb, .slice B m c4, .int .i64 s.tests] 28).bw ((Bw.refl _).alloc _)
  have bR : Box W0 (w.heap.size + 1) [.slice none 0 0, .slice none 0 0, .slice none 0 0, .int .i64 0] := by
    have := Box.new (w.alloc (.cells #[.slice A n c, vb, .slice B m c4, .int .i64 s.tests] 28)) #[.slice none 0 0, .slice none 0 0, .slice none 0 0, .int .i64 0] 28
    rw [show (w.alloc (.cells #[.slice A n c, vb, .slice B m c4, .int .i64 s.tests] 28)).heap.size = w.heap.size + 1 from by simp] at this
    rw [hW0]; exact this
  have z0 : W0.heap.size = w.heap.size + 2 := by rw [hW0]; simp
  have hcopy := I_copyStanding W0 s _ vb _ (ha.bw rItems_good A0) (hb.bw rNodes_good A0) (hc.bw rInts_good A0) t1 t2 t3
  have HW0 := Lib.hid hW0
  clear hW0
  go_enter Tryz.func18, Tryz.ntmps18
  go_wp2_with fail
  rw [← HW0.out]
  refine hcopy.mono ?_
  rintro e w1 ⟨cs, F0, rfl, oS, fS, hb1⟩
  obtain ⟨A1, c1, A2, c2, A3, c3, rfl⟩ := fStanding_shape oS
  obtain ⟨F1, F2, F3, o1, o2, o3, rfl⟩ := fStanding_parts oS
  obtain ⟨m1, hm1⟩ : ∃ m, m = s.items.length := ⟨_, rfl⟩
  obtain ⟨m2, hm2⟩ : ∃ m, m = s.wanted.length := ⟨_, rfl⟩
  obtain ⟨m3, hm3⟩ : ∃ m, m = s.best.length := ⟨_, rfl⟩
  rw [← hm1] at o1
  rw [← hm2] at o2
  rw [← hm3] at o3
  dsimp only
  rw [← hm1, ← hm2, ← hm3]
  have bS1 := (bS.bw hb1).bw ((Bw.refl w1).alloc (.cells #[.slice A1 m1 c1, .slice A2 m2 c2, .slice A3 m3 c3, .int .i64 s.tests] 28))
  have y0 := bS1.c 0 _ rfl
  have y1 := bS1.c 1 _ rfl
  have y2 := bS1.c 2 _ rfl
  have y3 := bS1.c 3 _ rfl
  have HM1 := Lib.hid hm1
  have HM2 := Lib.hid hm2
  have HM3 := Lib.hid hm3
  clear hm1 hm2 hm3
  go_wp2_with fail
  obtain ⟨V, hV⟩ : ∃ V, V = w1.alloc (.cells #[.slice A1 m1 c1, .slice A2 m2 c2, .slice A3 m3 c3, .int .i64 s.tests] 28) := ⟨_, rfl⟩
  have A1' : Bw w1 V := by rw [hV]; exact (Bw.refl w1).alloc _
  have bO : Box V w1.heap.size [.slice A1 m1 c1, .slice A2 m2 c2, .slice A3 m3 c3, .int .i64 s.tests] := by rw [hV]; exact Box.new w1 #[.slice A1 m1 c1, .slice A2 m2 c2, .slice A3 m3 c3, .int .i64 s.tests] 28
  have zV : V.heap.size = w1.heap.size + 1 := by rw [hV]; simp
  have BV : Bw w V := A0.then (hb1.then A1')
  replace bS := bS.bw (hb1.then A1')
  replace bR := bR.bw (hb1.then A1')
  have zw : w.heap.size + 2 ≤ w1.heap.size := by have := hb1.size; omega
  have lS := (fStanding_good (B := 0)).lt oS
  replace o1 := keepBw A1' fItems_good o1
  replace o2 := keepBw A1' fNodes_good o2
  replace o3 := keepBw A1' fInts_good o3
  have fV : Fresh (w.heap.size + 2) (F1 ++ (F2 ++ F3)) := fS.mono (by omega)
  have HLS := Lib.hid lS
  have HV := Lib.hid hV
  have k1 := Lib.hid (fun W (B : Bw V W) => I_IsStanding W s _ vb _ (ha.bw rItems_good (BV.then B)) (hb.bw rNodes_good (BV.then B)) (hc.bw rInts_good (BV.then B)))
  have k3 := Lib.hid (fun W (B : Bw V W) => I_FindItem W s.items id _ (ha.bw rItems_good (BV.then B)))
  obtain ⟨b6, hb6⟩ : ∃ b, b = w1.heap.size := ⟨_, rfl⟩
  rw [← hb6] at bO zV zw lS
  have HB6 := Lib.hid hb6
  rw [← HV.out, ← HB6.out]
  clear hV oS fS hcopy hb1 A0 hb6 lS y0 y1 y2 y3 bS1
  have hcall := k3.out _ (Bw.refl V)
  rw [← HK.out] at hcall
  have y0 := bS.c 0 _ rfl
  go_wp2_with fail
  refine hcall.mono ?_
  rintro e w2 ⟨rfl, hb2⟩
  clear y0
  have bS2 := bS.bw hb2
  have y0 := bS2.c 0 _ rfl
  have y1 := bS2.c 1 _ rfl
  have y2 := bS2.c 2 _ rfl
  have y3 := bS2.c 3 _ rfl
  have yf := bS2.fr
  have hcall := k1.out _ hb2
  rw [HST.out] at hcall
  clear bS2
  go_wp2_with fail
  refine hcall.mono ?_
  rintro e w3 ⟨rfl, hb3⟩
  have hB3 := hb2.then hb3
  clear y0 y1 y2 y3 yf
  have hK1 : ¬ ((kk : Nat) : Int) < (0 : Int) := by omega
  have ht1 : ¬ (999900 : Int) < s.tests := by omega
  have hne : b6 ≠ w.heap.size ∧ b6 ≠ w.heap.size + 1 := by omega
  obtain ⟨hne1, hne2⟩ := hne
  have hne4 := hne1.symm
  have hne5 := hne2.symm
  have hkm : kk < m1 := by have h1 := HKK.out; have h2 := HM1.out; omega
  obtain ⟨g1, hg1, hm1', hgF⟩ := fSl_lit2 o1 (by have := HM1.out; omega)
  subst hg1
  clear hm1'
  have Lc1 := (rSl_len (fItems_Rd o1)).2.1
  have Lm1 := (rSl_len (fItems_Rd o1)).2.2
  unfold maxLen at Lm1
  have i1 : (0 : Int) ≤ (kk : Int) := by omega
  have i2 : (kk : Int) ≤ (m1 : Int) := by omega
  have i3 : (kk : Int) + 1 ≤ (m1 : Int) := by omega
  have i4 : (kk : Int) ≤ (c1 : Int) := by omega
  have i5 : (kk : Int) ≤ (kk : Int) + 1 := by omega
  have i6 : (0 : Int) ≤ (kk : Int) + 1 := by omega
  have i7 : ((kk : Int) + 1).toNat = kk + 1 := by omega
  have i8 : IntKind.i64.wrap ((kk : Int) + 1) = (kk : Int) + 1 := IntWalk.i64_in _ (by omega)
  have i9 : (m1 : Int) ≤ (c1 : Int) := by omega
  have D1 : Bw w3 w3.drew := (Bw.refl w3).drew
  have hBD := hB3.then D1
  have bO3 := bO.bw hBD
  have bS3 := bS.bw hBD
  have bR3 := bR.bw hBD
  have vW := keepBw hBD fItems_good o1
  have hbW := BV.then hBD
  have hF1 : Fresh w.heap.size F1 := ⟨(List.nodup_append.1 fV.nodup).1, fun b hb => by have := fV.ge b (List.mem_append_left _ hb); omega⟩
  have hls := HLS.out
  rw [← HB6.out] at hls
  have nb1 : b6 ∉ F1 := fun h => by have := hls b6 (List.mem_append_left _ h); omega
  have ns1 : w.heap.size ∉ F1 := fun h => by have := fV.ge _ (List.mem_append_left _ h); omega
  have nr1 : w.heap.size + 1 ∉ F1 := fun h => by have := fV.ge _ (List.mem_append_left _ h); omega
  have HM16 := Lib.hid (show m1 ≤ 16 by rw [HM1.out]; exact areItems_len HI.out)
  have bO3' := bO.bw hB3
  have bS3' := bS.bw hB3
  have y0 := bS3'.c 0 _ rfl
  have y1 := bS3'.c 1 _ rfl
  have y2 := bS3'.c 2 _ rfl
  have y3 := bS3'.c 3 _ rfl
  have yf := bS3'.fr
  have x0 := bO3'.c 0 _ rfl
  have x1 := bO3'.c 1 _ rfl
  have x2 := bO3'.c 2 _ rfl
  have x3 := bO3'.c 3 _ rfl
  have xf := bO3'.fr
  clear bO3' bS3'
  go_wp2_with fail
  go_cut [] from 29 (fun wx => ∃ (A5 : Option Addr) (n5 c5 : Nat) (F' : List Nat), n5 = (onlyM s.items [id] false).length ∧ Bw w wx ∧ Box wx b6 [.slice A5 n5 c5, .slice A2 m2 c2, .slice A3 m3 c3, .int .i64 s.tests] ∧ Box wx w.heap.size [.slice A n c, vb, .slice B m c4, .int .i64 s.tests] ∧ Box wx (w.heap.size + 1) [.slice none 0 0, .slice none 0 0, .slice none 0 0, .int .i64 0] ∧ fItems wx (onlyM s.items [id] false) [.slice A5 n5 c5] F' ∧ fNodes wx s.wanted [.slice A2 m2 c2] F2 ∧ fInts wx s.best [.slice A3 m3 c3] F3 ∧ F'.Nodup ∧ ∀ b ∈ F', b ∉ F2 ++ F3 ∧ b ≠ b6 ∧ w.heap.size + 2 ≤ b)
  case first =>
    by_cases hcap : c1 = kk + 1
    · subst hcap
      go_region_law (refine step_without _ (by rfl) (.tmp 32) (.tmp 37) 24 (by rfl) w 30 j0 _ 2 32 Tryz.underlying24 ji jz0 jz1 jz2 rfl (by omega) fItem_good g1 m1 _ s.items F1 vW hF1 kk hkm (by rfl) _ _ _ (by rfl) (by omega) (fun h => by exfalso; omega) (by have := HM16.out; omega) (by have := HM16.out; omega) hbW ?_; intro v' w' F' hv' hF' hb' hO' hs'; rw [← without_items HI.out HK.out.symm] at hv'; obtain ⟨A5, c5, rfl, _⟩ := rSl_shape (fItems_Rd hv'); obtain ⟨n5, hn5⟩ : ∃ n, n = (onlyM s.items [id] false).length := ⟨_, rfl⟩; rw [← hn5] at hv' ⊢; have HN5 := Lib.hid hn5; clear hn5; have eP := bO3.only hO' nb1; have e0 := eP.c 0 _ rfl; have ef := eP.fr)
      all_goals
        obtain ⟨X, hX⟩ : ∃ X, X = w'.setCell ⟨b6, 0, none⟩ (.slice A5 n5 c5) := ⟨_, rfl⟩
        rw [← hX]
        clear y0 y1 y2 y3 yf
        clear x0 x1 x2 x3 xf
        have n2 : b6 ∉ F2 := fun h => by have := hls b6 (List.mem_append_right _ (List.mem_append_left _ h)); omega
        have n3 : b6 ∉ F3 := fun h => by have := hls b6 (List.mem_append_right _ (List.mem_append_right _ h)); omega
        have l23 : ∀ c ∈ F2 ++ F3, c < b6 := fun c h => hls c (List.mem_append_right _ h)
        have b6W : b6 < w3.drew.heap.size := bO3.lt
        have mF : ∀ b ∈ F', b ∉ F2 ++ F3 ∧ b ≠ b6 ∧ w.heap.size + 2 ≤ b := by
          intro b hb
          rcases hs' b hb with h | h
          · exact ⟨fun h2 => (List.nodup_append.1 fV.nodup).2.2 b h b h2 rfl, fun e => nb1 (e ▸ h), fV.ge b (List.mem_append_left _ h)⟩
          · exact ⟨fun h2 => by have := l23 b h2; omega, by omega, by omega⟩
        have BX : Bw w X := by rw [hX]; exact hb'.set (by dsimp only; omega) _
        have cO : Box X b6 [.slice A5 n5 c5, .slice A2 m2 c2, .slice A3 m3 c3, .int .i64 s.tests] := by rw [hX]; exact eP.set (by simp) _
        have cS : Box X w.heap.size [.slice A n c, vb, .slice B m c4, .int .i64 s.tests] := by rw [hX]; exact (bS3.only hO' ns1).only (only_setCell _ _ _ _) (by simp; omega)
        have cR : Box X (w.heap.size + 1) [.slice none 0 0, .slice none 0 0, .slice none 0 0, .int .i64 0] := by rw [hX]; exact (bR3.only hO' nr1).only (only_setCell _ _ _ _) (by simp; omega)
        have p1 : fItems X (onlyM s.items [id] false) [.slice A5 n5 c5] F' := by rw [hX]; exact keepSet fItems_good hv' (fun h => (mF _ h).2.1 rfl)
        have p2 : fNodes X s.wanted [.slice A2 m2 c2] F2 := by rw [hX]; exact keepSet fNodes_good (hO'.keeps fNodes_good (keepBw hBD fNodes_good o2) (fun c h h2 => (List.nodup_append.1 fV.nodup).2.2 c h2 c (List.mem_append_left _ h) rfl)) n2
        have p3 : fInts X s.best [.slice A3 m3 c3] F3 := by rw [hX]; exact keepSet fInts_good (hO'.keeps fInts_good (keepBw hBD fInts_good o3) (fun c h h2 => (List.nodup_append.1 fV.nodup).2.2 c h2 c (List.mem_append_right _ h) rfl)) n3
        clear e0 ef i1 i2 i3 i4 i5 i6 i7 i8 i9
        go_wp2_with fail
        go_meet
        exact ⟨A5, n5, c5, F', HN5.out, BX, cO, cS, cR, p1, p2, p3, hF'.nodup, mF⟩
    · have hcap2 := hcap
      go_region_law (refine step_without _ (by rfl) (.tmp 32) (.tmp 37) 24 (by rfl) w 30 j0 _ 2 32 Tryz.underlying24 ji jz0 jz1 jz2 rfl (by omega) fItem_good g1 m1 _ s.items F1 vW hF1 kk hkm (by rfl) _ _ _ (by rfl) (by omega) (fun h => rfl) (by have := HM16.out; omega) (by have := HM16.out; omega) hbW ?_; intro v' w' F' hv' hF' hb' hO' hs'; rw [← without_items HI.out HK.out.symm] at hv'; obtain ⟨A5, c5, rfl, _⟩ := rSl_shape (fItems_Rd hv'); obtain ⟨n5, hn5⟩ : ∃ n, n = (onlyM s.items [id] false).length := ⟨_, rfl⟩; rw [← hn5] at hv' ⊢; have HN5 := Lib.hid hn5; clear hn5; have eP := bO3.only hO' nb1; have e0 := eP.c 0 _ rfl; have ef := eP.fr)
      all_goals
        obtain ⟨X, hX⟩ : ∃ X, X = w'.setCell ⟨b6, 0, none⟩ (.slice A5 n5 c5) := ⟨_, rfl⟩
        rw [← hX]
        clear y0 y1 y2 y3 yf
        clear x0 x1 x2 x3 xf
        have n2 : b6 ∉ F2 := fun h => by have := hls b6 (List.mem_append_right _ (List.mem_append_left _ h)); omega
        have n3 : b6 ∉ F3 := fun h => by have := hls b6 (List.mem_append_right _ (List.mem_append_right _ h)); omega
        have l23 : ∀ c ∈ F2 ++ F3, c < b6 := fun c h => hls c (List.mem_append_right _ h)
        have b6W : b6 < w3.drew.heap.size := bO3.lt
        have mF : ∀ b ∈ F', b ∉ F2 ++ F3 ∧ b ≠ b6 ∧ w.heap.size + 2 ≤ b := by
          intro b hb
          rcases hs' b hb with h | h
          · exact ⟨fun h2 => (List.nodup_append.1 fV.nodup).2.2 b h b h2 rfl, fun e => nb1 (e ▸ h), fV.ge b (List.mem_append_left _ h)⟩
          · exact ⟨fun h2 => by have := l23 b h2; omega, by omega, by omega⟩
        have BX : Bw w X := by rw [hX]; exact hb'.set (by dsimp only; omega) _
        have cO : Box X b6 [.slice A5 n5 c5, .slice A2 m2 c2, .slice A3 m3 c3, .int .i64 s.tests] := by rw [hX]; exact eP.set (by simp) _
        have cS : Box X w.heap.size [.slice A n c, vb, .slice B m c4, .int .i64 s.tests] := by rw [hX]; exact (bS3.only hO' ns1).only (only_setCell _ _ _ _) (by simp; omega)
        have cR : Box X (w.heap.size + 1) [.slice none 0 0, .slice none 0 0, .slice none 0 0, .int .i64 0] := by rw [hX]; exact (bR3.only hO' nr1).only (only_setCell _ _ _ _) (by simp; omega)
        have p1 : fItems X (onlyM s.items [id] false) [.slice A5 n5 c5] F' := by rw [hX]; exact keepSet fItems_good hv' (fun h => (mF _ h).2.1 rfl)
        have p2 : fNodes X s.wanted [.slice A2 m2 c2] F2 := by rw [hX]; exact keepSet fNodes_good (hO'.keeps fNodes_good (keepBw hBD fNodes_good o2) (fun c h h2 => (List.nodup_append.1 fV.nodup).2.2 c h2 c (List.mem_append_left _ h) rfl)) n2
        have p3 : fInts X s.best [.slice A3 m3 c3] F3 := by rw [hX]; exact keepSet fInts_good (hO'.keeps fInts_good (keepBw hBD fInts_good o3) (fun c h h2 => (List.nodup_append.1 fV.nodup).2.2 c h2 c (List.mem_append_right _ h) rfl)) n3
        clear e0 ef i1 i2 i3 i4 i5 i6 i7 i8 i9
        go_wp2_with fail
        go_meet
        exact ⟨A5, n5, c5, F', HN5.out, BX, cO, cS, cR, p1, p2, p3, hF'.nodup, mF⟩
  case rest =>
    revert wc
    intro X hcut
    obtain ⟨A5, n5, c5, F5, hn5, BX, cO, cS, cR, p1, p2, p3, nF5, mF⟩ := hcut
    clear y0 y1 y2 y3 yf
    clear x0 x1 x2 x3 xf
    have HN5 := Lib.hid hn5
    clear hn5 i1 i2 i3 i4 i5 i6 i7 i8 i9 bO bS bR o1 o2 o3 vW hbW hBD D1 bO3 bS3 bR3 k1 k3
    obtain ⟨j, hj0, hjb⟩ : ∃ j : Nat, idxI id s.best 0 = (j : Int) ∧ s.best[j]? = some id := by
      have h1 := idxI_contains id s.best 0
      rw [hin] at h1
      obtain ⟨j, e, hj⟩ := idxI_at (x := id) (l := s.best) (i := 0) (k := idxI id s.best 0) rfl (by simpa using h1)
      exact ⟨j, by rw [e]; simp, hj⟩
    have hjl : j < m := by have := (List.getElem?_eq_some_iff.1 hjb).1; have := M.out; omega
    have HJ := Lib.hid (without_best HST.out hjb)
    have HJB := Lib.hid hjb
    have hcall := slices_Index_ints X s.best id _ (hc.bw rInts_good BX)
    rw [hj0] at hcall
    clear hjb hj0 hin
    have y0 := cS.c 0 _ rfl
    have y1 := cS.c 1 _ rfl
    have y2 := cS.c 2 _ rfl
    have y3 := cS.c 3 _ rfl
    have yf := cS.fr
    go_wp2_with fail
    refine hcall.mono ?_
    rintro e w6 ⟨rfl, hb6⟩
    clear hcall
    clear y0 y1 y2 y3 yf
    have B6 := BX.then hb6
    have eS := cS.bw hb6
    have y0 := eS.c 0 _ rfl
    have y1 := eS.c 1 _ rfl
    have y2 := eS.c 2 _ rfl
    have y3 := eS.c 3 _ rfl
    have yf := eS.fr
    have i1 : (0 : Int) ≤ (j : Int) := by omega
    have hcall := I_ExclusiveOf w6 s id _ vb _ (ha.bw rItems_good B6) (hb.bw rNodes_good B6) (hc.bw rInts_good B6)
    go_wp2_with fail
    refine hcall.mono ?_
    rintro e w7 ⟨v7, rfl, ⟨F7, o7, f7⟩, hb7⟩
    obtain ⟨A7, c7, rfl, _⟩ := rSl_shape (fInts_Rd o7)
    obtain ⟨M7, hM7⟩ : ∃ M, M = (exclM s id).length := ⟨_, rfl⟩
    rw [← hM7] at o7 ⊢
    have L7 := Lib.hid hM7
    have hX7 := hb6.then hb7
    have BY := BX.then hX7
    have wY := BY.size
    clear y0 y1 y2 y3 yf
    have dO := cO.bw hX7
    have dS := cS.bw hX7
    have dR := cR.bw hX7
    have q1 := keepBw hX7 fItems_good p1
    have q2 := keepBw hX7 fNodes_good p2
    have hM16 : M7 ≤ 16 := by
      rw [hM7]; unfold exclM
      split
      · unfold idsOf; rw [List.length_map]; exact Nat.le_trans (List.length_filter_le _ _) (areItems_len HI.out)
      · simp
    have b67 : b6 < w7.heap.size := dO.lt
    have lt7 := (fInts_good (B := 0)).lt o7
    have n7 : b6 ∉ F7 := fun h => by have := f7.ge b6 h; have := (cO.bw hb6).lt; omega
    obtain ⟨Y, hY⟩ : ∃ Y, Y = w7.setCell ⟨b6, 3, none⟩ (.int .i64 (s.tests + (M7 : Int))) := ⟨_, rfl⟩
    have BYY : Bw w Y := by rw [hY]; exact BY.set (by dsimp only; omega) _
    have gO : Box Y b6 [.slice A5 n5 c5, .slice A2 m2 c2, .slice A3 m3 c3, .int .i64 (s.tests + (M7 : Int))] := by rw [hY]; exact dO.set (by simp) _
    have gS : Box Y w.heap.size [.slice A n c, vb, .slice B m c4, .int .i64 s.tests] := by rw [hY]; exact dS.only (only_setCell _ _ _ _) (by simp; omega)
    have gR : Box Y (w.heap.size + 1) [.slice none 0 0, .slice none 0 0, .slice none 0 0, .int .i64 0] := by rw [hY]; exact dR.only (only_setCell _ _ _ _) (by simp; omega)
    have r1 : fItems Y (onlyM s.items [id] false) [.slice A5 n5 c5] F5 := by rw [hY]; exact keepSet fItems_good q1 (fun h => (mF _ h).2.1 rfl)
    have r2 : fNodes Y s.wanted [.slice A2 m2 c2] F2 := by rw [hY]; exact keepSet fNodes_good q2 (fun h => by have h1 := HLS.out _ (List.mem_append_right _ (List.mem_append_left _ h)); have h2 := HB6.out; omega)
    have r7 : fInts Y (exclM s id) [.slice A7 M7 c7] F7 := by rw [hY]; exact keepSet fInts_good o7 n7
    have HYY := Lib.hid hY
    have y0 := dS.c 0 _ rfl
    have y1 := dS.c 1 _ rfl
    have y2 := dS.c 2 _ rfl
    have y3 := dS.c 3 _ rfl
    have yf := dS.fr
    have x0 := dO.c 0 _ rfl
    have x1 := dO.c 1 _ rfl
    have x2 := dO.c 2 _ rfl
    have x3 := dO.c 3 _ rfl
    have xf := dO.fr
    clear hY hM7 hcall q1 q2 cO cS cR eS B6
    go_upto_region 10 with fail
    rw [← HYY.out]
    clear y0 y1 y2 y3 yf
    clear x0 x1 x2 x3 xf
    have y0 := gS.c 0 _ rfl
    have y1 := gS.c 1 _ rfl
    have y2 := gS.c 2 _ rfl
    have y3 := gS.c 3 _ rfl
    have yf := gS.fr
    have x0 := gO.c 0 _ rfl
    have x1 := gO.c 1 _ rfl
    have x2 := gO.c 2 _ rfl
    have x3 := gO.c 3 _ rfl
    have xf := gO.fr
    go_cut [] from 55 (fun wx => ∃ (g n9 c9 : Nat) (F9 : List Nat), n9 = (delLeft s id ++ delNew s id).length ∧ Bw w wx ∧ Box wx b6 [.slice A5 n5 c5, .slice A2 m2 c2, .slice (some ⟨g, 0, none⟩) n9 c9, .int .i64 (s.tests + (M7 : Int))] ∧ Box wx (w.heap.size + 1) [.slice none 0 0, .slice none 0 0, .slice none 0 0, .int .i64 0] ∧ fItems wx (onlyM s.items [id] false) [.slice A5 n5 c5] F5 ∧ fNodes wx s.wanted [.slice A2 m2 c2] F2 ∧ fInts wx (delLeft s id ++ delNew s id) [.slice (some ⟨g, 0, none⟩) n9 c9] F9 ∧ F9.Nodup ∧ ∀ b ∈ F9, b ∉ F5 ∧ b ∉ F2 ∧ b ≠ b6 ∧ w.heap.size + 2 ≤ b)
    case first =>
      obtain ⟨bb, ob, rfl, _, hcw⟩ := rInts_at hc HJB.out
      have hpre : Rd rInts w (s.best.take j) [.slice (some ⟨bb, ob, none⟩) j c4] := rInts_prefix hc (by omega)
      have hpl : (s.best.take j).length ≤ 1048576 := by rw [List.length_take]; omega
      have HG0 := Lib.hid (show GoodF w.heap.size (fItemsS (lt w)) from fSl_good (fShS_good rItem_good (fun b h => h)))
      have h7 := fInts_Rd r7
      have D0 : Bw Y Y.drew := (Bw.refl Y).drew
      have hq : Bw Y Y.drew := D0
      have hsl : s.items.length ≤ 1048576 := by have := areItems_len HI.out; omega
      have i2 : (j : Int) < (m : Int) := by omega
      have i3 : (j : Int) + 1 ≤ (m : Int) := by omega
      have i4 : (j : Int) ≤ (c4 : Int) := by have := Lc; omega
      have i5 : (j : Int) ≤ (j : Int) + 1 := by omega
      have i6 : (0 : Int) ≤ (j : Int) + 1 := by omega
      have i7 : ((j : Int) + 1).toNat = j + 1 := by omega
      have i8 : IntKind.i64.wrap ((j : Int) + 1) = (j : Int) + 1 := IntWalk.i64_in _ (by omega)
      have i9 : (m : Int) ≤ (c4 : Int) := by omega
      have lenL : (s.best.take j ++ s.best.drop (j + 1)).length ≤ 32 := by rw [List.length_append, List.length_take, List.length_drop]; omega
      have lenA : (s.best.take j).length + (s.best.drop (j + 1)).length ≤ 32 := by rw [List.length_take, List.length_drop]; omega
      have HLA := Lib.hid lenA
      have HLL := Lib.hid lenL
      have HNL := Lib.hid (delNew_len HI.out id)
      have hbE := areBoth_expr HB.out
      have hbo : areBoth (onlyM s.items (exclM s id) true) s.wanted = true := by unfold areBoth; rw [onlyM_items HI.out, hbE]; rfl
      by_cases hcap : c4 = j + 1
      · subst hcap
        have hsuf : Rd rInts w (s.best.drop (j + 1)) [.slice (some ⟨bb, ob, none⟩) 0 0] := rInts_zero (by rw [List.length_drop]; have := M.out; omega) rfl
        go_region_held3 (fun w' => w'.cell? ⟨w.heap.size, 0, none⟩ = some (.slice A n c) ∧ w'.cell? ⟨w.heap.size, 1, none⟩ = some vb ∧ w'.cell? ⟨w.heap.size, 2, none⟩ = some (.slice (some ⟨bb, ob, none⟩) m (j + 1))) (first | with_reducible exact ⟨y0, y1, y2⟩ | with_reducible exact ⟨D0.cell y0, D0.cell y1, D0.cell y2⟩ | with_reducible exact ⟨cell_farI hne4 s0, cell_farI hne4 s1, cell_farI hne4 s2⟩ | go_keep)
          (first
            | (go_at_call 96; refine (I_copyIntsN _ (s.best.take j) _ (hpre.bw rInts_good (BYY.then hq)) hpl).mono ?_; rintro e wA ⟨vA, rfl, ⟨⟨FA, oA, fA⟩, hnA⟩, hbA⟩; have fA' : Fresh Y.heap.size FA := fA.mono hq.size; (try (have dOA : ∀ c ∈ FO, c ∉ FA := fun c h h2 => absurd (fA.ge c h2) (Nat.not_le.2 (HG0.out.lt oO c h)); replace oO := HG0.out.bw hbA (BYY.then hq).size oO)); (try (have dBA : ∀ c ∈ FB, c ∉ FA := fun c h h2 => absurd (fA.ge c h2) (Nat.not_le.2 ((fInts_good (B := 0)).lt oB c h)); replace oB := keepBw hbA fInts_good oB)); replace y0 := hbA.cell y0; replace y1 := hbA.cell y1; replace y2 := hbA.cell y2; replace hq := hq.then hbA)
            | (go_at_call 98; refine (I_onlyS _ s.items (exclM s id) true _ _ (lt w) (fun b h => Nat.lt_of_lt_of_le h (BYY.then hq).size) (rItems_good.step ⟨fun _ h => h, fun p hp => Below.cell (BYY.then hq) hp⟩ ha) (h7.bw rInts_good hq) hsl).mono ?_; rintro e wO ⟨vO, rfl, ⟨FO, oO, fO⟩, hbO⟩; (try (have dOA : ∀ c ∈ FO, c ∉ FA := fun c h h2 => absurd (fO.ge c h) (Nat.not_le.2 ((fInts_good (B := 0)).lt oA c h2)); replace oA := keepBw hbO fInts_good oA)); (try replace o65 := keepBw hbO fInts_good o65); replace y0 := hbO.cell y0; replace y1 := hbO.cell y1; replace y2 := hbO.cell y2; replace hq := hq.then hbO)
            | (go_at_call 97; refine (I_best _ (onlyM s.items (exclM s id) true) s.wanted _ _ (rItems_good.step ⟨fun b hb => hb.elim (fun h => HG0.out.lt oO b h) (fun h => Nat.lt_of_lt_of_le h (BYY.then hq).size), fun p hp => rfl⟩ (fItemsS_read oO)) (hb.bw rNodes_good (BYY.then hq)) hbo).mono ?_; rintro e wB ⟨vB, rfl, ⟨FB, oB, fB⟩, hbB⟩; (try (have dBA : ∀ c ∈ FB, c ∉ FA := fun c h h2 => absurd (fB.ge c h) (Nat.not_le.2 ((fInts_good (B := 0)).lt oA c h2)); replace oA := keepBw hbB fInts_good oA)); (try replace o65 := keepBw hbB fInts_good o65); replace y0 := hbB.cell y0; replace y1 := hbB.cell y1; replace y2 := hbB.cell y2; replace hq := hq.then hbB)
            | (refine step_append_allN _ (by rfl) (.tmp 59) (.tmp 64) 26 (by rfl) Y 3 i0 _ 1 8 Tryz.underlying26 hi hz0 hz1 hz2 rfl (by omega) fInt_good _ (s.best.take j) FA (by rfl) oA fA' _ (by rfl) (s.best.drop (j + 1)) (hsuf.bw rInts_good (BYY.then hq)) (fun y u h => ⟨h, rfl⟩) (by have := HLA.out; omega) (by have := HLA.out; omega) hq ?_; intro v65 w65 F65 o65 f65 hb65 hO65 hs65 hn65; (try replace oO := hO65.keepsB' HG0.out (BYY.then hq).size (fun c h => by have := fA'.ge c h; omega) oO dOA); (try replace oB := hO65.keeps fInts_good oB dBA); have y0 := (gS.bw hb65).c 0 _ rfl; have y1 := (gS.bw hb65).c 1 _ rfl; have y2 := (gS.bw hb65).c 2 _ rfl; replace hq := hb65)
            | (refine step_append_allN _ (by rfl) (.tmp 65) (.tmp 72) 26 (by rfl) Y 3 i0 _ 1 8 Tryz.underlying26 hi hz0 hz1 hz2 rfl (by omega) fInt_good _ (s.best.take j ++ s.best.drop (j + 1)) F65 (by rfl) o65 f65 _ (by rfl) (delNew s id) (fInts_Rd oB) (fun y u h => ⟨h, rfl⟩) (by have := HLL.out; have := HNL.out; omega) (by have := HLL.out; have := HNL.out; omega) hq ?_; intro v73 w73 F73 o73 f73 hb73 hO73 hs73 hn73; rw [← HJ.out] at o73; obtain ⟨g9, c9, rfl⟩ := fInts_some o73 (fun e => hnA (hn65 (hn73 e))); obtain ⟨n9, hn9⟩ : ∃ n, n = (delLeft s id ++ delNew s id).length := ⟨_, rfl⟩; rw [← hn9] at o73 ⊢; have HN9 := Lib.hid hn9; clear hn9; have eP := gO.bw hb73; have e2 := eP.c 2 _ rfl; have ef := eP.fr; have s0 := (gS.bw hb73).c 0 _ rfl; have s1 := (gS.bw hb73).c 1 _ rfl; have s2 := (gS.bw hb73).c 2 _ rfl)
            | fail)
        all_goals
          have lt5 := (fItems_good (B := 0)).lt r1
          have lt2 := (fNodes_good (B := 0)).lt r2
          have b6Y : b6 < Y.heap.size := gO.lt
          have wYY := BYY.size
          have nb5 : b6 ∉ F5 := fun h => (mF _ h).2.1 rfl
          have nb2 : b6 ∉ F2 := fun h => by have h1 := HLS.out _ (List.mem_append_right _ (List.mem_append_left _ h)); have h2 := HB6.out; omega
          have nb73 : b6 ∉ F73 := fun h => by have := f73.ge _ h; omega
          clear x0 x1 x2 x3 xf
          clear y0 y1 y2 y3 yf
          clear e2 ef s0 s1 s2 i1 i2 i3 i4 i5 i6 i7 i8 i9
          go_wp2_with fail
          go_meet
          exact ⟨g9, n9, c9, F73, HN9.out, (BYY.then hb73).set (by dsimp only; omega) _, eP.set (by simp) _, (gR.bw hb73).only (only_setCell _ _ _ _) (by simp; omega), keepSet fItems_good (keepBw hb73 fItems_good r1) nb5, keepSet fNodes_good (keepBw hb73 fNodes_good r2) nb2, keepSet fInts_good o73 nb73, f73.nodup, fun b hb => ⟨fun h => by have := f73.ge b hb; have := lt5 b h; omega, fun h => by have := f73.ge b hb; have := lt2 b h; omega, fun e => nb73 (e ▸ hb), by have := f73.ge b hb; omega⟩⟩
      · have hsuf : Rd rInts w (s.best.drop (j + 1)) [.slice (some ⟨bb, ob + (j + 1), none⟩) (m - (j + 1)) (c4 - (j + 1))] := rInts_suffix hc (by omega)
        go_region_held3 (fun w' => w'.cell? ⟨w.heap.size, 0, none⟩ = some (.slice A n c) ∧ w'.cell? ⟨w.heap.size, 1, none⟩ = some vb ∧ w'.cell? ⟨w.heap.size, 2, none⟩ = some (.slice (some ⟨bb, ob, none⟩) m (c4))) (first | with_reducible exact ⟨y0, y1, y2⟩ | with_reducible exact ⟨D0.cell y0, D0.cell y1, D0.cell y2⟩ | with_reducible exact ⟨cell_farI hne4 s0, cell_farI hne4 s1, cell_farI hne4 s2⟩ | go_keep)
          (first
            | (go_at_call 96; refine (I_copyIntsN _ (s.best.take j) _ (hpre.bw rInts_good (BYY.then hq)) hpl).mono ?_; rintro e wA ⟨vA, rfl, ⟨⟨FA, oA, fA⟩, hnA⟩, hbA⟩; have fA' : Fresh Y.heap.size FA := fA.mono hq.size; (try (have dOA : ∀ c ∈ FO, c ∉ FA := fun c h h2 => absurd (fA.ge c h2) (Nat.not_le.2 (HG0.out.lt oO c h)); replace oO := HG0.out.bw hbA (BYY.then hq).size oO)); (try (have dBA : ∀ c ∈ FB, c ∉ FA := fun c h h2 => absurd (fA.ge c h2) (Nat.not_le.2 ((fInts_good (B := 0)).lt oB c h)); replace oB := keepBw hbA fInts_good oB)); replace y0 := hbA.cell y0; replace y1 := hbA.cell y1; replace y2 := hbA.cell y2; replace hq := hq.then hbA)
            | (go_at_call 98; refine (I_onlyS _ s.items (exclM s id) true _ _ (lt w) (fun b h => Nat.lt_of_lt_of_le h (BYY.then hq).size) (rItems_good.step ⟨fun _ h => h, fun p hp => Below.cell (BYY.then hq) hp⟩ ha) (h7.bw rInts_good hq) hsl).mono ?_; rintro e wO ⟨vO, rfl, ⟨FO, oO, fO⟩, hbO⟩; (try (have dOA : ∀ c ∈ FO, c ∉ FA := fun c h h2 => absurd (fO.ge c h) (Nat.not_le.2 ((fInts_good (B := 0)).lt oA c h2)); replace oA := keepBw hbO fInts_good oA)); (try replace o65 := keepBw hbO fInts_good o65); replace y0 := hbO.cell y0; replace y1 := hbO.cell y1; replace y2 := hbO.cell y2; replace hq := hq.then hbO)
            | (go_at_call 97; refine (I_best _ (onlyM s.items (exclM s id) true) s.wanted _ _ (rItems_good.step ⟨fun b hb => hb.elim (fun h => HG0.out.lt oO b h) (fun h => Nat.lt_of_lt_of_le h (BYY.then hq).size), fun p hp => rfl⟩ (fItemsS_read oO)) (hb.bw rNodes_good (BYY.then hq)) hbo).mono ?_; rintro e wB ⟨vB, rfl, ⟨FB, oB, fB⟩, hbB⟩; (try (have dBA : ∀ c ∈ FB, c ∉ FA := fun c h h2 => absurd (fB.ge c h) (Nat.not_le.2 ((fInts_good (B := 0)).lt oA c h2)); replace oA := keepBw hbB fInts_good oA)); (try replace o65 := keepBw hbB fInts_good o65); replace y0 := hbB.cell y0; replace y1 := hbB.cell y1; replace y2 := hbB.cell y2; replace hq := hq.then hbB)
            | (refine step_append_allN _ (by rfl) (.tmp 59) (.tmp 64) 26 (by rfl) Y 3 i0 _ 1 8 Tryz.underlying26 hi hz0 hz1 hz2 rfl (by omega) fInt_good _ (s.best.take j) FA (by rfl) oA fA' _ (by rfl) (s.best.drop (j + 1)) (hsuf.bw rInts_good (BYY.then hq)) (fun y u h => ⟨h, rfl⟩) (by have := HLA.out; omega) (by have := HLA.out; omega) hq ?_; intro v65 w65 F65 o65 f65 hb65 hO65 hs65 hn65; (try replace oO := hO65.keepsB' HG0.out (BYY.then hq).size (fun c h => by have := fA'.ge c h; omega) oO dOA); (try replace oB := hO65.keeps fInts_good oB dBA); have y0 := (gS.bw hb65).c 0 _ rfl; have y1 := (gS.bw hb65).c 1 _ rfl; have y2 := (gS.bw hb65).c 2 _ rfl; replace hq := hb65)
            | (refine step_append_allN _ (by rfl) (.tmp 65) (.tmp 72) 26 (by rfl) Y 3 i0 _ 1 8 Tryz.underlying26 hi hz0 hz1 hz2 rfl (by omega) fInt_good _ (s.best.take j ++ s.best.drop (j + 1)) F65 (by rfl) o65 f65 _ (by rfl) (delNew s id) (fInts_Rd oB) (fun y u h => ⟨h, rfl⟩) (by have := HLL.out; have := HNL.out; omega) (by have := HLL.out; have := HNL.out; omega) hq ?_; intro v73 w73 F73 o73 f73 hb73 hO73 hs73 hn73; rw [← HJ.out] at o73; obtain ⟨g9, c9, rfl⟩ := fInts_some o73 (fun e => hnA (hn65 (hn73 e))); obtain ⟨n9, hn9⟩ : ∃ n, n = (delLeft s id ++ delNew s id).length := ⟨_, rfl⟩; rw [← hn9] at o73 ⊢; have HN9 := Lib.hid hn9; clear hn9; have eP := gO.bw hb73; have e2 := eP.c 2 _ rfl; have ef := eP.fr; have s0 := (gS.bw hb73).c 0 _ rfl; have s1 := (gS.bw hb73).c 1 _ rfl; have s2 := (gS.bw hb73).c 2 _ rfl)
            | fail)
        all_goals
          have lt5 := (fItems_good (B := 0)).lt r1
          have lt2 := (fNodes_good (B := 0)).lt r2
          have b6Y : b6 < Y.heap.size := gO.lt
          have wYY := BYY.size
          have nb5 : b6 ∉ F5 := fun h => (mF _ h).2.1 rfl
          have nb2 : b6 ∉ F2 := fun h => by have h1 := HLS.out _ (List.mem_append_right _ (List.mem_append_left _ h)); have h2 := HB6.out; omega
          have nb73 : b6 ∉ F73 := fun h => by have := f73.ge _ h; omega
          clear x0 x1 x2 x3 xf
          clear y0 y1 y2 y3 yf
          clear e2 ef s0 s1 s2 i1 i2 i3 i4 i5 i6 i7 i8 i9
          go_wp2_with fail
          go_meet
          exact ⟨g9, n9, c9, F73, HN9.out, (BYY.then hb73).set (by dsimp only; omega) _, eP.set (by simp) _, (gR.bw hb73).only (only_setCell _ _ _ _) (by simp; omega), keepSet fItems_good (keepBw hb73 fItems_good r1) nb5, keepSet fNodes_good (keepBw hb73 fNodes_good r2) nb2, keepSet fInts_good o73 nb73, f73.nodup, fun b hb => ⟨fun h => by have := f73.ge b hb; have := lt5 b h; omega, fun h => by have := f73.ge b hb; have := lt2 b h; omega, fun e => nb73 (e ▸ hb), by have := f73.ge b hb; omega⟩⟩
    case rest =>
      revert wc
      intro Z hcut
      obtain ⟨g, n9, c9, F9, hn9, BZ, zO, zR, z1, z2, z9, nF9, mF9⟩ := hcut
      have hDL := Nat.le_trans (delLeft_len s id) hml
      have hNL := delNew_len HI.out id
      have hcall := I_Sort Z (delLeft s id ++ delNew s id) g c9 F9 (by rw [← hn9]; exact z9) (by rw [List.length_append]; omega)
      rw [← hn9] at hcall
      have HN9 := Lib.hid hn9
      have HYR := Lib.hid (show delS s id = ⟨onlyM s.items [id] false, s.wanted, sortI (delLeft s id ++ delNew s id), s.tests + (M7 : Int)⟩ by rw [HY.out, L7.out])
      clear x0 x1 x2 x3 xf
      clear y0 y1 y2 y3 yf
      have x0 := zO.c 0 _ rfl
      have x1 := zO.c 1 _ rfl
      have x2 := zO.c 2 _ rfl
      have x3 := zO.c 3 _ rfl
      have xf := zO.fr
      clear hn9 hDL hNL gO gS gR r1 r2 r7
      go_wp2_with fail
      refine hcall.mono ?_
      rintro e w11 ⟨rfl, z9', hO, hB11⟩
      have bO11 := zO.only hO (fun h => (mF9 _ h).2.2.1 rfl)
      have bR11 := zR.only hO (fun h => by have := (mF9 _ h).2.2.2; omega)
      have z1' := hO.keeps fItems_good z1 (fun c h h2 => (mF9 c h2).1 h)
      have z2' := hO.keeps fNodes_good z2 (fun c h h2 => (mF9 c h2).2.1 h)
      have B11 := hB11 w BZ (fun b hb => by have := (mF9 b hb).2.2.2; omega)
      clear x0 x1 x2 x3 xf
      clear hcall
      have t0 := bO11.c 0 _ rfl
      have t1 := bO11.c 1 _ rfl
      have t2 := bO11.c 2 _ rfl
      have t3 := bO11.c 3 _ rfl
      have tf := bO11.fr
      have r0 := bR11.c 0 _ rfl
      have r1 := bR11.c 1 _ rfl
      have r2 := bR11.c 2 _ rfl
      have r3 := bR11.c 3 _ rfl
      have rf := bR11.fr
      go_wp2
      rw [HYR.out]
      refine bodyPost_ret (v := .tuple #[.agg #[.slice A5 n5 c5, .slice A2 m2 c2, .slice (some ⟨g, 0, none⟩) n9 c9, .int .i64 (s.tests + (M7 : Int))], .bool true]) (by simp [results, Tryz.results18, go_sem, t0, t1, t2, t3, r0, r1, r2, r3, hne2, hne5]) rfl ?_
      refine stand_ret (y := ⟨onlyM s.items [id] false, s.wanted, sortI (delLeft s id ++ delNew s id), s.tests + (M7 : Int)⟩) (F := F5) (G := F2) (H := F9) z1' z2' z9' ⟨?_, ?_⟩ (by omega) B11
      · rw [List.nodup_append, List.nodup_append]
        refine ⟨nF5, ⟨(List.nodup_append.1 (List.nodup_append.1 fV.nodup).2.1).1, nF9, fun a ha b hb e => (mF9 b hb).2.1 (e ▸ ha)⟩, fun a ha b hb e => ?_⟩
        rcases List.mem_append.1 hb with hb | hb
        · exact (mF a ha).1 (List.mem_append_left _ (e ▸ hb))
        · exact (mF9 b hb).1 (e ▸ ha)
      · intro b hb
        rcases List.mem_append.1 hb with hb | hb
        · have := (mF b hb).2.2; omega
        · rcases List.mem_append.1 hb with hb | hb
          · have := fV.ge b (List.mem_append_right _ (List.mem_append_left _ hb)); omega
          · have := (mF9 b hb).2.2.2; omega
end Go.Proofs.YtpihighajaeabaaGreat
