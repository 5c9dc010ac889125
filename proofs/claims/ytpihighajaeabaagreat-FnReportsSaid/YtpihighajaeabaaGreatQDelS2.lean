/- An item is taken from a standing answer, in the reference: the ways on which it is taken. -/
import Derived.Test.YtpihighajaeabaaGreatQDelS
import Derived.Test.YtpihighajaeabaaGreatQExclS
namespace Go.Proofs.YtpihighajaeabaaGreat
open Go.RowKit
set_option linter.unusedVariables false
set_option linter.unusedSimpArgs false
set_option maxRecDepth 100000 in
set_option maxHeartbeats 6400000 in
theorem S_DeleteItem_out (w : World) (s : GStanding) (id : Int) (va vb vc : Value) (ha : Rd rItems w s.items [va]) (hb : Rd rNodes w s.wanted [vb]) (hc : Rd rInts w s.best [vc]) (t1 : totItems s.items ≤ 1048576) (t2 : totNodes s.wanted ≤ 1048576) (t3 : s.best.length ≤ 1048576) (hok : delOk s id = true) (hno : s.best.contains id = false) :
    Calls Tryz.prog 19 #[.agg #[va, vb, vc, .int .i64 s.tests], .int .i64 id] w (RetV w (TwoA fStanding w.heap.size (delS s id) (.bool true))) := by
  obtain ⟨E1, hfx, hts⟩ := delOk_parts hok
  have HI := Lib.hid (areBoth_items (stand_both E1).1)
  obtain ⟨A, n, c, rfl, L0, Lc, Lm⟩ := rSl_open ha
  unfold maxLen at Lm
  have L := Lib.hid L0
  clear L0
  obtain ⟨B, m, c4, rfl, M0, Mc, Mm⟩ := rSl_open hc
  unfold maxLen at Mm
  have M := Lib.hid M0
  clear M0
  obtain ⟨W0, hW0⟩ : ∃ W0, W0 = (w.alloc (.cells #[.slice A n c, vb, .slice B m c4, .int .i64 s.tests] 28)).alloc (.cells #[.slice none 0 0, .slice none 0 0, .slice none 0 0, .int .i64 0] 28) := ⟨_, rfl⟩
  have A0 : Bw w W0 := by rw [hW0]; exact ((Bw.refl w).alloc _).alloc _
  have bS : Box W0 w.heap.size [.slice A n c, vb, .slice B m c4, .int .i64 s.tests] := by rw [hW0]; exact (Box.new w #[.slice A n c, vb, .slice B m c4, .int .i64 s.tests] 28).bw ((Bw.refl _).alloc _)
  have bR : Box W0 (w.heap.size + 1) [.slice none 0 0, .slice none 0 0, .slice none 0 0, .int .i64 0] := by
    have := Box.new (w.alloc (.cells #[.slice A n c, vb, .slice B m c4, .int .i64 s.tests] 28)) #[.slice none 0 0, .slice none 0 0, .slice none 0 0, .int .i64 0] 28
    rw [show (w.alloc (.cells #[.slice A n c, vb, .slice B m c4, .int .i64 s.tests] 28)).heap.size = w.heap.size + 1 from by simp] at this
    rw [hW0]; exact this
  have z0 : W0.heap.size = w.heap.size + 2 := by rw [hW0]; simp
  have hcopy := S_l15Copy W0 s _ vb _ (ha.bw rItems_good A0) (hb.bw rNodes_good A0) (hc.bw rInts_good A0) t1 t2 t3
  have HW0 := Lib.hid hW0
  clear hW0
  go_enter Tryz.func19, Tryz.ntmps19
  go_wp2_with fail
  rw [← HW0.out]
  refine hcopy.mono ?_
  rintro e w1 ⟨cs, F0, rfl, oS, fS, hb1⟩
  obtain ⟨A1, c1, A2, c2, A3, c3, rfl⟩ := fStanding_shape oS
  obtain ⟨F1, F2, F3, o1, o2, o3, rfl⟩ := fStanding_parts oS
  obtain ⟨m1, hm1⟩ : ∃ m, m = s.items.length := ⟨_, rfl⟩
  obtain ⟨m2, hm2⟩ : ∃ m, m = s.wanted.length := ⟨_, rfl⟩
  obtain ⟨m3, hm3⟩ : ∃ m, m = s.best.length := ⟨_, rfl⟩
  rw [← hm1] at o1
  rw [← hm2] at o2
  rw [← hm3] at o3
  dsimp only
  rw [← hm1, ← hm2, ← hm3]
  have bS1 := (bS.bw hb1).bw ((Bw.refl w1).alloc (.cells #[.slice A1 m1 c1, .slice A2 m2 c2, .slice A3 m3 c3, .int .i64 s.tests] 28))
  have y0 := bS1.c 0 _ rfl
  have y1 := bS1.c 1 _ rfl
  have y2 := bS1.c 2 _ rfl
  have y3 := bS1.c 3 _ rfl
  have HM1 := Lib.hid hm1
  have HM2 := Lib.hid hm2
  have HM3 := Lib.hid hm3
  clear hm1 hm2 hm3
  go_wp2_with fail
  obtain ⟨V, hV⟩ : ∃ V, V = w1.alloc (.cells #[.slice A1 m1 c1, .slice A2 m2 c2, .slice A3 m3 c3, .int .i64 s.tests] 28) := ⟨_, rfl⟩
  have A1' : Bw w1 V := by rw [hV]; exact (Bw.refl w1).alloc _
  have bO : Box V w1.heap.size [.slice A1 m1 c1, .slice A2 m2 c2, .slice A3 m3 c3, .int .i64 s.tests] := by rw [hV]; exact Box.new w1 #[.slice A1 m1 c1, .slice A2 m2 c2, .slice A3 m3 c3, .int .i64 s.tests] 28
  have zV : V.heap.size = w1.heap.size + 1 := by rw [hV]; simp
  have BV : Bw w V := A0.then (hb1.then A1')
  replace bS := bS.bw (hb1.then A1')
  replace bR := bR.bw (hb1.then A1')
  have zw : w.heap.size + 2 ≤ w1.heap.size := by have := hb1.size; omega
  have lS := (fStanding_good (B := 0)).lt oS
  replace o1 := keepBw A1' fItems_good o1
  replace o2 := keepBw A1' fNodes_good o2
  replace o3 := keepBw A1' fInts_good o3
  have fV : Fresh (w.heap.size + 2) (F1 ++ (F2 ++ F3)) := fS.mono (by omega)
  have HLS := Lib.hid lS
  have HV := Lib.hid hV
  have k1 := Lib.hid (fun W (B : Bw V W) => S_IsStanding W s _ vb _ (ha.bw rItems_good (BV.then B)) (hb.bw rNodes_good (BV.then B)) (hc.bw rInts_good (BV.then B)))
  have k3 := Lib.hid (fun W (B : Bw V W) => S_FindItem W s.items id _ (ha.bw rItems_good (BV.then B)))
  obtain ⟨b6, hb6⟩ : ∃ b, b = w1.heap.size := ⟨_, rfl⟩
  rw [← hb6] at bO zV zw lS
  have HB6 := Lib.hid hb6
  rw [← HV.out, ← HB6.out]
  clear hV oS fS hcopy hb1 A0 hb6 lS y0 y1 y2 y3 bS1
  refine (k1.out _ (Bw.refl V)).mono ?_
  rintro e w2 ⟨rfl, hb2⟩
  rw [E1]
  have bS2 := bS.bw hb2
  have y0 := bS2.c 0 _ rfl
  have y1 := bS2.c 1 _ rfl
  have y2 := bS2.c 2 _ rfl
  have y3 := bS2.c 3 _ rfl
  have yf := bS2.fr
  have hcall := k3.out _ hb2
  obtain ⟨K, hK⟩ : ∃ K, K = findIdx s.items id := ⟨_, rfl⟩
  rw [← hK] at hcall hfx
  have HK := Lib.hid hK
  clear bS2 hK
  go_wp2_with fail
  refine hcall.mono ?_
  rintro e w3 ⟨rfl, hb3⟩
  have hB3 := hb2.then hb3
  clear y0 y1 y2 y3 yf
  have bS3 := bS.bw hB3
  have bO3 := bO.bw hB3
  have y0 := bS3.c 0 _ rfl
  have y1 := bS3.c 1 _ rfl
  have y2 := bS3.c 2 _ rfl
  have y3 := bS3.c 3 _ rfl
  have yf := bS3.fr
  have hK1 : ¬ K < (0 : Int) := by omega
  have ht1 : ¬ (999900 : Int) < s.tests := by omega
  have hne : b6 ≠ w.heap.size ∧ b6 ≠ w.heap.size + 1 := by omega
  obtain ⟨hne1, hne2⟩ := hne
  have hne4 := hne1.symm
  have hne5 := hne2.symm
  have A4 := (Bw.refl w3).alloc (.cells #[.int .i64 id] 3)
  have hB4 := hB3.then A4
  have hcall := S_l10Without (w3.alloc (.cells #[.int .i64 id] 3)) s.items [id] _ _ (ha.bw rItems_good (BV.then hB4)) (rInts_one w3 id 3) (by have := areItems_len HI.out; omega) (fun x hx => by rw [isItem_len (areItems_mem HI.out hx)]; omega)
  clear bS3
  go_wp2_with fail
  refine hcall.mono ?_
  rintro e w5 ⟨v5, rfl, ⟨F5, o5, f5⟩, hb5⟩
  obtain ⟨A5, c5, rfl, _⟩ := rSl_shape (fItems_Rd o5)
  obtain ⟨n5, hn5⟩ : ∃ n, n = (onlyM s.items [id] false).length := ⟨_, rfl⟩
  rw [← hn5] at o5 ⊢
  have HN5 := Lib.hid hn5
  have hB5 := hB4.then hb5
  have z5 := hB5.size
  clear y0 y1 y2 y3 yf
  have bS5 := bS.bw hB5
  have bO5 := bO.bw hB5
  have bR5 := bR.bw hB5
  have y0 := bS5.c 0 _ rfl
  have y1 := bS5.c 1 _ rfl
  have y2 := bS5.c 2 _ rfl
  have y3 := bS5.c 3 _ rfl
  have yf := bS5.fr
  have q0 := bO5.c 0 _ rfl
  have q1 := bO5.c 1 _ rfl
  have q2 := bO5.c 2 _ rfl
  have q3 := bO5.c 3 _ rfl
  have qf := bO5.fr
  obtain ⟨X, hX⟩ : ∃ X, X = w5.setCell ⟨b6, 0, none⟩ (.slice A5 n5 c5) := ⟨_, rfl⟩
  have BX : Bw w X := by rw [hX]; exact (BV.then hB5).set (by dsimp only; omega) _
  have UX : Bw w1 X := by rw [hX]; exact (A1'.then hB5).set (p := ⟨b6, 0, none⟩) (by have := HB6.out; dsimp only; omega) _
  have cO : Box X b6 [.slice A5 n5 c5, .slice A2 m2 c2, .slice A3 m3 c3, .int .i64 s.tests] := by rw [hX]; exact bO5.set (by simp) _
  have cS : Box X w.heap.size [.slice A n c, vb, .slice B m c4, .int .i64 s.tests] := by rw [hX]; exact bS5.only (only_setCell _ _ _ _) (by simp; omega)
  have cR : Box X (w.heap.size + 1) [.slice none 0 0, .slice none 0 0, .slice none 0 0, .int .i64 0] := by rw [hX]; exact bR5.only (only_setCell _ _ _ _) (by simp; omega)
  have hls := HLS.out
  rw [← HB6.out] at hls
  have n1 : b6 ∉ F5 := fun h => by have := f5.ge b6 h; have := hB4.size; omega
  have n2 : b6 ∉ F2 := fun h => by have := hls b6 (List.mem_append_right _ (List.mem_append_left _ h)); omega
  have n3 : b6 ∉ F3 := fun h => by have := hls b6 (List.mem_append_right _ (List.mem_append_right _ h)); omega
  have l23 : ∀ c ∈ F2 ++ F3, c < b6 := fun c h => hls c (List.mem_append_right _ h)
  have g5 : ∀ c ∈ F5, b6 < c := fun c h => by have := f5.ge c h; have := hB4.size; omega
  have p1 : fItems X (onlyM s.items [id] false) [.slice A5 n5 c5] F5 := by rw [hX]; exact keepSet fItems_good o5 n1
  have p2 : fNodes X s.wanted [.slice A2 m2 c2] F2 := by rw [hX]; exact keepSet fNodes_good (keepBw hB5 fNodes_good o2) n2
  have p3 : fInts X s.best [.slice A3 m3 c3] F3 := by rw [hX]; exact keepSet fInts_good (keepBw hB5 fInts_good o3) n3
  have zX : b6 < X.heap.size := cO.lt
  have hcall := S_l2Has X s.best id _ (hc.bw rInts_good BX)
  have n5' := f5.nodup
  have HX := Lib.hid hX
  clear bS5 bO5 bR5 hX hls o1 o2 o3 o5 hn5 z5 k1 k3 hb2 hb3 hB3 A4 hB4 hb5
  go_wp2_with fail
  rw [← HX.out]
  refine hcall.mono ?_
  rintro e w6 ⟨rfl, hb6⟩
  clear y0 y1 y2 y3 yf
  clear q0 q1 q2 q3 qf
  clear hcall
  have HY := Lib.hid (show delS s id = ⟨onlyM s.items [id] false, s.wanted, s.best, s.tests⟩ by unfold delS; rw [hno]; rfl)
  rw [hno]
  have cO6 := cO.bw hb6
  have cR6 := cR.bw hb6
  have q1 := keepBw hb6 fItems_good p1
  have q2 := keepBw hb6 fNodes_good p2
  have q3 := keepBw hb6 fInts_good p3
  have B6 := BX.then hb6
  clear hno hok
  have q0 := cO6.c 0 _ rfl
  have q1 := cO6.c 1 _ rfl
  have q2 := cO6.c 2 _ rfl
  have q3 := cO6.c 3 _ rfl
  have qf := cO6.fr
  have r0 := cR6.c 0 _ rfl
  have r1 := cR6.c 1 _ rfl
  have r2 := cR6.c 2 _ rfl
  have r3 := cR6.c 3 _ rfl
  have rf := cR6.fr
  go_wp2
  rw [HY.out]
  refine bodyPost_ret (v := .tuple #[.agg #[.slice A5 n5 c5, .slice A2 m2 c2, .slice A3 m3 c3, .int .i64 s.tests], .bool true]) (by simp [results, Tryz.results19, go_sem, q0, q1, q2, q3, r0, r1, r2, r3, hne2, hne5]) rfl ?_
  exact stand_ret (y := ⟨onlyM s.items [id] false, s.wanted, s.best, s.tests⟩) (F := F5) (G := F2) (H := F3) (keepBw hb6 fItems_good p1) (keepBw hb6 fNodes_good p2) (keepBw hb6 fInts_good p3) ⟨List.nodup_append.2 ⟨n5', (List.nodup_append.1 fV.nodup).2.1, fun a ha b hb e => by have := g5 a ha; have := l23 b hb; omega⟩, fun b hb => (List.mem_append.1 hb).elim (fun h => by have := g5 b h; omega) (fun h => fV.ge b (List.mem_append_right _ h))⟩ (by omega) B6
theorem excl_item {s : GStanding} {id d : Int} (h : d ∈ exclM s id) : ∃ y ∈ s.items, y.id = d := by
  unfold exclM at h
  split at h
  · obtain ⟨y, hy, e⟩ := List.mem_map.1 h
    exact ⟨y, (List.mem_filter.1 hy).1, e⟩
  · simp at h
theorem excl_len16 {s : GStanding} (h : areItems s.items = true) (id : Int) : (exclM s id).length ≤ 16 := by
  unfold exclM
  split
  · unfold idsOf; rw [List.length_map]; exact Nat.le_trans (List.length_filter_le _ _) (areItems_len h)
  · simp
theorem Only.keepsB' {α : Type} {R : Fp α} {B : Nat} {F G : List Nat} {w w' : World} (h : Only F w w') (hR : GoodF B R) (hB : B ≤ w.heap.size) (hF : ∀ b ∈ F, B ≤ b) {x : α} {cs : List Value} (hx : R w x cs G) (hd : ∀ b ∈ G, b ∉ F) : R w' x cs G :=
  hR.step (fun b hb => by
    rcases hb with hb | hb
    · exact h.2 b (hR.lt hx b hb) (hd b hb)
    · exact h.2 b (by omega) (fun hf => by have := hF b hf; omega)) hx
theorem keepSetB {W : World} {b o B : Nat} {u : Value} {α : Type} {R : Fp α} (hR : GoodF B R) (hB : B ≤ W.heap.size) (hb : B ≤ b) {x : α} {cs : List Value} {F : List Nat} (hx : R W x cs F) (hF : b ∉ F) : R (W.setCell ⟨b, o, none⟩ u) x cs F :=
  (only_setCell b o W u).keepsB' hR hB (fun c hc => by simp at hc; omega) hx fun c hc e => by simp at e; exact hF (e ▸ hc)
theorem sh_item2 {w W : World} (hB : Bw w W) {x : GItem} {A : Option Addr} {n c : Nat} (h : Rd rInts w x.vals [.slice A n c]) : fShS (lt w) rItem W x [.int .i64 x.id, .slice A n c] [] := by
  refine ⟨rfl, ⟨_, rfl, rInts_good.step ⟨fun _ h => h, fun p hp => Below.cell hB hp⟩ h⟩, fun u hu => ?_⟩
  simp at hu; rcases hu with rfl | rfl <;> rfl
set_option maxRecDepth 100000 in
set_option maxHeartbeats 6400000 in
theorem S_DeleteItem_in (w : World) (s : GStanding) (id : Int) (va vb vc : Value) (ha : Rd rItems w s.items [va]) (hb : Rd rNodes w s.wanted [vb]) (hc : Rd rInts w s.best [vc]) (t1 : totItems s.items ≤ 1048576) (t2 : totNodes s.wanted ≤ 1048576) (t3 : s.best.length ≤ 1048576) (hok : delOk s id = true) (hin : s.best.contains id = true) :
    Calls Tryz.prog 19 #[.agg #[va, vb, vc, .int .i64 s.tests], .int .i64 id] w (RetV w (TwoA fStanding w.heap.size (delS s id) (.bool true))) := by
  obtain ⟨E1, hfx, hts⟩ := delOk_parts hok
  have HI := Lib.hid (areBoth_items (stand_both E1).1)
  have HB := Lib.hid (stand_both E1).1
  have HST := Lib.hid E1
  have hml := stand_best_len E1
  have hts0 := (stand_tests E1).1
  obtain ⟨j0, ji, jz0, jz1, jz2⟩ := info_parts info_Item
  obtain ⟨i0, hi, hz0, hz1, hz2⟩ := info_parts info_int
  obtain ⟨A, n, c, rfl, L0, Lc, Lm⟩ := rSl_open ha
  unfold maxLen at Lm
  have L := Lib.hid L0
  clear L0
  obtain ⟨B, m, c4, rfl, M0, Mc, Mm⟩ := rSl_open hc
  unfold maxLen at Mm
  have M := Lib.hid M0
  clear M0
  obtain ⟨W0, hW0⟩ : ∃ W0, W0 = (w.alloc (.cells #[.slice A n c, vb, .slice B m c4, .int .i64 s.tests] 28)).alloc (.cells #[.slice none 0 0, .slice none 0 0, .slice none 0 0, .int .i64 0] 28) := ⟨_, rfl⟩
  have A0 : Bw w W0 := by rw [hW0]; exact ((Bw.refl w).alloc _).alloc _
  have bS : Box W0 w.heap.size [.slice A n c, vb, .slice B m c4, .int .i64 s.tests] := by rw [hW0]; exact (Box.new w #[.slice A n c, vb, .slice B m c4, .int .i64 s.tests] 28).bw ((Bw.refl _).alloc _)
  have bR : Box W0 (w.heap.size + 1) [.slice none 0 0, .slice none 0 0, .slice none 0 0, .int .i64 0] := by
    have := Box.new (w.alloc (.cells #[.slice A n c, vb, .slice B m c4, .int .i64 s.tests] 28)) #[.slice none 0 0, .slice none 0 0, .slice none 0 0, .int .i64 0] 28
    rw [show (w.alloc (.cells #[.slice A n c, vb, .slice B m c4, .int .i64 s.tests] 28)).heap.size = w.heap.size + 1 from by simp] at this
    rw [hW0]; exact this
  have z0 : W0.heap.size = w.heap.size + 2 := by rw [hW0]; simp
  have hcopy := S_l15Copy W0 s _ vb _ (ha.bw rItems_good A0) (hb.bw rNodes_good A0) (hc.bw rInts_good A0) t1 t2 t3
  have HW0 := Lib.hid hW0
  clear hW0
  go_enter Tryz.func19, Tryz.ntmps19
  go_wp2_with fail
  rw [← HW0.out]
  refine hcopy.mono ?_
  rintro e w1 ⟨cs, F0, rfl, oS, fS, hb1⟩
  obtain ⟨A1, c1, A2, c2, A3, c3, rfl⟩ := fStanding_shape oS
  obtain ⟨F1, F2, F3, o1, o2, o3, rfl⟩ := fStanding_parts oS
  obtain ⟨m1, hm1⟩ : ∃ m, m = s.items.length := ⟨_, rfl⟩
  obtain ⟨m2, hm2⟩ : ∃ m, m = s.wanted.length := ⟨_, rfl⟩
  obtain ⟨m3, hm3⟩ : ∃ m, m = s.best.length := ⟨_, rfl⟩
  rw [← hm1] at o1
  rw [← hm2] at o2
  rw [← hm3] at o3
  dsimp only
  rw [← hm1, ← hm2, ← hm3]
  have bS1 := (bS.bw hb1).bw ((Bw.refl w1).alloc (.cells #[.slice A1 m1 c1, .slice A2 m2 c2, .slice A3 m3 c3, .int .i64 s.tests] 28))
  have y0 := bS1.c 0 _ rfl
  have y1 := bS1.c 1 _ rfl
  have y2 := bS1.c 2 _ rfl
  have y3 := bS1.c 3 _ rfl
  have HM1 := Lib.hid hm1
  have HM2 := Lib.hid hm2
  have HM3 := Lib.hid hm3
  clear hm1 hm2 hm3
  go_wp2_with fail
  obtain ⟨V, hV⟩ : ∃ V, V = w1.alloc (.cells #[.slice A1 m1 c1, .slice A2 m2 c2, .slice A3 m3 c3, .int .i64 s.tests] 28) := ⟨_, rfl⟩
  have A1' : Bw w1 V := by rw [hV]; exact (Bw.refl w1).alloc _
  have bO : Box V w1.heap.size [.slice A1 m1 c1, .slice A2 m2 c2, .slice A3 m3 c3, .int .i64 s.tests] := by rw [hV]; exact Box.new w1 #[.slice A1 m1 c1, .slice A2 m2 c2, .slice A3 m3 c3, .int .i64 s.tests] 28
  have zV : V.heap.size = w1.heap.size + 1 := by rw [hV]; simp
  have BV : Bw w V := A0.then (hb1.then A1')
  replace bS := bS.bw (hb1.then A1')
  replace bR := bR.bw (hb1.then A1')
  have zw : w.heap.size + 2 ≤ w1.heap.size := by have := hb1.size; omega
  have lS := (fStanding_good (B := 0)).lt oS
  replace o1 := keepBw A1' fItems_good o1
  replace o2 := keepBw A1' fNodes_good o2
  replace o3 := keepBw A1' fInts_good o3
  have fV : Fresh (w.heap.size + 2) (F1 ++ (F2 ++ F3)) := fS.mono (by omega)
  have HLS := Lib.hid lS
  have HV := Lib.hid hV
  have k1 := Lib.hid (fun W (B : Bw V W) => S_IsStanding W s _ vb _ (ha.bw rItems_good (BV.then B)) (hb.bw rNodes_good (BV.then B)) (hc.bw rInts_good (BV.then B)))
  have k3 := Lib.hid (fun W (B : Bw V W) => S_FindItem W s.items id _ (ha.bw rItems_good (BV.then B)))
  obtain ⟨b6, hb6⟩ : ∃ b, b = w1.heap.size := ⟨_, rfl⟩
  rw [← hb6] at bO zV zw lS
  have HB6 := Lib.hid hb6
  rw [← HV.out, ← HB6.out]
  clear hV oS fS hcopy hb1 A0 hb6 lS y0 y1 y2 y3 bS1
  refine (k1.out _ (Bw.refl V)).mono ?_
  rintro e w2 ⟨rfl, hb2⟩
  rw [E1]
  have bS2 := bS.bw hb2
  have y0 := bS2.c 0 _ rfl
  have y1 := bS2.c 1 _ rfl
  have y2 := bS2.c 2 _ rfl
  have y3 := bS2.c 3 _ rfl
  have yf := bS2.fr
  have hcall := k3.out _ hb2
  obtain ⟨K, hK⟩ : ∃ K, K = findIdx s.items id := ⟨_, rfl⟩
  rw [← hK] at hcall hfx
  have HK := Lib.hid hK
  clear bS2 hK
  go_wp2_with fail
  refine hcall.mono ?_
  rintro e w3 ⟨rfl, hb3⟩
  have hB3 := hb2.then hb3
  clear y0 y1 y2 y3 yf
  have bS3 := bS.bw hB3
  have bO3 := bO.bw hB3
  have y0 := bS3.c 0 _ rfl
  have y1 := bS3.c 1 _ rfl
  have y2 := bS3.c 2 _ rfl
  have y3 := bS3.c 3 _ rfl
  have yf := bS3.fr
  have hK1 : ¬ K < (0 : Int) := by omega
  have ht1 : ¬ (999900 : Int) < s.tests := by omega
  have hne : b6 ≠ w.heap.size ∧ b6 ≠ w.heap.size + 1 := by omega
  obtain ⟨hne1, hne2⟩ := hne
  have hne4 := hne1.symm
  have hne5 := hne2.symm
  have A4 := (Bw.refl w3).alloc (.cells #[.int .i64 id] 3)
  have hB4 := hB3.then A4
  have hcall := S_l10Without (w3.alloc (.cells #[.int .i64 id] 3)) s.items [id] _ _ (ha.bw rItems_good (BV.then hB4)) (rInts_one w3 id 3) (by have := areItems_len HI.out; omega) (fun x hx => by rw [isItem_len (areItems_mem HI.out hx)]; omega)
  clear bS3
  go_wp2_with fail
  refine hcall.mono ?_
  rintro e w5 ⟨v5, rfl, ⟨F5, o5, f5⟩, hb5⟩
  obtain ⟨A5, c5, rfl, _⟩ := rSl_shape (fItems_Rd o5)
  obtain ⟨n5, hn5⟩ : ∃ n, n = (onlyM s.items [id] false).length := ⟨_, rfl⟩
  rw [← hn5] at o5 ⊢
  have HN5 := Lib.hid hn5
  have hB5 := hB4.then hb5
  have z5 := hB5.size
  clear y0 y1 y2 y3 yf
  have bS5 := bS.bw hB5
  have bO5 := bO.bw hB5
  have bR5 := bR.bw hB5
  have y0 := bS5.c 0 _ rfl
  have y1 := bS5.c 1 _ rfl
  have y2 := bS5.c 2 _ rfl
  have y3 := bS5.c 3 _ rfl
  have yf := bS5.fr
  have q0 := bO5.c 0 _ rfl
  have q1 := bO5.c 1 _ rfl
  have q2 := bO5.c 2 _ rfl
  have q3 := bO5.c 3 _ rfl
  have qf := bO5.fr
  obtain ⟨X, hX⟩ : ∃ X, X = w5.setCell ⟨b6, 0, none⟩ (.slice A5 n5 c5) := ⟨_, rfl⟩
  have BX : Bw w X := by rw [hX]; exact (BV.then hB5).set (by dsimp only; omega) _
  have UX : Bw w1 X := by rw [hX]; exact (A1'.then hB5).set (p := ⟨b6, 0, none⟩) (by have := HB6.out; dsimp only; omega) _
  have cO : Box X b6 [.slice A5 n5 c5, .slice A2 m2 c2, .slice A3 m3 c3, .int .i64 s.tests] := by rw [hX]; exact bO5.set (by simp) _
  have cS : Box X w.heap.size [.slice A n c, vb, .slice B m c4, .int .i64 s.tests] := by rw [hX]; exact bS5.only (only_setCell _ _ _ _) (by simp; omega)
  have cR : Box X (w.heap.size + 1) [.slice none 0 0, .slice none 0 0, .slice none 0 0, .int .i64 0] := by rw [hX]; exact bR5.only (only_setCell _ _ _ _) (by simp; omega)
  have hls := HLS.out
  rw [← HB6.out] at hls
  have n1 : b6 ∉ F5 := fun h => by have := f5.ge b6 h; have := hB4.size; omega
  have n2 : b6 ∉ F2 := fun h => by have := hls b6 (List.mem_append_right _ (List.mem_append_left _ h)); omega
  have n3 : b6 ∉ F3 := fun h => by have := hls b6 (List.mem_append_right _ (List.mem_append_right _ h)); omega
  have l23 : ∀ c ∈ F2 ++ F3, c < b6 := fun c h => hls c (List.mem_append_right _ h)
  have g5 : ∀ c ∈ F5, b6 < c := fun c h => by have := f5.ge c h; have := hB4.size; omega
  have p1 : fItems X (onlyM s.items [id] false) [.slice A5 n5 c5] F5 := by rw [hX]; exact keepSet fItems_good o5 n1
  have p2 : fNodes X s.wanted [.slice A2 m2 c2] F2 := by rw [hX]; exact keepSet fNodes_good (keepBw hB5 fNodes_good o2) n2
  have p3 : fInts X s.best [.slice A3 m3 c3] F3 := by rw [hX]; exact keepSet fInts_good (keepBw hB5 fInts_good o3) n3
  have zX : b6 < X.heap.size := cO.lt
  have hcall := S_l2Has X s.best id _ (hc.bw rInts_good BX)
  have n5' := f5.nodup
  have HX := Lib.hid hX
  clear bS5 bO5 bR5 hX hls o1 o2 o3 o5 hn5 z5 k1 k3 hb2 hb3 hB3 A4 hB4 hb5
  go_wp2_with fail
  rw [← HX.out]
  refine hcall.mono ?_
  rintro e w6 ⟨rfl, hb6⟩
  clear y0 y1 y2 y3 yf
  clear q0 q1 q2 q3 qf
  clear hcall
  have HY := Lib.hid (show delS s id = ⟨onlyM s.items [id] false, s.wanted, sortI (delLeft s id ++ delNew s id), s.tests + ((exclM s id).length : Int)⟩ by unfold delS; rw [hin]; rfl)
  have hm16 : m ≤ 16 := by have := M.out; omega
  rw [hin]
  clear hin hok E1
  have B6 := BX.then hb6
  have bS6 := cS.bw hb6
  have y0 := bS6.c 0 _ rfl
  have y1 := bS6.c 1 _ rfl
  have y2 := bS6.c 2 _ rfl
  have y3 := bS6.c 3 _ rfl
  have yf := bS6.fr
  have hcall := S_ExclusiveOf w6 s id _ vb _ (ha.bw rItems_good B6) (hb.bw rNodes_good B6) (hc.bw rInts_good B6)
  go_wp2_with fail
  refine hcall.mono ?_
  rintro e w7 ⟨v7, rfl, ⟨F7, o7, f7⟩, hb7⟩
  obtain ⟨A7, c7, rfl, _⟩ := rSl_shape (fInts_Rd o7)
  obtain ⟨M7, hM7⟩ : ∃ M, M = (exclM s id).length := ⟨_, rfl⟩
  rw [← hM7] at o7 ⊢
  have L7 := Lib.hid hM7
  have hM16 : M7 ≤ 16 := by rw [hM7]; exact excl_len16 HI.out id
  have r7 := fInts_Rd o7
  have hX7 := hb6.then hb7
  have BY := BX.then hX7
  have wY := BY.size
  clear y0 y1 y2 y3 yf
  have dO := cO.bw hX7
  have dS := cS.bw hX7
  have dR := cR.bw hX7
  have q1 := keepBw hX7 fItems_good p1
  have q2 := keepBw hX7 fNodes_good p2
  have hv0 := fSl_empty (e := 30) (sz := 2) (R := fShS (lt w) rItem) w7
  have B7 : Bw w7 (w7.alloc (.cells #[] 30)) := (Bw.refl w7).alloc _
  have GG : GoodF w7.heap.size (fShS (lt w) rItem) := fShS_good rItem_good (fun b h => Nat.lt_of_lt_of_le h wY)
  have GL : GoodF w7.heap.size (fItemsS (lt w)) := fSl_good GG
  have G0 := Lib.hid (show GoodF w.heap.size (fItemsS (lt w)) from fSl_good (fShS_good rItem_good (fun b h => h)))
  have HA := Lib.hid ha
  have HC := Lib.hid hc
  have HGG := Lib.hid GG
  have HGL := Lib.hid GL
  have HO7 := Lib.hid o7
  clear hcall hM7 p1 p2 p3 cO cS cR bS6 B6 o7 ha hc GG GL
  go_wp2
  go_loopg [8, 9] M7 (fun g s8 s9 w' => ∃ (k : Nat) (F : List Nat), k ≤ M7 ∧ g = M7 - k ∧ s9 = .int .i64 k ∧ fItemsS (lt w) w' (pickTo s.items (exclM s id) k) [s8] F ∧ Fresh w7.heap.size F ∧ Bw w7 w')
  case atStart => exact ⟨0, [w7.heap.size], by omega, rfl, rfl, hv0, ⟨by simp, by simp⟩, B7⟩
  case round =>
    clear hv0 B7
    obtain ⟨k, F, hk, rfl, rfl, hv, hF, hbk⟩ := hrel
    have HPL := Lib.hid (pickTo_len s.items (exclM s id) k)
    have dSk := dS.bw hbk
    have bw0 := BY.then hbk
    by_cases hlt : k < M7
    · obtain ⟨d, hd⟩ := get_of_lt (xs := (exclM s id)) (k := k) (by have := L7.out; omega)
      obtain ⟨bb, ob, rfl, _, hcd7⟩ := rInts_at r7 hd
      have hcd := hbk.cell hcd7
      have hdm := excl_item (List.mem_of_getElem? hd)
      obtain ⟨bA, oA, rfl⟩ : ∃ b o, A = some ⟨b, o, none⟩ := by
        obtain ⟨y, hy, _⟩ := hdm
        obtain ⟨k', hk'⟩ := List.mem_iff_getElem?.1 hy
        obtain ⟨b, o, A2, c2, e, _⟩ := rItems_at HA.out hk'
        exact ⟨b, o, e⟩
      obtain ⟨kd, Ad, cd, hdf, hdn, hdi, hdc0, hdc1, hdc2⟩ := item_cells HA.out L.out HI.out hdm
      have i1 : (0 : Int) ≤ (k : Int) := by omega
      have i2 : (k : Int) < (M7 : Int) := by omega
      have c8 := fun (W : World) (B : Bw wr W) => S_l8Item W s.items d bA oA n c kd (itemAt s.items d) Ad 3 cd (HA.out.bw rItems_good (bw0.then B)) hdf hdn ((bw0.then B).cell hdc0) ((bw0.then B).cell hdc1)
      have HPS := Lib.hid (pickTo_succ (l := s.items) hd)
      have HD2 := Lib.hid hdc2
      obtain ⟨y, hy⟩ : ∃ y, y = itemAt s.items d := ⟨_, rfl⟩
      rw [← hy] at c8 HPS HD2
      have y0 := dSk.c 0 _ rfl
      have D1 : Bw wr wr.drew := (Bw.refl wr).drew
      have hwk := hbk.size
      clear hd hdm hdf hdn hdi hdc0 hdc1 hdc2 hy
      go_wp2_with fail
      go_region_held3 (fun w' => w'.cell? ⟨w.heap.size, 0, none⟩ = some (.slice (some ⟨bA, oA, none⟩) n c) ∧ w'.cell? ⟨bb, ob + k, none⟩ = some (.int .i64 d)) (first | with_reducible exact ⟨y0, hcd⟩ | with_reducible exact ⟨D1.cell y0, D1.cell hcd⟩ | with_reducible exact ⟨hAl.cell y0, hAl.cell hcd⟩ | with_reducible exact ⟨s0, s1⟩ | go_keep)
        (first
          | (go_at_call 86; refine (c8 _ D1).mono ?_; rintro e w8 ⟨rfl, hb8⟩; have hbD := D1.then hb8; replace y0 := hbD.cell y0; replace hcd := hbD.cell hcd; have hAl := (Bw.refl w8).alloc (.cells #[.int .i64 y.id, .slice Ad 3 cd] 30); have hbW := hbD.then hAl; have hvW := HGL.out.bw hbW hwk hv; have hbK := hbk.then hbW; have hFm := HGL.out.lt hv; have hel := sh_item2 (bw0.then hbW) HD2.out; have hcl : ∀ j t, [Value.int .i64 y.id, .slice Ad 3 cd][j]? = some t → (w8.alloc (.cells #[.int .i64 y.id, .slice Ad 3 cd] 30)).cell? ((⟨w8.heap.size, 0, none⟩ : Addr).add j) = some t := World.news_of_block (cs := #[.int .i64 y.id, .slice Ad 3 cd]) (t := 30) (fr := (0, 0)) (heap_alloc_new w8 _))
          | (refine step_push2 _ (by rfl) (.tmp 51) (.tmp 59) 24 (by rfl) w7 30 j0 _ 2 32 Tryz.underlying24 ji jz0 jz1 jz2 rfl (by omega) HGG.out _ (pickTo s.items (exclM s id) k) F (by rfl) hvW hF ⟨w8.heap.size, 0, none⟩ 1 (by rfl) y [.int .i64 y.id, .slice Ad 3 cd] [] hcl hel rfl _ hFm Fresh.nil hwk (by have := HPL.out; have := L7.out; omega) (by have := HPL.out; have := L7.out; omega) hbK ?_; intro v' w' F' hv' hF' hb' hO' hs'; have s0 := (dS.bw hb').c 0 _ rfl; have s1 := hb'.cell hcd7)
          | fail)
      go_wp2
      go_roundg (M7 - (k + 1))
      case measure => omega
      case rel => exact ⟨k + 1, F', by omega, rfl, by go_num, by rw [HPS.out]; exact hv', hF', hb'⟩
    · obtain rfl : k = M7 := by omega
      rw [pickTo_end HI.out (by rw [← L7.out]; exact Nat.le_refl _)] at hv
      have A2w := (Bw.refl wr).alloc (.cells #[] 3)
      have hbA := hbk.then A2w
      have dOA := dO.bw hbA
      have dSA := dS.bw hbA
      have dRA := dR.bw hbA
      obtain ⟨z, hz⟩ : ∃ z, z = wr.heap.size := ⟨_, rfl⟩
      have zk : w7.heap.size ≤ z := by rw [hz]; exact hbk.size
      have b67 : b6 < w7.heap.size := dO.lt
      have b6z : b6 < z := by omega
      have lt8 : ∀ c ∈ F, c < z := by rw [hz]; exact HGL.out.lt hv
      have hfe := fSl_empty (e := 3) (sz := 1) (R := fInt) wr
      have BA := BY.then hbA
      have wA := BA.size
      obtain ⟨X2, hX2⟩ : ∃ X2, X2 = (wr.alloc (.cells #[] 3)).setCell ⟨b6, 2, none⟩ (.slice (some ⟨wr.heap.size, 0, none⟩) 0 0) := ⟨_, rfl⟩
      have BX2 : Bw w X2 := by rw [hX2]; exact BA.set (by dsimp only; omega) _
      have eO : Box X2 b6 [.slice A5 n5 c5, .slice A2 m2 c2, .slice (some ⟨wr.heap.size, 0, none⟩) 0 0, .int .i64 s.tests] := by rw [hX2]; exact dOA.set (by simp) _
      have eS : Box X2 w.heap.size [.slice A n c, vb, .slice B m c4, .int .i64 s.tests] := by rw [hX2]; exact dSA.only (only_setCell _ _ _ _) (by simp; omega)
      have eR : Box X2 (w.heap.size + 1) [.slice none 0 0, .slice none 0 0, .slice none 0 0, .int .i64 0] := by rw [hX2]; exact dRA.only (only_setCell _ _ _ _) (by simp; omega)
      have r1 : fItems X2 (onlyM s.items [id] false) [.slice A5 n5 c5] F5 := by rw [hX2]; exact keepSet fItems_good (keepBw hbA fItems_good q1) n1
      have r2 : fNodes X2 s.wanted [.slice A2 m2 c2] F2 := by rw [hX2]; exact keepSet fNodes_good (keepBw hbA fNodes_good q2) n2
      have r8 : fItemsS (lt w) X2 (onlyM s.items (exclM s id) true) [u8] F := by rw [hX2]; exact keepSetB G0.out wA (by omega) (HGL.out.bw A2w (by omega) hv) (fun h => by have := hF.ge _ h; have := dO.lt; omega)
      have r3 : fInts X2 (delLeftTo s id 0) [.slice (some ⟨wr.heap.size, 0, none⟩) 0 0] [wr.heap.size] := by rw [hX2]; exact keepSet fInts_good hfe (by simp; omega)
      have zX2 : z ≤ X2.heap.size := by rw [hX2, hz]; simp
      have lt5 := (fItems_good (B := 0)).lt q1
      have lt5' : ∀ c ∈ F5, c < z := fun c h => by have := lt5 c h; omega
      have x0 := dOA.c 0 _ rfl
      have x1 := dOA.c 1 _ rfl
      have x2 := dOA.c 2 _ rfl
      have x3 := dOA.c 3 _ rfl
      have xf := dOA.fr
      have y0 := dSA.c 0 _ rfl
      have y1 := dSA.c 1 _ rfl
      have y2 := dSA.c 2 _ rfl
      have y3 := dSA.c 3 _ rfl
      have yf := dSA.fr
      have HX2 := Lib.hid hX2
      have HZ := Lib.hid hz
      clear hX2 hz hv dSk hfe q1 q2 lt5 dOA dSA dRA dO dS dR HGG HGL r7
      go_wp2
      rw [← HX2.out]
      clear x0 x1 x2 x3 xf
      clear y0 y1 y2 y3 yf
      rw [← HZ.out] at eO r3
      rw [← HZ.out]
      go_loopg [10] m (fun gk s10 w' => ∃ (k g Lx cx : Nat) (F9 : List Nat), k ≤ m ∧ gk = m - k ∧ s10 = .int .i64 k ∧ fInts w' (delLeftTo s id k) [.slice (some ⟨g, 0, none⟩) Lx cx] F9 ∧ Fresh z F9 ∧ z ≤ w'.heap.size ∧ Bw w w' ∧ Box w' b6 [.slice A5 n5 c5, .slice A2 m2 c2, .slice (some ⟨g, 0, none⟩) Lx cx, .int .i64 s.tests] ∧ Box w' w.heap.size [.slice A n c, vb, .slice B m c4, .int .i64 s.tests] ∧ Box w' (w.heap.size + 1) [.slice none 0 0, .slice none 0 0, .slice none 0 0, .int .i64 0] ∧ fItems w' (onlyM s.items [id] false) [.slice A5 n5 c5] F5 ∧ fNodes w' s.wanted [.slice A2 m2 c2] F2 ∧ fItemsS (lt w) w' (onlyM s.items (exclM s id) true) [u8] F)
      case atStart => exact ⟨0, z, 0, 0, [z], by omega, rfl, rfl, r3, ⟨by simp, by simp⟩, zX2, BX2, eO, eS, eR, r1, r2, r8⟩
      case round =>
        clear r3 eO eS eR r1 r2 r8 BX2 zX2
        obtain ⟨k9, g, Lx, cx, F9, hk9, rfl, rfl, hv, hF9, hz, bw0, eO, eS, eR, r1, r2, r8⟩ := hrel
        have HDL := Lib.hid (delLeftTo_len s id k9)
        have HML := Lib.hid hml
        have y0 := eS.c 0 _ rfl
        have y1 := eS.c 1 _ rfl
        have y2 := eS.c 2 _ rfl
        have y3 := eS.c 3 _ rfl
        have yf := eS.fr
        by_cases hlt : k9 < m
        · obtain ⟨d, hd⟩ := get_of_lt (xs := s.best) (k := k9) (by have := M.out; omega)
          obtain ⟨bb, ob, rfl, _, hcw⟩ := rInts_at HC.out hd
          have hcd := bw0.cell hcw
          have i1 : (0 : Int) ≤ (k9 : Int) := by omega
          have i2 : (k9 : Int) < (m : Int) := by omega
          by_cases hdi : d = id
          · have e1 : (d != id) = false := by simp [hdi]
            have HT := Lib.hid (delLeftTo_no hd hdi)
            clear hd hdi
            go_wp2
            go_roundg (m - (k9 + 1))
            case measure => omega
            case rel => exact ⟨k9 + 1, g, Lx, cx, F9, by omega, rfl, by go_num, by rw [HT.out]; exact hv, hF9, hz, bw0, eO, eS, eR, r1, r2, r8⟩
          · have e1 : (d != id) = true := by simp [hdi]
            have HT := Lib.hid (delLeftTo_yes hd hdi)
            clear hd hdi
            have AD : Bw wr (wr.alloc (.cells #[.int .i64 d] 3)).drew := ((Bw.refl wr).alloc (.cells #[.int .i64 d] 3)).drew
            have vW := keepBw AD fInts_good hv
            have eW := eO.bw AD
            have eZ := eO.bw ((Bw.refl wr).alloc (.cells #[.int .i64 d] 3))
            have sZ := eS.bw ((Bw.refl wr).alloc (.cells #[.int .i64 d] 3))
            have hcz := ((Bw.refl wr).alloc (.cells #[.int .i64 d] 3)).cell hcd
            have hbW := bw0.then AD
            have hFm := (fInts_good (B := 0)).lt hv
            have hcl : ∀ j t, [Value.int .i64 d][j]? = some t → (wr.alloc (.cells #[.int .i64 d] 3)).drew.cell? ((⟨wr.heap.size, 0, none⟩ : Addr).add j) = some t := cell_one_new wr (.int .i64 d) 3
            have wz : w.heap.size ≤ z := by have := UX.size; have := HB6.out; omega
            have hFw : Fresh w.heap.size F9 := hF9.mono wz
            have nF : b6 ∉ F9 := fun h => by have := hF9.ge _ h; omega
            have nS : w.heap.size ∉ F9 := fun h => by have := hF9.ge _ h; omega
            have nR : w.heap.size + 1 ∉ F9 := fun h => by have := hF9.ge _ h; omega
            have hwr := bw0.size
            have x0 := eO.c 0 _ rfl
            have x1 := eO.c 1 _ rfl
            have x2 := eO.c 2 _ rfl
            have x3 := eO.c 3 _ rfl
            have xf := eO.fr
            have u0 := eZ.c 0 _ rfl
            have u1 := eZ.c 1 _ rfl
            have u2 := eZ.c 2 _ rfl
            have u3 := eZ.c 3 _ rfl
            have uf := eZ.fr
            have v0 := sZ.c 0 _ rfl
            have v1 := sZ.c 1 _ rfl
            have v2 := sZ.c 2 _ rfl
            have v3 := sZ.c 3 _ rfl
            have vf := sZ.fr
            clear eZ sZ
            go_wp2_with fail
            go_region_law (refine step_push2 _ (by rfl) (.tmp 78) (.tmp 84) 26 (by rfl) w 3 i0 _ 1 8 Tryz.underlying26 hi hz0 hz1 hz2 rfl (by omega) fInt_good _ (delLeftTo s id k9) F9 (by rfl) vW hFw ⟨wr.heap.size, 0, none⟩ 1 (by rfl) d [.int .i64 d] [] hcl ⟨rfl, rfl⟩ rfl wr.heap.size hFm Fresh.nil hwr (by have := HDL.out; have := HML.out; omega) (by have := HDL.out; have := HML.out; omega) hbW ?_; intro v' w' F' hv' hF' hb' hO' hs'; obtain ⟨g', L', c', rfl, l', _⟩ := fSl_lit' hv' (by simp); have eP := eW.only hO' nF; have e2 := eP.c 2 _ rfl; have ef := eP.fr)
            all_goals
              have zr : ∀ b ∈ F', z ≤ b := fun b hb => by
                rcases hs' b hb with h | h | h
                · exact hF9.ge b h
                · simp at h
                · have := AD.size; omega
              have nF' : b6 ∉ F' := fun h => by have := zr _ h; omega
              have sP := (eS.bw AD).only hO' nS
              have rP := (eR.bw AD).only hO' nR
              have r1' := hO'.keeps fItems_good (keepBw AD fItems_good r1) (fun c h h2 => by have := hF9.ge c h2; have := lt5' c h; omega)
              have r2' := hO'.keeps fNodes_good (keepBw AD fNodes_good r2) (fun c h h2 => by have := hF9.ge c h2; have := l23 c (List.mem_append_left _ h); omega)
              have r8' := hO'.keepsB' G0.out hbW.size (fun c h => by have := hF9.ge c h; omega) (G0.out.bw AD hwr r8) (fun c h h2 => by have := hF9.ge c h2; have := lt8 c h; omega)
              clear x0 x1 x2 x3 xf
              clear u0 u1 u2 u3 uf
              clear v0 v1 v2 v3 vf
              clear y0 y1 y2 y3 yf
              clear e2 ef hcz hcd
              go_wp2
              go_roundg (m - (k9 + 1))
              case measure => omega
              case rel => exact ⟨k9 + 1, g', L', c', F', by omega, rfl, by go_num, by rw [HT.out]; exact keepSet fInts_good hv' nF', ⟨hF'.nodup, zr⟩, by have := hO'.1; have := AD.size; simp; omega, hb'.set (by dsimp only; omega) _, eP.set (by simp) _, sP.only (only_setCell _ _ _ _) (by simp; omega), rP.only (only_setCell _ _ _ _) (by simp; omega), keepSet fItems_good r1' n1, keepSet fNodes_good r2' n2, keepSetB G0.out hb'.size (by omega) r8' (fun h => by have := hF.ge _ h; have := UX.size; omega)⟩
        · obtain rfl : k9 = m := by omega
          rw [delLeftTo_end (by rw [← M.out]; exact Nat.le_refl _)] at hv
          have HYR := Lib.hid (show delS s id = ⟨onlyM s.items [id] false, s.wanted, sortI (delLeft s id ++ delNew s id), s.tests + (k : Int)⟩ by rw [HY.out, L7.out])
          have lt8' := G0.out.lt r8
          have wr0 := bw0.size
          have hsm : Rd rItems wr (onlyM s.items (exclM s id) true) [u8] := rItems_good.step ⟨fun b hb => hb.elim (fun h => lt8' b h) (fun h => Nat.lt_of_lt_of_le h wr0), fun p hp => rfl⟩ (fItemsS_read r8)
          have hl7 := Lib.hid (fun (W : World) (B : Bw wr W) => S_l7Best W (onlyM s.items (exclM s id) true) s.wanted u8 vb (hsm.bw rItems_good B) (hb.bw rNodes_good (bw0.then B)) (onlyM_items HI.out _ _) (areBoth_expr HB.out))
          have D1 : Bw wr wr.drew := (Bw.refl wr).drew
          have wz : w.heap.size ≤ z := by have := UX.size; have := HB6.out; omega
          have hFw : Fresh w.heap.size F9 := hF9.mono wz
          have nF : b6 ∉ F9 := fun h => by have := hF9.ge _ h; omega
          have nS : w.heap.size ∉ F9 := fun h => by have := hF9.ge _ h; omega
          have nR : w.heap.size + 1 ∉ F9 := fun h => by have := hF9.ge _ h; omega
          have hDL := Lib.hid (Nat.le_trans (delLeft_len s id) hml)
          have hNL := Lib.hid (delNew_len HI.out id)
          have x0 := eO.c 0 _ rfl
          have x1 := eO.c 1 _ rfl
          have x2 := eO.c 2 _ rfl
          have x3 := eO.c 3 _ rfl
          have xf := eO.fr
          clear hsm lt8'
          go_wp2_with fail
          go_region_law
            (first
              | (refine step_append_all _ (by rfl) (.tmp 88) (.tmp 92) 26 (by rfl) w 3 i0 _ 1 8 Tryz.underlying26 hi hz0 hz1 hz2 rfl (by omega) fInt_good _ (delLeft s id) F9 (by rfl) vW hFw v10 (by rfl) (delNew s id) (fInts_Rd o10) (fun y u h => ⟨h, rfl⟩) (by have := hDL.out; have := hNL.out; omega) (by have := hDL.out; have := hNL.out; omega) hbW ?_; intro v' w' F' hv' hF' hb' hO' hs')
              | (go_simp; go_at_call 101; refine (hl7.out _ D1).mono ?_; rintro e w10 ⟨v10, rfl, ⟨F10, o10, f10⟩, hb10⟩; have hbD := D1.then hb10; have x2 := hbD.cell x2; have vW := keepBw hbD fInts_good hv; have hbW := bw0.then hbD; go_wp2_with fail)
              | (go_simp; go_at_call 88; refine (S_l8Sort w' (delLeft s id ++ delNew s id) v' (fInts_Rd hv') (by have := hDL.out; have := hNL.out; simp; omega)).mono ?_; rintro e w11 ⟨v11, rfl, ⟨F11, o11, f11⟩, hb11⟩; obtain ⟨A11, n11, c11, rfl, l11, _⟩ := rSl_open (fInts_Rd o11); replace l11 := Lib.hid l11; have eP := ((eO.bw hbD).only hO' nF).bw hb11; have e2 := eP.c 2 _ rfl; have ef := eP.fr; go_wp2_with fail))
          all_goals
            have sP := ((eS.bw hbD).only hO' nS).bw hb11
            have rP := ((eR.bw hbD).only hO' nR).bw hb11
            have wz1 : z ≤ w'.heap.size := by have := hO'.1; have := hbD.size; omega
            have r1' := keepBw hb11 fItems_good (hO'.keeps fItems_good (keepBw hbD fItems_good r1) (fun c h h2 => by have := hF9.ge c h2; have := lt5' c h; omega))
            have r2' := keepBw hb11 fNodes_good (hO'.keeps fNodes_good (keepBw hbD fNodes_good r2) (fun c h h2 => by have := hF9.ge c h2; have := l23 c (List.mem_append_left _ h); omega))
            have n11' : b6 ∉ F11 := fun h => by have := f11.ge _ h; omega
            have B11 := hb'.then hb11
            obtain ⟨Z, hZ⟩ : ∃ Z, Z = w11.setCell ⟨b6, 2, none⟩ (.slice A11 n11 c11) := ⟨_, rfl⟩
            have oZ : Box Z b6 [.slice A5 n5 c5, .slice A2 m2 c2, .slice A11 n11 c11, .int .i64 s.tests] := by rw [hZ]; exact eP.set (by simp) _
            have sZ : Box Z w.heap.size [.slice A n c, vb, .slice B k9 c4, .int .i64 s.tests] := by rw [hZ]; exact sP.only (only_setCell _ _ _ _) (by simp; omega)
            have rZ : Box Z (w.heap.size + 1) [.slice none 0 0, .slice none 0 0, .slice none 0 0, .int .i64 0] := by rw [hZ]; exact rP.only (only_setCell _ _ _ _) (by simp; omega)
            have u1 : fItems Z (onlyM s.items [id] false) [.slice A5 n5 c5] F5 := by rw [hZ]; exact keepSet fItems_good r1' n1
            have u2 : fNodes Z s.wanted [.slice A2 m2 c2] F2 := by rw [hZ]; exact keepSet fNodes_good r2' n2
            have u3 : fInts Z (sortI (delLeft s id ++ delNew s id)) [.slice A11 n11 c11] F11 := by rw [hZ]; exact keepSet fInts_good o11 n11'
            have BZ : Bw w Z := by rw [hZ]; exact B11.set (by dsimp only; omega) _
            clear x0 x1 x2 x3 xf
            clear e2 ef
            rw [← hZ]
            have HZ2 := Lib.hid hZ
            have x0 := oZ.c 0 _ rfl
            have x1 := oZ.c 1 _ rfl
            have x2 := oZ.c 2 _ rfl
            have x3 := oZ.c 3 _ rfl
            have xf := oZ.fr
            have y0 := sZ.c 0 _ rfl
            have y1 := sZ.c 1 _ rfl
            have y2 := sZ.c 2 _ rfl
            have y3 := sZ.c 3 _ rfl
            have yf := sZ.fr
            have r0 := rZ.c 0 _ rfl
            have r1 := rZ.c 1 _ rfl
            have r2 := rZ.c 2 _ rfl
            have r3 := rZ.c 3 _ rfl
            have rf := rZ.fr
            clear hZ
            go_wp2
            rw [HYR.out]
            refine bodyPost_ret (v := .tuple #[.agg #[.slice A5 n5 c5, .slice A2 m2 c2, .slice A11 n11 c11, .int .i64 (s.tests + (k : Int))], .bool true]) (by simp [results, Tryz.results19, go_sem, r0, r1, r2, r3, x0, x1, x2, x3, hne2, hne5]) rfl ?_
            refine stand_ret (y := ⟨onlyM s.items [id] false, s.wanted, sortI (delLeft s id ++ delNew s id), s.tests + (k : Int)⟩) (F := F5) (G := F2) (H := F11) (keepSet fItems_good u1 n1) (keepSet fNodes_good u2 n2) (keepSet fInts_good u3 n11') ⟨?_, ?_⟩ (by omega) (BZ.set (by dsimp only; omega) _)
            · rw [List.nodup_append, List.nodup_append]
              refine ⟨n5', ⟨(List.nodup_append.1 (List.nodup_append.1 fV.nodup).2.1).1, f11.nodup, fun a ha b hb e => by have := l23 a (List.mem_append_left _ ha); have := f11.ge b hb; omega⟩, fun a ha b hb e => ?_⟩
              rcases List.mem_append.1 hb with hb | hb
              · have := g5 a ha; have := l23 b (List.mem_append_left _ hb); omega
              · have := lt5' a ha; have := f11.ge b hb; omega
            · intro b hb
              rcases List.mem_append.1 hb with hb | hb
              · have := g5 b hb; omega
              · rcases List.mem_append.1 hb with hb | hb
                · have := fV.ge b (List.mem_append_right _ (List.mem_append_left _ hb)); omega
                · have := f11.ge b hb; omega
end Go.Proofs.YtpihighajaeabaaGreat
