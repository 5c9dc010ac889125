/- Draws: standings. -/
import Derived.Test.YtpihighajaeabaaGreatQParts
import Derived.Test.YtpihighajaeabaaGreatQDrawM
import Derived.Test.YtpihighajaeabaaGreatQCompI
import Derived.Test.YtpihighajaeabaaGreatQChangeM
import Derived.Test.YtpihighajaeabaaGreatQOnly
import Derived.Test.YtpihighajaeabaaGreatQStandP
namespace Go.Proofs.YtpihighajaeabaaGreat
open Go.RowKit
set_option linter.unusedVariables false
set_option linter.unusedSimpArgs false
/-- a drawn standing: small, and either valid or without best items -/
def okSt (s : GStanding) : Prop := smallSt s ∧ (isStand s = true ∨ s.best = [])
theorem okSt.len {s : GStanding} (h : okSt s) : s.best.length ≤ 16 := by
  rcases h.2 with h | h
  · exact stand_best_len h
  · rw [h]; simp
theorem okSt.new {l : List GItem} {e : List GNode} (h1 : totItems l ≤ 1048576) (h2 : totNodes e ≤ 1048576) : okSt (newSt l e) := by
  refine ⟨newSt_small h1 h2, ?_⟩
  cases h : areBoth l e with
  | true =>
    rw [newSt_yes h]
    exact .inl (stand_mk (areBoth_items h) (areBoth_expr h) (best_both h).symm ⟨by simp, by simp⟩)
  | false =>
    rw [newSt_no h]
    exact .inr rfl
theorem okSt.ins {s : GStanding} {x : GItem} (h : okSt s) : okSt (insM s x) := by
  refine ⟨insM_small h.1, ?_⟩
  cases k : insOk s x with
  | true => exact .inl (insM_stand k)
  | false => unfold insM; rw [k]; exact h.2
theorem okSt.del {s : GStanding} {id : Int} (h : okSt s) : okSt (delM s id) := by
  refine ⟨delM_small h.1, ?_⟩
  cases k : delOk s id with
  | true => exact .inl (delM_stand k)
  | false => unfold delM; rw [k]; exact h.2
theorem okSt.chg {s : GStanding} {x : GItem} (h : okSt s) : okSt (chgM s x) := by
  refine ⟨chgM_small h.1, ?_⟩
  cases k : chgOk s x with
  | true => unfold chgM; rw [k]; exact h.del.ins.2
  | false => unfold chgM; rw [k]; exact h.2
/-- a standing of the call's own -/
def DS (B : Nat) (W : World) (v : Value) : Prop := ∃ s va vb vc F, v = .agg #[va, vb, vc, .int .i64 s.tests] ∧ fStanding W s [va, vb, vc, .int .i64 s.tests] F ∧ Fresh B F ∧ okSt s
set_option maxRecDepth 100000 in
set_option maxHeartbeats 6400000 in
theorem D_l15Standing (w0 w : World) (p : Nat) (hA : At w0 p w) : Calls Tryz.prog 154 #[.pointer (some ⟨p, 0, none⟩)] w
    (RetD w0 p w (DS w.heap.size)) := by
  have D0 := Dn.start hA
  have hlt := hA.lt
  have D1 := D0.alloc (.cells #[.slice none 0 0, .slice none 0 0, .slice none 0 0, .int .i64 0] 28)
  have bR := Box.new w #[.slice none 0 0, .slice none 0 0, .slice none 0 0, .int .i64 0] 28
  have hz0 : (w.alloc (.cells #[.slice none 0 0, .slice none 0 0, .slice none 0 0, .int .i64 0] 28)).heap.size = w.heap.size + 1 := by simp
  obtain ⟨W, hW⟩ : ∃ W, W = w.alloc (.cells #[.slice none 0 0, .slice none 0 0, .slice none 0 0, .int .i64 0] 28) := ⟨_, rfl⟩
  rw [← hW] at D1 bR hz0
  have HW := Lib.hid hW
  have HZ0 := Lib.hid hz0
  clear hW
  have hp : p < W.heap.size := by omega
  clear hz0
  go_enter Tryz.func154, Tryz.ntmps154
  have hcall := D_l2Items w0 W p D1.at' 6 (by omega) (by omega)
  go_wp2_with fail
  rw [← HW.out]
  refine hcall.mono ?_
  rintro e w2 ⟨va, rfl, ha, hO2, hA2⟩
  clear hcall
  replace ha := ha.gi (Nat.le_refl _) (by omega)
  have D2 := D1.call hO2 hA2
  have bR2 := bR.only hO2 (by simp; omega)
  have hcall := D_l5Expression w0 w2 p hA2
  go_wp2_with fail
  refine hcall.mono ?_
  rintro e w3 ⟨ve, rfl, he, hO3, hA3⟩
  clear hcall
  replace ha := hO3.read rItems_good hp ha
  replace he := he.ge (B' := W.heap.size) hO2.1
  have D3 := D2.call hO3 hA3
  have bR3 := bR2.only hO3 (by simp; omega)
  obtain ⟨l, hl, gl⟩ := ha.rd rItems_good
  obtain ⟨q, hq, gq⟩ := he.rd rNodes_good
  have t1 : totItems l ≤ 1048576 := by
    have h2 := sum_le (fun x : GItem => x.vals.length) 4 (l := l) (fun x hx => (gl.2 x hx).2.1)
    have h1 := gl.1
    unfold totItems; omega
  have t2 : totNodes q ≤ 1048576 := gNodes_tot (by omega) gq
  have kN := S_NewStanding w3 l q va ve hl hq t1 t2
  have O4 := okSt.new t1 t2
  obtain ⟨s, hs⟩ : ∃ s, s = newSt l q := ⟨_, rfl⟩
  obtain ⟨t, ht⟩ : ∃ t, t = areBoth l q := ⟨_, rfl⟩
  rw [← hs, ← ht] at kN
  rw [← hs] at O4
  clear hs ht t1 t2 gl gq hl hq ha he
  have hcall := kN
  go_wp2_with fail
  refine hcall.mono ?_
  rintro e w4 ⟨u4, rfl, ⟨cs, rfl, F, o4, f4⟩, hb4⟩
  clear hcall
  clear kN
  obtain ⟨A1, c1, A2, c2, A3, c3, rfl⟩ := fStanding_shape o4
  have f4' : Fresh W.heap.size F := f4.mono (by have := hO2.1; have := hO3.1; omega)
  have hFlt := (fStanding_good (B := 0)).lt o4
  have D4 := D3.bw hb4
  have bR4 := bR3.bw hb4
  obtain ⟨n1, hn1⟩ : ∃ n, n = s.items.length := ⟨_, rfl⟩
  obtain ⟨n2, hn2⟩ : ∃ n, n = s.wanted.length := ⟨_, rfl⟩
  obtain ⟨n3, hn3⟩ : ∃ n, n = s.best.length := ⟨_, rfl⟩
  rw [← hn1, ← hn2, ← hn3] at o4 ⊢
  clear hn1 hn2 hn3
  have hAl := (Bw.refl w4).alloc (.cells #[.slice A1 n1 c1, .slice A2 n2 c2, .slice A3 n3 c3, .int .i64 s.tests] 28)
  have bX := Box.new w4 #[.slice A1 n1 c1, .slice A2 n2 c2, .slice A3 n3 c3, .int .i64 s.tests] 28
  have D5 := D4.bw hAl
  have bR5 := bR4.bw hAl
  have o5 := keepBw hAl fStanding_good o4
  obtain ⟨b, hb⟩ : ∃ b, b = w4.heap.size := ⟨_, rfl⟩
  obtain ⟨X, hX⟩ : ∃ X, X = w4.alloc (.cells #[.slice A1 n1 c1, .slice A2 n2 c2, .slice A3 n3 c3, .int .i64 s.tests] 28) := ⟨_, rfl⟩
  rw [← hX] at D5 bX bR5 o5
  rw [← hb] at bX
  have nbF : b ∉ F := fun h => by have := hFlt _ h; omega
  have hbp : b ≠ p := by have := hO2.1; have := hO3.1; have := hb4.size; omega
  have hbW : W.heap.size ≤ b := by have := hO2.1; have := hO3.1; have := hb4.size; omega
  have HX := Lib.hid hX
  have HBB := Lib.hid hb
  have hcall := D_l1Below w0 X p D5.at' 5 (by omega) (by omega)
  clear hX hb o4 f4 hFlt hAl D1 D2 D3 D4 bR bR2 bR3 bR4 hO2 hO3 hA2 hA3 hb4
  go_wp2_with fail
  rw [← HX.out]
  refine hcall.mono ?_
  rintro e w5 ⟨v5, rfl, ⟨N, rfl, N1, N2⟩, hO5, hA5⟩
  have D6 := D5.call hO5 hA5
  have bX6 := bX.only hO5 (by simpa using hbp)
  have bR6 := bR5.only hO5 (by simp; omega)
  have o6 := D5.keep hO5 fStanding_good o5 (fun c hc => by have := f4'.ge c hc; have := HZ0.out; omega)
  rw [← HBB.out]
  clear hcall hO5 hA5 D5 bX bR5 o5 D0 hA
  obtain ⟨m, rfl⟩ : ∃ m : Nat, N = (m : Int) := ⟨N.toNat, by omega⟩
  go_wp2
  go_loopg [5, 6] m (fun g i y6 w' => ∃ (s : GStanding) (va vb vc : Value) (F : List Nat), g ≤ m ∧ i = .int .i64 (g : Nat) ∧ Box w' b [va, vb, vc, .int .i64 s.tests] ∧ fStanding w' s [va, vb, vc, .int .i64 s.tests] F ∧ Fresh W.heap.size F ∧ b ∉ F ∧ okSt s ∧ Dn w0 w p w' ∧ Box w' w.heap.size [.slice none 0 0, .slice none 0 0, .slice none 0 0, .int .i64 0])
  case atStart => exact ⟨s, _, _, _, F, by omega, rfl, bX6, o6, f4', nbF, O4, D6, bR6⟩
  case round =>
    obtain ⟨s, va, vb, vc, F, hk, rfl, bX, o, f, nbF, O, D, bR⟩ := hrel
    skip
    obtain ⟨A1, c1, A2, c2, A3, c3, eS⟩ := fStanding_shape o
    injection eS with eS1 eS
    injection eS with eS2 eS
    injection eS with eS3 eS
    subst eS1 eS2 eS3
    clear eS
    obtain ⟨n1, hn1⟩ : ∃ n, n = s.items.length := ⟨_, rfl⟩
    obtain ⟨n2, hn2⟩ : ∃ n, n = s.wanted.length := ⟨_, rfl⟩
    obtain ⟨n3, hn3⟩ : ∃ n, n = s.best.length := ⟨_, rfl⟩
    rw [← hn1, ← hn2, ← hn3] at o bX
    clear hn1 hn2 hn3
    have hFlt := (fStanding_good (B := 0)).lt o
    have hbz := bX.lt
    by_cases hg : gk = 0
    · subst hg
      have hne1 : b ≠ w.heap.size := by have := HZ0.out; omega
      have hne2 : w.heap.size ≠ b := by omega
      have f9 : Fresh w.heap.size F := f.mono (by have := HZ0.out; omega)
      have nF : w.heap.size ∉ F := fun h => by have := f.ge _ h; have := HZ0.out; omega
      have x0 := bX.c 0 _ rfl
      have x1 := bX.c 1 _ rfl
      have x2 := bX.c 2 _ rfl
      have x3 := bX.c 3 _ rfl
      have xf := bX.fr
      have r0 := bR.c 0 _ rfl
      have r1 := bR.c 1 _ rfl
      have r2 := bR.c 2 _ rfl
      have r3 := bR.c 3 _ rfl
      have rf := bR.fr
      go_wp2
      refine bodyPost_ret (v := .agg #[(.slice A1 n1 c1), (.slice A2 n2 c2), (.slice A3 n3 c3), .int .i64 s.tests]) (by simp [results, Tryz.results154, go_sem, r0, r1, r2, r3, hne1, hne2]) rfl ?_
      exact ((((D.set (Nat.le_refl _) _).set (Nat.le_refl _) _).set (Nat.le_refl _) _).set (Nat.le_refl _) _).ret ⟨s, (.slice A1 n1 c1), (.slice A2 n2 c2), (.slice A3 n3 c3), F, rfl, keepSet4 fStanding_good o nF, f9, O⟩
    · have i0 : ((gk : Nat) : Int) > 0 := by omega
      have hAl := (Bw.refl wr).alloc (.cells #[(.slice A1 n1 c1), (.slice A2 n2 c2), (.slice A3 n3 c3), .int .i64 s.tests] 28)
      have b6 := Box.new wr #[(.slice A1 n1 c1), (.slice A2 n2 c2), (.slice A3 n3 c3), .int .i64 s.tests] 28
      have D1 := D.bw hAl
      have bX1 := bX.bw hAl
      have bR1 := bR.bw hAl
      have o1 := keepBw hAl fStanding_good o
      obtain ⟨b', hb'⟩ : ∃ b', b' = wr.heap.size := ⟨_, rfl⟩
      obtain ⟨Y, hY⟩ : ∃ Y, Y = wr.alloc (.cells #[(.slice A1 n1 c1), (.slice A2 n2 c2), (.slice A3 n3 c3), .int .i64 s.tests] 28) := ⟨_, rfl⟩
      rw [← hY] at D1 bX1 bR1 o1 b6
      rw [← hb'] at b6
      have HY := Lib.hid hY
      have HB' := Lib.hid hb'
      have nb6 : b' ∉ F := fun h => by have := hFlt _ h; omega
      have hbb : b' ≠ b := by omega
      have hb'p : b' ≠ p := by omega
      have hwb : w.heap.size < b' := by have := HZ0.out; omega
      have hwb2 : w.heap.size < b := by have := HZ0.out; omega
      have hcall := D_l1Below w0 Y p D1.at' 3 (by omega) (by omega)
      clear hY hb' hAl
      have x0 := bX.c 0 _ rfl
      have x1 := bX.c 1 _ rfl
      have x2 := bX.c 2 _ rfl
      have x3 := bX.c 3 _ rfl
      have xf := bX.fr
      go_wp2_with fail
      rw [← HY.out]
      refine hcall.mono ?_
      rintro e w7 ⟨v7, rfl, ⟨sw, rfl, s1, s2⟩, hO7, hA7⟩
      have D7 := D1.call hO7 hA7
      have bX7 := bX1.only hO7 (by simpa using hbp)
      have bR7 := bR1.only hO7 (by simp; omega)
      have b7 := b6.only hO7 (by simpa using hb'p)
      have o7 := D1.keep hO7 fStanding_good o1 (fun c hc => by have := f.ge c hc; have := HZ0.out; omega)
      rw [← HB'.out]
      clear hcall hO7 hA7 D1 bX1 bR1 o1 b6 x0 x1 x2 x3 xf bX bR o D hFlt hbz
      by_cases h0 : sw = 0
      · subst h0
        have AD : Bw w7 w7.drew := (Bw.refl w7).drew
        have D8 := D7.bw AD
        have bX8 := bX7.bw AD
        have bR8 := bR7.bw AD
        have b8 := b7.bw AD
        have o8 := keepBw AD fStanding_good o7
        have hcall := D_l1Below w0 w7.drew p D8.at' 12 (by omega) (by omega)
        have x0 := bX8.c 0 _ rfl
        have x1 := bX8.c 1 _ rfl
        have x2 := bX8.c 2 _ rfl
        have x3 := bX8.c 3 _ rfl
        have xf := bX8.fr
        clear D7 bX7 bR7 b7 o7
        go_wp2_with fail
        refine wp_region_held_drew (S := (fun w' => w'.cell? ⟨b, 0, none⟩ = some (.slice A1 n1 c1) ∧ w'.cell? ⟨b, 1, none⟩ = some (.slice A2 n2 c2) ∧ w'.cell? ⟨b, 2, none⟩ = some (.slice A3 n3 c3) ∧ w'.cell? ⟨b, 3, none⟩ = some (.int .i64 s.tests))) (by kernel_rfl) ?_ (fun hHeld => ?_)
        · exact ⟨x0, x1, x2, x3⟩
        refine wpAnyH_take (i := 0) (oi := _) (v := ?_) rfl (by kernel_rfl) (by kernel_rfl) (by kernel_rfl) (fun _ _ _ h => h) (Or.inl ⟨by rfl, ?_⟩) (by assumption) ?_
        rotate_left 1
        · (intro wS hSw; (try dsimp only at hSw); go_simp; try with_reducible rfl)
        try simp only [Act.put, List.getElem_toArray, List.getElem_cons_zero, List.getElem_cons_succ, List.setIfInBounds_toArray, List.set_cons_zero, List.set_cons_succ]
        refine wpAnyH_take (i := 1) (oi := _) (v := ?_) rfl (by kernel_rfl) (by kernel_rfl) (by kernel_rfl) (fun _ _ _ h => h) (Or.inl ⟨by rfl, ?_⟩) (by assumption) ?_
        rotate_left 1
        · (intro wS hSw; (try dsimp only at hSw); go_simp; try with_reducible rfl)
        try simp only [Act.put, List.getElem_toArray, List.getElem_cons_zero, List.getElem_cons_succ, List.setIfInBounds_toArray, List.set_cons_zero, List.set_cons_succ]
        refine wpAnyH_take (i := 2) (oi := _) (v := ?_) rfl (by kernel_rfl) (by kernel_rfl) (by kernel_rfl) (fun _ _ _ h => h) (Or.inl ⟨by rfl, ?_⟩) (by assumption) ?_
        rotate_left 1
        · (intro wS hSw; (try dsimp only at hSw); go_simp; try with_reducible rfl)
        try simp only [Act.put, List.getElem_toArray, List.getElem_cons_zero, List.getElem_cons_succ, List.setIfInBounds_toArray, List.set_cons_zero, List.set_cons_succ]
        refine wpAnyH_ready (rs := [3]) (by kernel_rfl) (by simp) (AllReadyH.cons (o := _) rfl (fun K hK => ?_) AllReadyH.nil)
        go_simp
        refine hcall.mono ?_
        rintro e w9 ⟨v9, rfl, ⟨id, rfl, d1, d2⟩, hO9, hA9⟩
        have D9 := D8.call hO9 hA9
        have bX9 := bX8.only hO9 (by simpa using hbp)
        have bR9 := bR8.only hO9 (by simp; omega)
        have b9 := b8.only hO9 (by simpa using hb'p)
        have o9 := D8.keep hO9 fStanding_good o8 (fun c hc => by (have := f.ge c hc; have := HZ0.out; omega))
        refine hK.out _ _ ⟨bX9.c 0 _ rfl, bX9.c 1 _ rfl, bX9.c 2 _ rfl, bX9.c 3 _ rfl⟩ (fun hHeld => ?_)
        clear hK K
        try simp only [Act.put, List.getElem_toArray, List.getElem_cons_zero, List.getElem_cons_succ, List.setIfInBounds_toArray, List.set_cons_zero, List.set_cons_succ]
        refine wpAnyH_ready (rs := [4]) (by kernel_rfl) (by simp) (AllReadyH.cons (o := _) rfl (fun K hK => ?_) AllReadyH.nil)
        go_simp
        refine (D_l2Item w0 _ p hA9 id 4 (by omega) (by omega)).mono ?_
        rintro e w10 ⟨v10, rfl, ⟨xi, ui, Fi, rfl, oi, fi, qi⟩, hO10, hA10⟩
        clear qi
        have D10 := D9.call hO10 hA10
        have bX10 := bX9.only hO10 (by simpa using hbp)
        have bR10 := bR9.only hO10 (by simp; omega)
        have b10 := b9.only hO10 (by simpa using hb'p)
        have o10 := D9.keep hO10 fStanding_good o9 (fun c hc => by (have := f.ge c hc; have := HZ0.out; omega))
        refine hK.out _ _ ⟨bX10.c 0 _ rfl, bX10.c 1 _ rfl, bX10.c 2 _ rfl, bX10.c 3 _ rfl⟩ (fun hHeld => ?_)
        clear hK K
        try simp only [Act.put, List.getElem_toArray, List.getElem_cons_zero, List.getElem_cons_succ, List.setIfInBounds_toArray, List.set_cons_zero, List.set_cons_succ]
        refine wpAnyH_ready (rs := [5]) (by kernel_rfl) (by simp) (AllReadyH.cons (o := _) rfl (fun K hK => ?_) AllReadyH.nil)
        go_simp
        have R := fStanding_Rds o10
        refine (S_InsertItem _ s xi _ _ _ ui R.1 R.2.1 R.2.2.1 (fInts_Rd oi) O.1.1 O.1.2.1 O.1.2.2).mono ?_
        rintro e w11 ⟨v11, rfl, ⟨cs, rfl, F2, o11, f11⟩, hb11⟩
        have O11 := O.ins (x := xi)
        obtain ⟨s2, hs2⟩ : ∃ s2, s2 = insM s xi := ⟨_, rfl⟩
        obtain ⟨ok2, hok2⟩ : ∃ b, b = insOk s xi := ⟨_, rfl⟩
        rw [← hs2] at o11 O11
        rw [← hok2]
        clear hs2 hok2
        have D11 := D10.bw hb11
        have bX11 := bX10.bw hb11
        have bR11 := bR10.bw hb11
        have b11 := b10.bw hb11
        obtain ⟨B1, e1, B2, e2, B3, e3, rfl⟩ := fStanding_shape o11
        refine hK.out _ _ ⟨bX11.c 0 _ rfl, bX11.c 1 _ rfl, bX11.c 2 _ rfl, bX11.c 3 _ rfl⟩ (fun hHeld => ?_)
        clear hK K
        try simp only [Act.put, List.getElem_toArray, List.getElem_cons_zero, List.getElem_cons_succ, List.setIfInBounds_toArray, List.set_cons_zero, List.set_cons_succ]
        refine wpAnyH_take (i := 6) (oi := _) (v := ?_) rfl (by kernel_rfl) (by kernel_rfl) (by kernel_rfl) (fun _ _ _ h => h) (Or.inl ⟨by rfl, ?_⟩) (by assumption) ?_
        rotate_left 1
        · (intro wS hSw; (try dsimp only at hSw); go_simp; try with_reducible rfl)
        try simp only [Act.put, List.getElem_toArray, List.getElem_cons_zero, List.getElem_cons_succ, List.setIfInBounds_toArray, List.set_cons_zero, List.set_cons_succ]
        refine wpAnyH_take (i := 7) (oi := _) (v := ?_) rfl (by kernel_rfl) (by kernel_rfl) (by kernel_rfl) (fun _ _ _ h => h) (Or.inl ⟨by rfl, ?_⟩) (by assumption) ?_
        rotate_left 1
        · (intro wS hSw; (try dsimp only at hSw); go_simp; try with_reducible rfl)
        try simp only [Act.put, List.getElem_toArray, List.getElem_cons_zero, List.getElem_cons_succ, List.setIfInBounds_toArray, List.set_cons_zero, List.set_cons_succ]
        refine wpAnyH_take (i := 8) (oi := _) (v := ?_) rfl (by kernel_rfl) (by kernel_rfl) (by kernel_rfl) (fun _ _ _ h => h) (Or.inl ⟨by rfl, ?_⟩) (by assumption) ?_
        rotate_left 1
        · (intro wS hSw; (try dsimp only at hSw); go_simp; try with_reducible rfl)
        try simp only [Act.put, List.getElem_toArray, List.getElem_cons_zero, List.getElem_cons_succ, List.setIfInBounds_toArray, List.set_cons_zero, List.set_cons_succ]
        obtain ⟨q1, hq1⟩ : ∃ n, n = s2.items.length := ⟨_, rfl⟩
        obtain ⟨q2, hq2⟩ : ∃ n, n = s2.wanted.length := ⟨_, rfl⟩
        obtain ⟨q3, hq3⟩ : ∃ n, n = s2.best.length := ⟨_, rfl⟩
        rw [← hq1, ← hq2, ← hq3] at o11 ⊢
        clear hq1 hq2 hq3
        have hbz := bX10.lt
        have hbz' := b10.lt
        have nb2 : b ∉ F2 := fun h => by have := f11.ge _ h; omega
        have nb3 : b' ∉ F2 := fun h => by have := f11.ge _ h; omega
        have f13 : Fresh W.heap.size F2 := f11.mono (by have := HZ0.out; omega)
        refine wpAnyH_ready (rs := [9]) (by kernel_rfl) (by simp) (AllReadyH.cons (o := _) rfl (fun K hK => ?_) AllReadyH.nil)
        have y0 := b11.c 0 _ rfl
        have y1 := b11.c 1 _ rfl
        have y2 := b11.c 2 _ rfl
        have y3 := b11.c 3 _ rfl
        have yf := b11.fr
        go_simp
        clear y0 y1 y2 y3 yf
        have b12 := (((b11.set (j := 0) (by simp) (.slice B1 q1 e1)).set (j := 1) (by simp) (.slice B2 q2 e2)).set (j := 2) (by simp) (.slice B3 q3 e3)).set (j := 3) (by simp) (.int .i64 s2.tests)
        have bX12 := (((bX11.only (only_setCell b' 0 w11 (.slice B1 q1 e1)) (by simpa using hbb.symm)).only (only_setCell b' 1 _ (.slice B2 q2 e2)) (by simpa using hbb.symm)).only (only_setCell b' 2 _ (.slice B3 q3 e3)) (by simpa using hbb.symm)).only (only_setCell b' 3 _ (.int .i64 s2.tests)) (by simpa using hbb.symm)
        have bR12 := (((bR11.only (only_setCell b' 0 w11 (.slice B1 q1 e1)) (by simp; omega)).only (only_setCell b' 1 _ (.slice B2 q2 e2)) (by simp; omega)).only (only_setCell b' 2 _ (.slice B3 q3 e3)) (by simp; omega)).only (only_setCell b' 3 _ (.int .i64 s2.tests)) (by simp; omega)
        have D12 := (((D11.set (b := b') (o := 0) (by omega) (.slice B1 q1 e1)).set (b := b') (o := 1) (by omega) (.slice B2 q2 e2)).set (b := b') (o := 2) (by omega) (.slice B3 q3 e3)).set (b := b') (o := 3) (by omega) (.int .i64 s2.tests)
        have o12 := keepSet (b := b') (o := 3) (u := .int .i64 s2.tests) fStanding_good (keepSet (b := b') (o := 2) (u := .slice B3 q3 e3) fStanding_good (keepSet (b := b') (o := 1) (u := .slice B2 q2 e2) fStanding_good (keepSet (b := b') (o := 0) (u := .slice B1 q1 e1) fStanding_good o11 nb3) nb3) nb3) nb3
        obtain ⟨Z, hZ⟩ : ∃ Z, Z = (((w11.setCell ⟨b', 0, none⟩ (.slice B1 q1 e1)).setCell ⟨b', 1, none⟩ (.slice B2 q2 e2)).setCell ⟨b', 2, none⟩ (.slice B3 q3 e3)).setCell ⟨b', 3, none⟩ (.int .i64 s2.tests) := ⟨_, rfl⟩
        rw [← hZ] at b12 bX12 bR12 D12 o12 ⊢
        have HZ := Lib.hid hZ
        clear hZ
        refine hK.out _ _ ⟨bX12.c 0 _ rfl, bX12.c 1 _ rfl, bX12.c 2 _ rfl, bX12.c 3 _ rfl⟩ (fun hHeld => ?_)
        clear hK K hHeld
        try simp only [Act.put, List.getElem_toArray, List.getElem_cons_zero, List.getElem_cons_succ, List.setIfInBounds_toArray, List.set_cons_zero, List.set_cons_succ]
        refine wpAnyH_done (by kernel_rfl) ?_ _
        have x0 := bX12.c 0 _ rfl
        have x1 := bX12.c 1 _ rfl
        have x2 := bX12.c 2 _ rfl
        have x3 := bX12.c 3 _ rfl
        have xf := bX12.fr
        have y0 := b12.c 0 _ rfl
        have y1 := b12.c 1 _ rfl
        have y2 := b12.c 2 _ rfl
        have y3 := b12.c 3 _ rfl
        have yf := b12.fr
        clear bX11 bX10 b10 b11 D11 D10 o11 f11 bR11 bR10
        go_wp2
        clear x0 x1 x2 x3 xf
        clear y0 y1 y2 y3 yf
        have b13 := (((bX12.set (j := 0) (by simp) (.slice B1 q1 e1)).set (j := 1) (by simp) (.slice B2 q2 e2)).set (j := 2) (by simp) (.slice B3 q3 e3)).set (j := 3) (by simp) (.int .i64 s2.tests)
        have bR13 := (((bR12.only (only_setCell b 0 Z (.slice B1 q1 e1)) (by simp; omega)).only (only_setCell b 1 _ (.slice B2 q2 e2)) (by simp; omega)).only (only_setCell b 2 _ (.slice B3 q3 e3)) (by simp; omega)).only (only_setCell b 3 _ (.int .i64 s2.tests)) (by simp; omega)
        have D13 := (((D12.set (b := b) (o := 0) (by omega) (.slice B1 q1 e1)).set (b := b) (o := 1) (by omega) (.slice B2 q2 e2)).set (b := b) (o := 2) (by omega) (.slice B3 q3 e3)).set (b := b) (o := 3) (by omega) (.int .i64 s2.tests)
        have o13 := keepSet (b := b) (o := 3) (u := .int .i64 s2.tests) fStanding_good (keepSet (b := b) (o := 2) (u := .slice B3 q3 e3) fStanding_good (keepSet (b := b) (o := 1) (u := .slice B2 q2 e2) fStanding_good (keepSet (b := b) (o := 0) (u := .slice B1 q1 e1) fStanding_good o12 nb2) nb2) nb2) nb2
        clear bX12 bR12 D12 o12 b12
        go_roundg (gk - 1)
        case measure => omega
        case rel => exact ⟨s2, _, _, _, F2, by omega, by go_num, b13, o13, f13, nb2, O11, D13, bR13⟩
      · by_cases h1 : sw = 1
        · subst h1
          clear h0
          have AD : Bw w7 w7.drew := (Bw.refl w7).drew
          have D8 := D7.bw AD
          have bX8 := bX7.bw AD
          have bR8 := bR7.bw AD
          have b8 := b7.bw AD
          have o8 := keepBw AD fStanding_good o7
          have hcall := D_l1Below w0 w7.drew p D8.at' 9 (by omega) (by omega)
          have x0 := bX8.c 0 _ rfl
          have x1 := bX8.c 1 _ rfl
          have x2 := bX8.c 2 _ rfl
          have x3 := bX8.c 3 _ rfl
          have xf := bX8.fr
          clear D7 bX7 bR7 b7 o7
          go_wp2_with fail
          refine wp_region_held_drew (S := (fun w' => w'.cell? ⟨b, 0, none⟩ = some (.slice A1 n1 c1) ∧ w'.cell? ⟨b, 1, none⟩ = some (.slice A2 n2 c2) ∧ w'.cell? ⟨b, 2, none⟩ = some (.slice A3 n3 c3) ∧ w'.cell? ⟨b, 3, none⟩ = some (.int .i64 s.tests))) (by kernel_rfl) ?_ (fun hHeld => ?_)
          · exact ⟨x0, x1, x2, x3⟩
          refine wpAnyH_take (i := 0) (oi := _) (v := ?_) rfl (by kernel_rfl) (by kernel_rfl) (by kernel_rfl) (fun _ _ _ h => h) (Or.inl ⟨by rfl, ?_⟩) (by assumption) ?_
          rotate_left 1
          · (intro wS hSw; (try dsimp only at hSw); go_simp; try with_reducible rfl)
          try simp only [Act.put, List.getElem_toArray, List.getElem_cons_zero, List.getElem_cons_succ, List.setIfInBounds_toArray, List.set_cons_zero, List.set_cons_succ]
          refine wpAnyH_take (i := 1) (oi := _) (v := ?_) rfl (by kernel_rfl) (by kernel_rfl) (by kernel_rfl) (fun _ _ _ h => h) (Or.inl ⟨by rfl, ?_⟩) (by assumption) ?_
          rotate_left 1
          · (intro wS hSw; (try dsimp only at hSw); go_simp; try with_reducible rfl)
          try simp only [Act.put, List.getElem_toArray, List.getElem_cons_zero, List.getElem_cons_succ, List.setIfInBounds_toArray, List.set_cons_zero, List.set_cons_succ]
          refine wpAnyH_ready (rs := [2]) (by kernel_rfl) (by simp) (AllReadyH.cons (o := _) rfl (fun K hK => ?_) AllReadyH.nil)
          go_simp
          refine hcall.mono ?_
          rintro e w10 ⟨v9, rfl, ⟨id, rfl, d1, d2⟩, hO9, hA9⟩
          have D10 := D8.call hO9 hA9
          have bX10 := bX8.only hO9 (by simpa using hbp)
          have bR10 := bR8.only hO9 (by simp; omega)
          have b10 := b8.only hO9 (by simpa using hb'p)
          have o10 := D8.keep hO9 fStanding_good o8 (fun c hc => by (have := f.ge c hc; have := HZ0.out; omega))
          refine hK.out _ _ ⟨bX10.c 0 _ rfl, bX10.c 1 _ rfl, bX10.c 2 _ rfl, bX10.c 3 _ rfl⟩ (fun hHeld => ?_)
          clear hK K
          try simp only [Act.put, List.getElem_toArray, List.getElem_cons_zero, List.getElem_cons_succ, List.setIfInBounds_toArray, List.set_cons_zero, List.set_cons_succ]
          refine wpAnyH_ready (rs := [3]) (by kernel_rfl) (by simp) (AllReadyH.cons (o := _) rfl (fun K hK => ?_) AllReadyH.nil)
          go_simp
          have R := fStanding_Rds o10
          refine (S_DeleteItem _ s id _ _ _ R.1 R.2.1 R.2.2.1 O.1.1 O.1.2.1 O.1.2.2).mono ?_
          rintro e w11 ⟨v11, rfl, ⟨cs, rfl, F2, o11, f11⟩, hb11⟩
          have O11 := O.del (id := id)
          obtain ⟨s2, hs2⟩ : ∃ s2, s2 = delM s id := ⟨_, rfl⟩
          obtain ⟨ok2, hok2⟩ : ∃ b, b = delOk s id := ⟨_, rfl⟩
          rw [← hs2] at o11 O11
          rw [← hok2]
          clear hs2 hok2
          have D11 := D10.bw hb11
          have bX11 := bX10.bw hb11
          have bR11 := bR10.bw hb11
          have b11 := b10.bw hb11
          obtain ⟨B1, e1, B2, e2, B3, e3, rfl⟩ := fStanding_shape o11
          refine hK.out _ _ ⟨bX11.c 0 _ rfl, bX11.c 1 _ rfl, bX11.c 2 _ rfl, bX11.c 3 _ rfl⟩ (fun hHeld => ?_)
          clear hK K
          try simp only [Act.put, List.getElem_toArray, List.getElem_cons_zero, List.getElem_cons_succ, List.setIfInBounds_toArray, List.set_cons_zero, List.set_cons_succ]
          refine wpAnyH_take (i := 4) (oi := _) (v := ?_) rfl (by kernel_rfl) (by kernel_rfl) (by kernel_rfl) (fun _ _ _ h => h) (Or.inl ⟨by rfl, ?_⟩) (by assumption) ?_
          rotate_left 1
          · (intro wS hSw; (try dsimp only at hSw); go_simp; try with_reducible rfl)
          try simp only [Act.put, List.getElem_toArray, List.getElem_cons_zero, List.getElem_cons_succ, List.setIfInBounds_toArray, List.set_cons_zero, List.set_cons_succ]
          refine wpAnyH_take (i := 5) (oi := _) (v := ?_) rfl (by kernel_rfl) (by kernel_rfl) (by kernel_rfl) (fun _ _ _ h => h) (Or.inl ⟨by rfl, ?_⟩) (by assumption) ?_
          rotate_left 1
          · (intro wS hSw; (try dsimp only at hSw); go_simp; try with_reducible rfl)
          try simp only [Act.put, List.getElem_toArray, List.getElem_cons_zero, List.getElem_cons_succ, List.setIfInBounds_toArray, List.set_cons_zero, List.set_cons_succ]
          refine wpAnyH_take (i := 6) (oi := _) (v := ?_) rfl (by kernel_rfl) (by kernel_rfl) (by kernel_rfl) (fun _ _ _ h => h) (Or.inl ⟨by rfl, ?_⟩) (by assumption) ?_
          rotate_left 1
          · (intro wS hSw; (try dsimp only at hSw); go_simp; try with_reducible rfl)
          try simp only [Act.put, List.getElem_toArray, List.getElem_cons_zero, List.getElem_cons_succ, List.setIfInBounds_toArray, List.set_cons_zero, List.set_cons_succ]
          obtain ⟨q1, hq1⟩ : ∃ n, n = s2.items.length := ⟨_, rfl⟩
          obtain ⟨q2, hq2⟩ : ∃ n, n = s2.wanted.length := ⟨_, rfl⟩
          obtain ⟨q3, hq3⟩ : ∃ n, n = s2.best.length := ⟨_, rfl⟩
          rw [← hq1, ← hq2, ← hq3] at o11 ⊢
          clear hq1 hq2 hq3
          have hbz := bX10.lt
          have hbz' := b10.lt
          have nb2 : b ∉ F2 := fun h => by have := f11.ge _ h; omega
          have nb3 : b' ∉ F2 := fun h => by have := f11.ge _ h; omega
          have f13 : Fresh W.heap.size F2 := f11.mono (by have := HZ0.out; omega)
          refine wpAnyH_ready (rs := [7]) (by kernel_rfl) (by simp) (AllReadyH.cons (o := _) rfl (fun K hK => ?_) AllReadyH.nil)
          have y0 := b11.c 0 _ rfl
          have y1 := b11.c 1 _ rfl
          have y2 := b11.c 2 _ rfl
          have y3 := b11.c 3 _ rfl
          have yf := b11.fr
          go_simp
          clear y0 y1 y2 y3 yf
          have b12 := (((b11.set (j := 0) (by simp) (.slice B1 q1 e1)).set (j := 1) (by simp) (.slice B2 q2 e2)).set (j := 2) (by simp) (.slice B3 q3 e3)).set (j := 3) (by simp) (.int .i64 s2.tests)
          have bX12 := (((bX11.only (only_setCell b' 0 w11 (.slice B1 q1 e1)) (by simpa using hbb.symm)).only (only_setCell b' 1 _ (.slice B2 q2 e2)) (by simpa using hbb.symm)).only (only_setCell b' 2 _ (.slice B3 q3 e3)) (by simpa using hbb.symm)).only (only_setCell b' 3 _ (.int .i64 s2.tests)) (by simpa using hbb.symm)
          have bR12 := (((bR11.only (only_setCell b' 0 w11 (.slice B1 q1 e1)) (by simp; omega)).only (only_setCell b' 1 _ (.slice B2 q2 e2)) (by simp; omega)).only (only_setCell b' 2 _ (.slice B3 q3 e3)) (by simp; omega)).only (only_setCell b' 3 _ (.int .i64 s2.tests)) (by simp; omega)
          have D12 := (((D11.set (b := b') (o := 0) (by omega) (.slice B1 q1 e1)).set (b := b') (o := 1) (by omega) (.slice B2 q2 e2)).set (b := b') (o := 2) (by omega) (.slice B3 q3 e3)).set (b := b') (o := 3) (by omega) (.int .i64 s2.tests)
          have o12 := keepSet (b := b') (o := 3) (u := .int .i64 s2.tests) fStanding_good (keepSet (b := b') (o := 2) (u := .slice B3 q3 e3) fStanding_good (keepSet (b := b') (o := 1) (u := .slice B2 q2 e2) fStanding_good (keepSet (b := b') (o := 0) (u := .slice B1 q1 e1) fStanding_good o11 nb3) nb3) nb3) nb3
          obtain ⟨Z, hZ⟩ : ∃ Z, Z = (((w11.setCell ⟨b', 0, none⟩ (.slice B1 q1 e1)).setCell ⟨b', 1, none⟩ (.slice B2 q2 e2)).setCell ⟨b', 2, none⟩ (.slice B3 q3 e3)).setCell ⟨b', 3, none⟩ (.int .i64 s2.tests) := ⟨_, rfl⟩
          rw [← hZ] at b12 bX12 bR12 D12 o12 ⊢
          have HZ := Lib.hid hZ
          clear hZ
          refine hK.out _ _ ⟨bX12.c 0 _ rfl, bX12.c 1 _ rfl, bX12.c 2 _ rfl, bX12.c 3 _ rfl⟩ (fun hHeld => ?_)
          clear hK K hHeld
          try simp only [Act.put, List.getElem_toArray, List.getElem_cons_zero, List.getElem_cons_succ, List.setIfInBounds_toArray, List.set_cons_zero, List.set_cons_succ]
          refine wpAnyH_done (by kernel_rfl) ?_ _
          have x0 := bX12.c 0 _ rfl
          have x1 := bX12.c 1 _ rfl
          have x2 := bX12.c 2 _ rfl
          have x3 := bX12.c 3 _ rfl
          have xf := bX12.fr
          have y0 := b12.c 0 _ rfl
          have y1 := b12.c 1 _ rfl
          have y2 := b12.c 2 _ rfl
          have y3 := b12.c 3 _ rfl
          have yf := b12.fr
          clear bX11 bX10 b10 b11 D11 D10 o11 f11 bR11 bR10
          go_wp2
          clear x0 x1 x2 x3 xf
          clear y0 y1 y2 y3 yf
          have b13 := (((bX12.set (j := 0) (by simp) (.slice B1 q1 e1)).set (j := 1) (by simp) (.slice B2 q2 e2)).set (j := 2) (by simp) (.slice B3 q3 e3)).set (j := 3) (by simp) (.int .i64 s2.tests)
          have bR13 := (((bR12.only (only_setCell b 0 Z (.slice B1 q1 e1)) (by simp; omega)).only (only_setCell b 1 _ (.slice B2 q2 e2)) (by simp; omega)).only (only_setCell b 2 _ (.slice B3 q3 e3)) (by simp; omega)).only (only_setCell b 3 _ (.int .i64 s2.tests)) (by simp; omega)
          have D13 := (((D12.set (b := b) (o := 0) (by omega) (.slice B1 q1 e1)).set (b := b) (o := 1) (by omega) (.slice B2 q2 e2)).set (b := b) (o := 2) (by omega) (.slice B3 q3 e3)).set (b := b) (o := 3) (by omega) (.int .i64 s2.tests)
          have o13 := keepSet (b := b) (o := 3) (u := .int .i64 s2.tests) fStanding_good (keepSet (b := b) (o := 2) (u := .slice B3 q3 e3) fStanding_good (keepSet (b := b) (o := 1) (u := .slice B2 q2 e2) fStanding_good (keepSet (b := b) (o := 0) (u := .slice B1 q1 e1) fStanding_good o12 nb2) nb2) nb2) nb2
          clear bX12 bR12 D12 o12 b12
          go_roundg (gk - 1)
          case measure => omega
          case rel => exact ⟨s2, _, _, _, F2, by omega, by go_num, b13, o13, f13, nb2, O11, D13, bR13⟩
        · have e0 : (sw == 0) = false := by simpa using h0
          have e1' : (sw == 1) = false := by simpa using h1
          clear h0 h1
          have AD : Bw w7 w7.drew := (Bw.refl w7).drew
          have D8 := D7.bw AD
          have bX8 := bX7.bw AD
          have bR8 := bR7.bw AD
          have b8 := b7.bw AD
          have o8 := keepBw AD fStanding_good o7
          have hcall := D_l1Below w0 w7.drew p D8.at' 9 (by omega) (by omega)
          have x0 := bX8.c 0 _ rfl
          have x1 := bX8.c 1 _ rfl
          have x2 := bX8.c 2 _ rfl
          have x3 := bX8.c 3 _ rfl
          have xf := bX8.fr
          clear D7 bX7 bR7 b7 o7
          go_wp2_with fail
          refine wp_region_held_drew (S := (fun w' => w'.cell? ⟨b, 0, none⟩ = some (.slice A1 n1 c1) ∧ w'.cell? ⟨b, 1, none⟩ = some (.slice A2 n2 c2) ∧ w'.cell? ⟨b, 2, none⟩ = some (.slice A3 n3 c3) ∧ w'.cell? ⟨b, 3, none⟩ = some (.int .i64 s.tests))) (by kernel_rfl) ?_ (fun hHeld => ?_)
          · exact ⟨x0, x1, x2, x3⟩
          refine wpAnyH_take (i := 0) (oi := _) (v := ?_) rfl (by kernel_rfl) (by kernel_rfl) (by kernel_rfl) (fun _ _ _ h => h) (Or.inl ⟨by rfl, ?_⟩) (by assumption) ?_
          rotate_left 1
          · (intro wS hSw; (try dsimp only at hSw); go_simp; try with_reducible rfl)
          try simp only [Act.put, List.getElem_toArray, List.getElem_cons_zero, List.getElem_cons_succ, List.setIfInBounds_toArray, List.set_cons_zero, List.set_cons_succ]
          refine wpAnyH_take (i := 1) (oi := _) (v := ?_) rfl (by kernel_rfl) (by kernel_rfl) (by kernel_rfl) (fun _ _ _ h => h) (Or.inl ⟨by rfl, ?_⟩) (by assumption) ?_
          rotate_left 1
          · (intro wS hSw; (try dsimp only at hSw); go_simp; try with_reducible rfl)
          try simp only [Act.put, List.getElem_toArray, List.getElem_cons_zero, List.getElem_cons_succ, List.setIfInBounds_toArray, List.set_cons_zero, List.set_cons_succ]
          refine wpAnyH_take (i := 2) (oi := _) (v := ?_) rfl (by kernel_rfl) (by kernel_rfl) (by kernel_rfl) (fun _ _ _ h => h) (Or.inl ⟨by rfl, ?_⟩) (by assumption) ?_
          rotate_left 1
          · (intro wS hSw; (try dsimp only at hSw); go_simp; try with_reducible rfl)
          try simp only [Act.put, List.getElem_toArray, List.getElem_cons_zero, List.getElem_cons_succ, List.setIfInBounds_toArray, List.set_cons_zero, List.set_cons_succ]
          refine wpAnyH_ready (rs := [3]) (by kernel_rfl) (by simp) (AllReadyH.cons (o := _) rfl (fun K hK => ?_) AllReadyH.nil)
          go_simp
          refine hcall.mono ?_
          rintro e w9 ⟨v9, rfl, ⟨id, rfl, d1, d2⟩, hO9, hA9⟩
          have D9 := D8.call hO9 hA9
          have bX9 := bX8.only hO9 (by simpa using hbp)
          have bR9 := bR8.only hO9 (by simp; omega)
          have b9 := b8.only hO9 (by simpa using hb'p)
          have o9 := D8.keep hO9 fStanding_good o8 (fun c hc => by (have := f.ge c hc; have := HZ0.out; omega))
          refine hK.out _ _ ⟨bX9.c 0 _ rfl, bX9.c 1 _ rfl, bX9.c 2 _ rfl, bX9.c 3 _ rfl⟩ (fun hHeld => ?_)
          clear hK K
          try simp only [Act.put, List.getElem_toArray, List.getElem_cons_zero, List.getElem_cons_succ, List.setIfInBounds_toArray, List.set_cons_zero, List.set_cons_succ]
          refine wpAnyH_ready (rs := [4]) (by kernel_rfl) (by simp) (AllReadyH.cons (o := _) rfl (fun K hK => ?_) AllReadyH.nil)
          go_simp
          refine (D_l2Item w0 _ p hA9 id 4 (by omega) (by omega)).mono ?_
          rintro e w10 ⟨v10, rfl, ⟨xi, ui, Fi, rfl, oi, fi, qi⟩, hO10, hA10⟩
          clear qi
          have D10 := D9.call hO10 hA10
          have bX10 := bX9.only hO10 (by simpa using hbp)
          have bR10 := bR9.only hO10 (by simp; omega)
          have b10 := b9.only hO10 (by simpa using hb'p)
          have o10 := D9.keep hO10 fStanding_good o9 (fun c hc => by (have := f.ge c hc; have := HZ0.out; omega))
          refine hK.out _ _ ⟨bX10.c 0 _ rfl, bX10.c 1 _ rfl, bX10.c 2 _ rfl, bX10.c 3 _ rfl⟩ (fun hHeld => ?_)
          clear hK K
          try simp only [Act.put, List.getElem_toArray, List.getElem_cons_zero, List.getElem_cons_succ, List.setIfInBounds_toArray, List.set_cons_zero, List.set_cons_succ]
          refine wpAnyH_ready (rs := [5]) (by kernel_rfl) (by simp) (AllReadyH.cons (o := _) rfl (fun K hK => ?_) AllReadyH.nil)
          go_simp
          have R := fStanding_Rds o10
          refine (S_ChangeItem _ s xi _ _ _ ui R.1 R.2.1 R.2.2.1 (fInts_Rd oi) O.1.1 O.1.2.1 O.1.2.2).mono ?_
          rintro e w11 ⟨v11, rfl, ⟨cs, rfl, F2, o11, f11⟩, hb11⟩
          have O11 := O.chg (x := xi)
          obtain ⟨s2, hs2⟩ : ∃ s2, s2 = chgM s xi := ⟨_, rfl⟩
          obtain ⟨ok2, hok2⟩ : ∃ b, b = chgOk s xi := ⟨_, rfl⟩
          rw [← hs2] at o11 O11
          rw [← hok2]
          clear hs2 hok2
          have D11 := D10.bw hb11
          have bX11 := bX10.bw hb11
          have bR11 := bR10.bw hb11
          have b11 := b10.bw hb11
          obtain ⟨B1, e1, B2, e2, B3, e3, rfl⟩ := fStanding_shape o11
          refine hK.out _ _ ⟨bX11.c 0 _ rfl, bX11.c 1 _ rfl, bX11.c 2 _ rfl, bX11.c 3 _ rfl⟩ (fun hHeld => ?_)
          clear hK K
          try simp only [Act.put, List.getElem_toArray, List.getElem_cons_zero, List.getElem_cons_succ, List.setIfInBounds_toArray, List.set_cons_zero, List.set_cons_succ]
          refine wpAnyH_take (i := 6) (oi := _) (v := ?_) rfl (by kernel_rfl) (by kernel_rfl) (by kernel_rfl) (fun _ _ _ h => h) (Or.inl ⟨by rfl, ?_⟩) (by assumption) ?_
          rotate_left 1
          · (intro wS hSw; (try dsimp only at hSw); go_simp; try with_reducible rfl)
          try simp only [Act.put, List.getElem_toArray, List.getElem_cons_zero, List.getElem_cons_succ, List.setIfInBounds_toArray, List.set_cons_zero, List.set_cons_succ]
          refine wpAnyH_take (i := 7) (oi := _) (v := ?_) rfl (by kernel_rfl) (by kernel_rfl) (by kernel_rfl) (fun _ _ _ h => h) (Or.inl ⟨by rfl, ?_⟩) (by assumption) ?_
          rotate_left 1
          · (intro wS hSw; (try dsimp only at hSw); go_simp; try with_reducible rfl)
          try simp only [Act.put, List.getElem_toArray, List.getElem_cons_zero, List.getElem_cons_succ, List.setIfInBounds_toArray, List.set_cons_zero, List.set_cons_succ]
          refine wpAnyH_take (i := 8) (oi := _) (v := ?_) rfl (by kernel_rfl) (by kernel_rfl) (by kernel_rfl) (fun _ _ _ h => h) (Or.inl ⟨by rfl, ?_⟩) (by assumption) ?_
          rotate_left 1
          · (intro wS hSw; (try dsimp only at hSw); go_simp; try with_reducible rfl)
          try simp only [Act.put, List.getElem_toArray, List.getElem_cons_zero, List.getElem_cons_succ, List.setIfInBounds_toArray, List.set_cons_zero, List.set_cons_succ]
          obtain ⟨q1, hq1⟩ : ∃ n, n = s2.items.length := ⟨_, rfl⟩
          obtain ⟨q2, hq2⟩ : ∃ n, n = s2.wanted.length := ⟨_, rfl⟩
          obtain ⟨q3, hq3⟩ : ∃ n, n = s2.best.length := ⟨_, rfl⟩
          rw [← hq1, ← hq2, ← hq3] at o11 ⊢
          clear hq1 hq2 hq3
          have hbz := bX10.lt
          have hbz' := b10.lt
          have nb2 : b ∉ F2 := fun h => by have := f11.ge _ h; omega
          have nb3 : b' ∉ F2 := fun h => by have := f11.ge _ h; omega
          have f13 : Fresh W.heap.size F2 := f11.mono (by have := HZ0.out; omega)
          refine wpAnyH_ready (rs := [9]) (by kernel_rfl) (by simp) (AllReadyH.cons (o := _) rfl (fun K hK => ?_) AllReadyH.nil)
          have y0 := b11.c 0 _ rfl
          have y1 := b11.c 1 _ rfl
          have y2 := b11.c 2 _ rfl
          have y3 := b11.c 3 _ rfl
          have yf := b11.fr
          go_simp
          clear y0 y1 y2 y3 yf
          have b12 := (((b11.set (j := 0) (by simp) (.slice B1 q1 e1)).set (j := 1) (by simp) (.slice B2 q2 e2)).set (j := 2) (by simp) (.slice B3 q3 e3)).set (j := 3) (by simp) (.int .i64 s2.tests)
          have bX12 := (((bX11.only (only_setCell b' 0 w11 (.slice B1 q1 e1)) (by simpa using hbb.symm)).only (only_setCell b' 1 _ (.slice B2 q2 e2)) (by simpa using hbb.symm)).only (only_setCell b' 2 _ (.slice B3 q3 e3)) (by simpa using hbb.symm)).only (only_setCell b' 3 _ (.int .i64 s2.tests)) (by simpa using hbb.symm)
          have bR12 := (((bR11.only (only_setCell b' 0 w11 (.slice B1 q1 e1)) (by simp; omega)).only (only_setCell b' 1 _ (.slice B2 q2 e2)) (by simp; omega)).only (only_setCell b' 2 _ (.slice B3 q3 e3)) (by simp; omega)).only (only_setCell b' 3 _ (.int .i64 s2.tests)) (by simp; omega)
          have D12 := (((D11.set (b := b') (o := 0) (by omega) (.slice B1 q1 e1)).set (b := b') (o := 1) (by omega) (.slice B2 q2 e2)).set (b := b') (o := 2) (by omega) (.slice B3 q3 e3)).set (b := b') (o := 3) (by omega) (.int .i64 s2.tests)
          have o12 := keepSet (b := b') (o := 3) (u := .int .i64 s2.tests) fStanding_good (keepSet (b := b') (o := 2) (u := .slice B3 q3 e3) fStanding_good (keepSet (b := b') (o := 1) (u := .slice B2 q2 e2) fStanding_good (keepSet (b := b') (o := 0) (u := .slice B1 q1 e1) fStanding_good o11 nb3) nb3) nb3) nb3
          obtain ⟨Z, hZ⟩ : ∃ Z, Z = (((w11.setCell ⟨b', 0, none⟩ (.slice B1 q1 e1)).setCell ⟨b', 1, none⟩ (.slice B2 q2 e2)).setCell ⟨b', 2, none⟩ (.slice B3 q3 e3)).setCell ⟨b', 3, none⟩ (.int .i64 s2.tests) := ⟨_, rfl⟩
          rw [← hZ] at b12 bX12 bR12 D12 o12 ⊢
          have HZ := Lib.hid hZ
          clear hZ
          refine hK.out _ _ ⟨bX12.c 0 _ rfl, bX12.c 1 _ rfl, bX12.c 2 _ rfl, bX12.c 3 _ rfl⟩ (fun hHeld => ?_)
          clear hK K hHeld
          try simp only [Act.put, List.getElem_toArray, List.getElem_cons_zero, List.getElem_cons_succ, List.setIfInBounds_toArray, List.set_cons_zero, List.set_cons_succ]
          refine wpAnyH_done (by kernel_rfl) ?_ _
          have x0 := bX12.c 0 _ rfl
          have x1 := bX12.c 1 _ rfl
          have x2 := bX12.c 2 _ rfl
          have x3 := bX12.c 3 _ rfl
          have xf := bX12.fr
          have y0 := b12.c 0 _ rfl
          have y1 := b12.c 1 _ rfl
          have y2 := b12.c 2 _ rfl
          have y3 := b12.c 3 _ rfl
          have yf := b12.fr
          clear bX11 bX10 b10 b11 D11 D10 o11 f11 bR11 bR10
          go_wp2
          clear x0 x1 x2 x3 xf
          clear y0 y1 y2 y3 yf
          have b13 := (((bX12.set (j := 0) (by simp) (.slice B1 q1 e1)).set (j := 1) (by simp) (.slice B2 q2 e2)).set (j := 2) (by simp) (.slice B3 q3 e3)).set (j := 3) (by simp) (.int .i64 s2.tests)
          have bR13 := (((bR12.only (only_setCell b 0 Z (.slice B1 q1 e1)) (by simp; omega)).only (only_setCell b 1 _ (.slice B2 q2 e2)) (by simp; omega)).only (only_setCell b 2 _ (.slice B3 q3 e3)) (by simp; omega)).only (only_setCell b 3 _ (.int .i64 s2.tests)) (by simp; omega)
          have D13 := (((D12.set (b := b) (o := 0) (by omega) (.slice B1 q1 e1)).set (b := b) (o := 1) (by omega) (.slice B2 q2 e2)).set (b := b) (o := 2) (by omega) (.slice B3 q3 e3)).set (b := b) (o := 3) (by omega) (.int .i64 s2.tests)
          have o13 := keepSet (b := b) (o := 3) (u := .int .i64 s2.tests) fStanding_good (keepSet (b := b) (o := 2) (u := .slice B3 q3 e3) fStanding_good (keepSet (b := b) (o := 1) (u := .slice B2 q2 e2) fStanding_good (keepSet (b := b) (o := 0) (u := .slice B1 q1 e1) fStanding_good o12 nb2) nb2) nb2) nb2
          clear bX12 bR12 D12 o12 b12
          go_roundg (gk - 1)
          case measure => omega
          case rel => exact ⟨s2, _, _, _, F2, by omega, by go_num, b13, o13, f13, nb2, O11, D13, bR13⟩
end Go.Proofs.YtpihighajaeabaaGreat
