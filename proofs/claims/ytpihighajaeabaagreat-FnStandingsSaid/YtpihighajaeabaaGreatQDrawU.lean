/- Draws: any standing; what FnStandings asks for. -/
import Derived.Test.YtpihighajaeabaaGreatQDrawS
namespace Go.Proofs.YtpihighajaeabaaGreat
open Go.RowKit
set_option linter.unusedVariables false
set_option linter.unusedSimpArgs false
theorem fInts_five (w : World) (a b c d e : Int) : fInts (w.alloc (.cells #[.int .i64 a, .int .i64 b, .int .i64 c, .int .i64 d, .int .i64 e] 3)) [a, b, c, d, e] [.slice (some ⟨w.heap.size, 0, none⟩) 5 5] [w.heap.size] := by
  refine ⟨_, [[.int .i64 a], [.int .i64 b], [.int .i64 c], [.int .i64 d], [.int .i64 e]], [[], [], [], [], []], rfl, ?_, ?_, rfl⟩
  · exact ⟨rfl, .inr ⟨w.heap.size, 5, #[.int .i64 a, .int .i64 b, .int .i64 c, .int .i64 d, .int .i64 e], rfl, Nat.zero_le _, heap_alloc_new w _, Nat.le_refl 5, (by decide : 5 ≤ maxLen), rfl, rfl⟩⟩
  · exact ⟨⟨⟨rfl, rfl⟩, rfl⟩, ⟨⟨rfl, rfl⟩, rfl⟩, ⟨⟨rfl, rfl⟩, rfl⟩, ⟨⟨rfl, rfl⟩, rfl⟩, ⟨⟨rfl, rfl⟩, rfl⟩, trivial⟩
/-- a standing of the call's own, small -/
def DSA (B : Nat) (W : World) (v : Value) : Prop := ∃ s va vb vc F, v = .agg #[va, vb, vc, .int .i64 s.tests] ∧ fStanding W s [va, vb, vc, .int .i64 s.tests] F ∧ Fresh B F ∧ smallSt s
/-- the parts of an owned standing -/
theorem fSt_parts {W : World} {s : GStanding} {va vb vc vd : Value} {F : List Nat} (h : fStanding W s [va, vb, vc, vd] F) : ∃ G H I, fItems W s.items [va] G ∧ fNodes W s.wanted [vb] H ∧ fInts W s.best [vc] I ∧ F = G ++ (H ++ I) ∧ vd = .int .i64 s.tests := by
  obtain ⟨v, u, t, G, H, I, e, h, k, l, hF⟩ := h
  injection e with e1 e; injection e with e2 e; injection e with e3 e; injection e with e4 e
  subst e1 e2 e3
  exact ⟨G, H, I, h, k, l, hF, e4⟩
theorem fSt_make {W : World} {s : GStanding} {va vb vc : Value} {G H I : List Nat} (h : fItems W s.items [va] G) (k : fNodes W s.wanted [vb] H) (l : fInts W s.best [vc] I) : fStanding W s [va, vb, vc, .int .i64 s.tests] (G ++ (H ++ I)) := ⟨va, vb, vc, G, H, I, rfl, h, k, l, rfl⟩
theorem fSt_tests {W : World} {s : GStanding} {va vb vc vd : Value} {F : List Nat} (h : fStanding W s [va, vb, vc, vd] F) (n : Int) : fStanding W ⟨s.items, s.wanted, s.best, n⟩ [va, vb, vc, .int .i64 n] F := by
  obtain ⟨G, H, I, h1, h2, h3, rfl, _⟩ := fSt_parts h
  exact fSt_make h1 h2 h3
/-- one list of three is new -/
theorem fresh_last {B m : Nat} {G H I I' : List Nat} (h : Fresh B (G ++ (H ++ I))) (hI : I'.Nodup) (hlt : ∀ b ∈ G ++ (H ++ I), b < m) (hs : ∀ b ∈ I', b ∈ I ∨ m ≤ b) (hm : B ≤ m) : Fresh B (G ++ (H ++ I')) := by
  have hn := h.nodup
  rw [List.nodup_append] at hn
  have hn2 := hn.2.1
  rw [List.nodup_append] at hn2
  refine ⟨?_, fun b hb => ?_⟩
  · rw [List.nodup_append]
    refine ⟨hn.1, ?_, fun a ha c hc e => ?_⟩
    · rw [List.nodup_append]
      refine ⟨hn2.1, hI, fun a ha c hc e => ?_⟩
      rcases hs c hc with h1 | h1
      · exact hn2.2.2 a ha c h1 e
      · have := hlt a (by simp [ha]); omega
    · rcases List.mem_append.1 hc with h1 | h1
      · exact hn.2.2 a ha c (List.mem_append_left _ h1) e
      · rcases hs c h1 with h2 | h2
        · exact hn.2.2 a ha c (List.mem_append_right _ h2) e
        · have := hlt a (by simp [ha]); omega
  · rcases List.mem_append.1 hb with h1 | h1
    · exact h.ge b (by simp [h1])
    · rcases List.mem_append.1 h1 with h2 | h2
      · exact h.ge b (by simp [h2])
      · rcases hs b h2 with h3 | h3
        · exact h.ge b (by simp [h3])
        · omega
set_option maxRecDepth 100000 in
set_option maxHeartbeats 6400000 in
theorem D_l15Any (w0 w : World) (p : Nat) (hA : At w0 p w) : Calls Tryz.prog 70 #[.pointer (some ⟨p, 0, none⟩)] w
    (RetD w0 p w (DSA w.heap.size)) := by
  obtain ⟨i0, hi, hz0, hz1, hz2⟩ := info_parts info_int
  have D0 := Dn.start hA
  have hlt := hA.lt
  have D1 := D0.alloc (.cells #[.slice none 0 0, .slice none 0 0, .slice none 0 0, .int .i64 0] 28)
  have bR := Box.new w #[.slice none 0 0, .slice none 0 0, .slice none 0 0, .int .i64 0] 28
  have hz0 : (w.alloc (.cells #[.slice none 0 0, .slice none 0 0, .slice none 0 0, .int .i64 0] 28)).heap.size = w.heap.size + 1 := by simp
  obtain ⟨W, hW⟩ : ∃ W, W = w.alloc (.cells #[.slice none 0 0, .slice none 0 0, .slice none 0 0, .int .i64 0] 28) := ⟨_, rfl⟩
  rw [← hW] at D1 bR hz0
  have HW := Lib.hid hW
  have HZ0 := Lib.hid hz0
  clear hW
  have hp : p < W.heap.size := by omega
  clear hz0
  have hcall := D_l15Standing w0 W p D1.at'
  go_enter Tryz.func70, Tryz.ntmps70
  go_wp2_with fail
  rw [← HW.out]
  refine hcall.mono ?_
  rintro e w4 ⟨v4, rfl, ⟨s, va, vb, vc, F, rfl, o4, f4, O⟩, hO4, hA4⟩
  have D4 := D1.call hO4 hA4
  have bR4 := bR.only hO4 (by simp; omega)
  obtain ⟨A1, c1, A2, c2, A3, c3, eS⟩ := fStanding_shape o4
  injection eS with eS1 eS
  injection eS with eS2 eS
  injection eS with eS3 eS
  subst eS1 eS2 eS3
  clear eS
  obtain ⟨n1, hn1⟩ : ∃ n, n = s.items.length := ⟨_, rfl⟩
  obtain ⟨n2, hn2⟩ : ∃ n, n = s.wanted.length := ⟨_, rfl⟩
  obtain ⟨n3, hn3⟩ : ∃ n, n = s.best.length := ⟨_, rfl⟩
  rw [← hn1, ← hn2, ← hn3] at o4 ⊢
  clear hn1 hn2 hn3
  have hFlt := (fStanding_good (B := 0)).lt o4
  have hAl := (Bw.refl w4).alloc (.cells #[.slice A1 n1 c1, .slice A2 n2 c2, .slice A3 n3 c3, .int .i64 s.tests] 28)
  have bX := Box.new w4 #[.slice A1 n1 c1, .slice A2 n2 c2, .slice A3 n3 c3, .int .i64 s.tests] 28
  have D5 := D4.bw hAl
  have bR5 := bR4.bw hAl
  have o5 := keepBw hAl fStanding_good o4
  obtain ⟨b, hb⟩ : ∃ b, b = w4.heap.size := ⟨_, rfl⟩
  obtain ⟨X, hX⟩ : ∃ X, X = w4.alloc (.cells #[.slice A1 n1 c1, .slice A2 n2 c2, .slice A3 n3 c3, .int .i64 s.tests] 28) := ⟨_, rfl⟩
  rw [← hX] at D5 bX bR5 o5
  rw [← hb] at bX hFlt
  have nbF : b ∉ F := fun h => by have := hFlt _ h; omega
  have hbp : b ≠ p := by have := hO4.1; omega
  have hbW : W.heap.size ≤ b := by have := hO4.1; omega
  have HX := Lib.hid hX
  have HBB := Lib.hid hb
  have hcall := D_l1Below w0 X p D5.at' 14 (by omega) (by omega)
  clear hX hb o4 hAl D1 D4 bR bR4 hO4 hA4
  go_wp2_with fail
  rw [← HX.out]
  refine hcall.mono ?_
  rintro e w7 ⟨v5, rfl, ⟨sw, rfl, N1, N2⟩, hO5, hA5⟩
  have D7 := D5.call hO5 hA5
  have bX7 := bX.only hO5 (by simpa using hbp)
  have bR7 := bR5.only hO5 (by simp; omega)
  have o7 := D5.keep hO5 fStanding_good o5 (fun c hc => by have := f4.ge c hc; have := HZ0.out; omega)
  rw [← HBB.out]
  have hwb : w.heap.size < b := by have := HZ0.out; omega
  have hne1 : b ≠ w.heap.size := by omega
  have hne2 : w.heap.size ≠ b := by omega
  have fW : Fresh (w.heap.size + 1) F := f4.mono (by have := HZ0.out; omega)
  clear hcall hO5 hA5 D5 bX bR5 o5 D0 hA
  by_cases h0 : sw = 0
  · subst h0
    have AD : Bw w7 w7.drew := (Bw.refl w7).drew
    have D8 := D7.bw AD
    have bX8 := bX7.bw AD
    have bR8 := bR7.bw AD
    have o8 := keepBw AD fStanding_good o7
    have hcall := D_l1Below w0 w7.drew p D8.at' 9 (by omega) (by omega)
    have x0 := bX8.c 0 _ rfl
    have x1 := bX8.c 1 _ rfl
    have x2 := bX8.c 2 _ rfl
    have x3 := bX8.c 3 _ rfl
    have xf := bX8.fr
    clear D7 bX7 bR7 o7
    go_wp2_with fail
    go_region_law (first
      | (refine step_push2 _ (by rfl) (.tmp 11) (.tmp 14) 26 (by rfl) w0 3 i0 _ 1 8 Tryz.underlying26 hi hz0 hz1 hz2 rfl (by omega) fInt_good _ s.best I (by rfl) y3 hFI ⟨w9.heap.size, 0, none⟩ 1 (by rfl) id [.int .i64 id] [] hcl ⟨rfl, rfl⟩ rfl w9.heap.size hFm Fresh.nil hz9 (by have := O.len; omega) (by have := O.len; omega) hbW ?_; intro v' w' F' hv' hF' hb' hO' hs'; obtain ⟨A', N', c', rfl, l', _⟩ := rSl_open (fInts_Rd hv'); replace l' := Lib.hid l'; have bX11 := bX10.only hO' nbI; have e0 := bX11.c 0 _ rfl; have e1 := bX11.c 1 _ rfl; have e2 := bX11.c 2 _ rfl; have e3 := bX11.c 3 _ rfl; have ef := bX11.fr)
      | (go_simp; go_at_call 74; refine hcall.mono ?_; rintro e w9 ⟨v9, rfl, ⟨id, rfl, d1, d2⟩, hO9, hA9⟩; have D9 := D8.call hO9 hA9; have bX9 := bX8.only hO9 (by simpa using hbp); have u2 := bX9.c 2 _ rfl; have uf := bX9.fr; have o9 := D8.keep hO9 fStanding_good o8 (fun c hc => by (have := fW.ge c hc; omega)); have A9 := (Bw.refl w9).alloc (.cells #[.int .i64 id] 3); have D10 := D9.bw A9; have bX10 := bX9.bw A9; have t2 := bX10.c 2 _ rfl; have o10 := keepBw A9 fStanding_good o9; obtain ⟨G, H, I, y1, y2, y3, eF, _⟩ := fSt_parts o10; have hF9 := (fStanding_good (B := 0)).lt o9; have hcl := cell_one_new w9 (.int .i64 id) 3; have hFI : Fresh w0.heap.size I := ⟨by (have := fW.nodup; rw [eF, List.nodup_append] at this; have h2 := this.2.1; rw [List.nodup_append] at h2; exact h2.2.1), fun c hc => by (have := fW.ge c (by rw [eF]; simp [hc]); have := D10.le; omega)⟩; have hbW := D9.at'.bw.then A9; have hz9 := D9.at'.bw.size; have hFm : ∀ c ∈ I, c < w9.heap.size := fun c hc => hF9 c (by rw [eF]; simp [hc]); have nbI : b ∉ I := fun h => nbF (by rw [eF]; simp [h])))
    all_goals
      have hnd := fW.nodup
      rw [eF, List.nodup_append] at hnd
      have hnd2 := hnd.2.1
      rw [List.nodup_append] at hnd2
      have y1' := hO'.keeps fItems_good y1 (fun c h h2 => hnd.2.2 c h c (List.mem_append_right _ h2) rfl)
      have y2' := hO'.keeps fNodes_good y2 (fun c h h2 => hnd2.2.2 c h c h2 rfl)
      have o11 : fStanding w' ⟨s.items, s.wanted, s.best ++ [id], s.tests⟩ [.slice A1 n1 c1, .slice A2 n2 c2, .slice A' N' c', .int .i64 s.tests] (G ++ (H ++ F')) := fSt_make y1' y2' hv'
      have f11 : Fresh (w.heap.size + 1) (G ++ (H ++ F')) := fresh_last (m := w9.heap.size) (by rw [← eF]; exact fW) hF'.nodup (by rw [← eF]; exact hF9) (fun z hz => (hs' z hz).elim .inl (fun h => h.elim (fun h => by simp at h) (fun h => .inr (Nat.le_trans A9.size h)))) (by have := hO9.1; have := D8.size; have h3 := bX9.lt; omega)
      have hzb9 := bX9.lt
      have nb : b ∉ G ++ (H ++ F') := fun h => by
        rcases List.mem_append.1 h with h | h
        · exact nbF (by rw [eF]; simp [h])
        · rcases List.mem_append.1 h with h | h
          · exact nbF (by rw [eF]; simp [h])
          · rcases hs' b h with h | h | h
            · exact nbI h
            · simp at h
            · have := A9.size; omega
      have D11 := D10.next hO' (fun c hc => by have := fW.ge c (by rw [eF]; simp [hc]); omega) hb'
      have D12 := D11.set (b := b) (o := 2) (by omega) (.slice A' N' c')
      have bX12 := bX11.set (j := 2) (by simp) (.slice A' N' c')
      have bR11 := ((bR8.only hO9 (by simp; omega)).bw A9).only hO' (fun h => by have := fW.ge _ (by rw [eF]; simp [h] : w.heap.size ∈ F); omega)
      have bR12 := bR11.only (only_setCell b 2 w' (.slice A' N' c')) (by simp; omega)
      have o12 := keepSet (b := b) (o := 2) (u := .slice A' N' c') fStanding_good o11 nb
      have sm : smallSt ⟨s.items, s.wanted, s.best ++ [id], s.tests⟩ := ⟨O.1.1, O.1.2.1, by show (s.best ++ [id]).length ≤ _; rw [List.length_append, List.length_singleton]; have := O.len; omega⟩
      clear x0 x1 x2 x3 xf
      clear u2 uf t2 e0 e1 e2 e3 ef hcall hcl hv' y1 y2 y3 y1' y2' o11 bX11 bX10 bX9 bR11 o10 o9 o8 D11 D10 D9 D8 hO' hO9
      have x0 := bX12.c 0 _ rfl
      have x1 := bX12.c 1 _ rfl
      have x2 := bX12.c 2 _ rfl
      have x3 := bX12.c 3 _ rfl
      have xf := bX12.fr
      have r0 := bR12.c 0 _ rfl
      have r1 := bR12.c 1 _ rfl
      have r2 := bR12.c 2 _ rfl
      have r3 := bR12.c 3 _ rfl
      have rf := bR12.fr
      go_wp2
      refine bodyPost_ret (v := .agg #[.slice A1 n1 c1, .slice A2 n2 c2, .slice A' N' c', .int .i64 s.tests]) (by simp [results, Tryz.results70, go_sem, r0, r1, r2, r3, hne1, hne2]) rfl ?_
      exact ((((D12.set (Nat.le_refl _) _).set (Nat.le_refl _) _).set (Nat.le_refl _) _).set (Nat.le_refl _) _).ret ⟨⟨s.items, s.wanted, s.best ++ [id], s.tests⟩, _, _, _, _, rfl, keepSet4 fStanding_good o12 (fun h => by have := (f11).ge _ h; omega), (f11).mono (by omega), sm⟩
  · by_cases h1 : sw = 1
    · subst h1
      have DW := D7.alloc (.cells #[.int .i64 (-1), .int .i64 999900, .int .i64 999901, .int .i64 1000000, .int .i64 1000001] 3)
      have hAl := (Bw.refl w7).alloc (.cells #[.int .i64 (-1), .int .i64 999900, .int .i64 999901, .int .i64 1000000, .int .i64 1000001] 3)
      have hl := fInts_five w7 (-1) 999900 999901 1000000 1000001
      have hz3 := bX7.lt
      have hcall := D_l1PickInt w0 _ p DW.at' [-1, 999900, 999901, 1000000, 1000001] _ _ hl (by simp; omega) (by decide) (by decide)
      clear hl h0
      go_wp2_with fail
      refine hcall.mono ?_
      rintro e w8 ⟨v8, rfl, ⟨y, hy, rfl⟩, hO8, hA8⟩
      have D8 := DW.call hO8 hA8
      have bX8 := (bX7.bw hAl).only hO8 (by simpa using hbp)
      have bR8 := (bR7.bw hAl).only hO8 (by simp; omega)
      have o8 := DW.keep hO8 fStanding_good (keepBw hAl fStanding_good o7) (fun c hc => by have := fW.ge c hc; omega)
      have o9 := fSt_tests (keepSet (b := b) (o := 3) (u := .int .i64 y) fStanding_good o8 nbF) y
      have D9 := D8.set (b := b) (o := 3) (by omega) (.int .i64 y)
      have bX9 := bX8.set (j := 3) (by simp) (.int .i64 y)
      have bR9 := bR8.only (only_setCell b 3 w8 (.int .i64 y)) (by simp; omega)
      have sm : smallSt ⟨s.items, s.wanted, s.best, y⟩ := ⟨O.1.1, O.1.2.1, O.1.2.2⟩
      have u0 := bX8.c 0 _ rfl
      have u1 := bX8.c 1 _ rfl
      have u2 := bX8.c 2 _ rfl
      have u3 := bX8.c 3 _ rfl
      have uf := bX8.fr
      clear hcall hy D8 DW hO8 hA8 bX7 bR7 o7 hAl bR8 o8 D7
      have x0 := bX9.c 0 _ rfl
      have x1 := bX9.c 1 _ rfl
      have x2 := bX9.c 2 _ rfl
      have x3 := bX9.c 3 _ rfl
      have xf := bX9.fr
      have r0 := bR9.c 0 _ rfl
      have r1 := bR9.c 1 _ rfl
      have r2 := bR9.c 2 _ rfl
      have r3 := bR9.c 3 _ rfl
      have rf := bR9.fr
      go_wp2
      refine bodyPost_ret (v := .agg #[.slice A1 n1 c1, .slice A2 n2 c2, .slice A3 n3 c3, .int .i64 y]) (by simp [results, Tryz.results70, go_sem, r0, r1, r2, r3, hne1, hne2]) rfl ?_
      exact ((((D9.set (Nat.le_refl _) _).set (Nat.le_refl _) _).set (Nat.le_refl _) _).set (Nat.le_refl _) _).ret ⟨⟨s.items, s.wanted, s.best, y⟩, _, _, _, _, rfl, keepSet4 fStanding_good o9 (fun h => by have := (fW).ge _ h; omega), (fW).mono (by omega), sm⟩
    · have e0 : (sw == 0) = false := by simpa using h0
      have e1 : (sw == 1) = false := by simpa using h1
      have sm := O.1
      clear h0 h1
      have x0 := bX7.c 0 _ rfl
      have x1 := bX7.c 1 _ rfl
      have x2 := bX7.c 2 _ rfl
      have x3 := bX7.c 3 _ rfl
      have xf := bX7.fr
      have r0 := bR7.c 0 _ rfl
      have r1 := bR7.c 1 _ rfl
      have r2 := bR7.c 2 _ rfl
      have r3 := bR7.c 3 _ rfl
      have rf := bR7.fr
      go_wp2
      refine bodyPost_ret (v := .agg #[.slice A1 n1 c1, .slice A2 n2 c2, .slice A3 n3 c3, .int .i64 s.tests]) (by simp [results, Tryz.results70, go_sem, r0, r1, r2, r3, hne1, hne2]) rfl ?_
      exact ((((D7.set (Nat.le_refl _) _).set (Nat.le_refl _) _).set (Nat.le_refl _) _).set (Nat.le_refl _) _).ret ⟨s, _, _, _, _, rfl, keepSet4 fStanding_good o7 (fun h => by have := (fW).ge _ h; omega), (fW).mono (by omega), sm⟩
/-- a standing, an item to be read -/
def TSt (W : World) (v : Value) : Prop := ∃ s va vb vc, v = .agg #[va, vb, vc, .int .i64 s.tests] ∧ Rd rItems W s.items [va] ∧ Rd rNodes W s.wanted [vb] ∧ Rd rInts W s.best [vc] ∧ smallSt s
def TIt (W : World) (v : Value) : Prop := ∃ (x : GItem) (u : Value), v = .agg #[.int .i64 x.id, u] ∧ Rd rInts W x.vals [u] ∧ x.vals.length ≤ 4
theorem fSt_TSt {W : World} {s : GStanding} {va vb vc : Value} {F : List Nat} (h : fStanding W s [va, vb, vc, .int .i64 s.tests] F) (hs : smallSt s) : TSt W (.agg #[va, vb, vc, .int .i64 s.tests]) := by
  have R := fStanding_Rds h
  exact ⟨s, va, vb, vc, rfl, R.1, R.2.1, R.2.2.1, hs⟩
set_option maxRecDepth 100000 in
set_option maxHeartbeats 6400000 in
theorem D_DrawInsertItem (w : World) (xs : List Int) (v : Value) (h : Rd rBytes w xs [v]) (hx : wfBytes xs) : Calls Tryz.prog 10 #[v] w fun e W =>
    ∃ v1 v2, e = .returned (.tuple #[v1, v2]) ∧ TSt W v1 ∧ TIt W v2 ∧ Bw w W := by
  have A1 : Bw w (w.alloc (.cells #[.slice none 0 0, .slice none 0 0, .slice none 0 0, .int .i64 0] 28)) := (Bw.refl w).alloc _
  have bR := Box.new w #[.slice none 0 0, .slice none 0 0, .slice none 0 0, .int .i64 0] 28
  have bQ := Box.new (w.alloc (.cells #[.slice none 0 0, .slice none 0 0, .slice none 0 0, .int .i64 0] 28)) #[.int .i64 0, .slice none 0 0] 30
  have A2 := (Bw.refl (w.alloc (.cells #[.slice none 0 0, .slice none 0 0, .slice none 0 0, .int .i64 0] 28))).alloc (.cells #[.int .i64 0, .slice none 0 0] 30)
  replace bR := bR.bw A2
  have hcall0 := D_l1New _ xs v (h.bw rBytes_good (A1.then A2)) hx
  have A0 := A1.then A2
  have hz1 : (w.alloc (.cells #[.slice none 0 0, .slice none 0 0, .slice none 0 0, .int .i64 0] 28)).heap.size = w.heap.size + 1 := by simp
  rw [hz1] at bQ
  obtain ⟨W, hW⟩ : ∃ W, W = (w.alloc (.cells #[.slice none 0 0, .slice none 0 0, .slice none 0 0, .int .i64 0] 28)).alloc (.cells #[.int .i64 0, .slice none 0 0] 30) := ⟨_, rfl⟩
  rw [← hW] at bR bQ hcall0 A0
  have HW := Lib.hid hW
  clear h A1 A2 hz1 hW
  have hWz := bQ.lt
  go_enter Tryz.func10, Tryz.ntmps10
  go_wp2_with fail
  rw [← HW.out]
  refine hcall0.mono ?_
  rintro e w1 ⟨p, rfl, hA1⟩
  clear hcall0
  have hpW := hA1.ge
  have hp1 := hA1.lt
  replace bR := bR.bw hA1.bw
  replace bQ := bQ.bw hA1.bw
  have D0 := Dn.start hA1
  have hcall := D_l15Any W w1 p hA1
  go_wp2_with fail
  refine hcall.mono ?_
  rintro e w4 ⟨v4, rfl, ⟨s, va, vb, vc, F, rfl, o4, f4, sm⟩, hO4, hA4⟩
  clear hcall
  have D4 := D0.call hO4 hA4
  have bR4 := bR.only hO4 (by simp; omega)
  have bQ4 := bQ.only hO4 (by simp; omega)
  obtain ⟨A1, c1, A2, c2, A3, c3, eS⟩ := fStanding_shape o4
  injection eS with eS1 eS
  injection eS with eS2 eS
  injection eS with eS3 eS
  subst eS1 eS2 eS3
  clear eS
  obtain ⟨n1, hn1⟩ : ∃ n, n = s.items.length := ⟨_, rfl⟩
  obtain ⟨n2, hn2⟩ : ∃ n, n = s.wanted.length := ⟨_, rfl⟩
  obtain ⟨n3, hn3⟩ : ∃ n, n = s.best.length := ⟨_, rfl⟩
  rw [← hn1, ← hn2, ← hn3] at o4 ⊢
  clear hn1 hn2 hn3
  have hFlt := (fStanding_good (B := 0)).lt o4
  have hAl := (Bw.refl w4).alloc (.cells #[.slice A1 n1 c1, .slice A2 n2 c2, .slice A3 n3 c3, .int .i64 s.tests] 28)
  have bX := Box.new w4 #[.slice A1 n1 c1, .slice A2 n2 c2, .slice A3 n3 c3, .int .i64 s.tests] 28
  have D5 := D4.bw hAl
  have bR5 := bR4.bw hAl
  have bQ5 := bQ4.bw hAl
  have o5 := keepBw hAl fStanding_good o4
  obtain ⟨b, hb⟩ : ∃ b, b = w4.heap.size := ⟨_, rfl⟩
  obtain ⟨X, hX⟩ : ∃ X, X = w4.alloc (.cells #[.slice A1 n1 c1, .slice A2 n2 c2, .slice A3 n3 c3, .int .i64 s.tests] 28) := ⟨_, rfl⟩
  rw [← hX] at D5 bX bR5 bQ5 o5
  rw [← hb] at bX hFlt
  have hbW : w1.heap.size ≤ b := by have := hO4.1; omega
  have hbp : b ≠ p := by omega
  have HX := Lib.hid hX
  have HBB := Lib.hid hb
  have hcall := D_l1Once W X p D5.at' 6 (by omega) (by omega)
  clear hX hb o4 hAl D4 bR bR4 bQ bQ4 hO4 hA4
  go_wp2_with fail
  rw [← HX.out]
  refine hcall.mono ?_
  rintro e w7 ⟨v5, rfl, ⟨sw, rfl⟩, hO5, hA5⟩
  have D7 := D5.call hO5 hA5
  have bX7 := bX.only hO5 (by simpa using hbp)
  have bR7 := bR5.only hO5 (by simp; omega)
  have bQ7 := bQ5.only hO5 (by simp; omega)
  have o7 := D5.keep hO5 fStanding_good o5 (fun c hc => by have := f4.ge c hc; omega)
  rw [← HBB.out]
  have hne1 : b ≠ w.heap.size := by omega
  have hne2 : b ≠ w.heap.size + 1 := by omega
  clear hcall hO5 hA5 D5 bX bR5 bQ5 o5 D0
  cases sw
  · have AD : Bw w7 w7.drew := (Bw.refl w7).drew
    have D8 := D7.bw AD
    have bX8 := bX7.bw AD
    have bR8 := bR7.bw AD
    have bQ8 := bQ7.bw AD
    have o8 := keepBw AD fStanding_good o7
    have hcall := D_l1Below W w7.drew p D8.at' 12 (by omega) (by omega)
    have x0 := bX8.c 0 _ rfl
    have x1 := bX8.c 1 _ rfl
    have x2 := bX8.c 2 _ rfl
    have x3 := bX8.c 3 _ rfl
    have xf := bX8.fr
    clear D7 bX7 bR7 bQ7 o7
    go_wp2_with fail
    refine wp_region_held_drew (S := (fun w' => w'.cell? ⟨b, 0, none⟩ = some (.slice A1 n1 c1) ∧ w'.cell? ⟨b, 1, none⟩ = some (.slice A2 n2 c2) ∧ w'.cell? ⟨b, 2, none⟩ = some (.slice A3 n3 c3) ∧ w'.cell? ⟨b, 3, none⟩ = some (.int .i64 s.tests))) (by kernel_rfl) ?_ (fun hHeld => ?_)
    · exact ⟨x0, x1, x2, x3⟩
    refine wpAnyH_take (i := 0) (oi := _) (v := ?_) rfl (by kernel_rfl) (by kernel_rfl) (by kernel_rfl) (fun _ _ _ h => h) (Or.inl ⟨by rfl, ?_⟩) (by assumption) ?_
    rotate_left 1
    · (intro wS hSw; (try dsimp only at hSw); go_simp; try with_reducible rfl)
    try simp only [Act.put, List.getElem_toArray, List.getElem_cons_zero, List.getElem_cons_succ, List.setIfInBounds_toArray, List.set_cons_zero, List.set_cons_succ]
    refine wpAnyH_take (i := 1) (oi := _) (v := ?_) rfl (by kernel_rfl) (by kernel_rfl) (by kernel_rfl) (fun _ _ _ h => h) (Or.inl ⟨by rfl, ?_⟩) (by assumption) ?_
    rotate_left 1
    · (intro wS hSw; (try dsimp only at hSw); go_simp; try with_reducible rfl)
    try simp only [Act.put, List.getElem_toArray, List.getElem_cons_zero, List.getElem_cons_succ, List.setIfInBounds_toArray, List.set_cons_zero, List.set_cons_succ]
    refine wpAnyH_take (i := 2) (oi := _) (v := ?_) rfl (by kernel_rfl) (by kernel_rfl) (by kernel_rfl) (fun _ _ _ h => h) (Or.inl ⟨by rfl, ?_⟩) (by assumption) ?_
    rotate_left 1
    · (intro wS hSw; (try dsimp only at hSw); go_simp; try with_reducible rfl)
    try simp only [Act.put, List.getElem_toArray, List.getElem_cons_zero, List.getElem_cons_succ, List.setIfInBounds_toArray, List.set_cons_zero, List.set_cons_succ]
    refine wpAnyH_ready (rs := [3]) (by kernel_rfl) (by simp) (AllReadyH.cons (o := _) rfl (fun K hK => ?_) AllReadyH.nil)
    go_simp
    refine hcall.mono ?_
    rintro e w8 ⟨v8, rfl, ⟨id, rfl, d1, d2⟩, hO8, hA8⟩
    have D8' := D8.call hO8 hA8
    have bX8' := bX8.only hO8 (by simpa using hbp)
    have bR8' := bR8.only hO8 (by simp; omega)
    have bQ8' := bQ8.only hO8 (by simp; omega)
    have o8' := D8.keep hO8 fStanding_good o8 (fun c hc => by have := f4.ge c hc; omega)
    clear x0 x1 x2 x3 xf
    refine hK.out _ _ ⟨bX8'.c 0 _ rfl, bX8'.c 1 _ rfl, bX8'.c 2 _ rfl, bX8'.c 3 _ rfl⟩ (fun hHeld => ?_)
    clear hK K hcall o8 bX8 bR8 bQ8
    try simp only [Act.put, List.getElem_toArray, List.getElem_cons_zero, List.getElem_cons_succ, List.setIfInBounds_toArray, List.set_cons_zero, List.set_cons_succ]
    refine wpAnyH_ready (rs := [4]) (by kernel_rfl) (by simp) (AllReadyH.cons (o := _) rfl (fun K hK => ?_) AllReadyH.nil)
    go_simp
    refine (D_l2Item W w8 p hA8 id 4 (by omega) (by omega)).mono ?_
    rintro e w9 ⟨v9, rfl, ⟨xi, ui, Fi, rfl, oi, fi, qi⟩, hO9, hA9⟩
    have hql : xi.vals.length ≤ 4 := by have := qi.2.1; omega
    clear qi
    have D9 := D8'.call hO9 hA9
    have bX9 := bX8'.only hO9 (by simpa using hbp)
    have bR9 := bR8'.only hO9 (by simp; omega)
    have bQ9 := bQ8'.only hO9 (by simp; omega)
    have o9 := D8'.keep hO9 fStanding_good o8' (fun c hc => by have := f4.ge c hc; omega)
    replace fi := fi.mono D8'.size
    clear o8' bX8' bR8' bQ8' hO9 hA9 D8' D8 hO8 hA8
    have HQL := Lib.hid hql
    obtain ⟨Ai, ni, ci, rfl, li, _⟩ := rSl_open (fInts_Rd oi)
    replace li := Lib.hid li
    refine hK.out _ _ ⟨bX9.c 0 _ rfl, bX9.c 1 _ rfl, bX9.c 2 _ rfl, bX9.c 3 _ rfl⟩ (fun hHeld => ?_)
    clear hK K hql
    try simp only [Act.put, List.getElem_toArray, List.getElem_cons_zero, List.getElem_cons_succ, List.setIfInBounds_toArray, List.set_cons_zero, List.set_cons_succ]
    refine wpAnyH_ready (rs := [5]) (by kernel_rfl) (by simp) (AllReadyH.cons (o := _) rfl (fun K hK => ?_) AllReadyH.nil)
    have r0 := bR9.c 0 _ rfl
    have r1 := bR9.c 1 _ rfl
    have r2 := bR9.c 2 _ rfl
    have r3 := bR9.c 3 _ rfl
    have rf := bR9.fr
    go_simp
    clear r0 r1 r2 r3 rf
    have hzb9 := bX9.lt
    have nR : w.heap.size ∉ F := fun h => by have := f4.ge _ h; omega
    have nQ : w.heap.size + 1 ∉ F := fun h => by have := f4.ge _ h; omega
    have nRi : w.heap.size ∉ Fi := fun h => by have := fi.ge _ h; omega
    have nQi : w.heap.size + 1 ∉ Fi := fun h => by have := fi.ge _ h; omega
    have bX10 := (((bX9.only (only_setCell w.heap.size 0 w9 (.slice A1 n1 c1)) (by simpa using hne1)).only (only_setCell w.heap.size 1 _ (.slice A2 n2 c2)) (by simpa using hne1)).only (only_setCell w.heap.size 2 _ (.slice A3 n3 c3)) (by simpa using hne1)).only (only_setCell w.heap.size 3 _ (.int .i64 s.tests)) (by simpa using hne1)
    have bQ10 := (((bQ9.only (only_setCell w.heap.size 0 w9 (.slice A1 n1 c1)) (by simp)).only (only_setCell w.heap.size 1 _ (.slice A2 n2 c2)) (by simp)).only (only_setCell w.heap.size 2 _ (.slice A3 n3 c3)) (by simp)).only (only_setCell w.heap.size 3 _ (.int .i64 s.tests)) (by simp)
    have bR10 := (((bR9.set (j := 0) (by simp) (.slice A1 n1 c1)).set (j := 1) (by simp) (.slice A2 n2 c2)).set (j := 2) (by simp) (.slice A3 n3 c3)).set (j := 3) (by simp) (.int .i64 s.tests)
    have o10 := keepSet4 (b := w.heap.size) (a0 := .slice A1 n1 c1) (a1 := .slice A2 n2 c2) (a2 := .slice A3 n3 c3) (a3 := .int .i64 s.tests) fStanding_good o9 nR
    have oi10 := keepSet4 (b := w.heap.size) (a0 := .slice A1 n1 c1) (a1 := .slice A2 n2 c2) (a2 := .slice A3 n3 c3) (a3 := .int .i64 s.tests) fInts_good oi nRi
    have B10 := Bw.set4 (b := w.heap.size) (a0 := .slice A1 n1 c1) (a1 := .slice A2 n2 c2) (a2 := .slice A3 n3 c3) (a3 := .int .i64 s.tests) (A0.then D9.at'.bw) (Nat.le_refl _)
    unfold set4 at o10 oi10 B10
    obtain ⟨Z, hZ⟩ : ∃ Z, Z = (((w9.setCell ⟨w.heap.size, 0, none⟩ (.slice A1 n1 c1)).setCell ⟨w.heap.size, 1, none⟩ (.slice A2 n2 c2)).setCell ⟨w.heap.size, 2, none⟩ (.slice A3 n3 c3)).setCell ⟨w.heap.size, 3, none⟩ (.int .i64 s.tests) := ⟨_, rfl⟩
    rw [← hZ] at bX10 bQ10 bR10 o10 oi10 B10 ⊢
    clear hZ
    refine hK.out _ _ ⟨bX10.c 0 _ rfl, bX10.c 1 _ rfl, bX10.c 2 _ rfl, bX10.c 3 _ rfl⟩ (fun hHeld => ?_)
    clear hK K
    try simp only [Act.put, List.getElem_toArray, List.getElem_cons_zero, List.getElem_cons_succ, List.setIfInBounds_toArray, List.set_cons_zero, List.set_cons_succ]
    refine wpAnyH_ready (rs := [6]) (by kernel_rfl) (by simp) (AllReadyH.cons (o := _) rfl (fun K hK => ?_) AllReadyH.nil)
    have q0 := bQ10.c 0 _ rfl
    have q1 := bQ10.c 1 _ rfl
    have qf := bQ10.fr
    go_simp
    clear q0 q1 qf
    have bX11 := (bX10.only (only_setCell (w.heap.size + 1) 0 Z (.int .i64 xi.id)) (by simpa using hne2)).only (only_setCell (w.heap.size + 1) 1 _ (.slice Ai ni ci)) (by simpa using hne2)
    have bR11 := (bR10.only (only_setCell (w.heap.size + 1) 0 Z (.int .i64 xi.id)) (by simp)).only (only_setCell (w.heap.size + 1) 1 _ (.slice Ai ni ci)) (by simp)
    have bQ11 := (bQ10.set (j := 0) (by simp) (.int .i64 xi.id)).set (j := 1) (by simp) (.slice Ai ni ci)
    have o11 := keepSet (b := w.heap.size + 1) (o := 1) (u := .slice Ai ni ci) fStanding_good (keepSet (b := w.heap.size + 1) (o := 0) (u := .int .i64 xi.id) fStanding_good o10 nQ) nQ
    have oi11 := keepSet (b := w.heap.size + 1) (o := 1) (u := .slice Ai ni ci) fInts_good (keepSet (b := w.heap.size + 1) (o := 0) (u := .int .i64 xi.id) fInts_good oi10 nQi) nQi
    have B11 := (B10.set (p := ⟨w.heap.size + 1, 0, none⟩) (by simp) (.int .i64 xi.id)).set (p := ⟨w.heap.size + 1, 1, none⟩) (by simp) (.slice Ai ni ci)
    refine hK.out _ _ ⟨bX11.c 0 _ rfl, bX11.c 1 _ rfl, bX11.c 2 _ rfl, bX11.c 3 _ rfl⟩ (fun hHeld => ?_)
    clear hK K
    try simp only [Act.put, List.getElem_toArray, List.getElem_cons_zero, List.getElem_cons_succ, List.setIfInBounds_toArray, List.set_cons_zero, List.set_cons_succ]
    refine wpAnyH_done (by kernel_rfl) ?_ _
    obtain ⟨Y, hY⟩ : ∃ Y, Y = (Z.setCell ⟨w.heap.size + 1, 0, none⟩ (.int .i64 xi.id)).setCell ⟨w.heap.size + 1, 1, none⟩ (.slice Ai ni ci) := ⟨_, rfl⟩
    rw [← hY] at bR11 bQ11 o11 oi11 B11 ⊢
    clear hY bX10 bX9 bX11 bQ10 bR10 o10 oi10 hHeld
    have r0 := bR11.c 0 _ rfl
    have r1 := bR11.c 1 _ rfl
    have r2 := bR11.c 2 _ rfl
    have r3 := bR11.c 3 _ rfl
    have rf := bR11.fr
    have q0 := bQ11.c 0 _ rfl
    have q1 := bQ11.c 1 _ rfl
    have qf := bQ11.fr
    go_wp2
    refine bodyPost_ret (v := .tuple #[.agg #[.slice A1 n1 c1, .slice A2 n2 c2, .slice A3 n3 c3, .int .i64 s.tests], .agg #[.int .i64 xi.id, .slice Ai ni ci]]) (by simp [results, Tryz.results10, go_sem, r0, r1, r2, r3, q0, q1]) rfl ?_
    exact ⟨_, _, rfl, fSt_TSt o11 sm, ⟨xi, _, rfl, fInts_Rd oi11, HQL.out⟩, B11⟩
  · have AD : Bw w7 w7.drew := (Bw.refl w7).drew
    have D8 := D7.bw AD
    have bX8 := bX7.bw AD
    have bR8 := bR7.bw AD
    have bQ8 := bQ7.bw AD
    have o8 := keepBw AD fStanding_good o7
    have hcall := D_l2AnyItem W w7.drew p D8.at'
    have x0 := bX8.c 0 _ rfl
    have x1 := bX8.c 1 _ rfl
    have x2 := bX8.c 2 _ rfl
    have x3 := bX8.c 3 _ rfl
    have xf := bX8.fr
    clear D7 bX7 bR7 bQ7 o7
    go_wp2_with fail
    refine wp_region_held_drew (S := (fun w' => w'.cell? ⟨b, 0, none⟩ = some (.slice A1 n1 c1) ∧ w'.cell? ⟨b, 1, none⟩ = some (.slice A2 n2 c2) ∧ w'.cell? ⟨b, 2, none⟩ = some (.slice A3 n3 c3) ∧ w'.cell? ⟨b, 3, none⟩ = some (.int .i64 s.tests))) (by kernel_rfl) ?_ (fun hHeld => ?_)
    · exact ⟨x0, x1, x2, x3⟩
    refine wpAnyH_take (i := 0) (oi := _) (v := ?_) rfl (by kernel_rfl) (by kernel_rfl) (by kernel_rfl) (fun _ _ _ h => h) (Or.inl ⟨by rfl, ?_⟩) (by assumption) ?_
    rotate_left 1
    · (intro wS hSw; (try dsimp only at hSw); go_simp; try with_reducible rfl)
    try simp only [Act.put, List.getElem_toArray, List.getElem_cons_zero, List.getElem_cons_succ, List.setIfInBounds_toArray, List.set_cons_zero, List.set_cons_succ]
    refine wpAnyH_take (i := 1) (oi := _) (v := ?_) rfl (by kernel_rfl) (by kernel_rfl) (by kernel_rfl) (fun _ _ _ h => h) (Or.inl ⟨by rfl, ?_⟩) (by assumption) ?_
    rotate_left 1
    · (intro wS hSw; (try dsimp only at hSw); go_simp; try with_reducible rfl)
    try simp only [Act.put, List.getElem_toArray, List.getElem_cons_zero, List.getElem_cons_succ, List.setIfInBounds_toArray, List.set_cons_zero, List.set_cons_succ]
    refine wpAnyH_ready (rs := [2]) (by kernel_rfl) (by simp) (AllReadyH.cons (o := _) rfl (fun K hK => ?_) AllReadyH.nil)
    go_simp
    refine hcall.mono ?_
    rintro e w9 ⟨v9, rfl, ⟨xi, ui, Fi, rfl, oi, fi, qi⟩, hO9, hA9⟩
    have hql : xi.vals.length ≤ 4 := qi.2.1
    clear qi
    have D9 := D8.call hO9 hA9
    have bX9 := bX8.only hO9 (by simpa using hbp)
    have bR9 := bR8.only hO9 (by simp; omega)
    have bQ9 := bQ8.only hO9 (by simp; omega)
    have o9 := D8.keep hO9 fStanding_good o8 (fun c hc => by have := f4.ge c hc; omega)
    replace fi := fi.mono D8.size
    clear x0 x1 x2 x3 xf
    clear hcall o8 bX8 bR8 bQ8 hO9 hA9 D8
    have HQL := Lib.hid hql
    obtain ⟨Ai, ni, ci, rfl, li, _⟩ := rSl_open (fInts_Rd oi)
    replace li := Lib.hid li
    refine hK.out _ _ ⟨bX9.c 0 _ rfl, bX9.c 1 _ rfl, bX9.c 2 _ rfl, bX9.c 3 _ rfl⟩ (fun hHeld => ?_)
    clear hK K hql
    try simp only [Act.put, List.getElem_toArray, List.getElem_cons_zero, List.getElem_cons_succ, List.setIfInBounds_toArray, List.set_cons_zero, List.set_cons_succ]
    refine wpAnyH_ready (rs := [3]) (by kernel_rfl) (by simp) (AllReadyH.cons (o := _) rfl (fun K hK => ?_) AllReadyH.nil)
    have r0 := bR9.c 0 _ rfl
    have r1 := bR9.c 1 _ rfl
    have r2 := bR9.c 2 _ rfl
    have r3 := bR9.c 3 _ rfl
    have rf := bR9.fr
    go_simp
    clear r0 r1 r2 r3 rf
    have hzb9 := bX9.lt
    have nR : w.heap.size ∉ F := fun h => by have := f4.ge _ h; omega
    have nQ : w.heap.size + 1 ∉ F := fun h => by have := f4.ge _ h; omega
    have nRi : w.heap.size ∉ Fi := fun h => by have := fi.ge _ h; omega
    have nQi : w.heap.size + 1 ∉ Fi := fun h => by have := fi.ge _ h; omega
    have bX10 := (((bX9.only (only_setCell w.heap.size 0 w9 (.slice A1 n1 c1)) (by simpa using hne1)).only (only_setCell w.heap.size 1 _ (.slice A2 n2 c2)) (by simpa using hne1)).only (only_setCell w.heap.size 2 _ (.slice A3 n3 c3)) (by simpa using hne1)).only (only_setCell w.heap.size 3 _ (.int .i64 s.tests)) (by simpa using hne1)
    have bQ10 := (((bQ9.only (only_setCell w.heap.size 0 w9 (.slice A1 n1 c1)) (by simp)).only (only_setCell w.heap.size 1 _ (.slice A2 n2 c2)) (by simp)).only (only_setCell w.heap.size 2 _ (.slice A3 n3 c3)) (by simp)).only (only_setCell w.heap.size 3 _ (.int .i64 s.tests)) (by simp)
    have bR10 := (((bR9.set (j := 0) (by simp) (.slice A1 n1 c1)).set (j := 1) (by simp) (.slice A2 n2 c2)).set (j := 2) (by simp) (.slice A3 n3 c3)).set (j := 3) (by simp) (.int .i64 s.tests)
    have o10 := keepSet4 (b := w.heap.size) (a0 := .slice A1 n1 c1) (a1 := .slice A2 n2 c2) (a2 := .slice A3 n3 c3) (a3 := .int .i64 s.tests) fStanding_good o9 nR
    have oi10 := keepSet4 (b := w.heap.size) (a0 := .slice A1 n1 c1) (a1 := .slice A2 n2 c2) (a2 := .slice A3 n3 c3) (a3 := .int .i64 s.tests) fInts_good oi nRi
    have B10 := Bw.set4 (b := w.heap.size) (a0 := .slice A1 n1 c1) (a1 := .slice A2 n2 c2) (a2 := .slice A3 n3 c3) (a3 := .int .i64 s.tests) (A0.then D9.at'.bw) (Nat.le_refl _)
    unfold set4 at o10 oi10 B10
    obtain ⟨Z, hZ⟩ : ∃ Z, Z = (((w9.setCell ⟨w.heap.size, 0, none⟩ (.slice A1 n1 c1)).setCell ⟨w.heap.size, 1, none⟩ (.slice A2 n2 c2)).setCell ⟨w.heap.size, 2, none⟩ (.slice A3 n3 c3)).setCell ⟨w.heap.size, 3, none⟩ (.int .i64 s.tests) := ⟨_, rfl⟩
    rw [← hZ] at bX10 bQ10 bR10 o10 oi10 B10 ⊢
    clear hZ
    refine hK.out _ _ ⟨bX10.c 0 _ rfl, bX10.c 1 _ rfl, bX10.c 2 _ rfl, bX10.c 3 _ rfl⟩ (fun hHeld => ?_)
    clear hK K
    try simp only [Act.put, List.getElem_toArray, List.getElem_cons_zero, List.getElem_cons_succ, List.setIfInBounds_toArray, List.set_cons_zero, List.set_cons_succ]
    refine wpAnyH_ready (rs := [4]) (by kernel_rfl) (by simp) (AllReadyH.cons (o := _) rfl (fun K hK => ?_) AllReadyH.nil)
    have q0 := bQ10.c 0 _ rfl
    have q1 := bQ10.c 1 _ rfl
    have qf := bQ10.fr
    go_simp
    clear q0 q1 qf
    have bX11 := (bX10.only (only_setCell (w.heap.size + 1) 0 Z (.int .i64 xi.id)) (by simpa using hne2)).only (only_setCell (w.heap.size + 1) 1 _ (.slice Ai ni ci)) (by simpa using hne2)
    have bR11 := (bR10.only (only_setCell (w.heap.size + 1) 0 Z (.int .i64 xi.id)) (by simp)).only (only_setCell (w.heap.size + 1) 1 _ (.slice Ai ni ci)) (by simp)
    have bQ11 := (bQ10.set (j := 0) (by simp) (.int .i64 xi.id)).set (j := 1) (by simp) (.slice Ai ni ci)
    have o11 := keepSet (b := w.heap.size + 1) (o := 1) (u := .slice Ai ni ci) fStanding_good (keepSet (b := w.heap.size + 1) (o := 0) (u := .int .i64 xi.id) fStanding_good o10 nQ) nQ
    have oi11 := keepSet (b := w.heap.size + 1) (o := 1) (u := .slice Ai ni ci) fInts_good (keepSet (b := w.heap.size + 1) (o := 0) (u := .int .i64 xi.id) fInts_good oi10 nQi) nQi
    have B11 := (B10.set (p := ⟨w.heap.size + 1, 0, none⟩) (by simp) (.int .i64 xi.id)).set (p := ⟨w.heap.size + 1, 1, none⟩) (by simp) (.slice Ai ni ci)
    refine hK.out _ _ ⟨bX11.c 0 _ rfl, bX11.c 1 _ rfl, bX11.c 2 _ rfl, bX11.c 3 _ rfl⟩ (fun hHeld => ?_)
    clear hK K
    try simp only [Act.put, List.getElem_toArray, List.getElem_cons_zero, List.getElem_cons_succ, List.setIfInBounds_toArray, List.set_cons_zero, List.set_cons_succ]
    refine wpAnyH_done (by kernel_rfl) ?_ _
    obtain ⟨Y, hY⟩ : ∃ Y, Y = (Z.setCell ⟨w.heap.size + 1, 0, none⟩ (.int .i64 xi.id)).setCell ⟨w.heap.size + 1, 1, none⟩ (.slice Ai ni ci) := ⟨_, rfl⟩
    rw [← hY] at bR11 bQ11 o11 oi11 B11 ⊢
    clear hY bX10 bX9 bX11 bQ10 bR10 o10 oi10 hHeld
    have r0 := bR11.c 0 _ rfl
    have r1 := bR11.c 1 _ rfl
    have r2 := bR11.c 2 _ rfl
    have r3 := bR11.c 3 _ rfl
    have rf := bR11.fr
    have q0 := bQ11.c 0 _ rfl
    have q1 := bQ11.c 1 _ rfl
    have qf := bQ11.fr
    go_wp2
    refine bodyPost_ret (v := .tuple #[.agg #[.slice A1 n1 c1, .slice A2 n2 c2, .slice A3 n3 c3, .int .i64 s.tests], .agg #[.int .i64 xi.id, .slice Ai ni ci]]) (by simp [results, Tryz.results10, go_sem, r0, r1, r2, r3, q0, q1]) rfl ?_
    exact ⟨_, _, rfl, fSt_TSt o11 sm, ⟨xi, _, rfl, fInts_Rd oi11, HQL.out⟩, B11⟩
end Go.Proofs.YtpihighajaeabaaGreat
