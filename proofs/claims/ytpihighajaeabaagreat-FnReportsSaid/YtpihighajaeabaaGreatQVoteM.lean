/- Votes: plain model. No program in sight. -/
import Derived.Test.YtpihighajaeabaaGreatQDrawS
import Derived.Test.YtpihighajaeabaaGreatQDom
import Derived.Test.YtpihighajaeabaaGreatQChangeM
namespace Go.Proofs.YtpihighajaeabaaGreat
open Go.RowKit
set_option linter.unusedVariables false
set_option linter.unusedSimpArgs false
theorem fInts_five (w : World) (a b c d e : Int) : fInts (w.alloc (.cells #[.int .i64 a, .int .i64 b, .int .i64 c, .int .i64 d, .int .i64 e] 3)) [a, b, c, d, e] [.slice (some ⟨w.heap.size, 0, none⟩) 5 5] [w.heap.size] := by
  refine ⟨_, [[.int .i64 a], [.int .i64 b], [.int .i64 c], [.int .i64 d], [.int .i64 e]], [[], [], [], [], []], rfl, ?_, ?_, rfl⟩
  · exact ⟨rfl, .inr ⟨w.heap.size, 5, #[.int .i64 a, .int .i64 b, .int .i64 c, .int .i64 d, .int .i64 e], rfl, Nat.zero_le _, heap_alloc_new w _, Nat.le_refl 5, (by decide : 5 ≤ maxLen), rfl, rfl⟩⟩
  · exact ⟨⟨⟨rfl, rfl⟩, rfl⟩, ⟨⟨rfl, rfl⟩, rfl⟩, ⟨⟨rfl, rfl⟩, rfl⟩, ⟨⟨rfl, rfl⟩, rfl⟩, ⟨⟨rfl, rfl⟩, rfl⟩, trivial⟩
/-- a standing of the call's own, small -/
def DSA (B : Nat) (W : World) (v : Value) : Prop := ∃ s va vb vc F, v = .agg #[va, vb, vc, .int .i64 s.tests] ∧ fStanding W s [va, vb, vc, .int .i64 s.tests] F ∧ Fresh B F ∧ smallSt s
/-- the parts of an owned standing -/
theorem fSt_parts {W : World} {s : GStanding} {va vb vc vd : Value} {F : List Nat} (h : fStanding W s [va, vb, vc, vd] F) : ∃ G H I, fItems W s.items [va] G ∧ fNodes W s.wanted [vb] H ∧ fInts W s.best [vc] I ∧ F = G ++ (H ++ I) ∧ vd = .int .i64 s.tests := by
  obtain ⟨v, u, t, G, H, I, e, h, k, l, hF⟩ := h
  injection e with e1 e; injection e with e2 e; injection e with e3 e; injection e with e4 e
  subst e1 e2 e3
  exact ⟨G, H, I, h, k, l, hF, e4⟩
theorem fSt_make {W : World} {s : GStanding} {va vb vc : Value} {G H I : List Nat} (h : fItems W s.items [va] G) (k : fNodes W s.wanted [vb] H) (l : fInts W s.best [vc] I) : fStanding W s [va, vb, vc, .int .i64 s.tests] (G ++ (H ++ I)) := ⟨va, vb, vc, G, H, I, rfl, h, k, l, rfl⟩
theorem fSt_tests {W : World} {s : GStanding} {va vb vc vd : Value} {F : List Nat} (h : fStanding W s [va, vb, vc, vd] F) (n : Int) : fStanding W ⟨s.items, s.wanted, s.best, n⟩ [va, vb, vc, .int .i64 n] F := by
  obtain ⟨G, H, I, h1, h2, h3, rfl, _⟩ := fSt_parts h
  exact fSt_make h1 h2 h3
/-- one list of three is new -/
theorem fresh_last {B m : Nat} {G H I I' : List Nat} (h : Fresh B (G ++ (H ++ I))) (hI : I'.Nodup) (hlt : ∀ b ∈ G ++ (H ++ I), b < m) (hs : ∀ b ∈ I', b ∈ I ∨ m ≤ b) (hm : B ≤ m) : Fresh B (G ++ (H ++ I')) := by
  have hn := h.nodup
  rw [List.nodup_append] at hn
  have hn2 := hn.2.1
  rw [List.nodup_append] at hn2
  refine ⟨?_, fun b hb => ?_⟩
  · rw [List.nodup_append]
    refine ⟨hn.1, ?_, fun a ha c hc e => ?_⟩
    · rw [List.nodup_append]
      refine ⟨hn2.1, hI, fun a ha c hc e => ?_⟩
      rcases hs c hc with h1 | h1
      · exact hn2.2.2 a ha c h1 e
      · have := hlt a (by simp [ha]); omega
    · rcases List.mem_append.1 hc with h1 | h1
      · exact hn.2.2 a ha c (List.mem_append_left _ h1) e
      · rcases hs c h1 with h2 | h2
        · exact hn.2.2 a ha c (List.mem_append_right _ h2) e
        · have := hlt a (by simp [ha]); omega
  · rcases List.mem_append.1 hb with h1 | h1
    · exact h.ge b (by simp [h1])
    · rcases List.mem_append.1 h1 with h2 | h2
      · exact h.ge b (by simp [h2])
      · rcases hs b h2 with h3 | h3
        · exact h.ge b (by simp [h3])
        · omega
set_option maxRecDepth 100000 in
set_option maxHeartbeats 6400000 in
theorem D_l15Any (w0 w : World) (p : Nat) (hA : At w0 p w) : Calls Tryz.prog 70 #[.pointer (some ⟨p, 0, none⟩)] w
    (RetD w0 p w (DSA w.heap.size)) := by
  obtain ⟨i0, hi, hz0, hz1, hz2⟩ := info_parts info_int
  have D0 := Dn.start hA
  have hlt := hA.lt
  have D1 := D0.alloc (.cells #[.slice none 0 0, .slice none 0 0, .slice none 0 0, .int .i64 0] 28)
  have bR := Box.new w #[.slice none 0 0, .slice none 0 0, .slice none 0 0, .int .i64 0] 28
  have hz0 : (w.alloc (.cells #[.slice none 0 0, .slice none 0 0, .slice none 0 0, .int .i64 0] 28)).heap.size = w.heap.size + 1 := by simp
  obtain ⟨W, hW⟩ : ∃ W, W = w.alloc (.cells #[.slice none 0 0, .slice none 0 0, .slice none 0 0, .int .i64 0] 28) := ⟨_, rfl⟩
  rw [← hW] at D1 bR hz0
  have HW := Lib.hid hW
  have HZ0 := Lib.hid hz0
  clear hW
  have hp : p < W.heap.size := by omega
  clear hz0
  have hcall := D_l15Standing w0 W p D1.at'
  go_enter Tryz.func70, Tryz.ntmps70
  go_wp2_with fail
  rw [← HW.out]
  refine hcall.mono ?_
  rintro e w4 ⟨v4, rfl, ⟨s, va, vb, vc, F, rfl, o4, f4, O⟩, hO4, hA4⟩
  have D4 := D1.call hO4 hA4
  have bR4 := bR.only hO4 (by simp; omega)
  obtain ⟨A1, c1, A2, c2, A3, c3, eS⟩ := fStanding_shape o4
  injection eS with eS1 eS
  injection eS with eS2 eS
  injection eS with eS3 eS
  subst eS1 eS2 eS3
  clear eS
  obtain ⟨n1, hn1⟩ : ∃ n, n = s.items.length := ⟨_, rfl⟩
  obtain ⟨n2, hn2⟩ : ∃ n, n = s.wanted.length := ⟨_, rfl⟩
  obtain ⟨n3, hn3⟩ : ∃ n, n = s.best.length := ⟨_, rfl⟩
  rw [← hn1, ← hn2, ← hn3] at o4 ⊢
  clear hn1 hn2 hn3
  have hFlt := (fStanding_good (B := 0)).lt o4
  have hAl := (Bw.refl w4).alloc (.cells #[.slice A1 n1 c1, .slice A2 n2 c2, .slice A3 n3 c3, .int .i64 s.tests] 28)
  have bX := Box.new w4 #[.slice A1 n1 c1, .slice A2 n2 c2, .slice A3 n3 c3, .int .i64 s.tests] 28
  have D5 := D4.bw hAl
  have bR5 := bR4.bw hAl
  have o5 := keepBw hAl fStanding_good o4
  obtain ⟨b, hb⟩ : ∃ b, b = w4.heap.size := ⟨_, rfl⟩
  obtain ⟨X, hX⟩ : ∃ X, X = w4.alloc (.cells #[.slice A1 n1 c1, .slice A2 n2 c2, .slice A3 n3 c3, .int .i64 s.tests] 28) := ⟨_, rfl⟩
  rw [← hX] at D5 bX bR5 o5
  rw [← hb] at bX hFlt
  have nbF : b ∉ F := fun h => by have := hFlt _ h; omega
  have hbp : b ≠ p := by have := hO4.1; omega
  have hbW : W.heap.size ≤ b := by have := hO4.1; omega
  have HX := Lib.hid hX
  have HBB := Lib.hid hb
  have hcall := D_l1Below w0 X p D5.at' 14 (by omega) (by omega)
  clear hX hb o4 hAl D1 D4 bR bR4 hO4 hA4
  go_wp2_with fail
  rw [← HX.out]
  refine hcall.mono ?_
  rintro e w7 ⟨v5, rfl, ⟨sw, rfl, N1, N2⟩, hO5, hA5⟩
  have D7 := D5.call hO5 hA5
  have bX7 := bX.only hO5 (by simpa using hbp)
  have bR7 := bR5.only hO5 (by simp; omega)
  have o7 := D5.keep hO5 fStanding_good o5 (fun c hc => by have := f4.ge c hc; have := HZ0.out; omega)
  rw [← HBB.out]
  have hwb : w.heap.size < b := by have := HZ0.out; omega
  have hne1 : b ≠ w.heap.size := by omega
  have hne2 : w.heap.size ≠ b := by omega
  have fW : Fresh (w.heap.size + 1) F := f4.mono (by have := HZ0.out; omega)
  clear hcall hO5 hA5 D5 bX bR5 o5 D0 hA
  by_cases h0 : sw = 0
  · subst h0
    have AD : Bw w7 w7.drew := (Bw.refl w7).drew
    have D8 := D7.bw AD
    have bX8 := bX7.bw AD
    have bR8 := bR7.bw AD
    have o8 := keepBw AD fStanding_good o7
    have hcall := D_l1Below w0 w7.drew p D8.at' 9 (by omega) (by omega)
    have x0 := bX8.c 0 _ rfl
    have x1 := bX8.c 1 _ rfl
    have x2 := bX8.c 2 _ rfl
    have x3 := bX8.c 3 _ rfl
    have xf := bX8.fr
    clear D7 bX7 bR7 o7
    go_wp2_with fail
    go_region_law (first
      | (refine step_push2 _ (by rfl) (.tmp 11) (.tmp 14) 26 (by rfl) w0 3 i0 _ 1 8 Tryz.underlying26 hi hz0 hz1 hz2 rfl (by omega) fInt_good _ s.best I (by rfl) y3 hFI ⟨w9.heap.size, 0, none⟩ 1 (by rfl) id [.int .i64 id] [] hcl ⟨rfl, rfl⟩ rfl w9.heap.size hFm Fresh.nil hz9 (by have := O.len; omega) (by have := O.len; omega) hbW ?_; intro v' w' F' hv' hF' hb' hO' hs'; obtain ⟨A', N', c', rfl, l', _⟩ := rSl_open (fInts_Rd hv'); replace l' := Lib.hid l'; have bX11 := bX10.only hO' nbI; have e0 := bX11.c 0 _ rfl; have e1 := bX11.c 1 _ rfl; have e2 := bX11.c 2 _ rfl; have e3 := bX11.c 3 _ rfl; have ef := bX11.fr)
      | (go_simp; go_at_call 74; refine hcall.mono ?_; rintro e w9 ⟨v9, rfl, ⟨id, rfl, d1, d2⟩, hO9, hA9⟩; have D9 := D8.call hO9 hA9; have bX9 := bX8.only hO9 (by simpa using hbp); have u2 := bX9.c 2 _ rfl; have uf := bX9.fr; have o9 := D8.keep hO9 fStanding_good o8 (fun c hc => by (have := fW.ge c hc; omega)); have A9 := (Bw.refl w9).alloc (.cells #[.int .i64 id] 3); have D10 := D9.bw A9; have bX10 := bX9.bw A9; have t2 := bX10.c 2 _ rfl; have o10 := keepBw A9 fStanding_good o9; obtain ⟨G, H, I, y1, y2, y3, eF, _⟩ := fSt_parts o10; have hF9 := (fStanding_good (B := 0)).lt o9; have hcl := cell_one_new w9 (.int .i64 id) 3; have hFI : Fresh w0.heap.size I := ⟨by (have := fW.nodup; rw [eF, List.nodup_append] at this; have h2 := this.2.1; rw [List.nodup_append] at h2; exact h2.2.1), fun c hc => by (have := fW.ge c (by rw [eF]; simp [hc]); have := D10.le; omega)⟩; have hbW := D9.at'.bw.then A9; have hz9 := D9.at'.bw.size; have hFm : ∀ c ∈ I, c < w9.heap.size := fun c hc => hF9 c (by rw [eF]; simp [hc]); have nbI : b ∉ I := fun h => nbF (by rw [eF]; simp [h])))
    all_goals
      have hnd := fW.nodup
      rw [eF, List.nodup_append] at hnd
      have hnd2 := hnd.2.1
      rw [List.nodup_append] at hnd2
      have y1' := hO'.keeps fItems_good y1 (fun c h h2 => hnd.2.2 c h c (List.mem_append_right _ h2) rfl)
      have y2' := hO'.keeps fNodes_good y2 (fun c h h2 => hnd2.2.2 c h c h2 rfl)
      have o11 : fStanding w' ⟨s.items, s.wanted, s.best ++ [id], s.tests⟩ [.slice A1 n1 c1, .slice A2 n2 c2, .slice A' N' c', .int .i64 s.tests] (G ++ (H ++ F')) := fSt_make y1' y2' hv'
      have f11 : Fresh (w.heap.size + 1) (G ++ (H ++ F')) := fresh_last (m := w9.heap.size) (by rw [← eF]; exact fW) hF'.nodup (by rw [← eF]; exact hF9) (fun z hz => (hs' z hz).elim .inl (fun h => h.elim (fun h => by simp at h) (fun h => .inr (Nat.le_trans A9.size h)))) (by have := hO9.1; have := D8.size; have h3 := bX9.lt; omega)
      have hzb9 := bX9.lt
      have nb : b ∉ G ++ (H ++ F') := fun h => by
        rcases List.mem_append.1 h with h | h
        · exact nbF (by rw [eF]; simp [h])
        · rcases List.mem_append.1 h with h | h
          · exact nbF (by rw [eF]; simp [h])
          · rcases hs' b h with h | h | h
            · exact nbI h
            · simp at h
            · have := A9.size; omega
      have D11 := D10.next hO' (fun c hc => by have := fW.ge c (by rw [eF]; simp [hc]); omega) hb'
      have D12 := D11.set (b := b) (o := 2) (by omega) (.slice A' N' c')
      have bX12 := bX11.set (j := 2) (by simp) (.slice A' N' c')
      have bR11 := ((bR8.only hO9 (by simp; omega)).bw A9).only hO' (fun h => by have := fW.ge _ (by rw [eF]; simp [h] : w.heap.size ∈ F); omega)
      have bR12 := bR11.only (only_setCell b 2 w' (.slice A' N' c')) (by simp; omega)
      have o12 := keepSet (b := b) (o := 2) (u := .slice A' N' c') fStanding_good o11 nb
      have sm : smallSt ⟨s.items, s.wanted, s.best ++ [id], s.tests⟩ := ⟨O.1.1, O.1.2.1, by show (s.best ++ [id]).length ≤ _; rw [List.length_append, List.length_singleton]; have := O.len; omega⟩
      clear x0 x1 x2 x3 xf
      clear u2 uf t2 e0 e1 e2 e3 ef hcall hcl hv' y1 y2 y3 y1' y2' o11 bX11 bX10 bX9 bR11 o10 o9 o8 D11 D10 D9 D8 hO' hO9
      have x0 := bX12.c 0 _ rfl
      have x1 := bX12.c 1 _ rfl
      have x2 := bX12.c 2 _ rfl
      have x3 := bX12.c 3 _ rfl
      have xf := bX12.fr
      have r0 := bR12.c 0 _ rfl
      have r1 := bR12.c 1 _ rfl
      have r2 := bR12.c 2 _ rfl
      have r3 := bR12.c 3 _ rfl
      have rf := bR12.fr
      go_wp2
      refine bodyPost_ret (v := .agg #[.slice A1 n1 c1, .slice A2 n2 c2, .slice A' N' c', .int .i64 s.tests]) (by simp [results, Tryz.results70, go_sem, r0, r1, r2, r3, hne1, hne2]) rfl ?_
      exact ((((D12.set (Nat.le_refl _) _).set (Nat.le_refl _) _).set (Nat.le_refl _) _).set (Nat.le_refl _) _).ret ⟨⟨s.items, s.wanted, s.best ++ [id], s.tests⟩, _, _, _, _, rfl, keepSet4 fStanding_good o12 (fun h => by have := (f11).ge _ h; omega), (f11).mono (by omega), sm⟩
  · by_cases h1 : sw = 1
    · subst h1
      have DW := D7.alloc (.cells #[.int .i64 (-1), .int .i64 999900, .int .i64 999901, .int .i64 1000000, .int .i64 1000001] 3)
      have hAl := (Bw.refl w7).alloc (.cells #[.int .i64 (-1), .int .i64 999900, .int .i64 999901, .int .i64 1000000, .int .i64 1000001] 3)
      have hl := fInts_five w7 (-1) 999900 999901 1000000 1000001
      have hz3 := bX7.lt
      have hcall := D_l1PickInt w0 _ p DW.at' [-1, 999900, 999901, 1000000, 1000001] _ _ hl (by simp; omega) (by decide) (by decide)
      clear hl h0
      go_wp2_with fail
      refine hcall.mono ?_
      rintro e w8 ⟨v8, rfl, ⟨y, hy, rfl⟩, hO8, hA8⟩
      have D8 := DW.call hO8 hA8
      have bX8 := (bX7.bw hAl).only hO8 (by simpa using hbp)
      have bR8 := (bR7.bw hAl).only hO8 (by simp; omega)
      have o8 := DW.keep hO8 fStanding_good (keepBw hAl fStanding_good o7) (fun c hc => by have := fW.ge c hc; omega)
      have o9 := fSt_tests (keepSet (b := b) (o := 3) (u := .int .i64 y) fStanding_good o8 nbF) y
      have D9 := D8.set (b := b) (o := 3) (by omega) (.int .i64 y)
      have bX9 := bX8.set (j := 3) (by simp) (.int .i64 y)
      have bR9 := bR8.only (only_setCell b 3 w8 (.int .i64 y)) (by simp; omega)
      have sm : smallSt ⟨s.items, s.wanted, s.best, y⟩ := ⟨O.1.1, O.1.2.1, O.1.2.2⟩
      have u0 := bX8.c 0 _ rfl
      have u1 := bX8.c 1 _ rfl
      have u2 := bX8.c 2 _ rfl
      have u3 := bX8.c 3 _ rfl
      have uf := bX8.fr
      clear hcall hy D8 DW hO8 hA8 bX7 bR7 o7 hAl bR8 o8 D7
      have x0 := bX9.c 0 _ rfl
      have x1 := bX9.c 1 _ rfl
      have x2 := bX9.c 2 _ rfl
      have x3 := bX9.c 3 _ rfl
      have xf := bX9.fr
      have r0 := bR9.c 0 _ rfl
      have r1 := bR9.c 1 _ rfl
      have r2 := bR9.c 2 _ rfl
      have r3 := bR9.c 3 _ rfl
      have rf := bR9.fr
      go_wp2
      refine bodyPost_ret (v := .agg #[.slice A1 n1 c1, .slice A2 n2 c2, .slice A3 n3 c3, .int .i64 y]) (by simp [results, Tryz.results70, go_sem, r0, r1, r2, r3, hne1, hne2]) rfl ?_
      exact ((((D9.set (Nat.le_refl _) _).set (Nat.le_refl _) _).set (Nat.le_refl _) _).set (Nat.le_refl _) _).ret ⟨⟨s.items, s.wanted, s.best, y⟩, _, _, _, _, rfl, keepSet4 fStanding_good o9 (fun h => by have := (fW).ge _ h; omega), (fW).mono (by omega), sm⟩
    · have e0 : (sw == 0) = false := by simpa using h0
      have e1 : (sw == 1) = false := by simpa using h1
      have sm := O.1
      clear h0 h1
      have x0 := bX7.c 0 _ rfl
      have x1 := bX7.c 1 _ rfl
      have x2 := bX7.c 2 _ rfl
      have x3 := bX7.c 3 _ rfl
      have xf := bX7.fr
      have r0 := bR7.c 0 _ rfl
      have r1 := bR7.c 1 _ rfl
      have r2 := bR7.c 2 _ rfl
      have r3 := bR7.c 3 _ rfl
      have rf := bR7.fr
      go_wp2
      refine bodyPost_ret (v := .agg #[.slice A1 n1 c1, .slice A2 n2 c2, .slice A3 n3 c3, .int .i64 s.tests]) (by simp [results, Tryz.results70, go_sem, r0, r1, r2, r3, hne1, hne2]) rfl ?_
      exact ((((D7.set (Nat.le_refl _) _).set (Nat.le_refl _) _).set (Nat.le_refl _) _).set (Nat.le_refl _) _).ret ⟨s, _, _, _, _, rfl, keepSet4 fStanding_good o7 (fun h => by have := (fW).ge _ h; omega), (fW).mono (by omega), sm⟩
/-- a standing, an item to be read -/
def TSt (W : World) (v : Value) : Prop := ∃ s va vb vc, v = .agg #[va, vb, vc, .int .i64 s.tests] ∧ Rd rItems W s.items [va] ∧ Rd rNodes W s.wanted [vb] ∧ Rd rInts W s.best [vc] ∧ smallSt s
theorem fSt_TSt {W : World} {s : GStanding} {va vb vc : Value} {F : List Nat} (h : fStanding W s [va, vb, vc, .int .i64 s.tests] F) (hs : smallSt s) : TSt W (.agg #[va, vb, vc, .int .i64 s.tests]) := by
  have R := fStanding_Rds h
  exact ⟨s, va, vb, vc, rfl, R.1, R.2.1, R.2.2.1, hs⟩
end Go.Proofs.YtpihighajaeabaaGreat

namespace Go.Proofs.YtpihighajaeabaaGreat
open Go.RowKit
set_option linter.unusedVariables false
set_option linter.unusedSimpArgs false
set_option maxHeartbeats 1600000 in
theorem D_DrawStandingLine (w : World) (xs : List Int) (v : Value) (h : Rd rBytes w xs [v]) (hx : wfBytes xs) : Calls Tryz.prog 50 #[v] w fun e W =>
    ∃ va, e = .returned va ∧ TSt W va ∧ Bw w W := by
  have A0 : Bw w (w.alloc (.cells #[.slice none 0 0, .slice none 0 0, .slice none 0 0, .int .i64 0] 28)) := (Bw.refl w).alloc _
  have bR := Box.new w #[.slice none 0 0, .slice none 0 0, .slice none 0 0, .int .i64 0] 28
  have hcall0 := D_l1New _ xs v (h.bw rBytes_good A0) hx
  clear h
  go_enter Tryz.func50, Tryz.ntmps50
  go_wp2_with fail
  refine hcall0.mono ?_
  rintro e w1 ⟨p, rfl, hA1⟩
  clear hcall0
  have hge := hA1.ge
  replace bR := bR.bw hA1.bw
  have hw1 := bR.lt
  have hwp : w.heap.size < p := by simp at hge; omega
  have hcall := D_l15Any _ w1 p hA1
  go_wp2_with fail
  refine hcall.mono ?_
  rintro e w2 ⟨v2, rfl, ⟨s, va, vb, vc, F, rfl, o2, f2, sm⟩, hO2, hA2⟩
  clear hcall
  have bR2 := bR.only hO2 (by simp; omega)
  obtain ⟨A1, c1, A2, c2, A3, c3, eS⟩ := fStanding_shape o2
  injection eS with eS1 eS
  injection eS with eS2 eS
  injection eS with eS3 eS
  subst eS1 eS2 eS3
  clear eS
  have hFW : w.heap.size ∉ F := fun h => by have := f2.ge _ h; omega
  have HSM := Lib.hid sm
  have BA := A0.then hA2.bw
  clear sm f2 hO2 hA2 hA1 A0 bR
  obtain ⟨n1, hn1⟩ : ∃ n, n = s.items.length := ⟨_, rfl⟩
  obtain ⟨n2, hn2⟩ : ∃ n, n = s.wanted.length := ⟨_, rfl⟩
  obtain ⟨n3, hn3⟩ : ∃ n, n = s.best.length := ⟨_, rfl⟩
  rw [← hn1, ← hn2, ← hn3] at o2 ⊢
  clear hn1 hn2 hn3
  have r0 := bR2.c 0 _ rfl
  have r1 := bR2.c 1 _ rfl
  have r2 := bR2.c 2 _ rfl
  have r3 := bR2.c 3 _ rfl
  have rf := bR2.fr
  go_wp2
  refine bodyPost_ret (v := .agg #[.slice A1 n1 c1, .slice A2 n2 c2, .slice A3 n3 c3, .int .i64 s.tests]) (by simp [results, Tryz.results50, go_sem, r0, r1, r2, r3]) rfl ?_
  exact ⟨_, rfl, fSt_TSt (keepSet4 fStanding_good o2 hFW) HSM.out, BA.set4 (Nat.le_refl _)⟩
end Go.Proofs.YtpihighajaeabaaGreat

namespace Go.Proofs.YtpihighajaeabaaGreat
open Go.RowKit
set_option linter.unusedVariables false
def areVoters (g : List (List GNode)) : Bool := g.all isExpr && (decide (1 ≤ g.length) && decide (g.length ≤ 5))
def isPoll (l : List GItem) (g : List (List GNode)) : Bool := areItems l && areVoters g
theorem areVoters_len {g : List (List GNode)} (h : areVoters g = true) : 1 ≤ g.length ∧ g.length ≤ 5 := by
  unfold areVoters at h
  rw [Bool.and_eq_true, Bool.and_eq_true, decide_eq_true_eq, decide_eq_true_eq] at h
  exact h.2
theorem areVoters_mem {g : List (List GNode)} (h : areVoters g = true) : ∀ e ∈ g, isExpr e = true := by
  unfold areVoters at h
  rw [Bool.and_eq_true, List.all_eq_true] at h
  exact h.1
theorem isPoll_items {l : List GItem} {g : List (List GNode)} (h : isPoll l g = true) : areItems l = true := by unfold isPoll at h; rw [Bool.and_eq_true] at h; exact h.1
theorem isPoll_voters {l : List GItem} {g : List (List GNode)} (h : isPoll l g = true) : areVoters g = true := by unfold isPoll at h; rw [Bool.and_eq_true] at h; exact h.2
theorem all_take_yes {α : Type} {f : α → Bool} {l : List α} {k : Nat} {x : α} (hx : l[k]? = some x) (h : f x = true) : (l.take (k + 1)).all f = (l.take k).all f := by
  rw [List.take_add_one, hx, List.all_append]; simp [h]
theorem all_take_no {α : Type} {f : α → Bool} {l : List α} {k : Nat} {x : α} (hx : l[k]? = some x) (h : f x = false) : l.all f = false := by
  rw [Bool.eq_false_iff]; intro h2; rw [List.all_eq_true] at h2; rw [h2 x (List.mem_of_getElem? hx)] at h; cases h
/-- how many voters say so -/
def cntTo (f : List GNode → Bool) (g : List (List GNode)) (k : Nat) : Int := (((g.take k).filter f).length : Int)
theorem cntTo_yes {f : List GNode → Bool} {g : List (List GNode)} {k : Nat} {e : List GNode} (hx : g[k]? = some e) (h : f e = true) : cntTo f g (k + 1) = cntTo f g k + 1 := by
  unfold cntTo; rw [List.take_add_one, hx, List.filter_append]; simp [h]
theorem cntTo_no {f : List GNode → Bool} {g : List (List GNode)} {k : Nat} {e : List GNode} (hx : g[k]? = some e) (h : f e = false) : cntTo f g (k + 1) = cntTo f g k := by
  unfold cntTo; rw [List.take_add_one, hx, List.filter_append]; simp [h]
def votesIn (g : List (List GNode)) (x y : GItem) : Int := cntTo (fun e => decide (cmpBy e x y = 1)) g g.length
def votesFor (l : List GItem) (g : List (List GNode)) (a b : Int) : Int := if isPoll l g && (decide (0 ≤ findIdx l a) && decide (0 ≤ findIdx l b)) then votesIn g (itemAt l a) (itemAt l b) else 0
theorem from_pos : ∀ {l : List GItem} {o : Option Int}, areItemsFrom o l = true → ∀ {i k : Nat} {x y : GItem}, l[i]? = some x → l[k]? = some y → x.id = y.id → i = k
  | [], _, _, i, _, _, _, hx, _, _ => by simp at hx
  | z :: l, o, h, i, k, x, y, hx, hy, e => by
    have h2 : areItemsFrom (some z.id) l = true := by
      cases o with
      | none => rw [areItemsFrom, Bool.and_eq_true] at h; exact h.2
      | some p => rw [areItemsFrom, Bool.and_eq_true] at h; exact h.2
    cases i with
    | zero =>
      cases k with
      | zero => rfl
      | succ k =>
        rw [List.getElem?_cons_zero] at hx; rw [List.getElem?_cons_succ] at hy
        cases hx
        have := from_gt h2 y (List.mem_of_getElem? hy); omega
    | succ i =>
      rw [List.getElem?_cons_succ] at hx
      cases k with
      | zero =>
        rw [List.getElem?_cons_zero] at hy
        cases hy
        have := from_gt h2 x (List.mem_of_getElem? hx); omega
      | succ k =>
        rw [List.getElem?_cons_succ] at hy
        rw [from_pos h2 hx hy e]
theorem areItems_pos {l : List GItem} (h : areItems l = true) {i k : Nat} {x y : GItem} (hx : l[i]? = some x) (hy : l[k]? = some y) (e : x.id = y.id) : i = k := by
  unfold areItems at h; rw [Bool.and_eq_true] at h; exact from_pos h.1 hx hy e
/-- the item that wins against each other one -/
def winsOver (l : List GItem) (g : List (List GNode)) (x y : GItem) : Bool := decide (x.id = y.id) || decide (votesFor l g y.id x.id < votesFor l g x.id y.id)
def condo (l : List GItem) (g : List (List GNode)) : Int := if isPoll l g then (match l.find? (fun x => l.all (winsOver l g x)) with | some x => x.id | none => -1) else -1
theorem find_take_no {α : Type} {f : α → Bool} {l : List α} {k : Nat} {x : α} (hx : l[k]? = some x) (h : f x = false) : (l.take (k + 1)).find? f = (l.take k).find? f := by
  rw [List.take_add_one, hx, List.find?_append]; simp [h]
theorem find_take_yes {α : Type} {f : α → Bool} {l : List α} {k : Nat} {x : α} (hx : l[k]? = some x) (h : f x = true) (h0 : (l.take k).find? f = none) : l.find? f = some x := by
  have h1 : l.find? f = ((l.take k) ++ l.drop k).find? f := by rw [List.take_append_drop]
  rw [h1, List.find?_append, h0, drop_cons hx]; simp [h]
/-- sums over the voters -/
def sumTo (f : List GNode → Int) (g : List (List GNode)) : Nat → Int
  | 0 => 0
  | k + 1 => sumTo f g k + (match g[k]? with | some e => f e | none => 0)
theorem sumTo_succ {f : List GNode → Int} {g : List (List GNode)} {k : Nat} {e : List GNode} (hx : g[k]? = some e) : sumTo f g (k + 1) = sumTo f g k + f e := by rw [sumTo, hx]
theorem sumTo_bound {f : List GNode → Int} {g : List (List GNode)} (h : ∀ e, -16 ≤ f e ∧ f e ≤ 16) : ∀ k : Nat, -(16 * (k : Int)) ≤ sumTo f g k ∧ sumTo f g k ≤ 16 * k
  | 0 => by rw [sumTo]; omega
  | k + 1 => by
    have h1 := sumTo_bound (g := g) h k
    rw [sumTo]
    cases g[k]? with
    | none => dsimp only; omega
    | some e => have := h e; dsimp only; omega
def bordaOf (l : List GItem) (g : List (List GNode)) (x : GItem) : Int := sumTo (fun e => ((relM l e x.id (-1)).length : Int) - ((relM l e x.id 1).length : Int)) g g.length
def approvOf (l : List GItem) (g : List (List GNode)) (x : GItem) : Int := cntTo (fun e => (bestItems l e).contains x.id) g g.length
def bordaL (l : List GItem) (g : List (List GNode)) : List Int := if isPoll l g then l.map (bordaOf l g) else []
def approvL (l : List GItem) (g : List (List GNode)) : List Int := if isPoll l g then l.map (approvOf l g) else []
def mapTo (f : GItem → Int) (l : List GItem) (k : Nat) : List Int := (l.take k).map f
theorem mapTo_succ {f : GItem → Int} {l : List GItem} {k : Nat} {x : GItem} (hx : l[k]? = some x) : mapTo f l (k + 1) = mapTo f l k ++ [f x] := by unfold mapTo; rw [List.take_add_one, hx]; simp
theorem mapTo_len (f : GItem → Int) (l : List GItem) (k : Nat) : (mapTo f l k).length ≤ k := by unfold mapTo; rw [List.length_map, List.length_take]; omega
theorem mapTo_end {f : GItem → Int} {l : List GItem} {k : Nat} (h : l.length ≤ k) : mapTo f l k = l.map f := by unfold mapTo; rw [List.take_of_length_le h]
/-- the place of the first that is greatest -/
def posTo (s : List Int) : Nat → Nat
  | 0 => 0
  | k + 1 => match s[k]?, s[posTo s k]? with
    | some a, some b => if b < a then k else posTo s k
    | _, _ => posTo s k
theorem posTo_succ {s : List Int} {k : Nat} {a b : Int} (ha : s[k]? = some a) (hb : s[posTo s k]? = some b) : posTo s (k + 1) = if b < a then k else posTo s k := by rw [posTo, ha, hb]
def idAt (l : List GItem) (k : Nat) : Int := match l[k]? with | some x => x.id | none => -1
def choice (l : List GItem) (g : List (List GNode)) (s : List Int) : Int := if isPoll l g && decide (0 < l.length) then idAt l (posTo s s.length) else -1
theorem idAt_bound {l : List GItem} (h : areItems l = true) (k : Nat) : -1 ≤ idAt l k ∧ idAt l k ≤ 99 := by
  unfold idAt
  cases hx : l[k]? with
  | none => dsimp only; omega
  | some x => have := isItem_id (areItems_mem h (List.mem_of_getElem? hx)); dsimp only; omega
theorem choice_bound (l : List GItem) (g : List (List GNode)) (s : List Int) : -1 ≤ choice l g s ∧ choice l g s ≤ 99 := by
  unfold choice; split
  · rename_i h
    rw [Bool.and_eq_true] at h
    exact idAt_bound (isPoll_items h.1) _
  · omega
theorem condo_bound (l : List GItem) (g : List (List GNode)) : -1 ≤ condo l g ∧ condo l g ≤ 99 := by
  unfold condo; split
  · rename_i h
    cases hx : l.find? (fun x => l.all (winsOver l g x)) with
    | none => dsimp only; omega
    | some x => have := isItem_id (areItems_mem (isPoll_items h) (List.mem_of_find?_eq_some hx)); dsimp only; omega
  · omega
end Go.Proofs.YtpihighajaeabaaGreat
