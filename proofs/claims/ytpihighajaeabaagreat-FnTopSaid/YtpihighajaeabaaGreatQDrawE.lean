/- Draws: pairs and wishes. -/
import Derived.Test.YtpihighajaeabaaGreatQDrawD
import Derived.Test.YtpihighajaeabaaGreatQCopyW
namespace Go.Proofs.YtpihighajaeabaaGreat
open Go.RowKit
set_option linter.unusedVariables false
set_option linter.unusedSimpArgs false
def gPair (x : GPair) : Prop := (-100 ≤ x.fst ∧ x.fst ≤ 100) ∧ (-100 ≤ x.snd ∧ x.snd ≤ 100)
def gWish (x : GWish) : Prop := (-100 ≤ x.kind ∧ x.kind ≤ 100) ∧ (-100 ≤ x.field ∧ x.field ≤ 100) ∧ (-100 ≤ x.value ∧ x.value ≤ 100) ∧ (x.list.length ≤ 8 ∧ ∀ y ∈ x.list, -100 ≤ y ∧ y ≤ 100) ∧ (x.pairs.length ≤ 8 ∧ ∀ y ∈ x.pairs, gPair y)
set_option maxRecDepth 100000 in
set_option maxHeartbeats 3200000 in
theorem D_l3Pairs (w0 w : World) (p : Nat) (hA : At w0 p w) : Calls Tryz.prog 258 #[.pointer (some ⟨p, 0, none⟩)] w
    (RetD w0 p w (DL fPairs w.heap.size fun xs => xs.length ≤ 5 ∧ ∀ x ∈ xs, gPair x)) := by
  obtain ⟨i0, hi, hz0, hz1, hz2⟩ := info_parts info_PairW
  have D0 := Dn.start hA
  have D1 := D0.alloc (.cells #[] 214)
  have hv0 := fSl_empty (e := 214) (sz := 2) (R := fPair) w
  have hlt := hA.lt
  have hcall := D_l1Below w0 _ p D1.at' 5 (by omega) (by omega)
  go_enter Tryz.func258, Tryz.ntmps258
  go_wp2_with fail
  refine hcall.mono ?_
  rintro e w1 ⟨v1, rfl, ⟨N0, rfl, N1, N2⟩, hO1, hA1⟩
  have D2 := D1.call hO1 hA1
  have hv1 := D1.keep hO1 fPairs_good hv0 (by simp)
  obtain ⟨N, rfl⟩ : ∃ N : Nat, N0 = (N : Int) := ⟨N0.toNat, by omega⟩
  have HN := Lib.hid N2
  clear hcall hO1 hA1 D1 hv0 N1 N2
  go_wp2
  go_loopg [3, 4, 5, 6] N (fun g s z x5 x6 w' => ∃ (k : Nat) (n : Nat) (xs : List GPair) (F : List Nat), n = g ∧ z = .int .i64 n ∧ Hid (k + n = N ∧ xs.length = k ∧ ∀ x ∈ xs, gPair x) ∧ fPairs w' xs [s] F ∧ Fresh w.heap.size F ∧ Dn w0 w p w')
  case atStart => exact ⟨0, N, [], [w.heap.size], rfl, rfl, Lib.hid ⟨by omega, rfl, by simp⟩, hv1, ⟨by simp, by simp⟩, D2⟩
  case round =>
    clear hv1 D2
    obtain ⟨k, n, xs, F, rfl, rfl, HI, hv, hF, hD⟩ := hrel
    have hk16 : k + n ≤ 5 := by have := HI.out.1; have := HN.out; omega
    by_cases hn : 0 < n
    · have n1 : (0 : Int) < (n : Int) := by omega
      obtain ⟨m, rfl⟩ : ∃ m, n = m + 1 := ⟨n - 1, by omega⟩
      have hcall := D_l1Below w0 wr p hD.at' 4 (by omega) (by omega)
      go_wp2_with fail
      refine hcall.mono ?_
      rintro e w4 ⟨v4, rfl, ⟨a, rfl, a1, a2⟩, hO4, hA4⟩
      have D4 := hD.call hO4 hA4
      have hv4 := hD.keep hO4 fPairs_good hv hF.ge
      have hcall := D_l1Below w0 w4 p hA4 3 (by omega) (by omega)
      clear hv
      go_wp2_with fail
      refine hcall.mono ?_
      rintro e w5 ⟨v5, rfl, ⟨b, rfl, b1, b2⟩, hO5, hA5⟩
      have D5 := D4.call hO5 hA5
      have hv5 := D4.keep hO5 fPairs_good hv4 hF.ge
      have hcall := D_l1Once w0 w5 p hA5 3 (by omega) (by omega)
      clear hv4
      go_wp2_with fail
      refine hcall.mono ?_
      rintro e w6 ⟨v6, rfl, ⟨q, rfl⟩, hO6, hA6⟩
      have D6 := D5.call hO6 hA6
      have hv6 := D5.keep hO6 fPairs_good hv5 hF.ge
      have hFm := (fPairs_good (B := 0)).lt hv6
      have hxl : xs.length = k := HI.out.2.1
      have HXL := Lib.hid hxl
      have hz2' := D6.size
      clear hv5 hcall hO4 hO5 hO6 hA4 hA5 hA6 D4 D5 hxl
      have key : ∀ y : GPair, gPair y → Hid (xs ++ [y] = xs ++ [y] ∧ k + 1 + m = N ∧ (xs ++ [y]).length = k + 1 ∧ ∀ x ∈ xs ++ [y], gPair x) := fun y hy => Lib.hid ⟨rfl, by have := HI.out.1; omega, by rw [List.length_append, HXL.out]; rfl, fun x hx => (List.mem_append.1 hx).elim (HI.out.2.2 x) (fun h => by rw [List.mem_singleton.1 h]; exact hy)⟩
      cases q with
      | true =>
        have K := key ⟨a + 1 + b, a + 1 + b + 1⟩ ⟨⟨by dsimp only; omega, by dsimp only; omega⟩, ⟨by dsimp only; omega, by dsimp only; omega⟩⟩
        have DW := D6.alloc (.cells #[.int .i64 (a + 1 + b), .int .i64 (a + 1 + b + 1)] 214)
        have hvW := keepBw ((Bw.refl w6).alloc (.cells #[.int .i64 (a + 1 + b), .int .i64 (a + 1 + b + 1)] 214)) fPairs_good hv6
        have hcl : ∀ j t, [Value.int .i64 (a + 1 + b), .int .i64 (a + 1 + b + 1)][j]? = some t → (w6.alloc (.cells #[.int .i64 (a + 1 + b), .int .i64 (a + 1 + b + 1)] 214)).cell? ((⟨w6.heap.size, 0, none⟩ : Addr).add j) = some t := World.news_of_block (cs := #[.int .i64 (a + 1 + b), .int .i64 (a + 1 + b + 1)]) (t := 214) (fr := (0, 0)) (heap_alloc_new w6 _)
        have hzW := DW.size
        clear key hv6
        go_wp2_with (at_builtin; refine wpList_pushD _ rfl (.tmp 23) (.tmp 28) 107 rfl w0 w p DW w.heap.size (Nat.le_refl _) hzW 214 i0 _ 2 16 Tryz.underlying107 hi hz0 hz1 hz2 rfl (by omega) fPair_good _ xs F rfl hvW hF ⟨w6.heap.size, 0, none⟩ 1 rfl ⟨a + 1 + b, a + 1 + b + 1⟩ [.int .i64 (a + 1 + b), .int .i64 (a + 1 + b + 1)] [] hcl ⟨rfl, rfl⟩ rfl w6.heap.size hFm Fresh.nil hz2' (by have := HXL.out; omega) (by have := HXL.out; omega) ?_; intro v7 w7 F7 hv7 hF7 hD7 hO7)
        go_roundg m
        case measure => omega
        case rel => exact ⟨k + 1, m, _, F7, rfl, by go_num, Lib.hid K.out.2, hv7, hF7, hD7⟩
      | false =>
        have K := key ⟨a, a + 1 + b⟩ ⟨⟨by dsimp only; omega, by dsimp only; omega⟩, ⟨by dsimp only; omega, by dsimp only; omega⟩⟩
        have DW := D6.alloc (.cells #[.int .i64 a, .int .i64 (a + 1 + b)] 214)
        have hvW := keepBw ((Bw.refl w6).alloc (.cells #[.int .i64 a, .int .i64 (a + 1 + b)] 214)) fPairs_good hv6
        have hcl : ∀ j t, [Value.int .i64 a, .int .i64 (a + 1 + b)][j]? = some t → (w6.alloc (.cells #[.int .i64 a, .int .i64 (a + 1 + b)] 214)).cell? ((⟨w6.heap.size, 0, none⟩ : Addr).add j) = some t := World.news_of_block (cs := #[.int .i64 a, .int .i64 (a + 1 + b)]) (t := 214) (fr := (0, 0)) (heap_alloc_new w6 _)
        have hzW := DW.size
        clear key hv6
        go_wp2_with (at_builtin; refine wpList_pushD _ rfl (.tmp 30) (.tmp 34) 107 rfl w0 w p DW w.heap.size (Nat.le_refl _) hzW 214 i0 _ 2 16 Tryz.underlying107 hi hz0 hz1 hz2 rfl (by omega) fPair_good _ xs F rfl hvW hF ⟨w6.heap.size, 0, none⟩ 1 rfl ⟨a, a + 1 + b⟩ [.int .i64 a, .int .i64 (a + 1 + b)] [] hcl ⟨rfl, rfl⟩ rfl w6.heap.size hFm Fresh.nil hz2' (by have := HXL.out; omega) (by have := HXL.out; omega) ?_; intro v7 w7 F7 hv7 hF7 hD7 hO7)
        go_roundg m
        case measure => omega
        case rel => exact ⟨k + 1, m, _, F7, rfl, by go_num, Lib.hid K.out.2, hv7, hF7, hD7⟩
    · obtain rfl : n = 0 := by omega
      have HR := Lib.hid (show xs.length ≤ 5 by have := HI.out.1; have := HI.out.2.1; have := HN.out; omega)
      clear hn
      go_wp2
      go_ret
      exact hD.ret ⟨xs, F, hv, hF, HR.out, HI.out.2.2⟩
/-- a wish of the call's own -/
def DWish (B : Nat) (Q : GWish → Prop) (W : World) (v : Value) : Prop := ∃ x u t F G, v = .agg #[.int .i64 x.kind, .int .i64 x.field, .int .i64 x.value, u, t] ∧ fInts W x.list [u] F ∧ fPairs W x.pairs [t] G ∧ Fresh B (F ++ G) ∧ Q x
theorem DWish.mk {B : Nat} {Q : GWish → Prop} {W : World} {kd fd va : Int} {l : List Int} {ps : List GPair} {u t : Value} {F G : List Nat} (h1 : fInts W l [u] F) (h2 : fPairs W ps [t] G) (h3 : Fresh B (F ++ G)) (h4 : Q ⟨kd, fd, va, l, ps⟩) : DWish B Q W (.agg #[.int .i64 kd, .int .i64 fd, .int .i64 va, u, t]) := ⟨⟨kd, fd, va, l, ps⟩, u, t, F, G, rfl, h1, h2, h3, h4⟩
/-- five stores into a block -/
def set5 (W : World) (b : Nat) (a0 a1 a2 a3 a4 : Value) : World := ((((W.setCell ⟨b, 0, none⟩ a0).setCell ⟨b, 1, none⟩ a1).setCell ⟨b, 2, none⟩ a2).setCell ⟨b, 3, none⟩ a3).setCell ⟨b, 4, none⟩ a4
theorem Dn.set5 {w0 w W : World} {p b : Nat} {a0 a1 a2 a3 a4 : Value} (h : Dn w0 w p W) (hb : w.heap.size ≤ b) : Dn w0 w p (set5 W b a0 a1 a2 a3 a4) := ((((h.set hb _).set hb _).set hb _).set hb _).set hb _
theorem keepSet5 {W : World} {b : Nat} {a0 a1 a2 a3 a4 : Value} {α : Type} {R : Fp α} (hR : GoodF 0 R) {x : α} {cs : List Value} {F : List Nat} (hx : R W x cs F) (hF : b ∉ F) : R (set5 W b a0 a1 a2 a3 a4) x cs F := keepSet hR (keepSet hR (keepSet hR (keepSet hR (keepSet hR hx hF) hF) hF) hF) hF
set_option maxRecDepth 100000 in
set_option maxHeartbeats 6400000 in
theorem D_l4Wish (w0 w : World) (p : Nat) (hA : At w0 p w) : Calls Tryz.prog 203 #[.pointer (some ⟨p, 0, none⟩)] w
    (RetD w0 p w (DWish w.heap.size gWish)) := by
  obtain ⟨i0, hi, hz0, hz1, hz2⟩ := info_parts info_int
  have D0 := Dn.start hA
  have D1 := D0.alloc (.cells #[.int .i64 0, .int .i64 0, .int .i64 0, .slice none 0 0, .slice none 0 0] 109)
  have bR := Box.new w #[.int .i64 0, .int .i64 0, .int .i64 0, .slice none 0 0, .slice none 0 0] 109
  have hlt := hA.lt
  have hcall := D_l1Below w0 _ p D1.at' 5 (by omega) (by omega)
  go_enter Tryz.func203, Tryz.ntmps203
  go_wp2_with fail
  refine hcall.mono ?_
  rintro e w1 ⟨v1, rfl, ⟨kd, rfl, k1, k2⟩, hO1, hA1⟩
  have D2 := D1.call hO1 hA1
  replace bR := bR.only hO1 (by simp; omega)
  have hcall := D_l1Below w0 _ p hA1 3 (by omega) (by omega)
  go_wp2_with fail
  refine hcall.mono ?_
  rintro e w2 ⟨v2, rfl, ⟨fd, rfl, f1, f2⟩, hO2, hA2⟩
  have D3 := D2.call hO2 hA2
  replace bR := bR.only hO2 (by simp; omega)
  have D4 := D3.alloc (.cells #[.int .i64 kd, .int .i64 fd, .int .i64 0, .slice none 0 0, .slice none 0 0] 109)
  have bX := Box.new w2 #[.int .i64 kd, .int .i64 fd, .int .i64 0, .slice none 0 0, .slice none 0 0] 109
  replace bR := bR.bw ((Bw.refl w2).alloc (.cells #[.int .i64 kd, .int .i64 fd, .int .i64 0, .slice none 0 0, .slice none 0 0] 109))
  obtain ⟨b, hb⟩ : ∃ b, b = w2.heap.size := ⟨_, rfl⟩
  obtain ⟨W, hW⟩ : ∃ W, W = w2.alloc (.cells #[.int .i64 kd, .int .i64 fd, .int .i64 0, .slice none 0 0, .slice none 0 0] 109) := ⟨_, rfl⟩
  have hbw : w.heap.size < b := by have := D3.size; have := (Bw.refl w).alloc (.cells #[] 3); have h2 := hO2.1; have h1 := hO1.1; simp at h1; omega
  have hnil := fSl_nil (e := 3) (sz := 1) (R := fInt) W
  have hnip := fSl_nil (e := 214) (sz := 2) (R := fPair) W
  rw [← hW] at D4 bX bR
  rw [← hb] at bX
  have HW := Lib.hid hW
  have HB := Lib.hid hb
  clear hcall hW hb D1 D2 D3 hO1 hO2 hA1 hA2
  have x0 := bX.c 0 _ rfl
  have x1 := bX.c 1 _ rfl
  have x2 := bX.c 2 _ rfl
  have x3 := bX.c 3 _ rfl
  have x4 := bX.c 4 _ rfl
  have xf := bX.fr
  have r0 := bR.c 0 _ rfl
  have r1 := bR.c 1 _ rfl
  have r2 := bR.c 2 _ rfl
  have r3 := bR.c 3 _ rfl
  have r4 := bR.c 4 _ rfl
  have rf := bR.fr
  have hne1 : b ≠ w.heap.size := by omega
  have hne2 : w.heap.size ≠ b := by omega
  by_cases h2 : kd = 2
  · subst h2
    have hcall := D_l1Below w0 _ p D4.at' 5 (by omega) (by omega)
    clear x0 x1 x2 x3 x4 xf
    clear r0 r1 r2 r3 r4 rf
    go_wp2_with fail
    rw [← HB.out, ← HW.out]
    refine hcall.mono ?_
    rintro e w5 ⟨v5, rfl, ⟨z, rfl, z1, z2⟩, hO5, hA5⟩
    have D5 := D4.call hO5 hA5
    have bX5 := bX.only hO5 (by simp; omega)
    have bR5 := bR.only hO5 (by simp; omega)
    have n5 := D4.keep hO5 (fSl_good fInt_good) hnil (by simp)
    have m5 := D4.keep hO5 (fSl_good fPair_good) hnip (by simp)
    have x0 := bX5.c 0 _ rfl
    have x1 := bX5.c 1 _ rfl
    have x2 := bX5.c 2 _ rfl
    have x3 := bX5.c 3 _ rfl
    have x4 := bX5.c 4 _ rfl
    have xf := bX5.fr
    have r0 := bR5.c 0 _ rfl
    have r1 := bR5.c 1 _ rfl
    have r2 := bR5.c 2 _ rfl
    have r3 := bR5.c 3 _ rfl
    have r4 := bR5.c 4 _ rfl
    have rf := bR5.fr
    clear hcall bX bR hnil hnip hO5 hA5 D4
    go_wp2
    refine bodyPost_ret (v := .agg #[.int .i64 2, .int .i64 fd, .int .i64 z, .slice none 0 0, .slice none 0 0]) (by simp [results, Tryz.results203, go_sem, r0, r1, r2, r3, r4, hne1, hne2]) rfl ?_
    exact ((D5.set (by omega) _).set5 (Nat.le_refl _)).ret (DWish.mk (keepSet5 fInts_good (keepSet fInts_good n5 (by simp)) (by simp)) (keepSet5 fPairs_good (keepSet fPairs_good m5 (by simp)) (by simp)) ⟨by simp, by simp⟩ ⟨by dsimp only; omega, by dsimp only; omega, by dsimp only; omega, ⟨by simp, by simp⟩, ⟨by simp, by simp⟩⟩)
  · by_cases h4 : kd = 4
    · subst h4
      have hcall := D_l3Pairs w0 _ p D4.at'
      clear x0 x1 x2 x3 x4 xf
      clear r0 r1 r2 r3 r4 rf
      go_wp2_with fail
      rw [← HB.out, ← HW.out]
      refine hcall.mono ?_
      rintro e w5 ⟨v5, rfl, ⟨xs, F, hv, hF, hx5, hxg⟩, hO5, hA5⟩
      obtain ⟨A, n, c, rfl, l1, l2, l3⟩ := rSl_open (fPairs_Rd hv)
      have HL := Lib.hid l1
      have HXG := Lib.hid (And.intro hx5 hxg)
      have D5 := D4.call hO5 hA5
      have bX5 := bX.only hO5 (by simp; omega)
      have bR5 := bR.only hO5 (by simp; omega)
      have n5 := D4.keep hO5 (fSl_good fInt_good) hnil (by simp)
      have hFW : ∀ c ∈ F, w.heap.size < c ∧ b ≠ c := fun c hc => by have := hF.ge c hc; have := bX.lt; omega
      have x0 := bX5.c 0 _ rfl
      have x1 := bX5.c 1 _ rfl
      have x2 := bX5.c 2 _ rfl
      have x3 := bX5.c 3 _ rfl
      have x4 := bX5.c 4 _ rfl
      have xf := bX5.fr
      have r0 := bR5.c 0 _ rfl
      have r1 := bR5.c 1 _ rfl
      have r2 := bR5.c 2 _ rfl
      have r3 := bR5.c 3 _ rfl
      have r4 := bR5.c 4 _ rfl
      have rf := bR5.fr
      have hbR := bR.lt
      clear hcall bX bR hnil hnip hO5 hA5 D4 l1 l2 l3 hx5 hxg
      go_wp2
      refine bodyPost_ret (v := .agg #[.int .i64 4, .int .i64 fd, .int .i64 0, .slice none 0 0, .slice A n c]) (by simp [results, Tryz.results203, go_sem, r0, r1, r2, r3, r4, hne1, hne2]) rfl ?_
      exact ((D5.set (by omega) _).set5 (Nat.le_refl _)).ret (DWish.mk (keepSet5 fInts_good (keepSet fInts_good n5 (by simp)) (by simp)) (keepSet5 fPairs_good (keepSet fPairs_good hv (fun h => (hFW _ h).2 rfl)) (fun h => by have := (hFW _ h).1; omega)) ⟨by simpa using hF.nodup, fun c hc => by have := hF.ge c (by simpa using hc); omega⟩ ⟨by dsimp only; omega, by dsimp only; omega, by dsimp only; omega, ⟨by simp, by simp⟩, ⟨by have := HXG.out.1; dsimp only; omega, HXG.out.2⟩⟩)
    · by_cases h3 : kd = 3
      · subst h3
        have hcall := D_l1Below w0 _ p D4.at' 2 (by omega) (by omega)
        clear x0 x1 x2 x3 x4 xf
        clear r0 r1 r2 r3 r4 rf
        go_wp2_with fail
        rw [← HB.out, ← HW.out]
        refine hcall.mono ?_
        rintro e w5 ⟨v5, rfl, ⟨q, rfl, q1, q2⟩, hO5, hA5⟩
        have D5 := D4.call hO5 hA5
        have bX5 := bX.only hO5 (by simp; omega)
        have bR5 := bR.only hO5 (by simp; omega)
        have n5 := D4.keep hO5 (fSl_good fInt_good) hnil (by simp)
        have hcall := D_l1Below w0 _ p hA5 3 (by omega) (by omega)
        have hbW := bX.lt
        clear bX bR hnil hnip hO5 D4
        go_wp2_with fail
        refine hcall.mono ?_
        rintro e w6 ⟨v6, rfl, ⟨N0, rfl, N1, N2⟩, hO6, hA6⟩
        have D6 := D5.call hO6 hA6
        have bX6 := bX5.only hO6 (by simp; omega)
        have bR6 := bR5.only hO6 (by simp; omega)
        have n6 := D5.keep hO6 fInts_good n5 (by simp)
        obtain ⟨N, rfl⟩ : ∃ N : Nat, N0 = (N : Int) := ⟨N0.toNat, by omega⟩
        have HN := Lib.hid N2
        have HQ := Lib.hid (And.intro q1 q2)
        clear hcall bX5 bR5 n5 hO6 hA5 hA6 D5 q1 q2
        go_wp2
        clear N1 N2
        go_loopg [4, 5] (N + 1) (fun g t z w' => ∃ (k n : Nat) (q : Int) (xs : List Int) (v : Value) (F : List Nat), n = g ∧ z = .int .i64 n ∧ t = .int .i64 q ∧ Hid (k + n = N + 1 ∧ 0 ≤ q ∧ q ≤ 2 + 2 * k ∧ xs.length = k ∧ ∀ x ∈ xs, -100 ≤ x ∧ x ≤ 100) ∧ fInts w' xs [v] F ∧ Fresh (b + 1) F ∧ Dn w0 w p w' ∧ Box w' b [.int .i64 3, .int .i64 fd, .int .i64 0, v, .slice none 0 0] ∧ Box w' w.heap.size [.int .i64 0, .int .i64 0, .int .i64 0, .slice none 0 0, .slice none 0 0])
        case atStart => exact ⟨0, N + 1, q, [], .slice none 0 0, [], rfl, by go_num, rfl, Lib.hid ⟨by omega, by have := HQ.out; omega, by have := HQ.out; omega, rfl, by simp⟩, n6, Fresh.nil, D6, bX6, bR6⟩
        case round =>
          clear n6 D6 bX6 bR6
          obtain ⟨k, n, q, xs, v, F, rfl, rfl, rfl, HI, hv, hF, hD, bX, bR⟩ := hrel
          have hk4 : k + n ≤ 3 := by have := HI.out.1; have := HN.out; omega
          have hq : 0 ≤ q ∧ q ≤ 8 := by have := HI.out.2; omega
          obtain ⟨A, L, c, rfl, l1, l2, l3⟩ := rSl_open (fInts_Rd hv)
          have HL := Lib.hid l1
          clear l1 l2 l3
          by_cases hn : 0 < n
          · have n1 : (0 : Int) < (n : Int) := by omega
            obtain ⟨m, rfl⟩ : ∃ m, n = m + 1 := ⟨n - 1, by omega⟩
            have hFm := (fInts_good (B := 0)).lt hv
            have hAl := (Bw.refl wr).alloc (.cells #[.int .i64 q] 3)
            have DW := hD.bw hAl
            have hvW := keepBw hAl fInts_good hv
            have bXW := bX.bw hAl
            have bRW := bR.bw hAl
            have hcl := cell_one_new wr (.int .i64 q) 3
            have hzW := bXW.lt
            have hz := bX.lt
            have hxl : xs.length = k := HI.out.2.2.2.1
            have HXL := Lib.hid hxl
            have x0 := bX.c 0 _ rfl
            have x1 := bX.c 1 _ rfl
            have x2 := bX.c 2 _ rfl
            have x3 := bX.c 3 _ rfl
            have x4 := bX.c 4 _ rfl
            have xf := bX.fr
            have y0 := bXW.c 0 _ rfl
            have y1 := bXW.c 1 _ rfl
            have y2 := bXW.c 2 _ rfl
            have y3 := bXW.c 3 _ rfl
            have y4 := bXW.c 4 _ rfl
            have yf := bXW.fr
            clear hv hxl bX bR
            go_wp2_with (at_builtin; refine wpList_pushD _ rfl (.tmp 30) (.tmp 32) 26 rfl w0 w p DW (b + 1) (by omega) hzW 3 i0 _ 1 8 Tryz.underlying26 hi hz0 hz1 hz2 rfl (by omega) fInt_good _ xs F rfl hvW hF ⟨wr.heap.size, 0, none⟩ 1 rfl q [.int .i64 q] [] hcl ⟨rfl, rfl⟩ rfl wr.heap.size hFm Fresh.nil hz (by have := HXL.out; omega) (by have := HXL.out; omega) ?_; intro v7 w7 F7 hv7 hF7 hD7 hO7; obtain ⟨A7, n7, c7, rfl, l7, _⟩ := rSl_open (fInts_Rd hv7); replace l7 := Lib.hid l7; have bX7 := bXW.only hO7 (fun h => by have := hF.ge _ h; omega); have bR7 := bRW.only hO7 (fun h => by have := hF.ge _ h; omega); have u0 := bX7.c 0 _ rfl; have u1 := bX7.c 1 _ rfl; have u2 := bX7.c 2 _ rfl; have u3 := bX7.c 3 _ rfl; have u4 := bX7.c 4 _ rfl; have uf := bX7.fr)
            obtain ⟨V, hV⟩ : ∃ V, V = w7.setCell ⟨b, 3, none⟩ (.slice A7 n7 c7) := ⟨_, rfl⟩
            have D8 : Dn w0 w p V := by rw [hV]; exact hD7.set (by omega) _
            have v8 : fInts V (xs ++ [q]) [.slice A7 n7 c7] F7 := by rw [hV]; exact keepSet fInts_good hv7 (fun h => by have := hF7.ge _ h; omega)
            have bX8 : Box V b [.int .i64 3, .int .i64 fd, .int .i64 0, .slice A7 n7 c7, .slice none 0 0] := by rw [hV]; exact bX7.set (by simp) _
            have bR8 : Box V w.heap.size [.int .i64 0, .int .i64 0, .int .i64 0, .slice none 0 0, .slice none 0 0] := by rw [hV]; exact bR7.only (only_setCell _ _ _ _) (by simp; omega)
            have HV := Lib.hid hV
            have hcall := D_l1Below w0 V p D8.at' 2 (by omega) (by omega)
            clear hV hv7 bX7 bR7 u0 u1 u2 u3 u4 uf x0 x1 x2 x3 x4 xf y0 y1 y2 y3 y4 yf bXW bRW hvW DW hD7 hO7 hcl hAl
            go_wp2_with fail
            rw [← HV.out]
            refine hcall.mono ?_
            rintro e w9 ⟨v9, rfl, ⟨z, rfl, z1, z2⟩, hO9, hA9⟩
            have D9 := D8.call hO9 hA9
            have v10 := D8.keep hO9 fInts_good v8 (fun c hc => by have := hF7.ge c hc; omega)
            have hltp := D8.lt
            have bX9 := bX8.only hO9 (by simp; omega)
            have bR9 := bR8.only hO9 (by simp; omega)
            clear hcall v8 bX8 bR8 hO9 D8
            go_wp2
            go_roundg m
            case measure => omega
            case rel => exact ⟨k + 1, m, q + 1 + z, xs ++ [q], _, F7, rfl, by go_num, rfl, Lib.hid ⟨by have := HI.out.1; omega, by omega, by have := HI.out.2.2.1; omega, by rw [List.length_append, HXL.out]; rfl, fun y hy => (List.mem_append.1 hy).elim (HI.out.2.2.2.2 y) (fun h => by rw [List.mem_singleton.1 h]; omega)⟩, v10, hF7, D9, bX9, bR9⟩
          · obtain rfl : n = 0 := by omega
            have x0 := bX.c 0 _ rfl
            have x1 := bX.c 1 _ rfl
            have x2 := bX.c 2 _ rfl
            have x3 := bX.c 3 _ rfl
            have x4 := bX.c 4 _ rfl
            have xf := bX.fr
            have r0 := bR.c 0 _ rfl
            have r1 := bR.c 1 _ rfl
            have r2 := bR.c 2 _ rfl
            have r3 := bR.c 3 _ rfl
            have r4 := bR.c 4 _ rfl
            have rf := bR.fr
            clear hn
            go_wp2
            refine bodyPost_ret (v := .agg #[.int .i64 3, .int .i64 fd, .int .i64 0, .slice A L c, .slice none 0 0]) (by simp [results, Tryz.results203, go_sem, r0, r1, r2, r3, r4, hne1, hne2]) rfl ?_
            exact (hD.set5 (Nat.le_refl _)).ret (DWish.mk (keepSet5 fInts_good hv (fun h => by have := hF.ge _ h; omega)) (fSl_nil _) ⟨by simpa using hF.nodup, fun c hc => by have := hF.ge c (by simpa using hc); omega⟩ ⟨by dsimp only; omega, by dsimp only; omega, by dsimp only; omega, ⟨by have := HI.out.2.2.2.1; dsimp only; omega, HI.out.2.2.2.2⟩, ⟨by simp, by simp⟩⟩)
      · have e2 : (kd == 2) = false := by simpa using h2
        have e3 : (kd == 3) = false := by simpa using h3
        have e4 : (kd == 4) = false := by simpa using h4
        have hD := D4
        rw [HW.out] at r0 r1 r2 r3 r4 hD
        simp only [HW.out] at rf
        have hne3 : w2.heap.size ≠ w.heap.size := by rw [← HB.out]; exact hne1
        clear h2 h3 h4 x0 x1 x2 x3 x4 xf
        go_wp2
        refine bodyPost_ret (v := .agg #[.int .i64 kd, .int .i64 fd, .int .i64 0, .slice none 0 0, .slice none 0 0]) (by simp [results, Tryz.results203, go_sem, r0, r1, r2, r3, r4, hne3]) rfl ?_
        exact (hD.set5 (Nat.le_refl _)).ret (DWish.mk (fSl_nil _) (fSl_nil _) ⟨by simp, by simp⟩ ⟨by dsimp only; omega, by dsimp only; omega, by dsimp only; omega, ⟨by simp, by simp⟩, ⟨by simp, by simp⟩⟩)
end Go.Proofs.YtpihighajaeabaaGreat
