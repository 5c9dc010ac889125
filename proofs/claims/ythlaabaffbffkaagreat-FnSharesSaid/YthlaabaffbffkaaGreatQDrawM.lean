/- Draws: items with an expression, with an Id. -/
import Derived.Test.YthlaabaffbffkaaGreatQDrawH
import Derived.Test.YthlaabaffbffkaaGreatQLawH
namespace Go.Proofs.YthlaabaffbffkaaGreat
open Go.RowKit
set_option linter.unusedVariables false
set_option linter.unusedSimpArgs false
def gItems (n : Nat) (xs : List GItem) : Prop := xs.length ≤ n ∧ ∀ x ∈ xs, gItem x
def gNodes (n : Nat) (xs : List GNode) : Prop := xs.length ≤ n ∧ ∀ x ∈ xs, gNode x
def gWishes (n : Nat) (xs : List GWish) : Prop := xs.length ≤ n ∧ ∀ x ∈ xs, gWishA x
/-- a list of the call's own, to be read -/
def DR {α : Type} (R : Rep α) (B : Nat) (Q : α → Prop) (W : World) (v : Value) : Prop := ∃ xs, R W (fun b => B ≤ b ∧ b < W.heap.size) xs [v] ∧ Q xs
theorem Only.read {α : Type} {R : Rep α} (hR : Good R) {p B : Nat} {W W' : World} {Q : α → Prop} {v : Value} (hO : Only [p] W W') (hp : p < B) (h : DR R B Q W v) : DR R B Q W' v := by
  obtain ⟨xs, h, hq⟩ := h
  exact ⟨xs, hR.step ⟨fun b hb => ⟨hb.1, Nat.lt_of_lt_of_le hb.2 hO.1⟩, fun q hq => World.cell?_of_block (hO.2 _ hq.2 (by have := hq.1; simp; omega))⟩ h, hq⟩
theorem DR.bw {α : Type} {R : Rep α} (hR : Good R) {B : Nat} {W W' : World} {Q : α → Prop} {v : Value} (h : DR R B Q W v) (hb : Bw W W') : DR R B Q W' v := by
  obtain ⟨xs, h, hq⟩ := h
  exact ⟨xs, hR.step ⟨fun b h => ⟨h.1, Nat.lt_of_lt_of_le h.2 hb.size⟩, fun q hq => Below.cell hb hq.2⟩ h, hq⟩
theorem DR.low {α : Type} {R : Rep α} (hR : Good R) {B B' : Nat} {W : World} {Q Q' : α → Prop} {v : Value} (h : DR R B Q W v) (hB : B' ≤ B) (hQ : ∀ x, Q x → Q' x) : DR R B' Q' W v := by
  obtain ⟨xs, h, hq⟩ := h
  exact ⟨xs, hR.step ⟨fun b h => ⟨Nat.le_trans hB h.1, h.2⟩, fun _ _ => rfl⟩ h, hQ xs hq⟩
theorem DR.rd {α : Type} {R : Rep α} (hR : Good R) {B : Nat} {W : World} {Q : α → Prop} {v : Value} (h : DR R B Q W v) : ∃ xs, Rd R W xs [v] ∧ Q xs := by
  obtain ⟨xs, h, hq⟩ := h
  exact ⟨xs, hR.step ⟨fun b h => h.2, fun _ _ => rfl⟩ h, hq⟩
theorem own_read {α : Type} {R : Rep α} (hR : Good R) {F : List Nat} {B : Nat} {W : World} {x : α} {cs : List Value} (h : R W (fun b => b ∈ F ∨ b < 0) x cs) (hF : Fresh B F) (hlt : ∀ b ∈ F, b < W.heap.size) : R W (fun b => B ≤ b ∧ b < W.heap.size) x cs :=
  hR.step ⟨fun b hb => hb.elim (fun hb => ⟨hF.ge b hb, hlt b hb⟩) (fun hb => absurd hb (Nat.not_lt_zero _)), fun _ _ => rfl⟩ h
theorem DL.items {B : Nat} {Q : List GItem → Prop} {W : World} {v : Value} (h : DL fItems B Q W v) : DR rItems B Q W v := by
  obtain ⟨xs, F, hv, hF, hq⟩ := h
  exact ⟨xs, own_read rItems_good (fItems_rd (B := 0) hv) hF ((fItems_good (B := 0)).lt hv), hq⟩
theorem DL.nodes {B : Nat} {Q : List GNode → Prop} {W : World} {v : Value} (h : DL fNodes B Q W v) : DR rNodes B Q W v := by
  obtain ⟨xs, F, hv, hF, hq⟩ := h
  exact ⟨xs, own_read rNodes_good (fNodes_rd (B := 0) hv) hF ((fNodes_good (B := 0)).lt hv), hq⟩
theorem DL.wishes {B : Nat} {Q : List GWish → Prop} {W : World} {v : Value} (h : DL fWishes B Q W v) : DR rWishes B Q W v := by
  obtain ⟨xs, F, hv, hF, hq⟩ := h
  exact ⟨xs, own_read rWishes_good (fWishes_rd (B := 0) hv) hF ((fWishes_good (B := 0)).lt hv), hq⟩
theorem DL.mono {α : Type} {f : Fp α} {B B' : Nat} {Q Q' : α → Prop} {W : World} {v : Value} (h : DL f B Q W v) (hB : B' ≤ B) (hQ : ∀ x, Q x → Q' x) : DL f B' Q' W v := by
  obtain ⟨xs, F, hv, hF, hq⟩ := h
  exact ⟨xs, F, hv, hF.mono hB, hQ xs hq⟩
set_option maxRecDepth 100000 in
set_option maxHeartbeats 3200000 in
theorem D_l2Any (w0 w : World) (p : Nat) (hA : At w0 p w) : Calls Tryz.prog 74 #[.pointer (some ⟨p, 0, none⟩)] w
    (RetD w0 p w (DL fItems w.heap.size (gItems 8))) := by
  obtain ⟨i0, hi, hz0, hz1, hz2⟩ := info_parts info_Item
  have D0 := Dn.start hA
  have hlt := hA.lt
  have hcall := D_l2Items w0 w p hA 7 (by omega) (by omega)
  go_enter Tryz.func74, Tryz.ntmps74
  go_wp2_with fail
  refine hcall.mono ?_
  rintro e w1 ⟨v1, rfl, ⟨xs, F, hv, hF, hx⟩, hO1, hA1⟩
  have D1 := D0.call hO1 hA1
  have hcall2 := D_l1Once w0 w1 p hA1 8 (by omega) (by omega)
  have HX := Lib.hid (show xs.length ≤ 7 ∧ ∀ x ∈ xs, gItem x from ⟨by have := hx.1; omega, fun x h => (hx.2 x h).g⟩)
  clear hcall hO1 hA1 hx
  go_wp2_with fail
  refine hcall2.mono ?_
  rintro e w2 ⟨v2, rfl, ⟨q, rfl⟩, hO2, hA2⟩
  have D2 := D1.call hO2 hA2
  have hv2 := D1.keep hO2 fItems_good hv hF.ge
  clear hcall2 hv hO2
  cases q with
  | true =>
    have hcall := D_l2AnyItem w0 w2 p hA2
    have hFm := (fItems_good (B := 0)).lt hv2
    obtain ⟨Ax, nx, cx, rfl, lx, _⟩ := rSl_open (fItems_Rd hv2)
    clear lx
    go_wp2_with fail
    refine hcall.mono ?_
    rintro e w3 ⟨v3, rfl, ⟨y, u, G, rfl, hy, hG, hg⟩, hO3, hA3⟩
    have D3 := D2.call hO3 hA3
    have hv3 := D2.keep hO3 fItems_good hv2 hF.ge
    obtain ⟨Ay, ny, cy, rfl, ly, _⟩ := rSl_open (fInts_Rd hy)
    have HG := Lib.hid hg
    have DW := D3.alloc (.cells #[.int .i64 y.id, .slice Ay ny cy] 42)
    have hAl := (Bw.refl w3).alloc (.cells #[.int .i64 y.id, .slice Ay ny cy] 42)
    have hvW := keepBw hAl fItems_good hv3
    have hyW := keepBw hAl fInts_good hy
    have hcl : ∀ j t, [Value.int .i64 y.id, .slice Ay ny cy][j]? = some t → (w3.alloc (.cells #[.int .i64 y.id, .slice Ay ny cy] 42)).cell? ((⟨w3.heap.size, 0, none⟩ : Addr).add j) = some t := World.news_of_block (cs := #[.int .i64 y.id, .slice Ay ny cy]) (t := 42) (fr := (0, 0)) (heap_alloc_new w3 _)
    have hzW := DW.size
    have hz2' := D2.size
    clear hcall hv2 hv3 hy hg ly
    go_wp2_with (at_builtin; refine wpList_pushD _ rfl (.tmp 8) (.tmp 11) 24 rfl w0 w p DW w.heap.size (Nat.le_refl _) hzW 42 i0 _ 2 32 Tryz.underlying24 hi hz0 hz1 hz2 rfl (by omega) fItem_good _ xs F rfl hvW hF ⟨w3.heap.size, 0, none⟩ 1 rfl y [.int .i64 y.id, .slice Ay ny cy] G hcl ⟨_, rfl, hyW⟩ rfl w2.heap.size hFm hG hz2' (by have := HX.out.1; omega) (by have := HX.out.1; omega) ?_; intro v7 w7 F7 hv7 hF7 hD7 hO7)
    go_ret
    exact hD7.ret ⟨_, F7, hv7, hF7, by rw [List.length_append, List.length_singleton]; have := HX.out.1; omega, fun z hz => (List.mem_append.1 hz).elim (HX.out.2 z) (fun h => by rw [List.mem_singleton.1 h]; exact HG.out)⟩
  | false =>
    go_wp2
    go_ret
    exact D2.ret ⟨_, F, hv2, hF, by have := HX.out.1; omega, HX.out.2⟩
set_option maxRecDepth 100000 in
set_option maxHeartbeats 3200000 in
theorem D_l5Any (w0 w : World) (p : Nat) (hA : At w0 p w) : Calls Tryz.prog 134 #[.pointer (some ⟨p, 0, none⟩)] w
    (RetD w0 p w (DR rNodes w.heap.size (gNodes 8))) := by
  obtain ⟨i0, hi, hz0, hz1, hz2⟩ := info_parts info_Node
  have D0 := Dn.start hA
  have hlt := hA.lt
  have hcall := D_l5Expression w0 w p hA
  go_enter Tryz.func134, Tryz.ntmps134
  go_wp2_with fail
  refine hcall.mono ?_
  rintro e w1 ⟨v1, rfl, ⟨xs, F, hv, hF, hx⟩, hO1, hA1⟩
  have D1 := D0.call hO1 hA1
  have hcall2 := D_l1Below w0 w1 p hA1 12 (by omega) (by omega)
  have HX := Lib.hid hx
  clear hcall hO1 hA1 hx
  go_wp2_with fail
  refine hcall2.mono ?_
  rintro e w2 ⟨v2, rfl, ⟨sw, rfl, s1, s2⟩, hO2, hA2⟩
  have D2 := D1.call hO2 hA2
  have hv2 := D1.keep hO2 fNodes_good hv hF.ge
  clear hcall2 hv hO2
  have hFm := (fNodes_good (B := 0)).lt hv2
  have hz2' := D2.size
  obtain ⟨g, n, c, rfl, lx, hnc, hcm, hn0⟩ := fSl_lit' hv2 HX.out.1
  by_cases h0 : sw = 0
  · subst h0
    have hcall := D_l1Below w0 w2 p hA2 7 (by omega) (by omega)
    clear hA2
    go_wp2_with fail
    refine hcall.mono ?_
    rintro e w3 ⟨v3, rfl, ⟨y, rfl, y1, y2⟩, hO3, hA3⟩
    have D3 := D2.call hO3 hA3
    have hv3 := D2.keep hO3 fNodes_good hv2 hF.ge
    have HG := Lib.hid (gNode_op (n := y - 1) (by omega) (by omega))
    have hval := fNode_opn w3 (y - 1)
    clear hcall hv2 hO3 hA3
    have DW := D3.alloc (.cells #[.int .i64 (y - 1), .int .i64 0, .int .i64 0, .int .i64 0, .slice none 0 0, .slice none 0 0] 131)
    have hAl := (Bw.refl w3).alloc (.cells #[.int .i64 (y - 1), .int .i64 0, .int .i64 0, .int .i64 0, .slice none 0 0, .slice none 0 0] 131)
    have hvW := keepBw hAl fNodes_good hv3
    have hyW := keepBw hAl fNode_good hval
    have hcl : ∀ j t, [.int .i64 (y - 1), .int .i64 0, .int .i64 0, .int .i64 0, .slice none 0 0, .slice none 0 0][j]? = some t → (w3.alloc (.cells #[.int .i64 (y - 1), .int .i64 0, .int .i64 0, .int .i64 0, .slice none 0 0, .slice none 0 0] 131)).cell? ((⟨w3.heap.size, 0, none⟩ : Addr).add j) = some t := World.news_of_block (cs := #[.int .i64 (y - 1), .int .i64 0, .int .i64 0, .int .i64 0, .slice none 0 0, .slice none 0 0]) (t := 131) (fr := (0, 0)) (heap_alloc_new w3 _)
    have hzW := DW.size
    clear hv3
    go_wp2_with (at_builtin; refine wpList_pushD _ rfl (.tmp 10) (.tmp 15) 35 rfl w0 w p DW w.heap.size (Nat.le_refl _) hzW 131 i0 _ 6 80 Tryz.underlying35 hi hz0 hz1 hz2 rfl (by omega) fNode_good _ xs F rfl hvW hF ⟨w3.heap.size, 0, none⟩ 1 rfl ⟨y - 1, ⟨0, 0, 0, [], []⟩⟩ [.int .i64 (y - 1), .int .i64 0, .int .i64 0, .int .i64 0, .slice none 0 0, .slice none 0 0] [] hcl hyW rfl w2.heap.size hFm Fresh.nil hz2' (by have := HX.out.2.1; omega) (by have := HX.out.2.1; omega) ?_; intro v7 w7 F7 hv7 hF7 hD7 hO7)
    go_ret
    refine hD7.ret (DL.nodes ⟨_, F7, hv7, hF7, by rw [List.length_append, List.length_singleton]; have := HX.out.2.1; omega, fun z hz => (List.mem_append.1 hz).elim (HX.out.2.2 z) (fun h => by rw [List.mem_singleton.1 h]; exact HG.out)⟩)
  · by_cases h1 : sw = 1
    · subst h1
      have hcall := D_l4Any w0 w2 p hA2
      clear hA2 h0
      go_wp2_with fail
      refine hcall.mono ?_
      rintro e w3 ⟨v3, rfl, ⟨⟨kd, fd, va, l, ps⟩, u, t, G1, G2, rfl, o1, o2, hG, hg⟩, hO3, hA3⟩
      have D3 := D2.call hO3 hA3
      have hv3 := D2.keep hO3 fNodes_good hv2 hF.ge
      obtain ⟨Al, nl, cl, rfl, l1, _⟩ := rSl_open (fInts_Rd o1)
      obtain ⟨Ap, np, cp, rfl, l2, _⟩ := rSl_open (fPairs_Rd o2)
      have HG := Lib.hid (gNode_wish hg)
      have hval := fNode_wish o1 o2 0 (kd := kd) (fd := fd) (va := va)
      clear hcall hv2 hO3 hA3 l1 l2 hg o1 o2
      have DW := D3.alloc (.cells #[.int .i64 0, .int .i64 kd, .int .i64 fd, .int .i64 va, .slice Al nl cl, .slice Ap np cp] 131)
      have hAl := (Bw.refl w3).alloc (.cells #[.int .i64 0, .int .i64 kd, .int .i64 fd, .int .i64 va, .slice Al nl cl, .slice Ap np cp] 131)
      have hvW := keepBw hAl fNodes_good hv3
      have hyW := keepBw hAl fNode_good hval
      have hcl : ∀ j t, [.int .i64 0, .int .i64 kd, .int .i64 fd, .int .i64 va, .slice Al nl cl, .slice Ap np cp][j]? = some t → (w3.alloc (.cells #[.int .i64 0, .int .i64 kd, .int .i64 fd, .int .i64 va, .slice Al nl cl, .slice Ap np cp] 131)).cell? ((⟨w3.heap.size, 0, none⟩ : Addr).add j) = some t := World.news_of_block (cs := #[.int .i64 0, .int .i64 kd, .int .i64 fd, .int .i64 va, .slice Al nl cl, .slice Ap np cp]) (t := 131) (fr := (0, 0)) (heap_alloc_new w3 _)
      have hzW := DW.size
      clear hv3
      go_wp2_with (at_builtin; refine wpList_pushD _ rfl (.tmp 19) (.tmp 23) 35 rfl w0 w p DW w.heap.size (Nat.le_refl _) hzW 131 i0 _ 6 80 Tryz.underlying35 hi hz0 hz1 hz2 rfl (by omega) fNode_good _ xs F rfl hvW hF ⟨w3.heap.size, 0, none⟩ 1 rfl ⟨0, ⟨kd, fd, va, l, ps⟩⟩ [.int .i64 0, .int .i64 kd, .int .i64 fd, .int .i64 va, .slice Al nl cl, .slice Ap np cp] (G1 ++ G2) hcl hyW rfl w2.heap.size hFm hG hz2' (by have := HX.out.2.1; omega) (by have := HX.out.2.1; omega) ?_; intro v7 w7 F7 hv7 hF7 hD7 hO7)
      go_ret
      refine hD7.ret (DL.nodes ⟨_, F7, hv7, hF7, by rw [List.length_append, List.length_singleton]; have := HX.out.2.1; omega, fun z hz => (List.mem_append.1 hz).elim (HX.out.2.2 z) (fun h => by rw [List.mem_singleton.1 h]; exact HG.out)⟩)
    · by_cases h2 : sw = 2
      · subst h2
        have hr := own_read rNodes_good (fNodes_rd (B := 0) hv2) hF hFm
        have hsub := rSl_sub hr 1 n (by omega) (Nat.le_refl _) lx.out.symm
        have HQ := Lib.hid (show gNodes 8 ((xs.drop 1).take (n - 1)) from ⟨by rw [List.length_take, List.length_drop]; have := HX.out.2.1; omega, fun z hz => HX.out.2.2 z (List.mem_of_mem_drop (List.mem_of_mem_take hz))⟩)
        clear h0 h1 hr
        by_cases hc1 : c = 1
        · subst hc1
          obtain rfl : n = 1 := by omega
          have e0 : ((xs.drop 1).take (1 - 1)) = [] := by simp
          go_wp2
          go_ret
          exact D2.ret ⟨[], ⟨_, _, rfl, by simp, by simp [maxLen], fun k x hx => by simp at hx⟩, by simp, by simp⟩
        · go_wp2
          go_ret
          exact D2.ret ⟨_, hsub, HQ.out⟩
      · have e0 : (sw == 0) = false := by simpa using h0
        have e1 : (sw == 1) = false := by simpa using h1
        have e2 : (sw == 2) = false := by simpa using h2
        clear h0 h1 h2
        go_wp2
        go_ret
        exact D2.ret (DL.nodes ⟨_, F, hv2, hF, by have := HX.out.2.1; omega, HX.out.2.2⟩)
end Go.Proofs.YthlaabaffbffkaaGreat

namespace Go.Proofs.YthlaabaffbffkaaGreat
open Go.RowKit
set_option linter.unusedVariables false
set_option linter.unusedSimpArgs false
/-- a drawn value is read -/
def T {α : Type} (R : Rep α) (Q : α → Prop) (W : World) (v : Value) : Prop := ∃ xs, Rd R W xs [v] ∧ Q xs
theorem T.bw {α : Type} {R : Rep α} (hR : Good R) {Q : α → Prop} {W W' : World} {v : Value} (h : T R Q W v) (hb : Bw W W') : T R Q W' v := by
  obtain ⟨xs, h, hq⟩ := h
  exact ⟨xs, h.bw hR hb, hq⟩
def in100 (f : Int) : Prop := -100 ≤ f ∧ f ≤ 100
theorem DL.gi {B B' : Nat} {n : Int} {W : World} {v : Value} (h : DL fItems B (fun xs => (xs.length : Int) ≤ n ∧ ∀ x ∈ xs, gItem3 x) W v) (hB : B' ≤ B) (hn : n ≤ 8) : DR rItems B' (gItems 8) W v :=
  h.items.low rItems_good hB (fun x hx => ⟨by have := hx.1; omega, fun y hy => (hx.2 y hy).g⟩)
theorem DL.ge {B B' : Nat} {W : World} {v : Value} (h : DL fNodes B (fun xs => 0 < xs.length ∧ xs.length ≤ 7 ∧ ∀ x ∈ xs, gNode x) W v) (hB : B' ≤ B) : DR rNodes B' (gNodes 8) W v :=
  h.nodes.low rNodes_good hB (fun x hx => ⟨by have := hx.2.1; omega, hx.2.2⟩)
theorem at_ge {w0 w : World} {p : Nat} (h : At w0 p w) : p < w.heap.size := h.lt
end Go.Proofs.YthlaabaffbffkaaGreat

namespace Go.Proofs.YthlaabaffbffkaaGreat
open Go.RowKit
set_option linter.unusedVariables false
set_option linter.unusedSimpArgs false
/-- items and an expression of the call's own -/
def D7 (B : Nat) (W : World) (v : Value) : Prop := ∃ va ve, v = .tuple #[va, ve] ∧ DR rItems B (gItems 8) W va ∧ DR rNodes B (gNodes 8) W ve
set_option maxRecDepth 100000 in
set_option maxHeartbeats 1600000 in
theorem D_l7Draw (w0 w : World) (p : Nat) (hA : At w0 p w) : Calls Tryz.prog 78 #[.pointer (some ⟨p, 0, none⟩)] w (RetD w0 p w (D7 w.heap.size)) := by
  have hp := hA.lt
  go_enter Tryz.func78, Tryz.ntmps78
  have hcall := D_l2Items w0 w p hA 8 (by omega) (by omega)
  go_wp2_with fail
  refine hcall.mono ?_
  rintro e w2 ⟨va, rfl, ha, hO2, hA2⟩
  clear hcall
  replace ha := ha.gi (Nat.le_refl _) (by omega)
  have z2 := hO2.1
  have hcall := D_l5Expression w0 w2 p hA2
  go_wp2_with fail
  refine hcall.mono ?_
  rintro e w3 ⟨ve, rfl, he, hO3, hA3⟩
  clear hcall
  replace ha := hO3.read rItems_good hp ha
  replace he := he.ge z2
  have z3 := hO3.1
  have hcall := D_l1Below w0 w3 p hA3 16 (by omega) (by omega)
  go_wp2_with fail
  refine hcall.mono ?_
  rintro e w4 ⟨v4, rfl, ⟨sw, rfl, s1, s2⟩, hO4, hA4⟩
  clear hcall
  replace ha := hO4.read rItems_good hp ha
  replace he := hO4.read rNodes_good hp he
  have hO := (hO2.two hO3).two hO4
  have z14 := hO.1
  by_cases h0 : sw = 0
  · subst h0
    have hcall := D_l2Any w0 w4 p hA4
    go_wp2_with fail
    refine hcall.mono ?_
    rintro e w9 ⟨va2, rfl, ha2, hO9, hA9⟩
    clear hcall
    replace ha2 := ha2.items.low rItems_good z14 (fun _ h => h)
    replace he := hO9.read rNodes_good hp he
    go_wp2
    refine bodyPost_ret (v := .tuple #[va2, ve]) (by simp [results, Tryz.results78, go_sem]) rfl ?_
    exact ⟨_, rfl, ⟨_, _, rfl, ha2, he⟩, hO.two hO9, hA9⟩
  · by_cases h1 : sw = 1
    · subst h1
      clear h0
      have hcall := D_l5Any w0 w4 p hA4
      go_wp2_with fail
      refine hcall.mono ?_
      rintro e w9 ⟨ve2, rfl, he2, hO9, hA9⟩
      clear hcall
      replace he2 := he2.low rNodes_good z14 (fun _ h => h)
      replace ha := hO9.read rItems_good hp ha
      go_wp2
      refine bodyPost_ret (v := .tuple #[va, ve2]) (by simp [results, Tryz.results78, go_sem]) rfl ?_
      exact ⟨_, rfl, ⟨_, _, rfl, ha, he2⟩, hO.two hO9, hA9⟩
    · have e0 : (sw == 0) = false := by simpa using h0
      have e1 : (sw == 1) = false := by simpa using h1
      clear h0 h1
      go_wp2
      refine bodyPost_ret (v := .tuple #[va, ve]) (by simp [results, Tryz.results78, go_sem]) rfl ?_
      exact ⟨_, rfl, ⟨_, _, rfl, ha, he⟩, hO, hA4⟩


/-- an item that is drawn, to be read -/
def TI (W : World) (v : Value) : Prop := ∃ x u, v = .agg #[.int .i64 x.id, u] ∧ Rd rInts W x.vals [u] ∧ gItem x
theorem TI.bw {W W' : World} {v : Value} (h : TI W v) (hb : Bw W W') : TI W' v := by
  obtain ⟨x, u, e, h, g⟩ := h
  exact ⟨x, u, e, h.bw rInts_good hb, g⟩


end Go.Proofs.YthlaabaffbffkaaGreat
