/- Draws: a pair of expressions, one perhaps weaker. -/
import Derived.Test.YthlaabaffbffkaaGreatQDrawN
namespace Go.Proofs.YthlaabaffbffkaaGreat
open Go.RowKit
set_option linter.unusedVariables false
set_option linter.unusedSimpArgs false
theorem rd_keep {α : Type} {R : Rep α} (hR : Good R) {S : Blocks} {W W' : World} {x : α} {cs : List Value} (h : R W S x cs) (hS : ∀ b, S b → b < W.heap.size) (hk : ∀ b, b < W.heap.size → W'.heap[b]? = W.heap[b]?) : R W' S x cs :=
  hR.step ⟨fun _ hb => hb, fun q hq => World.cell?_of_block (hk _ (hS _ hq))⟩ h
theorem rd_only {α : Type} {R : Rep α} (hR : Good R) {S : Blocks} {W W' : World} {x : α} {cs : List Value} {F : List Nat} (h : R W S x cs) (hO : Only F W W') (hS : ∀ b, S b → b < W.heap.size ∧ b ∉ F) : R W' S x cs :=
  hR.step ⟨fun _ hb => hb, fun q hq => World.cell?_of_block (hO.2 _ (hS _ hq).1 (hS _ hq).2)⟩ h
theorem rd_wide {α : Type} {R : Rep α} (hR : Good R) {S S' : Blocks} {W : World} {x : α} {cs : List Value} (h : R W S x cs) (hS : ∀ b, S b → S' b) : R W S' x cs := hR.step ⟨hS, fun _ _ => rfl⟩ h
theorem gNodes_tot {n : Nat} {xs : List GNode} (hn : n ≤ 16) (h : gNodes n xs) : totNodes xs ≤ 1048576 := by
  have h2 := sum_le totNode 18 (l := xs) (fun x hx => by
    have h3 := (h.2 x hx).2.2.2.2
    have := h3.1.1
    have := h3.2.1
    unfold totNode totWish; omega)
  have h1 := h.1
  unfold totNodes; omega
/-- two expressions of the call's own -/
def D16 (B : Nat) (W : World) (v : Value) : Prop := ∃ vp vq a b c d, v = .tuple #[vp, vq] ∧ DB rNodes a b (gNodes 9) W vp ∧ DB rNodes c d (gNodes 9) W vq ∧ (B ≤ a ∧ B ≤ c) ∧ (b ≤ W.heap.size ∧ d ≤ W.heap.size) ∧ (b ≤ c ∨ d ≤ a)
set_option maxRecDepth 100000 in
set_option maxHeartbeats 6400000 in
theorem D_l16Pair (w0 w : World) (p : Nat) (hA : At w0 p w) : Calls Tryz.prog 62 #[.pointer (some ⟨p, 0, none⟩)] w (RetD w0 p w (D16 w.heap.size)) := by
  obtain ⟨i0, hi, hz0, hz1, hz2⟩ := info_parts info_Node
  have hp := hA.lt
  have D0 := Dn.start hA
  have hcall := D_l5Draw 1 (by omega) w0 w p 1 (Lib.hid rfl) hA
  go_enter Tryz.func62, Tryz.ntmps62
  go_wp2_with fail
  refine hcall.mono ?_
  rintro e w1 ⟨va, rfl, ⟨a, Fa, oa, fa, qa⟩, hO1, hA1⟩
  clear hcall
  have D1 := D0.call hO1 hA1
  have hcall := D_l5Draw 1 (by omega) w0 w1 p 1 (Lib.hid rfl) hA1
  have ra1 := own_read rNodes_good (fNodes_rd (B := 0) oa) fa ((fNodes_good (B := 0)).lt oa)
  go_wp2_with fail
  refine hcall.mono ?_
  rintro e w2 ⟨vb, rfl, ⟨b, Fb, ob, fb, qb⟩, hO2, hA2⟩
  clear hcall
  have D2 := D1.call hO2 hA2
  have z1 := D1.size
  have z2 := hO2.1
  have rb2 := own_read rNodes_good (fNodes_rd (B := 0) ob) fb ((fNodes_good (B := 0)).lt ob)
  have ra2 := rd_only rNodes_good ra1 hO2 (fun c hc => ⟨hc.2, by have := hc.1; simp; omega⟩)
  have na : a.length ≤ 3 := by have := qa.2.1; simp [nd] at this; omega
  have nb : b.length ≤ 3 := by have := qb.2.1; simp [nd] at this; omega
  have ta := gNodes_tot (n := 3) (by omega) ⟨na, qa.2.2⟩
  have tb := gNodes_tot (n := 3) (by omega) ⟨nb, qb.2.2⟩
  have GA := Lib.hid qa.2.2
  have GB := Lib.hid qb.2.2
  have ra3 := rd_wide (S' := fun c => w.heap.size ≤ c ∧ c < w2.heap.size) rNodes_good ra2 (fun c hc => ⟨hc.1, by have := hc.2; omega⟩)
  have rb3 := rd_wide (S' := fun c => w.heap.size ≤ c ∧ c < w2.heap.size) rNodes_good rb2 (fun c hc => ⟨by have := hc.1; omega, hc.2⟩)
  clear oa ob fa fb qa qb ra1 ra2 rb2 hO1 hA1 hO2 D1
  have hcall := S_l5Copy w2 a va (rd_wide rNodes_good ra3 (fun c hc => hc.2)) ta
  go_wp2_with fail
  refine hcall.mono ?_
  rintro e w3 ⟨vp, rfl, ⟨Fp, op, fp⟩, hb3⟩
  clear hcall
  have D3 := D2.bw hb3
  have z3 := hb3.size
  have z03 := D3.size
  have rp3 := own_read rNodes_good (fNodes_rd (B := 0) op) fp ((fNodes_good (B := 0)).lt op)
  replace ra3 := rd_keep rNodes_good ra3 (fun c hc => hc.2) (fun c hc => Below.block hb3 c hc)
  replace rb3 := rd_keep rNodes_good rb3 (fun c hc => hc.2) (fun c hc => Below.block hb3 c hc)
  clear op fp D2 hA2 hb3
  have c1 := S_l5Copy w3 a va (rd_wide rNodes_good ra3 (fun b hb => by have := hb.2; omega)) ta
  go_wp2_with fail
  refine c1.mono ?_
  rintro e w11 ⟨v11, rfl, ⟨F11, o11, f11⟩, hb11⟩
  clear c1
  have D11 := D3.bw hb11
  have z11 := hb11.size
  have c2 := S_l5Copy w11 b vb (rd_wide rNodes_good (rd_keep rNodes_good rb3 (fun b hb => by have := hb.2; omega) (fun b hb => Below.block hb11 b hb)) (fun b hb => by have := hb.2; omega)) tb
  go_wp2_with fail
  refine c2.mono ?_
  rintro e w12 ⟨v12, rfl, ⟨F12, o12, f12⟩, hb12⟩
  clear c2
  have D12 := D11.bw hb12
  have z12 := hb12.size
  have hWz := D3.size
  have hz12 : w3.heap.size ≤ w12.heap.size := Nat.le_trans z11 z12
  have hFm11 := (fNodes_good (B := 0)).lt o11
  replace o11 := keepBw hb12 fNodes_good o11
  obtain ⟨A11, n11, c11, rfl, l11, _⟩ := rSl_open (fNodes_Rd o11)
  obtain ⟨A12, n12, c12, rfl, l12, _⟩ := rSl_open (fNodes_Rd o12)
  have hl1 := na
  have hl2 := nb
  clear l11 l12
  go_wp2_with (first | (at_builtin; refine wpList_appendD _ rfl (.tmp 15) (.tmp 17) 35 rfl w0 w p D12 w3.heap.size hWz hz12 131 i0 _ 6 80 Tryz.underlying35 hi hz0 hz1 hz2 rfl (by omega) fNode_good _ a F11 rfl o11 f11 _ rfl b F12 o12 w11.heap.size hFm11 f12 z11 (by omega) (by omega) ?_; intro v13 w13 F13 hv13 hF13 hD13 hO13; obtain ⟨A13, n13, c13, rfl, l13, _⟩ := rSl_open (fNodes_Rd hv13); replace l13 := Lib.hid l13; have hFm13 := (fNodes_good (B := 0)).lt hv13; have hA13 := (Bw.refl w13).alloc (.cells #[.int .i64 2, .int .i64 0, .int .i64 0, .int .i64 0, .slice none 0 0, .slice none 0 0] 131); have DW13 := hD13.bw hA13; have hvW := keepBw hA13 fNodes_good hv13; have hcl : ∀ j t, [Value.int .i64 2, .int .i64 0, .int .i64 0, .int .i64 0, .slice none 0 0, .slice none 0 0][j]? = some t → (w13.alloc (.cells #[.int .i64 2, .int .i64 0, .int .i64 0, .int .i64 0, .slice none 0 0, .slice none 0 0] 131)).cell? ((⟨w13.heap.size, 0, none⟩ : Addr).add j) = some t := World.news_of_block (cs := #[.int .i64 2, .int .i64 0, .int .i64 0, .int .i64 0, .slice none 0 0, .slice none 0 0]) (t := 131) (fr := (0, 0)) (heap_alloc_new w13 _); have z13 : w3.heap.size ≤ w13.heap.size := Nat.le_trans hz12 hO13.1; have z14 : w3.heap.size ≤ (w13.alloc (.cells #[.int .i64 2, .int .i64 0, .int .i64 0, .int .i64 0, .slice none 0 0, .slice none 0 0] 131)).heap.size := Nat.le_trans z13 hA13.size; clear hv13) | (at_builtin; refine wpList_pushD _ rfl (.tmp 18) (.tmp 20) 35 rfl w0 w p DW13 w3.heap.size hWz z14 131 i0 _ 6 80 Tryz.underlying35 hi hz0 hz1 hz2 rfl (by omega) fNode_good _ (a ++ b) F13 rfl hvW hF13 ⟨w13.heap.size, 0, none⟩ 1 rfl ⟨2, ⟨0, 0, 0, [], []⟩⟩ [.int .i64 2, .int .i64 0, .int .i64 0, .int .i64 0, .slice none 0 0, .slice none 0 0] [] hcl (fNode_opn _ _) rfl w13.heap.size hFm13 Fresh.nil z13 (by rw [List.length_append]; omega) (by rw [List.length_append]; omega) ?_; intro v14 w14 F14 hv14 hF14 hD14 hO14))
  have hkeep : ∀ b, b < w3.heap.size → w14.heap[b]? = w3.heap[b]? := fun b hb => by
    rw [hO14.2 b (by omega) (fun h => by have := hF13.ge b h; omega), Below.block hA13 b (by omega), hO13.2 b (by omega) (fun h => by have := f11.ge b h; omega), Below.block hb12 b (by omega), Below.block hb11 b hb]
  have z15 : w3.heap.size ≤ w14.heap.size := Nat.le_trans z14 hO14.1
  have gres : gNodes 9 (a ++ b ++ [⟨2, ⟨0, 0, 0, [], []⟩⟩]) := ⟨by rw [List.length_append, List.length_append, List.length_singleton]; omega, fun z hz => (List.mem_append.1 hz).elim (fun hz => (List.mem_append.1 hz).elim (GA.out z) (GB.out z)) (fun h => by rw [List.mem_singleton.1 h]; exact gNode_op (by omega) (by omega))⟩
  have hres := own_read rNodes_good (fNodes_rd (B := 0) hv14) hF14 ((fNodes_good (B := 0)).lt hv14)
  have ra4 := rd_keep rNodes_good ra3 (fun c hc => by have := hc.2; omega) hkeep
  have rb4 := rd_keep rNodes_good rb3 (fun c hc => by have := hc.2; omega) hkeep
  have rp4 := rd_keep rNodes_good rp3 (fun c hc => hc.2) hkeep
  have rq4 := hres
  have GQ := Lib.hid gres
  clear hkeep hres gres ra3 rb3 rp3 o11 o12 hv14 hvW hcl D11 D12 hD13 DW13 hO13 hO14 hA13 hb11 hb12 f11 f12 hF13 hF14 hFm11 hFm13 l13 D3 z11 z12 hz12 z13 z14 hl1 hl2 hWz
  rename Value => vq
  rename World => W4
  rename List Nat => F4
  have hcall := D_l1Below w0 W4 p hD14.at' 5 (by omega) (by omega)
  go_wp2_with fail
  refine hcall.mono ?_
  rintro e w8 ⟨v8, rfl, ⟨sw, rfl, s1, s2⟩, hO8, hA8⟩
  clear hcall
  have D8 := hD14.call hO8 hA8
  have z8 := hO8.1
  have z08 := D8.size
  have ra8 := rd_only rNodes_good ra4 hO8 (fun c hc => ⟨by have := hc.2; omega, by have := hc.1; simp; omega⟩)
  have rb8 := rd_only rNodes_good rb4 hO8 (fun c hc => ⟨by have := hc.2; omega, by have := hc.1; simp; omega⟩)
  have rp8 := rd_only rNodes_good rp4 hO8 (fun c hc => ⟨by have := hc.2; omega, by have := hc.1; simp; omega⟩)
  have rq8 := rd_only rNodes_good rq4 hO8 (fun c hc => ⟨hc.2, by have := hc.1; simp; omega⟩)
  have GP := Lib.hid (show gNodes 9 a from ⟨by omega, GA.out⟩)
  clear hO8 hA8 hD14 ra4 rb4 rp4 rq4
  by_cases h0 : sw = 0
  · subst h0
    have c1 := S_l5Copy w8 a va (rd_wide rNodes_good ra8 (fun b hb => by have := hb.2; omega)) ta
    go_wp2_with fail
    refine c1.mono ?_
    rintro e w11 ⟨v11, rfl, ⟨F11, o11, f11⟩, hb11⟩
    clear c1
    have D11 := D8.bw hb11
    have z11 := hb11.size
    have c2 := S_l5Copy w11 b vb (rd_wide rNodes_good (rd_keep rNodes_good rb8 (fun b hb => by have := hb.2; omega) (fun b hb => Below.block hb11 b hb)) (fun b hb => by have := hb.2; omega)) tb
    go_wp2_with fail
    refine c2.mono ?_
    rintro e w12 ⟨v12, rfl, ⟨F12, o12, f12⟩, hb12⟩
    clear c2
    have D12 := D11.bw hb12
    have z12 := hb12.size
    have hWz := D8.size
    have hz12 : w8.heap.size ≤ w12.heap.size := Nat.le_trans z11 z12
    have hFm11 := (fNodes_good (B := 0)).lt o11
    replace o11 := keepBw hb12 fNodes_good o11
    obtain ⟨A11, n11, c11, rfl, l11, _⟩ := rSl_open (fNodes_Rd o11)
    obtain ⟨A12, n12, c12, rfl, l12, _⟩ := rSl_open (fNodes_Rd o12)
    have hl1 := na
    have hl2 := nb
    clear l11 l12
    go_wp2_with (first | (at_builtin; refine wpList_appendD _ rfl (.tmp 27) (.tmp 29) 35 rfl w0 w p D12 w8.heap.size hWz hz12 131 i0 _ 6 80 Tryz.underlying35 hi hz0 hz1 hz2 rfl (by omega) fNode_good _ a F11 rfl o11 f11 _ rfl b F12 o12 w11.heap.size hFm11 f12 z11 (by omega) (by omega) ?_; intro v13 w13 F13 hv13 hF13 hD13 hO13; obtain ⟨A13, n13, c13, rfl, l13, _⟩ := rSl_open (fNodes_Rd hv13); replace l13 := Lib.hid l13; have hFm13 := (fNodes_good (B := 0)).lt hv13; have hA13 := (Bw.refl w13).alloc (.cells #[.int .i64 1, .int .i64 0, .int .i64 0, .int .i64 0, .slice none 0 0, .slice none 0 0] 131); have DW13 := hD13.bw hA13; have hvW := keepBw hA13 fNodes_good hv13; have hcl : ∀ j t, [Value.int .i64 1, .int .i64 0, .int .i64 0, .int .i64 0, .slice none 0 0, .slice none 0 0][j]? = some t → (w13.alloc (.cells #[.int .i64 1, .int .i64 0, .int .i64 0, .int .i64 0, .slice none 0 0, .slice none 0 0] 131)).cell? ((⟨w13.heap.size, 0, none⟩ : Addr).add j) = some t := World.news_of_block (cs := #[.int .i64 1, .int .i64 0, .int .i64 0, .int .i64 0, .slice none 0 0, .slice none 0 0]) (t := 131) (fr := (0, 0)) (heap_alloc_new w13 _); have z13 : w8.heap.size ≤ w13.heap.size := Nat.le_trans hz12 hO13.1; have z14 : w8.heap.size ≤ (w13.alloc (.cells #[.int .i64 1, .int .i64 0, .int .i64 0, .int .i64 0, .slice none 0 0, .slice none 0 0] 131)).heap.size := Nat.le_trans z13 hA13.size; clear hv13) | (at_builtin; refine wpList_pushD _ rfl (.tmp 30) (.tmp 32) 35 rfl w0 w p DW13 w8.heap.size hWz z14 131 i0 _ 6 80 Tryz.underlying35 hi hz0 hz1 hz2 rfl (by omega) fNode_good _ (a ++ b) F13 rfl hvW hF13 ⟨w13.heap.size, 0, none⟩ 1 rfl ⟨1, ⟨0, 0, 0, [], []⟩⟩ [.int .i64 1, .int .i64 0, .int .i64 0, .int .i64 0, .slice none 0 0, .slice none 0 0] [] hcl (fNode_opn _ _) rfl w13.heap.size hFm13 Fresh.nil z13 (by rw [List.length_append]; omega) (by rw [List.length_append]; omega) ?_; intro v14 w14 F14 hv14 hF14 hD14 hO14))
    have hkeep : ∀ b, b < w8.heap.size → w14.heap[b]? = w8.heap[b]? := fun b hb => by
      rw [hO14.2 b (by omega) (fun h => by have := hF13.ge b h; omega), Below.block hA13 b (by omega), hO13.2 b (by omega) (fun h => by have := f11.ge b h; omega), Below.block hb12 b (by omega), Below.block hb11 b hb]
    have z15 : w8.heap.size ≤ w14.heap.size := Nat.le_trans z14 hO14.1
    have gres : gNodes 9 (a ++ b ++ [⟨1, ⟨0, 0, 0, [], []⟩⟩]) := ⟨by rw [List.length_append, List.length_append, List.length_singleton]; omega, fun z hz => (List.mem_append.1 hz).elim (fun hz => (List.mem_append.1 hz).elim (GA.out z) (GB.out z)) (fun h => by rw [List.mem_singleton.1 h]; exact gNode_op (by omega) (by omega))⟩
    have hres := own_read rNodes_good (fNodes_rd (B := 0) hv14) hF14 ((fNodes_good (B := 0)).lt hv14)
    have GN := Lib.hid gres
    have rn9 := hres
    have ra9 := rd_wide (S' := fun c => w.heap.size ≤ c ∧ c < w14.heap.size) rNodes_good (rd_keep rNodes_good ra8 (fun c hc => by have := hc.2; omega) hkeep) (fun c hc => ⟨hc.1, by have := hc.2; omega⟩)
    have rp9 := rd_keep rNodes_good rp8 (fun c hc => by have := hc.2; omega) hkeep
    have rq9 := rd_keep rNodes_good rq8 (fun c hc => by have := hc.2; omega) hkeep
    clear o11 o12 hv14 hvW hcl D11 D12 DW13 hO13 hO14 hA13 hb11 hb12 f11 f12 hF13 hF14 hFm11 hFm13 l13 z11 z12 hz12 z13 z14 hl1 hl2 hWz hres gres
    go_wp2
    refine bodyPost_ret (v := .tuple #[v14, vq]) (by simp [results, Tryz.results62, go_sem]) rfl ?_
    exact (hD14).ret ⟨_, _, _, _, _, _, rfl, ⟨_, rn9, GN.out⟩, ⟨_, rq9, GQ.out⟩, ⟨by omega, by omega⟩, ⟨by omega, by omega⟩, by omega⟩
  · by_cases h1 : sw = 1
    · subst h1
      clear h0
      have c1 := S_l5Copy w8 b vb (rd_wide rNodes_good rb8 (fun b hb => by have := hb.2; omega)) tb
      go_wp2_with fail
      refine c1.mono ?_
      rintro e w11 ⟨v11, rfl, ⟨F11, o11, f11⟩, hb11⟩
      clear c1
      have D11 := D8.bw hb11
      have z11 := hb11.size
      have c2 := S_l5Copy w11 a va (rd_wide rNodes_good (rd_keep rNodes_good ra8 (fun b hb => by have := hb.2; omega) (fun b hb => Below.block hb11 b hb)) (fun b hb => by have := hb.2; omega)) ta
      go_wp2_with fail
      refine c2.mono ?_
      rintro e w12 ⟨v12, rfl, ⟨F12, o12, f12⟩, hb12⟩
      clear c2
      have D12 := D11.bw hb12
      have z12 := hb12.size
      have hWz := D8.size
      have hz12 : w8.heap.size ≤ w12.heap.size := Nat.le_trans z11 z12
      have hFm11 := (fNodes_good (B := 0)).lt o11
      replace o11 := keepBw hb12 fNodes_good o11
      obtain ⟨A11, n11, c11, rfl, l11, _⟩ := rSl_open (fNodes_Rd o11)
      obtain ⟨A12, n12, c12, rfl, l12, _⟩ := rSl_open (fNodes_Rd o12)
      have hl1 := nb
      have hl2 := na
      clear l11 l12
      go_wp2_with (first | (at_builtin; refine wpList_appendD _ rfl (.tmp 37) (.tmp 39) 35 rfl w0 w p D12 w8.heap.size hWz hz12 131 i0 _ 6 80 Tryz.underlying35 hi hz0 hz1 hz2 rfl (by omega) fNode_good _ b F11 rfl o11 f11 _ rfl a F12 o12 w11.heap.size hFm11 f12 z11 (by omega) (by omega) ?_; intro v13 w13 F13 hv13 hF13 hD13 hO13; obtain ⟨A13, n13, c13, rfl, l13, _⟩ := rSl_open (fNodes_Rd hv13); replace l13 := Lib.hid l13; have hFm13 := (fNodes_good (B := 0)).lt hv13; have hA13 := (Bw.refl w13).alloc (.cells #[.int .i64 1, .int .i64 0, .int .i64 0, .int .i64 0, .slice none 0 0, .slice none 0 0] 131); have DW13 := hD13.bw hA13; have hvW := keepBw hA13 fNodes_good hv13; have hcl : ∀ j t, [Value.int .i64 1, .int .i64 0, .int .i64 0, .int .i64 0, .slice none 0 0, .slice none 0 0][j]? = some t → (w13.alloc (.cells #[.int .i64 1, .int .i64 0, .int .i64 0, .int .i64 0, .slice none 0 0, .slice none 0 0] 131)).cell? ((⟨w13.heap.size, 0, none⟩ : Addr).add j) = some t := World.news_of_block (cs := #[.int .i64 1, .int .i64 0, .int .i64 0, .int .i64 0, .slice none 0 0, .slice none 0 0]) (t := 131) (fr := (0, 0)) (heap_alloc_new w13 _); have z13 : w8.heap.size ≤ w13.heap.size := Nat.le_trans hz12 hO13.1; have z14 : w8.heap.size ≤ (w13.alloc (.cells #[.int .i64 1, .int .i64 0, .int .i64 0, .int .i64 0, .slice none 0 0, .slice none 0 0] 131)).heap.size := Nat.le_trans z13 hA13.size; clear hv13) | (at_builtin; refine wpList_pushD _ rfl (.tmp 40) (.tmp 42) 35 rfl w0 w p DW13 w8.heap.size hWz z14 131 i0 _ 6 80 Tryz.underlying35 hi hz0 hz1 hz2 rfl (by omega) fNode_good _ (b ++ a) F13 rfl hvW hF13 ⟨w13.heap.size, 0, none⟩ 1 rfl ⟨1, ⟨0, 0, 0, [], []⟩⟩ [.int .i64 1, .int .i64 0, .int .i64 0, .int .i64 0, .slice none 0 0, .slice none 0 0] [] hcl (fNode_opn _ _) rfl w13.heap.size hFm13 Fresh.nil z13 (by rw [List.length_append]; omega) (by rw [List.length_append]; omega) ?_; intro v14 w14 F14 hv14 hF14 hD14 hO14))
      have hkeep : ∀ b, b < w8.heap.size → w14.heap[b]? = w8.heap[b]? := fun b hb => by
        rw [hO14.2 b (by omega) (fun h => by have := hF13.ge b h; omega), Below.block hA13 b (by omega), hO13.2 b (by omega) (fun h => by have := f11.ge b h; omega), Below.block hb12 b (by omega), Below.block hb11 b hb]
      have z15 : w8.heap.size ≤ w14.heap.size := Nat.le_trans z14 hO14.1
      have gres : gNodes 9 (b ++ a ++ [⟨1, ⟨0, 0, 0, [], []⟩⟩]) := ⟨by rw [List.length_append, List.length_append, List.length_singleton]; omega, fun z hz => (List.mem_append.1 hz).elim (fun hz => (List.mem_append.1 hz).elim (GB.out z) (GA.out z)) (fun h => by rw [List.mem_singleton.1 h]; exact gNode_op (by omega) (by omega))⟩
      have hres := own_read rNodes_good (fNodes_rd (B := 0) hv14) hF14 ((fNodes_good (B := 0)).lt hv14)
      have GN := Lib.hid gres
      have rn9 := hres
      have ra9 := rd_wide (S' := fun c => w.heap.size ≤ c ∧ c < w14.heap.size) rNodes_good (rd_keep rNodes_good ra8 (fun c hc => by have := hc.2; omega) hkeep) (fun c hc => ⟨hc.1, by have := hc.2; omega⟩)
      have rp9 := rd_keep rNodes_good rp8 (fun c hc => by have := hc.2; omega) hkeep
      have rq9 := rd_keep rNodes_good rq8 (fun c hc => by have := hc.2; omega) hkeep
      clear o11 o12 hv14 hvW hcl D11 D12 DW13 hO13 hO14 hA13 hb11 hb12 f11 f12 hF13 hF14 hFm11 hFm13 l13 z11 z12 hz12 z13 z14 hl1 hl2 hWz hres gres
      go_wp2
      refine bodyPost_ret (v := .tuple #[v14, vq]) (by simp [results, Tryz.results62, go_sem]) rfl ?_
      exact (hD14).ret ⟨_, _, _, _, _, _, rfl, ⟨_, rn9, GN.out⟩, ⟨_, rq9, GQ.out⟩, ⟨by omega, by omega⟩, ⟨by omega, by omega⟩, by omega⟩
    · by_cases h2 : sw = 2
      · subst h2
        clear h0 h1
        have c1 := S_l5Copy w8 a va (rd_wide rNodes_good ra8 (fun b hb => by have := hb.2; omega)) ta
        go_wp2_with fail
        refine c1.mono ?_
        rintro e w11 ⟨v11, rfl, ⟨F11, o11, f11⟩, hb11⟩
        clear c1
        have D11 := D8.bw hb11
        have z11 := hb11.size
        have c2 := S_l5Copy w11 b vb (rd_wide rNodes_good (rd_keep rNodes_good rb8 (fun b hb => by have := hb.2; omega) (fun b hb => Below.block hb11 b hb)) (fun b hb => by have := hb.2; omega)) tb
        go_wp2_with fail
        refine c2.mono ?_
        rintro e w12 ⟨v12, rfl, ⟨F12, o12, f12⟩, hb12⟩
        clear c2
        have D12 := D11.bw hb12
        have z12 := hb12.size
        have hWz := D8.size
        have hz12 : w8.heap.size ≤ w12.heap.size := Nat.le_trans z11 z12
        have hFm11 := (fNodes_good (B := 0)).lt o11
        replace o11 := keepBw hb12 fNodes_good o11
        obtain ⟨A11, n11, c11, rfl, l11, _⟩ := rSl_open (fNodes_Rd o11)
        obtain ⟨A12, n12, c12, rfl, l12, _⟩ := rSl_open (fNodes_Rd o12)
        have hl1 := na
        have hl2 := nb
        clear l11 l12
        go_wp2_with (first | (at_builtin; refine wpList_appendD _ rfl (.tmp 47) (.tmp 49) 35 rfl w0 w p D12 w8.heap.size hWz hz12 131 i0 _ 6 80 Tryz.underlying35 hi hz0 hz1 hz2 rfl (by omega) fNode_good _ a F11 rfl o11 f11 _ rfl b F12 o12 w11.heap.size hFm11 f12 z11 (by omega) (by omega) ?_; intro v13 w13 F13 hv13 hF13 hD13 hO13; obtain ⟨A13, n13, c13, rfl, l13, _⟩ := rSl_open (fNodes_Rd hv13); replace l13 := Lib.hid l13; have hFm13 := (fNodes_good (B := 0)).lt hv13; have hA13 := (Bw.refl w13).alloc (.cells #[.int .i64 4, .int .i64 0, .int .i64 0, .int .i64 0, .slice none 0 0, .slice none 0 0] 131); have DW13 := hD13.bw hA13; have hvW := keepBw hA13 fNodes_good hv13; have hcl : ∀ j t, [Value.int .i64 4, .int .i64 0, .int .i64 0, .int .i64 0, .slice none 0 0, .slice none 0 0][j]? = some t → (w13.alloc (.cells #[.int .i64 4, .int .i64 0, .int .i64 0, .int .i64 0, .slice none 0 0, .slice none 0 0] 131)).cell? ((⟨w13.heap.size, 0, none⟩ : Addr).add j) = some t := World.news_of_block (cs := #[.int .i64 4, .int .i64 0, .int .i64 0, .int .i64 0, .slice none 0 0, .slice none 0 0]) (t := 131) (fr := (0, 0)) (heap_alloc_new w13 _); have z13 : w8.heap.size ≤ w13.heap.size := Nat.le_trans hz12 hO13.1; have z14 : w8.heap.size ≤ (w13.alloc (.cells #[.int .i64 4, .int .i64 0, .int .i64 0, .int .i64 0, .slice none 0 0, .slice none 0 0] 131)).heap.size := Nat.le_trans z13 hA13.size; clear hv13) | (at_builtin; refine wpList_pushD _ rfl (.tmp 50) (.tmp 52) 35 rfl w0 w p DW13 w8.heap.size hWz z14 131 i0 _ 6 80 Tryz.underlying35 hi hz0 hz1 hz2 rfl (by omega) fNode_good _ (a ++ b) F13 rfl hvW hF13 ⟨w13.heap.size, 0, none⟩ 1 rfl ⟨4, ⟨0, 0, 0, [], []⟩⟩ [.int .i64 4, .int .i64 0, .int .i64 0, .int .i64 0, .slice none 0 0, .slice none 0 0] [] hcl (fNode_opn _ _) rfl w13.heap.size hFm13 Fresh.nil z13 (by rw [List.length_append]; omega) (by rw [List.length_append]; omega) ?_; intro v14 w14 F14 hv14 hF14 hD14 hO14))
        have hkeep : ∀ b, b < w8.heap.size → w14.heap[b]? = w8.heap[b]? := fun b hb => by
          rw [hO14.2 b (by omega) (fun h => by have := hF13.ge b h; omega), Below.block hA13 b (by omega), hO13.2 b (by omega) (fun h => by have := f11.ge b h; omega), Below.block hb12 b (by omega), Below.block hb11 b hb]
        have z15 : w8.heap.size ≤ w14.heap.size := Nat.le_trans z14 hO14.1
        have gres : gNodes 9 (a ++ b ++ [⟨4, ⟨0, 0, 0, [], []⟩⟩]) := ⟨by rw [List.length_append, List.length_append, List.length_singleton]; omega, fun z hz => (List.mem_append.1 hz).elim (fun hz => (List.mem_append.1 hz).elim (GA.out z) (GB.out z)) (fun h => by rw [List.mem_singleton.1 h]; exact gNode_op (by omega) (by omega))⟩
        have hres := own_read rNodes_good (fNodes_rd (B := 0) hv14) hF14 ((fNodes_good (B := 0)).lt hv14)
        have GN := Lib.hid gres
        have rn9 := hres
        have ra9 := rd_wide (S' := fun c => w.heap.size ≤ c ∧ c < w14.heap.size) rNodes_good (rd_keep rNodes_good ra8 (fun c hc => by have := hc.2; omega) hkeep) (fun c hc => ⟨hc.1, by have := hc.2; omega⟩)
        have rp9 := rd_keep rNodes_good rp8 (fun c hc => by have := hc.2; omega) hkeep
        have rq9 := rd_keep rNodes_good rq8 (fun c hc => by have := hc.2; omega) hkeep
        clear o11 o12 hv14 hvW hcl D11 D12 DW13 hO13 hO14 hA13 hb11 hb12 f11 f12 hF13 hF14 hFm11 hFm13 l13 z11 z12 hz12 z13 z14 hl1 hl2 hWz hres gres
        have rb9 := rd_keep rNodes_good rb8 (fun c hc => by have := hc.2; omega) hkeep
        have ra10 := rd_keep rNodes_good ra8 (fun c hc => by have := hc.2; omega) hkeep
        have D9 := hD14
        have z09 := D9.size
        clear hkeep hD14 ra9 rp9 rq9 D8 ra8 rb8 rp8 rq8
        rename Value => vn
        rename World => w9
        have c1 := S_l5Copy w9 b vb (rd_wide rNodes_good rb9 (fun b hb => by have := hb.2; omega)) tb
        go_wp2_with fail
        refine c1.mono ?_
        rintro e w11 ⟨v11, rfl, ⟨F11, o11, f11⟩, hb11⟩
        clear c1
        have D11 := D9.bw hb11
        have z11 := hb11.size
        have c2 := S_l5Copy w11 a va (rd_wide rNodes_good (rd_keep rNodes_good ra10 (fun b hb => by have := hb.2; omega) (fun b hb => Below.block hb11 b hb)) (fun b hb => by have := hb.2; omega)) ta
        go_wp2_with fail
        refine c2.mono ?_
        rintro e w12 ⟨v12, rfl, ⟨F12, o12, f12⟩, hb12⟩
        clear c2
        have D12 := D11.bw hb12
        have z12 := hb12.size
        have hWz := D9.size
        have hz12 : w9.heap.size ≤ w12.heap.size := Nat.le_trans z11 z12
        have hFm11 := (fNodes_good (B := 0)).lt o11
        replace o11 := keepBw hb12 fNodes_good o11
        obtain ⟨A11, n11, c11, rfl, l11, _⟩ := rSl_open (fNodes_Rd o11)
        obtain ⟨A12, n12, c12, rfl, l12, _⟩ := rSl_open (fNodes_Rd o12)
        have hl1 := nb
        have hl2 := na
        clear l11 l12
        go_wp2_with (first | (at_builtin; refine wpList_appendD _ rfl (.tmp 55) (.tmp 57) 35 rfl w0 w p D12 w9.heap.size hWz hz12 131 i0 _ 6 80 Tryz.underlying35 hi hz0 hz1 hz2 rfl (by omega) fNode_good _ b F11 rfl o11 f11 _ rfl a F12 o12 w11.heap.size hFm11 f12 z11 (by omega) (by omega) ?_; intro v13 w13 F13 hv13 hF13 hD13 hO13; obtain ⟨A13, n13, c13, rfl, l13, _⟩ := rSl_open (fNodes_Rd hv13); replace l13 := Lib.hid l13; have hFm13 := (fNodes_good (B := 0)).lt hv13; have hA13 := (Bw.refl w13).alloc (.cells #[.int .i64 1, .int .i64 0, .int .i64 0, .int .i64 0, .slice none 0 0, .slice none 0 0] 131); have DW13 := hD13.bw hA13; have hvW := keepBw hA13 fNodes_good hv13; have hcl : ∀ j t, [Value.int .i64 1, .int .i64 0, .int .i64 0, .int .i64 0, .slice none 0 0, .slice none 0 0][j]? = some t → (w13.alloc (.cells #[.int .i64 1, .int .i64 0, .int .i64 0, .int .i64 0, .slice none 0 0, .slice none 0 0] 131)).cell? ((⟨w13.heap.size, 0, none⟩ : Addr).add j) = some t := World.news_of_block (cs := #[.int .i64 1, .int .i64 0, .int .i64 0, .int .i64 0, .slice none 0 0, .slice none 0 0]) (t := 131) (fr := (0, 0)) (heap_alloc_new w13 _); have z13 : w9.heap.size ≤ w13.heap.size := Nat.le_trans hz12 hO13.1; have z14 : w9.heap.size ≤ (w13.alloc (.cells #[.int .i64 1, .int .i64 0, .int .i64 0, .int .i64 0, .slice none 0 0, .slice none 0 0] 131)).heap.size := Nat.le_trans z13 hA13.size; clear hv13) | (at_builtin; refine wpList_pushD _ rfl (.tmp 58) (.tmp 60) 35 rfl w0 w p DW13 w9.heap.size hWz z14 131 i0 _ 6 80 Tryz.underlying35 hi hz0 hz1 hz2 rfl (by omega) fNode_good _ (b ++ a) F13 rfl hvW hF13 ⟨w13.heap.size, 0, none⟩ 1 rfl ⟨1, ⟨0, 0, 0, [], []⟩⟩ [.int .i64 1, .int .i64 0, .int .i64 0, .int .i64 0, .slice none 0 0, .slice none 0 0] [] hcl (fNode_opn _ _) rfl w13.heap.size hFm13 Fresh.nil z13 (by rw [List.length_append]; omega) (by rw [List.length_append]; omega) ?_; intro v14 w14 F14 hv14 hF14 hD14 hO14))
        have hkeep : ∀ b, b < w9.heap.size → w14.heap[b]? = w9.heap[b]? := fun b hb => by
          rw [hO14.2 b (by omega) (fun h => by have := hF13.ge b h; omega), Below.block hA13 b (by omega), hO13.2 b (by omega) (fun h => by have := f11.ge b h; omega), Below.block hb12 b (by omega), Below.block hb11 b hb]
        have z15 : w9.heap.size ≤ w14.heap.size := Nat.le_trans z14 hO14.1
        have gres : gNodes 9 (b ++ a ++ [⟨1, ⟨0, 0, 0, [], []⟩⟩]) := ⟨by rw [List.length_append, List.length_append, List.length_singleton]; omega, fun z hz => (List.mem_append.1 hz).elim (fun hz => (List.mem_append.1 hz).elim (GB.out z) (GA.out z)) (fun h => by rw [List.mem_singleton.1 h]; exact gNode_op (by omega) (by omega))⟩
        have hres := own_read rNodes_good (fNodes_rd (B := 0) hv14) hF14 ((fNodes_good (B := 0)).lt hv14)
        have GM := Lib.hid gres
        have rm9 := hres
        have rn10 := rd_keep rNodes_good rn9 (fun c hc => hc.2) hkeep
        clear o11 o12 hv14 hvW hcl D11 D12 DW13 hO13 hO14 hA13 hb11 hb12 f11 f12 hF13 hF14 hFm11 hFm13 l13 z11 z12 hz12 z13 z14 hl1 hl2 hWz hres gres
        go_wp2
        refine bodyPost_ret (v := .tuple #[vn, v14]) (by simp [results, Tryz.results62, go_sem]) rfl ?_
        exact (hD14).ret ⟨_, _, _, _, _, _, rfl, ⟨_, rn10, GN.out⟩, ⟨_, rm9, GM.out⟩, ⟨by omega, by omega⟩, ⟨by omega, by omega⟩, by omega⟩
      · by_cases h3 : sw = 3
        · subst h3
          have hcall := D_l5Any w0 w8 p D8.at'
          clear h0 h1 h2
          go_wp2_with fail
          refine hcall.mono ?_
          rintro e w9 ⟨v9, rfl, ⟨y, ry, gy⟩, hO9, hA9⟩
          clear hcall
          have z9 := hO9.1
          have rp9 := rd_only rNodes_good rp8 hO9 (fun c hc => ⟨by have := hc.2; omega, by have := hc.1; simp; omega⟩)
          have ry9 := ry
          have GY := Lib.hid (show gNodes 9 y from ⟨by have := gy.1; omega, gy.2⟩)
          clear gy
          go_wp2
          refine bodyPost_ret (v := .tuple #[vp, v9]) (by simp [results, Tryz.results62, go_sem]) rfl ?_
          exact (D8.call hO9 hA9).ret ⟨_, _, _, _, _, _, rfl, ⟨_, rp9, GP.out⟩, ⟨_, ry9, GY.out⟩, ⟨by omega, by omega⟩, ⟨by omega, by omega⟩, by omega⟩
        · have e0 : (sw == 0) = false := by simpa using h0
          have e1 : (sw == 1) = false := by simpa using h1
          have e2 : (sw == 2) = false := by simpa using h2
          have e3 : (sw == 3) = false := by simpa using h3
          have rp9 := rp8
          have rq9 := rq8
          clear h0 h1 h2 h3
          go_wp2
          refine bodyPost_ret (v := .tuple #[vp, vq]) (by simp [results, Tryz.results62, go_sem]) rfl ?_
          exact (D8).ret ⟨_, _, _, _, _, _, rfl, ⟨_, rp9, GP.out⟩, ⟨_, rq9, GQ.out⟩, ⟨by omega, by omega⟩, ⟨by omega, by omega⟩, by omega⟩
end Go.Proofs.YthlaabaffbffkaaGreat
