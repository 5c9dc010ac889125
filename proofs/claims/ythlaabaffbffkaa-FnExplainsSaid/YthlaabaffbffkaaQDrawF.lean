/- Draws: expressions. -/
import Derived.Test.YthlaabaffbffkaaQDrawE
import Derived.Test.YthlaabaffbffkaaQAboveA
import Derived.Test.YthlaabaffbffkaaQPareto
namespace Go.Proofs.Ythlaabaffbffkaa
open Go.RowKit
set_option linter.unusedVariables false
set_option linter.unusedSimpArgs false
/-- an append of a whole owned list in a drawing function -/
theorem wpList_appendD {α : Type} {P : Program} {ops : Array Oper} {rest : List Oper} {o : Oper} {a : Act} {Q : Exit → Act → World → Prop} (W : World) (hgd : o.guard = none) (s x : Operand) (t : TypeId)
    (ho : o.op = .call { callee := .builtin .append, args := #[s, x], argTypes := #[t, t] })
    (w0 w : World) (p : Nat) (hD : Dn w0 w p W) (B : Nat) (hB : w.heap.size ≤ B) (hBW : B ≤ W.heap.size) (e : TypeId) (i : TypeInfo) (z : Value) (sz bytes : Nat) (ht : P.underlying t = some (.slice e)) (hi : P.info? e = some i) (hz : i.zero = some z)
    (hsize : i.size = sz) (hby : i.bytes = bytes) (hzs : z.cells.size = sz) (hsz : 0 < sz)
    {R : Fp α} (hR : GoodF 0 R) (v : Value) (xs : List α) (F : List Nat) (hs : a.eval s = v) (hv : fSl e sz R W xs [v] F) (hF : Fresh B F)
    (sv : Value) (hx : a.eval x = sv) (ys : List α) (G : List Nat) (hw : fSl e sz R W ys [sv] G) (m : Nat) (hFm : ∀ b ∈ F, b < m) (hG : Fresh m G) (hm : B ≤ m)
    (hbytes : (xs.length + ys.length) * bytes ≤ 140737488355328) (hlen : xs.length + ys.length < 4611686018427387904)
    (h : ∀ v' w' F', fSl e sz R w' (xs ++ ys) [v'] F' → Fresh B F' → Dn w0 w p w' → Only F W w' → wpList P ops Q rest (a.put o.dst v') w') : wpList P ops Q (o :: rest) a W := by
  have hle := hD.le
  refine wpList_append_own W hgd s x t ho w0 e i z sz bytes ht hi hz hsize hby hzs hsz (hR.mono (Nat.zero_le _)) v xs F hs hv (hF.mono (by omega)) sv hx ys G hw m hFm hG (by omega) hbytes hlen hD.at'.bw ?_
  intro v' w' F' hv' hF' hb' hO' h5
  exact h v' w' F' hv' ⟨hF'.nodup, fun b hb => (h5 b hb).elim (hF.ge b) (fun h => h.elim (fun h => Nat.le_trans hm (hG.ge b h)) (fun h => Nat.le_trans hBW h))⟩ (hD.next hO' (fun b hb => Nat.le_trans hB (hF.ge b hb)) hb') hO'
/-- what the wishes and nodes that are drawn look like -/
def gWishA (x : GWish) : Prop := (-100 ≤ x.kind ∧ x.kind ≤ 100) ∧ (-100 ≤ x.field ∧ x.field ≤ 100) ∧ (-100 ≤ x.value ∧ x.value ≤ 100) ∧ (x.list.length ≤ 9 ∧ ∀ y ∈ x.list, -100 ≤ y ∧ y ≤ 100) ∧ (x.pairs.length ≤ 8 ∧ ∀ y ∈ x.pairs, gPair y)
theorem gWish.a {x : GWish} (h : gWish x) : gWishA x := ⟨h.1, h.2.1, h.2.2.1, ⟨by have := h.2.2.2.1.1; omega, h.2.2.2.1.2⟩, h.2.2.2.2⟩
def gNode (x : GNode) : Prop := (-100 ≤ x.op ∧ x.op ≤ 100) ∧ gWishA x.wish
theorem gNode_op {n : Int} (h1 : -100 ≤ n) (h2 : n ≤ 100) : gNode ⟨n, ⟨0, 0, 0, [], []⟩⟩ := ⟨⟨h1, h2⟩, ⟨by dsimp only; omega, by dsimp only; omega⟩, ⟨by dsimp only; omega, by dsimp only; omega⟩, ⟨by dsimp only; omega, by dsimp only; omega⟩, ⟨by simp, by simp⟩, ⟨by simp, by simp⟩⟩
theorem gNode_wish {x : GWish} (h : gWishA x) : gNode ⟨0, x⟩ := ⟨⟨by dsimp only; omega, by dsimp only; omega⟩, h⟩
theorem fNode_opn (w : World) (n : Int) : fNode w ⟨n, ⟨0, 0, 0, [], []⟩⟩ [.int .i64 n, .int .i64 0, .int .i64 0, .int .i64 0, .slice none 0 0, .slice none 0 0] [] :=
  ⟨_, rfl, _, _, [], [], rfl, fSl_nil _, fSl_nil _, rfl⟩
theorem fNode_wish {w : World} {kd fd va : Int} {l : List Int} {ps : List GPair} {u t : Value} {F G : List Nat} (h1 : fInts w l [u] F) (h2 : fPairs w ps [t] G) (n : Int) : fNode w ⟨n, ⟨kd, fd, va, l, ps⟩⟩ [.int .i64 n, .int .i64 kd, .int .i64 fd, .int .i64 va, u, t] (F ++ G) :=
  ⟨_, rfl, _, _, F, G, rfl, h1, h2, rfl⟩
/-- a list of one node -/
theorem fNodes_one {w W : World} {x : GNode} {a0 a1 a2 a3 a4 a5 : Value} {F : List Nat} (hW : W = w.alloc (.cells #[a0, a1, a2, a3, a4, a5] 73)) (h : fNode w x [a0, a1, a2, a3, a4, a5] F) : fNodes W [x] [.slice (some ⟨w.heap.size, 0, none⟩) 1 1] (w.heap.size :: F) := by
  subst hW
  have h1 := keepBw ((Bw.refl w).alloc (.cells #[a0, a1, a2, a3, a4, a5] 73)) fNode_good h
  refine ⟨_, [[a0, a1, a2, a3, a4, a5]], [F], rfl, ?_, ⟨⟨h1, rfl⟩, trivial⟩, by simp [Value.ownBlock]⟩
  have hone := (fNode_good (B := 0)).one h
  exact World.ownsRow_lit w #[a0, a1, a2, a3, a4, a5] 1 (Nat.zero_le _) (by simp [maxLen]) (by
    have e := fun u hu => hone u hu
    simp only [List.mem_cons, List.not_mem_nil, or_false, forall_eq_or_imp, forall_eq] at e
    simp [e])
theorem fresh_one {w : World} {B : Nat} {F : List Nat} (hF : Fresh B F) (hlt : ∀ b ∈ F, b < w.heap.size) (hB : B ≤ w.heap.size) : Fresh B (w.heap.size :: F) :=
  ⟨List.nodup_cons.2 ⟨fun h => by have := hlt _ h; omega, hF.nodup⟩, fun b hb => (List.mem_cons.1 hb).elim (fun e => by omega) (hF.ge b)⟩
def nd : Nat → Nat
  | 0 => 1
  | d + 1 => 2 * nd d + 1
theorem nd_le {d : Nat} (h : d ≤ 2) : nd d ≤ 7 := by
  match d, h with
  | 0, _ => decide
  | 1, _ => decide
  | 2, _ => decide
set_option maxRecDepth 100000 in
set_option maxHeartbeats 6400000 in
theorem D_l5Draw : ∀ (d : Nat), d ≤ 2 → ∀ (w0 w : World) (p : Nat) (k : Int), Hid (k = (d : Int)) → At w0 p w → Calls Try.prog 82 #[.pointer (some ⟨p, 0, none⟩), .int .i64 k] w
    (RetD w0 p w (DL fNodes w.heap.size fun xs => 0 < xs.length ∧ xs.length ≤ nd d ∧ ∀ x ∈ xs, gNode x))
  | 0, _, w0, w, p, k, HK, hA => by
    obtain rfl : k = 0 := by simpa using HK.out
    have D0 := Dn.start hA
    have hcall := True.intro
    go_enter Try.func82, Try.ntmps82
    clear hcall
    have hcall := D_l4Wish w0 w p hA
    go_wp2_with fail
    refine hcall.mono ?_
    rintro e w9 ⟨v9, rfl, ⟨⟨kd, fd, va, l, ps⟩, u, t, F, G, rfl, o1, o2, hF, hx⟩, hO9, hA9⟩
    have D9 := D0.call hO9 hA9
    have hz9 := D0.size
    obtain ⟨Al, nl, cl, rfl, l1, _⟩ := rSl_open (fInts_Rd o1)
    obtain ⟨Ap, np, cp, rfl, l2, _⟩ := rSl_open (fPairs_Rd o2)
    have HX := Lib.hid hx
    have hFlt : ∀ b ∈ F ++ G, b < w9.heap.size := fun b hb => (List.mem_append.1 hb).elim ((fInts_good (B := 0)).lt o1 b) ((fPairs_good (B := 0)).lt o2 b)
    have hres := fNodes_one rfl (fNode_wish o1 o2 0 (kd := kd) (fd := fd) (va := va))
    have hfr := fresh_one (w := w9) (hF.mono hz9) hFlt (by have := D9.size; omega)
    clear hcall l1 l2 hx
    go_wp2
    go_ret
    exact (D9.alloc _).ret ⟨_, _, hres, hfr, by simp, by simp [nd], fun y hy => by rw [List.mem_singleton.1 hy]; exact gNode_wish HX.out.a⟩
  | d + 1, hd, w0, w, p, k, HK, hA => by
    have ih := D_l5Draw d (by omega)
    have hnd := nd_le (d := d) (by omega)
    obtain ⟨i0, hi, hz0, hz1, hz2⟩ := info_parts info_Node
    have k1 : 1 ≤ k := by have := HK.out; omega
    have k2 : k ≤ 2 := by have := HK.out; omega
    have k0 : (k == 0) = false := by simp; omega
    have HK1 : Hid (k - 1 = (d : Int)) := Lib.hid (by have := HK.out; omega)
    have D0 := Dn.start hA
    have hcall := D_l1Once w0 w p hA 3 (by omega) (by omega)
    go_enter Try.func82, Try.ntmps82
    go_wp2_with fail
    refine hcall.mono ?_
    rintro e w1 ⟨v1, rfl, ⟨q, rfl⟩, hO1, hA1⟩
    have D1 := D0.call hO1 hA1
    cases q with
    | true =>
      clear hcall
      have hcall := D_l4Wish w0 w1 p hA1
      go_wp2_with fail
      refine hcall.mono ?_
      rintro e w9 ⟨v9, rfl, ⟨⟨kd, fd, va, l, ps⟩, u, t, F, G, rfl, o1, o2, hF, hx⟩, hO9, hA9⟩
      have D9 := D1.call hO9 hA9
      have hz9 := D1.size
      obtain ⟨Al, nl, cl, rfl, l1, _⟩ := rSl_open (fInts_Rd o1)
      obtain ⟨Ap, np, cp, rfl, l2, _⟩ := rSl_open (fPairs_Rd o2)
      have HX := Lib.hid hx
      have hFlt : ∀ b ∈ F ++ G, b < w9.heap.size := fun b hb => (List.mem_append.1 hb).elim ((fInts_good (B := 0)).lt o1 b) ((fPairs_good (B := 0)).lt o2 b)
      have hres := fNodes_one rfl (fNode_wish o1 o2 0 (kd := kd) (fd := fd) (va := va))
      have hfr := fresh_one (w := w9) (hF.mono hz9) hFlt (by have := D9.size; omega)
      clear hcall l1 l2 hx
      go_wp2
      go_ret
      exact (D9.alloc _).ret ⟨_, _, hres, hfr, by simp, by simp [nd], fun y hy => by rw [List.mem_singleton.1 hy]; exact gNode_wish HX.out.a⟩
    | false =>
      clear hcall
      have hcall := D_l1Below w0 w1 p hA1 4 (by omega) (by omega)
      go_wp2_with fail
      refine hcall.mono ?_
      rintro e w2 ⟨v2, rfl, ⟨z, rfl, z1, z2⟩, hO2, hA2⟩
      have D2 := D1.call hO2 hA2
      clear hcall
      have hcall := ih w0 w2 p (k - 1) HK1 hA2
      have HG := Lib.hid (gNode_op (n := 1 + z) (by omega) (by omega))
      by_cases h3 : z = 2
      · have e3 : (1 + z == 3) = true := by simp; omega
        have HZ := Lib.hid h3
        clear h3
        go_wp2_with fail
        refine hcall.mono ?_
        rintro e w3 ⟨v3, rfl, ⟨xs, F, hv, hF, hx⟩, hO3, hA3⟩
        have D3 := D2.call hO3 hA3
        have HX := Lib.hid hx
        have hxl := hx.2.1
        have hs2 := D2.size
        obtain ⟨Ax, nx, cx, rfl, lx, _⟩ := rSl_open (fNodes_Rd hv)
        have hFm := (fNodes_good (B := 0)).lt hv
        have DW := D3.alloc (.cells #[.int .i64 (1 + z), .int .i64 0, .int .i64 0, .int .i64 0, .slice none 0 0, .slice none 0 0] 73)
        have hvW := keepBw ((Bw.refl w3).alloc (.cells #[.int .i64 (1 + z), .int .i64 0, .int .i64 0, .int .i64 0, .slice none 0 0, .slice none 0 0] 73)) fNodes_good hv
        have hcl : ∀ j t, [Value.int .i64 (1 + z), .int .i64 0, .int .i64 0, .int .i64 0, .slice none 0 0, .slice none 0 0][j]? = some t → (w3.alloc (.cells #[.int .i64 (1 + z), .int .i64 0, .int .i64 0, .int .i64 0, .slice none 0 0, .slice none 0 0] 73)).cell? ((⟨w3.heap.size, 0, none⟩ : Addr).add j) = some t := World.news_of_block (cs := #[.int .i64 (1 + z), .int .i64 0, .int .i64 0, .int .i64 0, .slice none 0 0, .slice none 0 0]) (t := 73) (fr := (0, 0)) (heap_alloc_new w3 _)
        have hzW := DW.size
        have HFG := Lib.hid (hF.mono hs2)
        have hzz := D3.size
        have HL := Lib.hid hxl
        clear hcall hx lx hxl hv
        go_wp2_with (at_builtin; refine wpList_pushD _ rfl (.tmp 27) (.tmp 30) 25 rfl w0 w p DW w.heap.size (Nat.le_refl _) hzW 73 i0 _ 6 80 Try.underlying25 hi hz0 hz1 hz2 rfl (by omega) fNode_good _ xs F rfl hvW HFG.out ⟨w3.heap.size, 0, none⟩ 1 rfl ⟨1 + z, ⟨0, 0, 0, [], []⟩⟩ [.int .i64 (1 + z), .int .i64 0, .int .i64 0, .int .i64 0, .slice none 0 0, .slice none 0 0] [] hcl (fNode_opn _ _) rfl w3.heap.size hFm Fresh.nil hzz (by have := HL.out; omega) (by have := HL.out; omega) ?_; intro v7 w7 F7 hv7 hF7 hD7 hO7)
        go_ret
        exact hD7.ret ⟨_, F7, hv7, hF7, (by rw [List.length_append, List.length_singleton]; omega), by have := HL.out; rw [show nd (d + 1) = 2 * nd d + 1 from rfl, List.length_append, List.length_singleton]; omega, fun y hy => (List.mem_append.1 hy).elim (HX.out.2.2 y) (fun h => by rw [List.mem_singleton.1 h]; exact HG.out)⟩
      · have e3 : (1 + z == 3) = false := by simp; omega
        have HZ := Lib.hid h3
        clear h3
        go_wp2_with fail
        refine hcall.mono ?_
        rintro e w3 ⟨v3, rfl, ⟨xs, F, hv, hF, hx⟩, hO3, hA3⟩
        have D3 := D2.call hO3 hA3
        have HX := Lib.hid hx
        have hxl := hx.2.1
        have hs2 := D2.size
        obtain ⟨Ax, nx, cx, rfl, lx, _⟩ := rSl_open (fNodes_Rd hv)
        have hFm := (fNodes_good (B := 0)).lt hv
        clear hcall
        have hcall := ih w0 w3 p (k - 1) HK1 hA3
        have HFG := Lib.hid (hF.mono hs2)
        have HL := Lib.hid hxl
        have hzz := D3.size
        clear hx lx hxl
        go_wp2_with fail
        refine hcall.mono ?_
        rintro e w4 ⟨v4, rfl, ⟨ys, G, hy, hG, hyx⟩, hO4, hA4⟩
        have D4 := D3.call hO4 hA4
        have hv4 := D3.keep hO4 fNodes_good hv HFG.out.ge
        have HY := Lib.hid hyx
        have hyl := hyx.2.1
        obtain ⟨Ay, ny, cy, rfl, ly, _⟩ := rSl_open (fNodes_Rd hy)
        have HLY := Lib.hid hyl
        have hzW := D4.size
        clear hcall hyx ly hyl hv
        go_wp2_with (first | (at_builtin; refine wpList_appendD _ rfl (.tmp 36) (.tmp 40) 25 rfl w0 w p D4 w.heap.size (Nat.le_refl _) hzW 73 i0 _ 6 80 Try.underlying25 hi hz0 hz1 hz2 rfl (by omega) fNode_good _ xs F rfl hv4 HFG.out _ rfl ys G hy w3.heap.size hFm hG hzz (by have := HL.out; have := HLY.out; omega) (by have := HL.out; have := HLY.out; omega) ?_; intro v5 w5 F5 hv5 hF5 hD5 hO5; obtain ⟨A5, n5, c5, rfl, l5, _⟩ := rSl_open (fNodes_Rd hv5); replace l5 := Lib.hid l5; have hFm5 := (fNodes_good (B := 0)).lt hv5; have DW := hD5.alloc (.cells #[.int .i64 (1 + z), .int .i64 0, .int .i64 0, .int .i64 0, .slice none 0 0, .slice none 0 0] 73); have hvW := keepBw ((Bw.refl w5).alloc (.cells #[.int .i64 (1 + z), .int .i64 0, .int .i64 0, .int .i64 0, .slice none 0 0, .slice none 0 0] 73)) fNodes_good hv5; have hcl : ∀ j t, [Value.int .i64 (1 + z), .int .i64 0, .int .i64 0, .int .i64 0, .slice none 0 0, .slice none 0 0][j]? = some t → (w5.alloc (.cells #[.int .i64 (1 + z), .int .i64 0, .int .i64 0, .int .i64 0, .slice none 0 0, .slice none 0 0] 73)).cell? ((⟨w5.heap.size, 0, none⟩ : Addr).add j) = some t := World.news_of_block (cs := #[.int .i64 (1 + z), .int .i64 0, .int .i64 0, .int .i64 0, .slice none 0 0, .slice none 0 0]) (t := 73) (fr := (0, 0)) (heap_alloc_new w5 _); have hzW5 := DW.size; have hzz5 := hD5.size; have HL5 := Lib.hid (show (xs ++ ys).length ≤ 14 by (rw [List.length_append]; have := HL.out; have := HLY.out; omega)); clear hv5 hv4 hy) | (at_builtin; refine wpList_pushD _ rfl (.tmp 42) (.tmp 45) 25 rfl w0 w p DW w.heap.size (Nat.le_refl _) hzW5 73 i0 _ 6 80 Try.underlying25 hi hz0 hz1 hz2 rfl (by omega) fNode_good _ (xs ++ ys) F5 rfl hvW hF5 ⟨w5.heap.size, 0, none⟩ 1 rfl ⟨1 + z, ⟨0, 0, 0, [], []⟩⟩ [.int .i64 (1 + z), .int .i64 0, .int .i64 0, .int .i64 0, .slice none 0 0, .slice none 0 0] [] hcl (fNode_opn _ _) rfl w5.heap.size hFm5 Fresh.nil hzz5 (by have := HL5.out; omega) (by have := HL5.out; omega) ?_; intro v7 w7 F7 hv7 hF7 hD7 hO7))
        go_ret
        exact hD7.ret ⟨_, F7, hv7, hF7, (by rw [List.length_append, List.length_singleton]; omega), by have := HL.out; have := HLY.out; rw [show nd (d + 1) = 2 * nd d + 1 from rfl, List.length_append, List.length_append, List.length_singleton]; omega, fun y hy => (List.mem_append.1 hy).elim (fun hy => (List.mem_append.1 hy).elim (HX.out.2.2 y) (HY.out.2.2 y)) (fun h => by rw [List.mem_singleton.1 h]; exact HG.out)⟩
end Go.Proofs.Ythlaabaffbffkaa
