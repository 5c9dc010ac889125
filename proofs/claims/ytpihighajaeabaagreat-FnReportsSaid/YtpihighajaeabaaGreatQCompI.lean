/- Comparisons of values and items in the program. -/
import Derived.Test.YtpihighajaeabaaGreatQRoom
import Derived.Test.YtpihighajaeabaaGreatQCopyW
import Derived.Test.YtpihighajaeabaaGreatQDrawY
import Derived.Test.YtpihighajaeabaaGreatQOwn3
import Derived.Test.YtpihighajaeabaaGreatQItems
import Derived.Test.YtpihighajaeabaaGreatQBoxT
import Derived.Test.YtpihighajaeabaaGreatQExprS
namespace Go.Proofs.YtpihighajaeabaaGreat
open Go.RowKit
set_option linter.unusedVariables false
set_option linter.unusedSimpArgs false
/-- a list of nodes of the call's own, that may begin within its block -/
def DA (B : Nat) (Q : List GNode → Prop) (W : World) (v : Value) : Prop := ∃ xs g o n c, v = .slice (some ⟨g, o, none⟩) n c ∧ Hid (xs.length = n) ∧ Room 6 rNode B W (some ⟨g, o, none⟩) c xs ∧ Q xs
theorem DA.of_own {B : Nat} {Q : List GNode → Prop} {W : World} {v : Value} {xs : List GNode} {F : List Nat} (h : fNodes W xs [v] F) (hF : Fresh B F) (hn : 0 < xs.length) (hq : Q xs) : DA B Q W v := by
  obtain ⟨A, c, rfl, hr⟩ := Room.nodes h hF
  have hr2 := hr
  obtain ⟨h1, h2, us, hE, h3⟩ := hr2
  rcases h3 with ⟨_, h3⟩ | ⟨g, o, rfl, _⟩
  · omega
  · exact ⟨xs, g, o, _, c, rfl, Lib.hid rfl, hr, hq⟩
theorem Room.nil {α : Type} {sz : Nat} {R : Rep α} {B g o o' c : Nat} {W : World} {xs : List α} (h : Room sz R B W (some ⟨g, o, none⟩) c xs) : Room sz R B W (some ⟨g, o', none⟩) 0 ([] : List α) := by
  obtain ⟨_, _, us, hE, h3⟩ := h
  rcases h3 with ⟨h3, _⟩ | ⟨g', o2, hA, hB, hg, hc, hu⟩
  · cases h3
  · injection hA with hA
    injection hA with e1 e2
    subst e1 e2
    exact ⟨Nat.le_refl _, by simp [maxLen], [], ⟨rfl, by simp, by simp, fun k x u hx => by simp at hx⟩, .inr ⟨g, o', rfl, hB, hg, fun j hj => by simp at hj, fun j t ht => by simp at ht⟩⟩
theorem DA.rd {B : Nat} {Q : List GNode → Prop} {W : World} {v : Value} (h : DA B Q W v) : DR rNodes B Q W v := by
  obtain ⟨xs, g, o, n, c, rfl, hn, hr, hq⟩ := h
  have hn' := hn.out
  subst hn'
  exact ⟨xs, hr.read rNode_good, hq⟩
set_option maxRecDepth 100000 in
set_option maxHeartbeats 3200000 in
theorem D_l5AnyR (w0 w : World) (p : Nat) (hA : At w0 p w) : Calls Tryz.prog 171 #[.pointer (some ⟨p, 0, none⟩)] w
    (RetD w0 p w (DA w.heap.size (gNodes 8))) := by
  obtain ⟨i0, hi, hz0, hz1, hz2⟩ := info_parts info_Node
  have D0 := Dn.start hA
  have hlt := hA.lt
  have hcall := D_l5Expression w0 w p hA
  go_enter Tryz.func171, Tryz.ntmps171
  go_wp2_with fail
  refine hcall.mono ?_
  rintro e w1 ⟨v1, rfl, ⟨xs, F, hv, hF, hx⟩, hO1, hA1⟩
  have D1 := D0.call hO1 hA1
  have hcall2 := D_l1Below w0 w1 p hA1 12 (by omega) (by omega)
  have HX := Lib.hid hx
  clear hcall hO1 hA1 hx
  go_wp2_with fail
  refine hcall2.mono ?_
  rintro e w2 ⟨v2, rfl, ⟨sw, rfl, s1, s2⟩, hO2, hA2⟩
  have D2 := D1.call hO2 hA2
  have hv2 := D1.keep hO2 fNodes_good hv hF.ge
  clear hcall2 hv hO2
  have hFm := (fNodes_good (B := 0)).lt hv2
  have hz2' := D2.size
  obtain ⟨g, n, c, rfl, lx, hnc, hcm, hn0⟩ := fSl_lit' hv2 HX.out.1
  by_cases h0 : sw = 0
  · subst h0
    have hcall := D_l1Below w0 w2 p hA2 7 (by omega) (by omega)
    clear hA2
    go_wp2_with fail
    refine hcall.mono ?_
    rintro e w3 ⟨v3, rfl, ⟨y, rfl, y1, y2⟩, hO3, hA3⟩
    have D3 := D2.call hO3 hA3
    have hv3 := D2.keep hO3 fNodes_good hv2 hF.ge
    have HG := Lib.hid (gNode_op (n := y - 1) (by omega) (by omega))
    have hval := fNode_opn w3 (y - 1)
    clear hcall hv2 hO3 hA3
    have DW := D3.alloc (.cells #[.int .i64 (y - 1), .int .i64 0, .int .i64 0, .int .i64 0, .slice none 0 0, .slice none 0 0] 111)
    have hAl := (Bw.refl w3).alloc (.cells #[.int .i64 (y - 1), .int .i64 0, .int .i64 0, .int .i64 0, .slice none 0 0, .slice none 0 0] 111)
    have hvW := keepBw hAl fNodes_good hv3
    have hyW := keepBw hAl fNode_good hval
    have hcl : ∀ j t, [.int .i64 (y - 1), .int .i64 0, .int .i64 0, .int .i64 0, .slice none 0 0, .slice none 0 0][j]? = some t → (w3.alloc (.cells #[.int .i64 (y - 1), .int .i64 0, .int .i64 0, .int .i64 0, .slice none 0 0, .slice none 0 0] 111)).cell? ((⟨w3.heap.size, 0, none⟩ : Addr).add j) = some t := World.news_of_block (cs := #[.int .i64 (y - 1), .int .i64 0, .int .i64 0, .int .i64 0, .slice none 0 0, .slice none 0 0]) (t := 111) (fr := (0, 0)) (heap_alloc_new w3 _)
    have hzW := DW.size
    clear hv3
    go_wp2_with (at_builtin; refine wpList_pushD _ rfl (.tmp 10) (.tmp 15) 25 rfl w0 w p DW w.heap.size (Nat.le_refl _) hzW 111 i0 _ 6 80 Tryz.underlying25 hi hz0 hz1 hz2 rfl (by omega) fNode_good _ xs F rfl hvW hF ⟨w3.heap.size, 0, none⟩ 1 rfl ⟨y - 1, ⟨0, 0, 0, [], []⟩⟩ [.int .i64 (y - 1), .int .i64 0, .int .i64 0, .int .i64 0, .slice none 0 0, .slice none 0 0] [] hcl hyW rfl w2.heap.size hFm Fresh.nil hz2' (by have := HX.out.2.1; omega) (by have := HX.out.2.1; omega) ?_; intro v7 w7 F7 hv7 hF7 hD7 hO7)
    go_ret
    refine hD7.ret (DA.of_own hv7 hF7 (by simp) ⟨by rw [List.length_append, List.length_singleton]; have := HX.out.2.1; omega, fun z hz => (List.mem_append.1 hz).elim (HX.out.2.2 z) (fun h => by rw [List.mem_singleton.1 h]; exact HG.out)⟩)
  · by_cases h1 : sw = 1
    · subst h1
      have hcall := D_l4Any w0 w2 p hA2
      clear hA2 h0
      go_wp2_with fail
      refine hcall.mono ?_
      rintro e w3 ⟨v3, rfl, ⟨⟨kd, fd, va, l, ps⟩, u, t, G1, G2, rfl, o1, o2, hG, hg⟩, hO3, hA3⟩
      have D3 := D2.call hO3 hA3
      have hv3 := D2.keep hO3 fNodes_good hv2 hF.ge
      obtain ⟨Al, nl, cl, rfl, l1, _⟩ := rSl_open (fInts_Rd o1)
      obtain ⟨Ap, np, cp, rfl, l2, _⟩ := rSl_open (fPairs_Rd o2)
      have HG := Lib.hid (gNode_wish hg)
      have hval := fNode_wish o1 o2 0 (kd := kd) (fd := fd) (va := va)
      clear hcall hv2 hO3 hA3 l1 l2 hg o1 o2
      have DW := D3.alloc (.cells #[.int .i64 0, .int .i64 kd, .int .i64 fd, .int .i64 va, .slice Al nl cl, .slice Ap np cp] 111)
      have hAl := (Bw.refl w3).alloc (.cells #[.int .i64 0, .int .i64 kd, .int .i64 fd, .int .i64 va, .slice Al nl cl, .slice Ap np cp] 111)
      have hvW := keepBw hAl fNodes_good hv3
      have hyW := keepBw hAl fNode_good hval
      have hcl : ∀ j t, [.int .i64 0, .int .i64 kd, .int .i64 fd, .int .i64 va, .slice Al nl cl, .slice Ap np cp][j]? = some t → (w3.alloc (.cells #[.int .i64 0, .int .i64 kd, .int .i64 fd, .int .i64 va, .slice Al nl cl, .slice Ap np cp] 111)).cell? ((⟨w3.heap.size, 0, none⟩ : Addr).add j) = some t := World.news_of_block (cs := #[.int .i64 0, .int .i64 kd, .int .i64 fd, .int .i64 va, .slice Al nl cl, .slice Ap np cp]) (t := 111) (fr := (0, 0)) (heap_alloc_new w3 _)
      have hzW := DW.size
      clear hv3
      go_wp2_with (at_builtin; refine wpList_pushD _ rfl (.tmp 19) (.tmp 23) 25 rfl w0 w p DW w.heap.size (Nat.le_refl _) hzW 111 i0 _ 6 80 Tryz.underlying25 hi hz0 hz1 hz2 rfl (by omega) fNode_good _ xs F rfl hvW hF ⟨w3.heap.size, 0, none⟩ 1 rfl ⟨0, ⟨kd, fd, va, l, ps⟩⟩ [.int .i64 0, .int .i64 kd, .int .i64 fd, .int .i64 va, .slice Al nl cl, .slice Ap np cp] (G1 ++ G2) hcl hyW rfl w2.heap.size hFm hG hz2' (by have := HX.out.2.1; omega) (by have := HX.out.2.1; omega) ?_; intro v7 w7 F7 hv7 hF7 hD7 hO7)
      go_ret
      refine hD7.ret (DA.of_own hv7 hF7 (by simp) ⟨by rw [List.length_append, List.length_singleton]; have := HX.out.2.1; omega, fun z hz => (List.mem_append.1 hz).elim (HX.out.2.2 z) (fun h => by rw [List.mem_singleton.1 h]; exact HG.out)⟩)
    · have hDA : DA w.heap.size (gNodes 8) w2 (.slice (some ⟨g, 0, none⟩) n c) := DA.of_own hv2 hF (by have := HX.out.1; omega) ⟨by have := HX.out.2.1; omega, HX.out.2.2⟩
      by_cases h2 : sw = 2
      · subst h2
        obtain ⟨ys, g', o', n', c', e, hn', hr, hq⟩ := hDA
        injection e with e1 e2 e3
        injection e1 with e1
        injection e1 with e1 e4
        subst e1 e2 e3 e4
        have hyl : 1 ≤ ys.length := by rw [hn'.out]; omega
        have hsub := Room.tail rNode_good hr hyl
        have hnil := fun o' => Room.nil (o' := o') hr
        have HQ := Lib.hid (show gNodes 8 (ys.drop 1) from ⟨by rw [List.length_drop]; have := hq.1; omega, fun z hz => hq.2 z (List.mem_of_mem_drop hz)⟩)
        have HL := Lib.hid (show (ys.drop 1).length = n - 1 by rw [List.length_drop, hn'.out])
        clear h0 h1 hq hv2 lx hn' hyl hr
        by_cases hc1 : c = 1
        · subst hc1
          obtain rfl : n = 1 := by omega
          go_wp2
          go_ret
          exact D2.ret ⟨[], _, _, _, _, rfl, Lib.hid rfl, hnil _, by simp, by simp⟩
        · go_wp2
          go_ret
          exact D2.ret ⟨_, _, _, _, _, rfl, HL, by simpa using hsub, HQ.out⟩
      · have e0 : (sw == 0) = false := by simpa using h0
        have e1 : (sw == 1) = false := by simpa using h1
        have e2 : (sw == 2) = false := by simpa using h2
        clear h0 h1 h2
        go_wp2
        go_ret
        exact D2.ret hDA
end Go.Proofs.YtpihighajaeabaaGreat

namespace Go.Proofs.YtpihighajaeabaaGreat
open Go.RowKit
set_option linter.unusedVariables false
set_option linter.unusedSimpArgs false
theorem gNodes_tot {n : Nat} {xs : List GNode} (hn : n ≤ 16) (h : gNodes n xs) : totNodes xs ≤ 1048576 := by
  have h2 := sum_le totNode 18 (l := xs) (fun x hx => by
    have h3 := (h.2 x hx).2.2.2.2
    have := h3.1.1
    have := h3.2.1
    unfold totNode totWish; omega)
  have h1 := h.1
  unfold totNodes; omega
end Go.Proofs.YtpihighajaeabaaGreat

namespace Go.Proofs.YtpihighajaeabaaGreat
open Go.RowKit
set_option linter.unusedVariables false
set_option linter.unusedSimpArgs false
theorem Room.low {α : Type} {sz : Nat} {R : Rep α} (hR : Good R) {B B' : Nat} {W : World} {A : Option Addr} {c : Nat} {xs : List α} (h : Room sz R B W A c xs) (hB : B' ≤ B) : Room sz R B' W A c xs := by
  obtain ⟨h1, h2, us, hE, h3⟩ := h
  refine ⟨h1, h2, us, ⟨hE.len, hE.wide, hE.one, fun k x u hx hu => hR.step ⟨fun b hb => ⟨Nat.le_trans hB hb.1, hb.2⟩, fun _ _ => rfl⟩ (hE.rd k x u hx hu)⟩, ?_⟩
  rcases h3 with h3 | ⟨g, o, hA, hg, h3⟩
  · exact .inl h3
  · exact .inr ⟨g, o, hA, Nat.le_trans hB hg, h3⟩
theorem Room.news {α : Type} {sz : Nat} {R : Rep α} (hR : Good R) {B g o : Nat} {W W' : World} {c : Nat} {xs : List α} (h : Room sz R B W (some ⟨g, o, none⟩) c xs) (hb : Bw W W') {A : Option Addr} (hA : ∀ a, A = some a → W.heap.size ≤ a.block) :
    ∃ us, Elems sz R B W' (offRow B W' A) us xs ∧ ∀ j t, us.flatten[j]? = some t → W'.cell? ((⟨g, o, none⟩ : Addr).add j) = some t := by
  obtain ⟨h1, h2, us, hE, h3⟩ := h
  refine ⟨us, hE.step hR ⟨fun b h => ⟨h.1, Nat.lt_of_lt_of_le h.2.1 hb.size, fun a ha e => by have := hA a ha; have := h.2.1; omega⟩, fun q hq => Below.cell hb hq.2.1⟩, fun j t ht => ?_⟩
  rcases h3 with ⟨h3, _⟩ | ⟨g', o2, hA2, hB, hg, hc, hu⟩
  · cases h3
  · injection hA2 with hA2
    injection hA2 with e1 e2
    subst e1 e2
    rw [Addr.add_lit]
    exact hb.cell (hu j t ht)
theorem Room.dr {B n c : Nat} {W : World} {A : Option Addr} {xs : List GNode} {Q : List GNode → Prop} (h : Room 6 rNode B W A c xs) (hn : xs.length = n) (hq : Q xs) : DR rNodes B Q W (.slice A n c) := by
  subst hn
  exact ⟨xs, h.read rNode_good, hq⟩
theorem gNodes_ops {k m : Nat} {xs : List GNode} {ns : List Int} (h : gNodes k xs) (hn : ∀ n ∈ ns, -100 ≤ n ∧ n ≤ 100) (hk : xs.length + ns.length ≤ m) : gNodes m (xs ++ opNodes ns) :=
  ⟨by rw [List.length_append]; unfold opNodes; rw [List.length_map]; exact hk, fun x hx => (List.mem_append.1 hx).elim (h.2 x) fun h => by
    unfold opNodes at h
    obtain ⟨n, hn', rfl⟩ := List.mem_map.1 h
    exact gNode_op (hn n hn').1 (hn n hn').2⟩
theorem ops_len (xs : List GNode) (ns : List Int) : (xs ++ opNodes ns).length = xs.length + ns.length := by unfold opNodes; rw [List.length_append, List.length_map]
set_option maxRecDepth 100000 in
set_option maxHeartbeats 3200000 in
theorem D_l6Draw (w0 w : World) (p : Nat) (hA : At w0 p w) : Calls Tryz.prog 130 #[.pointer (some ⟨p, 0, none⟩)] w
    (RetD w0 p w (DR rNodes w.heap.size (gNodes 10))) := by
  obtain ⟨i0, hi, hz0, hz1, hz2⟩ := info_parts info_Node
  have D0 := Dn.start hA
  have hlt := hA.lt
  go_enter Tryz.func130, Tryz.ntmps130
  have hcall := D_l5AnyR w0 w p hA
  go_wp2_with fail
  refine hcall.mono ?_
  rintro e w1 ⟨v1, rfl, ⟨xs, g, o, n, c, rfl, hn, hr, hq⟩, hO1, hA1⟩
  clear hcall
  have D1 := D0.call hO1 hA1
  have hcall2 := D_l1Below w0 w1 p hA1 4 (by omega) (by omega)
  go_wp2_with fail
  refine hcall2.mono ?_
  rintro e w2 ⟨v2, rfl, ⟨sw, rfl, s1, s2⟩, hO2, hA2⟩
  have D2 := D1.call hO2 hA2
  have hr2 := hr.keep rNode_good hO2 hlt
  have hz2' := D2.size
  have HQ := Lib.hid hq
  have hn8 : n ≤ 8 := by rw [← hn.out]; exact hq.1
  have HN8 := Lib.hid hn8
  have hno : DR rNodes w.heap.size (gNodes 10) w2 (.slice (some ⟨g, o, none⟩) n c) := hr2.dr hn.out ⟨by have := HQ.out.1; omega, HQ.out.2⟩
  clear hcall2 hq hr hO2 hO1 hA1 D1
  by_cases h0 : sw = 0
  · subst h0
    by_cases h1 : n < 8
    · have i1 : (n : Int) < 8 := by omega
      clear hno
      have hAl := (Bw.refl w2).alloc (.cells #[.int .i64 3, .int .i64 0, .int .i64 0, .int .i64 0, .slice none 0 0, .slice none 0 0] 111)
      have DW := D2.bw hAl
      have hrW := Room.bw rNode_good hr2 hAl
      have hcl : ∀ j t, (opCells [3]).flatten[j]? = some t → (w2.alloc (.cells #[.int .i64 3, .int .i64 0, .int .i64 0, .int .i64 0, .slice none 0 0, .slice none 0 0] 111)).cell? ((⟨w2.heap.size, 0, none⟩ : Addr).add j) = some t := World.news_of_block (cs := #[.int .i64 3, .int .i64 0, .int .i64 0, .int .i64 0, .slice none 0 0, .slice none 0 0]) (t := 111) (fr := (0, 0)) (heap_alloc_new w2 _)
      have hzW := DW.size
      go_wp2_with (at_builtin; refine wpList_roomD _ rfl (.tmp 14) (.tmp 16) 25 rfl 111 i0 _ 6 80 Tryz.underlying25 hi hz0 hz1 hz2 rfl (by omega) rNode_good w0 w p DW w.heap.size (Nat.le_refl _) hzW (some ⟨g, o, none⟩) n c xs rfl hn hrW ⟨w2.heap.size, 0, none⟩ 1 _ (opNodes [3]) rfl (opCells [3]) (Lib.hid rfl) (Elems.ops _ _ _ _) hcl (by omega) (by omega) ?_; intro A' c' w' hr' hD')
      go_ret
      exact hD'.ret (hr'.dr (by rw [ops_len, hn.out]; rfl) (gNodes_ops HQ.out (by simp) (by rw [hn.out]; have := HN8.out; simp; omega)))
    · have i1 : ¬ (n : Int) < 8 := by omega
      go_wp2
      go_ret
      exact D2.ret hno
  · have e0 : (sw == 0) = false := by simpa using h0
    by_cases h1 : sw = 1
    · subst h1
      by_cases h4 : n ≤ 4
      · have i1 : (n : Int) ≤ 4 := by omega
        have hcall := S_l5Copy w2 xs (.slice (some ⟨g, o, none⟩) n c) (by rw [← hn.out]; exact rNodes_good.step ⟨fun b hb => hb.2, fun _ _ => rfl⟩ (hr2.read rNode_good)) (gNodes_tot (n := 8) (by omega) HQ.out)
        have HN4 := Lib.hid h4
        clear hno h0
        go_wp2_with fail
        refine hcall.mono ?_
        rintro e w3 ⟨v3, rfl, ⟨F3, o3, f3⟩, hb3⟩
        obtain ⟨A3, c3, rfl, hx3⟩ := Room.nodes o3 f3
        have D3 := D2.bw hb3
        have hA3 : ∀ a, A3 = some a → w2.heap.size ≤ a.block := by
          intro a ha
          obtain ⟨_, _, _, _, h⟩ := hx3
          rcases h with ⟨h, _⟩ | ⟨g3, o3, h, hb, _⟩
          · rw [h] at ha; cases ha
          · rw [h] at ha; injection ha with ha; subst ha; exact hb
        obtain ⟨us, hus, hucl⟩ := Room.news rNode_good hr2 hb3 hA3
        have hx4 := hx3.low rNode_good hz2'
        have hz3 := D3.size
        rw [hn.out]
        clear hcall o3 f3 hr2 hx3 hb3 hA2
        go_wp2_with (at_builtin; refine wpList_roomD _ rfl (.tmp 25) (.tmp 26) 25 rfl 111 i0 _ 6 80 Tryz.underlying25 hi hz0 hz1 hz2 rfl (by omega) rNode_good w0 w p D3 w.heap.size (Nat.le_refl _) hz3 A3 n c3 xs rfl hn hx4 ⟨g, o, none⟩ n _ xs rfl us hn hus hucl (by have := HN4.out; omega) (by have := HN4.out; omega) ?_; intro A4 c4 w4 hr4 hD4; have hcall := D_l1Below w0 w4 p hD4.at' 2 (by omega) (by omega))
        refine hcall.mono ?_
        rintro e w5 ⟨v5, rfl, ⟨z, rfl, z1, z2⟩, hO5, hA5⟩
        have D5 := hD4.call hO5 hA5
        have hr5 := hr4.keep rNode_good hO5 hlt
        have HZ := Lib.hid (And.intro z1 z2)
        have HL := Lib.hid (show (xs ++ xs).length = n + n by rw [List.length_append, hn.out])
        clear hcall hr4 hD4 hO5 hA5 hus hucl hx4 z1 z2
        have hAl := (Bw.refl w5).alloc (.cells #[.int .i64 (1 + z), .int .i64 0, .int .i64 0, .int .i64 0, .slice none 0 0, .slice none 0 0] 111)
        have DW := D5.bw hAl
        have hrW := Room.bw rNode_good hr5 hAl
        have hcl : ∀ j t, (opCells [1 + z]).flatten[j]? = some t → (w5.alloc (.cells #[.int .i64 (1 + z), .int .i64 0, .int .i64 0, .int .i64 0, .slice none 0 0, .slice none 0 0] 111)).cell? ((⟨w5.heap.size, 0, none⟩ : Addr).add j) = some t := World.news_of_block (cs := #[.int .i64 (1 + z), .int .i64 0, .int .i64 0, .int .i64 0, .slice none 0 0, .slice none 0 0]) (t := 111) (fr := (0, 0)) (heap_alloc_new w5 _)
        have hzW := DW.size
        have wz : -9223372036854775808 ≤ 1 + z ∧ 1 + z ≤ 9223372036854775807 := by have := HZ.out; omega
        go_wp2_with (at_builtin; refine wpList_roomD _ rfl (.tmp 27) (.tmp 32) 25 rfl 111 i0 _ 6 80 Tryz.underlying25 hi hz0 hz1 hz2 rfl (by omega) rNode_good w0 w p DW w.heap.size (Nat.le_refl _) hzW A4 (n + n) c4 (xs ++ xs) rfl HL hrW ⟨w5.heap.size, 0, none⟩ 1 _ (opNodes [1 + z]) rfl (opCells [1 + z]) (Lib.hid rfl) (Elems.ops _ _ _ _) hcl (by have := HN4.out; omega) (by have := HN4.out; omega) ?_; intro A' c' w' hr' hD')
        go_ret
        exact hD'.ret (hr'.dr (by rw [ops_len, HL.out]; rfl) (gNodes_ops (k := 8) ⟨by rw [HL.out]; have := HN4.out; omega, fun x hx => (List.mem_append.1 hx).elim (HQ.out.2 x) (HQ.out.2 x)⟩ (by intro y hy; rw [List.mem_singleton.1 hy]; have := HZ.out; omega) (by rw [HL.out]; have := HN4.out; simp; omega)))
      · have i1 : ¬ (n : Int) ≤ 4 := by omega
        clear h0
        go_wp2
        go_ret
        exact D2.ret hno
    · have e1 : (sw == 1) = false := by simpa using h1
      by_cases h2 : sw = 2
      · subst h2
        by_cases h7 : n < 7
        · have i1 : (n : Int) < 7 := by omega
          clear hno h0 h1
          have hAl := (Bw.refl w2).alloc (.cells #[.int .i64 3, .int .i64 0, .int .i64 0, .int .i64 0, .slice none 0 0, .slice none 0 0, .int .i64 3, .int .i64 0, .int .i64 0, .int .i64 0, .slice none 0 0, .slice none 0 0] 111)
          have DW := D2.bw hAl
          have hrW := Room.bw rNode_good hr2 hAl
          have hcl : ∀ j t, (opCells [3, 3]).flatten[j]? = some t → (w2.alloc (.cells #[.int .i64 3, .int .i64 0, .int .i64 0, .int .i64 0, .slice none 0 0, .slice none 0 0, .int .i64 3, .int .i64 0, .int .i64 0, .int .i64 0, .slice none 0 0, .slice none 0 0] 111)).cell? ((⟨w2.heap.size, 0, none⟩ : Addr).add j) = some t := World.news_of_block (cs := #[.int .i64 3, .int .i64 0, .int .i64 0, .int .i64 0, .slice none 0 0, .slice none 0 0, .int .i64 3, .int .i64 0, .int .i64 0, .int .i64 0, .slice none 0 0, .slice none 0 0]) (t := 111) (fr := (0, 0)) (heap_alloc_new w2 _)
          have hzW := DW.size
          go_wp2_with (at_builtin; refine wpList_roomD _ rfl (.tmp 39) (.tmp 42) 25 rfl 111 i0 _ 6 80 Tryz.underlying25 hi hz0 hz1 hz2 rfl (by omega) rNode_good w0 w p DW w.heap.size (Nat.le_refl _) hzW (some ⟨g, o, none⟩) n c xs rfl hn hrW ⟨w2.heap.size, 0, none⟩ 2 _ (opNodes [3, 3]) rfl (opCells [3, 3]) (Lib.hid rfl) (Elems.ops _ _ _ _) hcl (by omega) (by omega) ?_; intro A' c' w' hr' hD')
          go_ret
          exact hD'.ret (hr'.dr (by rw [ops_len, hn.out]; rfl) (gNodes_ops HQ.out (by simp) (by rw [hn.out]; have := HN8.out; simp; omega)))
        · have i1 : ¬ (n : Int) < 7 := by omega
          clear h0 h1
          go_wp2
          go_ret
          exact D2.ret hno
      · have e2 : (sw == 2) = false := by simpa using h2
        clear h0 h1 h2
        go_wp2
        go_ret
        exact D2.ret hno
def TRw (W : World) (v : Value) : Prop := ∃ (r : GRewriting) (u : Value), v = .agg #[.int .i64 r.rule, .int .i64 r.pos, u] ∧ Rd rNodes W r.after [u] ∧ (Lit.int .i64 r.pos).wf = true
set_option maxRecDepth 100000 in
set_option maxHeartbeats 3200000 in
theorem D_DrawRewriteLine (w : World) (xs : List Int) (v : Value) (h : Rd rBytes w xs [v]) (hx : wfBytes xs) : Calls Tryz.prog 48 #[v] w fun e W =>
    ∃ vr, e = .returned vr ∧ TRw W vr ∧ Bw w W := by
  have A0 : Bw w (w.alloc (.cells #[.int .i64 0, .int .i64 0, .slice none 0 0] 64)) := (Bw.refl w).alloc _
  have bR := Box.new w #[.int .i64 0, .int .i64 0, .slice none 0 0] 64
  have hcall0 := D_l1New _ xs v (h.bw rBytes_good A0) hx
  clear h
  go_enter Tryz.func48, Tryz.ntmps48
  go_wp2_with fail
  refine hcall0.mono ?_
  rintro e w1 ⟨p, rfl, hA1⟩
  clear hcall0
  have hp := hA1.lt
  have hge := hA1.ge
  replace bR := bR.bw hA1.bw
  have hw1 : w.heap.size < w1.heap.size := bR.lt
  have hwp : w.heap.size < p := by simp at hge; omega
  have hcall := D_l6Draw _ w1 p hA1
  go_wp2_with fail
  refine hcall.mono ?_
  rintro e w2 ⟨vf, rfl, hf, hO2, hA2⟩
  clear hcall
  replace bR := bR.only hO2 (by simp; omega)
  have hcall := D_l1Below _ w2 p hA2 7 (by omega) (by omega)
  go_wp2_with fail
  refine hcall.mono ?_
  rintro e w3 ⟨v3, rfl, ⟨a, rfl, a1, a2⟩, hO3, hA3⟩
  clear hcall
  replace bR := bR.only hO3 (by simp; omega)
  replace hf := hO3.read rNodes_good hp hf
  have hcall := D_l1Below _ w3 p hA3 5 (by omega) (by omega)
  go_wp2_with fail
  refine hcall.mono ?_
  rintro e w4 ⟨v4, rfl, ⟨b, rfl, b1, b2⟩, hO4, hA4⟩
  clear hcall
  replace bR := bR.only hO4 (by simp; omega)
  replace hf := hO4.read rNodes_good hp hf
  have hf2 := ((hf.set (b := w.heap.size) (o := 0) (u := .int .i64 (a - 1)) rNodes_good hw1).set (b := w.heap.size) (o := 1) (u := .int .i64 (b - 1)) rNodes_good hw1)
  obtain ⟨f, hfr, gf⟩ := hf
  obtain ⟨Af, nf, cf, rfl, lf, _⟩ := rSl_open hfr
  obtain ⟨f2, hfr2, gf2⟩ := (hf2.set (b := w.heap.size) (o := 2) (u := .slice Af nf cf) rNodes_good hw1).rd rNodes_good
  have wfb : (Lit.int .i64 (b - 1)).wf = true := by simp [Lit.wf, IntKind.min, IntKind.max, IntKind.signed, IntKind.bits]; omega
  have HW := Lib.hid wfb
  clear lf wfb gf gf2 hfr hf2
  have r0 := bR.c 0 _ rfl
  have r1 := bR.c 1 _ rfl
  have r2 := bR.c 2 _ rfl
  have rf := bR.fr
  go_wp2
  refine bodyPost_ret (v := .agg #[.int .i64 (a - 1), .int .i64 (b - 1), .slice Af nf cf]) (by simp [results, Tryz.results48, go_sem, r0, r1, r2]) rfl ?_
  exact ⟨_, rfl, ⟨⟨a - 1, b - 1, f2⟩, _, rfl, hfr2, HW.out⟩, (((A0.then hA4.bw).set (p := ⟨w.heap.size, 0, none⟩) (Nat.le_refl _) _).set (p := ⟨w.heap.size, 1, none⟩) (Nat.le_refl _) _).set (p := ⟨w.heap.size, 2, none⟩) (Nat.le_refl _) _⟩
end Go.Proofs.YtpihighajaeabaaGreat

namespace Go.Proofs.YtpihighajaeabaaGreat
open Go.RowKit
set_option linter.unusedVariables false

end Go.Proofs.YtpihighajaeabaaGreat

namespace Go.Proofs.YtpihighajaeabaaGreat
open Go.RowKit
set_option linter.unusedVariables false
set_option linter.unusedSimpArgs false
def fStanding : Fp GStanding := fun w x cs F => ∃ va vb vc Fa Fb Fc, cs = [va, vb, vc, .int .i64 x.tests] ∧ fItems w x.items [va] Fa ∧ fNodes w x.wanted [vb] Fb ∧ fInts w x.best [vc] Fc ∧ F = Fa ++ (Fb ++ Fc)
end Go.Proofs.YtpihighajaeabaaGreat

namespace Go.Proofs.YtpihighajaeabaaGreat
open Go.RowKit
set_option linter.unusedVariables false
end Go.Proofs.YtpihighajaeabaaGreat

namespace Go.Proofs.YtpihighajaeabaaGreat
open Go.RowKit
set_option linter.unusedVariables false
end Go.Proofs.YtpihighajaeabaaGreat

namespace Go.Proofs.YtpihighajaeabaaGreat
open Go.RowKit
set_option linter.unusedVariables false
end Go.Proofs.YtpihighajaeabaaGreat

namespace Go.Proofs.YtpihighajaeabaaGreat
open Go.RowKit
set_option linter.unusedVariables false
end Go.Proofs.YtpihighajaeabaaGreat

namespace Go.Proofs.YtpihighajaeabaaGreat
open Go.RowKit
set_option linter.unusedVariables false
set_option linter.unusedSimpArgs false
theorem fStanding_good {B : Nat} : GoodF B fStanding :=
  ⟨fun hw ⟨v, u, t, G, H, I, e, h, k, l, hF⟩ => ⟨v, u, t, G, H, I, e, fItems_good.step (fun b hb => hw b (hb.imp (fun hb => by rw [hF]; exact List.mem_append_left _ hb) id)) h, fNodes_good.step (fun b hb => hw b (hb.imp (fun hb => by rw [hF]; exact List.mem_append_right _ (List.mem_append_left _ hb)) id)) k, fInts_good.step (fun b hb => hw b (hb.imp (fun hb => by rw [hF]; exact List.mem_append_right _ (List.mem_append_right _ hb)) id)) l, hF⟩,
   fun ⟨v, u, t, G, H, I, e, h, k, l, hF⟩ b hb => by
    rw [hF] at hb
    exact (List.mem_append.1 hb).elim ((fItems_good (B := B)).lt h b) fun hb => (List.mem_append.1 hb).elim ((fNodes_good (B := B)).lt k b) ((fInts_good (B := B)).lt l b),
   fun ⟨v, u, t, G, H, I, e, h, k, l, hF⟩ s hs => by
    rw [e] at hs
    simp at hs
    rcases hs with rfl | rfl | rfl | rfl
    · exact (fItems_good (B := B)).one h _ (by simp)
    · exact (fNodes_good (B := B)).one k _ (by simp)
    · exact (fInts_good (B := B)).one l _ (by simp)
    · rfl⟩
theorem fStanding_Rds {w : World} {x : GStanding} {a b c d : Value} {F : List Nat} (h : fStanding w x [a, b, c, d] F) : Rd rItems w x.items [a] ∧ Rd rNodes w x.wanted [b] ∧ Rd rInts w x.best [c] ∧ d = .int .i64 x.tests := by
  obtain ⟨v, u, t, G, H, I, e, h, k, l, hF⟩ := h
  injection e with e1 e; injection e with e2 e; injection e with e3 e; injection e with e4 e
  subst e1 e2 e3 e4
  exact ⟨fItems_Rd h, fNodes_Rd k, fInts_Rd l, rfl⟩
theorem fStanding_shape {w : World} {x : GStanding} {cs : List Value} {F : List Nat} (h : fStanding w x cs F) : ∃ A1 c1 A2 c2 A3 c3, cs = [.slice A1 x.items.length c1, .slice A2 x.wanted.length c2, .slice A3 x.best.length c3, .int .i64 x.tests] := by
  obtain ⟨v, u, t, G, H, I, e, h, k, l, hF⟩ := h
  obtain ⟨A1, c1, rfl, _⟩ := rSl_shape (fItems_Rd h)
  obtain ⟨A2, c2, rfl, _⟩ := rSl_shape (fNodes_Rd k)
  obtain ⟨A3, c3, rfl, _⟩ := rSl_shape (fInts_Rd l)
  exact ⟨A1, c1, A2, c2, A3, c3, e⟩
def smallSt (x : GStanding) : Prop := totItems x.items ≤ 1048576 ∧ totNodes x.wanted ≤ 1048576 ∧ x.best.length ≤ 1048576
end Go.Proofs.YtpihighajaeabaaGreat

namespace Go.Proofs.YtpihighajaeabaaGreat
open Go.RowKit
set_option linter.unusedVariables false
set_option linter.unusedSimpArgs false
def idxI (x : Int) : List Int → Nat → Int
  | [], _ => -1
  | y :: l, i => if x = y then (i : Int) else idxI x l (i + 1)
theorem idxI_step {xs : List Int} {k : Nat} {x y : Int} (h : xs[k]? = some y) : idxI x (xs.drop k) k = if x = y then (k : Int) else idxI x (xs.drop (k + 1)) (k + 1) := by rw [drop_cons h, idxI]
theorem idxI_contains (x : Int) : ∀ (l : List Int) (i : Nat), decide (0 ≤ idxI x l i) = l.contains x
  | [], i => by simp [idxI]
  | y :: l, i => by
    rw [idxI, List.contains_cons]
    by_cases h : x = y
    · rw [if_pos h]; simp [h]
    · rw [if_neg h, idxI_contains x l (i + 1)]; simp [h]
set_option maxHeartbeats 800000 in
theorem slices_Index_ints (w : World) (xs : List Int) (x : Int) (v : Value) (h : Rd rInts w xs [v]) : Calls Tryz.prog 95 #[v, .int .i64 x] w (Ret w (.int .i64 (idxI x xs 0))) := by
  obtain ⟨A, n, c, rfl, L0, Lc, Lm⟩ := rSl_open h
  unfold maxLen at Lm
  have L := Lib.hid L0
  clear L0
  go_enter Tryz.func95, Tryz.ntmps95
  go_wp2
  go_loopg [8] n (fun g i w' => ∃ k : Nat, k ≤ n ∧ g = n - k ∧ i = .int .i64 k ∧ Hid (idxI x xs 0 = idxI x (xs.drop k) k) ∧ Bw w w')
  case atStart => exact ⟨0, by omega, rfl, rfl, Lib.hid rfl, Bw.refl _⟩
  case round =>
    obtain ⟨k, hk, rfl, rfl, HE, hb⟩ := hrel
    by_cases hlt : k < n
    · obtain ⟨y, hy⟩ := get_of_lt (xs := xs) (k := k) (by have := L.out; omega)
      obtain ⟨ba, oa, rfl, _, hc0⟩ := rInts_at h hy
      have hc := hb.cell hc0
      have HS := Lib.hid (idxI_step (x := x) hy)
      have i1 : (0 : Int) ≤ (k : Int) := by omega
      have i2 : (k : Int) < (n : Int) := by omega
      clear hy h hc0
      by_cases he : x = y
      · have e1 : (x == y) = true := by simpa using he
        have HX := Lib.hid (show idxI x xs 0 = k by rw [HE.out, HS.out, if_pos he])
        clear he
        go_wp2
        go_ret
        exact Ret.int (HX.out.symm) (hb)
      · have e1 : (x == y) = false := by simpa using he
        have HX := Lib.hid (show idxI x xs 0 = idxI x (xs.drop (k + 1)) (k + 1) by rw [HE.out, HS.out, if_neg he])
        clear he
        go_wp2
        go_roundg (n - (k + 1))
        case measure => omega
        case rel => exact ⟨k + 1, by omega, rfl, by go_num, HX, hb⟩
    · have HX := Lib.hid (show idxI x xs 0 = -1 by rw [HE.out, List.drop_of_length_le (by have := L.out; omega)]; rfl)
      go_wp2
      go_ret
      exact Ret.int (HX.out.symm) (hb)
set_option maxHeartbeats 400000 in
theorem slices_Contains_ints (w : World) (xs : List Int) (x : Int) (v : Value) (h : Rd rInts w xs [v]) : Calls Tryz.prog 104 #[v, .int .i64 x] w (Ret w (.bool (xs.contains x))) := by
  have HC := Lib.hid (idxI_contains x xs 0)
  go_enter Tryz.func104, Tryz.ntmps104
  go_wp2_with fail
  refine (slices_Index_ints _ xs x _ h).mono ?_
  rintro e w2 ⟨rfl, hb2⟩
  go_wp2
  go_ret
  exact Ret.bool (HC.out) (hb2)
end Go.Proofs.YtpihighajaeabaaGreat

namespace Go.Proofs.YtpihighajaeabaaGreat
open Go.RowKit
set_option linter.unusedVariables false
set_option linter.unusedSimpArgs false
theorem max_intI (a b : Int) : max a b = if a ≤ b then b else a := by by_cases h : a ≤ b <;> simp [h] <;> omega
theorem rank_near (x : GWish) (v : Int) (k0 : ¬ x.kind = 0) (k1 : ¬ x.kind = 1) (k2 : x.kind = 2) : rankV x v = if v - x.value < x.value - v then x.value - v else v - x.value := by
  rw [rankV, if_neg k0, if_neg k1, if_pos k2, max_intI]
  by_cases h : v - x.value ≤ x.value - v
  · rw [if_pos h]; split <;> omega
  · rw [if_neg h, if_neg (by omega)]
def Same (w : World) (v : Value) (e : Ending) (w' : World) : Prop := e = .returned v ∧ w' = w
theorem Same.int {w : World} {a b : Int} (h : b = a) : Same w (.int .i64 b) (.returned (.int .i64 a)) w := ⟨by rw [h], rfl⟩
set_option maxRecDepth 100000 in
theorem I_combined_pareto (w : World) (a b : Int) (ha : -1 ≤ a ∧ a ≤ 2) (hb : -1 ≤ b ∧ b ≤ 2) : Calls Tryz.prog 161 #[.int .i64 1, .int .i64 a, .int .i64 b] w (Same w (.int .i64 (comb 1 a b))) := by
  have ea : a = -1 ∨ a = 0 ∨ a = 1 ∨ a = 2 := by omega
  have eb : b = -1 ∨ b = 0 ∨ b = 1 ∨ b = 2 := by omega
  clear ha hb
  rcases ea with rfl | rfl | rfl | rfl <;> rcases eb with rfl | rfl | rfl | rfl
  all_goals
    go_enter Tryz.func161, Tryz.ntmps161
    go_wp2
    go_ret
    exact Same.int rfl
set_option maxRecDepth 100000 in
theorem I_combined_same (w : World) (op a b : Int) (hop : op = 1 ∨ op = 2 ∨ op = 4) (ha : -1 ≤ a ∧ a ≤ 2) (hb : -1 ≤ b ∧ b ≤ 2) : Calls Tryz.prog 161 #[.int .i64 op, .int .i64 a, .int .i64 b] w (Same w (.int .i64 (comb op a b))) := by
  rcases hop with rfl | rfl | rfl
  · exact I_combined_pareto w a b ha hb
  · by_cases h : a = 0
    · have e1 : (a != 0) = false := by simpa using h
      have H := Lib.hid (show comb 2 a b = b by rw [comb, if_neg (by omega), if_pos rfl, if_pos h])
      clear h
      go_enter Tryz.func161, Tryz.ntmps161
      go_wp2
      go_ret
      exact Same.int H.out
    · have e1 : (a != 0) = true := by simpa using h
      have H := Lib.hid (show comb 2 a b = a by rw [comb, if_neg (by omega), if_pos rfl, if_neg h])
      clear h
      go_enter Tryz.func161, Tryz.ntmps161
      go_wp2
      go_ret
      exact Same.int H.out
  · by_cases h : a = b
    · have e1 : (a == b) = true := by simpa using h
      have H := Lib.hid (show comb 4 a b = a by rw [comb, if_neg (by omega), if_neg (by omega), if_pos h])
      clear h
      go_enter Tryz.func161, Tryz.ntmps161
      go_wp2
      go_ret
      exact Same.int H.out
    · have e1 : (a == b) = false := by simpa using h
      have H := Lib.hid (show comb 4 a b = 2 by rw [comb, if_neg (by omega), if_neg (by omega), if_neg h])
      clear h
      go_enter Tryz.func161, Tryz.ntmps161
      go_wp2
      go_ret
      exact Same.int H.out
theorem Ret.two {w w' : World} {a b : Int} {c : Value} (h : a = b) (hb : Bw w w') : Ret w (.tuple #[.int .i64 b, c]) (.returned (.tuple #[.int .i64 a, c])) w' := ⟨by rw [h], hb⟩
set_option maxRecDepth 100000 in
set_option maxHeartbeats 1600000 in
theorem I_RankOfValue (w : World) (x : GWish) (a u : Value) (v : Int) (h : Rd rInts w x.list [a]) (h' : Rd rPairs w x.pairs [u]) (hx : isWish x = true) (h4 : ¬ x.kind = 4) (hv : 0 ≤ v ∧ v ≤ 9) :
    Calls Tryz.prog 260 #[.agg #[.int .i64 x.kind, .int .i64 x.field, .int .i64 x.value, a, u], .int .i64 v] w (Ret w (.tuple #[.int .i64 (rankV x v), .bool true])) := by
  have B0 : Bw w (w.alloc (.cells #[.int .i64 x.kind, .int .i64 x.field, .int .i64 x.value, a, u] 109)) := (Bw.refl w).alloc _
  have HX := Lib.hid hx
  have HV := Lib.hid (inB_iff.2 hv)
  have hval := isWish_value hx
  have hk := isWish_kind hx
  clear hx
  go_enter Tryz.func260, Tryz.ntmps260
  go_wp2_with fail
  refine (I_IsWish _ x _ _ (h.bw rInts_good B0) (h'.bw rPairs_good B0)).mono ?_
  rintro e w1 ⟨rfl, hb1⟩
  rw [HX.out]
  have p0 : w1.cell? ⟨w.heap.size, 0, none⟩ = some (.int .i64 x.kind) := hb1.cell (by go_simp)
  have p1 : w1.cell? ⟨w.heap.size, 1, none⟩ = some (.int .i64 x.field) := hb1.cell (by go_simp)
  have p2 : w1.cell? ⟨w.heap.size, 2, none⟩ = some (.int .i64 x.value) := hb1.cell (by go_simp)
  have p3 : w1.cell? ⟨w.heap.size, 3, none⟩ = some (a) := hb1.cell (by go_simp)
  have p4 : w1.cell? ⟨w.heap.size, 4, none⟩ = some (u) := hb1.cell (by go_simp)
  have B1 := B0.then hb1
  go_wp2_with fail
  refine (I_within _ _ _ _).mono ?_
  rintro e w2 ⟨rfl, hb2⟩
  rw [HV.out]
  replace p0 := hb2.cell p0
  replace p2 := hb2.cell p2
  replace p3 := hb2.cell p3
  replace B1 := B1.then hb2
  clear p1 p4
  by_cases k0 : x.kind = 0
  · have q0 : (x.kind == 0) = true := by simpa using k0
    have E := Lib.hid (show v = rankV x v by rw [rankV, if_pos k0])
    clear k0 h4
    go_wp2
    refine bodyPost_ret (v := .tuple #[.int .i64 v, .bool true]) (by simp [results, Tryz.results260, go_sem]) rfl (Ret.two (E.out) (B1))
  have q0 : (x.kind == 0) = false := by simpa using k0
  by_cases k1 : x.kind = 1
  · have q1 : (x.kind == 1) = true := by simpa using k1
    have E := Lib.hid (show 9 - v = rankV x v by rw [rankV, if_neg k0, if_pos k1])
    clear k0 k1 h4
    go_wp2
    refine bodyPost_ret (v := .tuple #[.int .i64 (9 - v), .bool true]) (by simp [results, Tryz.results260, go_sem]) rfl (Ret.two (E.out) (B1))
  have q1 : (x.kind == 1) = false := by simpa using k1
  by_cases k2 : x.kind = 2
  · have q2 : (x.kind == 2) = true := by simpa using k2
    have K := rank_near x v k0 k1 k2
    by_cases hlt : v - x.value < x.value - v
    · rw [if_pos hlt] at K
      have E := Lib.hid K
      clear k0 k1 k2 h4 K
      go_wp2
      refine bodyPost_ret (v := .tuple #[.int .i64 (x.value - v), .bool true]) (by simp [results, Tryz.results260, go_sem]) rfl (Ret.two (E.out.symm) (B1))
    · rw [if_neg hlt] at K
      have E := Lib.hid K
      clear k0 k1 k2 h4 K
      go_wp2
      refine bodyPost_ret (v := .tuple #[.int .i64 (v - x.value), .bool true]) (by simp [results, Tryz.results260, go_sem]) rfl (Ret.two (E.out.symm) (B1))
  have q2 : (x.kind == 2) = false := by simpa using k2
  have k3 : x.kind = 3 := by omega
  have q3 : (x.kind == 3) = true := by simpa using k3
  have E := Lib.hid (show rankV x v = if x.list.contains v then 0 else 1 by rw [rankV, if_neg k0, if_neg k1, if_neg k2])
  clear k0 k1 k2 k3 h4 hk
  go_wp2_with fail
  refine (slices_Contains_ints _ x.list v _ (h.bw rInts_good B1)).mono ?_
  rintro e w3 ⟨rfl, hb3⟩
  rcases Bool.eq_false_or_eq_true (x.list.contains v) with e1 | e1
  · have R := Lib.hid e1
    rw [e1]
    clear e1
    go_wp2
    refine bodyPost_ret (v := .tuple #[.int .i64 0, .bool true]) (by simp [results, Tryz.results260, go_sem]) rfl (Ret.two ((by rw [E.out, R.out]; rfl)) ((B1.then hb3)))
  · have R := Lib.hid e1
    rw [e1]
    clear e1
    go_wp2
    refine bodyPost_ret (v := .tuple #[.int .i64 1, .bool true]) (by simp [results, Tryz.results260, go_sem]) rfl (Ret.two ((by rw [E.out, R.out]; rfl)) ((B1.then hb3)))
end Go.Proofs.YtpihighajaeabaaGreat
