/- Draws: what FnReports asks for besides. -/
import Derived.Test.YtpihighajaeabaaGreatQDrawM
import Derived.Deep.RegionLaw
namespace Go.Proofs.YtpihighajaeabaaGreat
open Go.RowKit
set_option linter.unusedVariables false
set_option linter.unusedSimpArgs false
def gIds (xs : List Int) : Prop := xs.length ≤ 9 ∧ ∀ x ∈ xs, -100 ≤ x ∧ x ≤ 1000
set_option maxRecDepth 100000 in
set_option maxHeartbeats 3200000 in
theorem D_l8Ids (w0 w : World) (p : Nat) (hA : At w0 p w) (l : List GItem) (va : Value) (S : Blocks) (hS : ∀ b, S b → b < w.heap.size ∧ b ≠ p) (h : rItems w S l [va]) (gl : gItems 8 l) : Calls Tryz.prog 127 #[.pointer (some ⟨p, 0, none⟩), va] w
    (RetD w0 p w (DL fInts w.heap.size gIds)) := by
  obtain ⟨i0, hi, hz0, hz1, hz2⟩ := info_parts info_int
  have D0 := Dn.start hA
  have D1 := D0.alloc (.cells #[] 3)
  have hv0 := fSl_empty (e := 3) (sz := 1) (R := fInt) w
  have hlt := hA.lt
  obtain ⟨A, n, c, rfl, L0, Lc, Lm⟩ := rSl_open h
  unfold maxLen at Lm
  have L := Lib.hid L0
  clear L0
  have hn8 : n ≤ 8 := by rw [L.out]; exact gl.1
  have GL := Lib.hid gl.2
  clear gl
  go_enter Tryz.func127, Tryz.ntmps127
  go_wp2
  go_loopg [5, 6] n (fun g s i w' => ∃ (k : Nat) (xs : List Int) (F : List Nat), k ≤ n ∧ g = n - k ∧ i = .int .i64 k ∧ Hid (xs.length ≤ k ∧ ∀ x ∈ xs, -100 ≤ x ∧ x ≤ 1000) ∧ fInts w' xs [s] F ∧ Fresh w.heap.size F ∧ Dn w0 w p w')
  case atStart => exact ⟨0, [], [w.heap.size], by omega, rfl, rfl, Lib.hid ⟨by simp, by simp⟩, hv0, ⟨by simp, by simp⟩, D1⟩
  case round =>
    clear hv0 D1
    obtain ⟨k, xs, F, hk, rfl, rfl, HI, hv, hF, hD⟩ := hrel
    by_cases hlt2 : k < n
    · obtain ⟨x, hx⟩ := get_of_lt (xs := l) (k := k) (by have := L.out; omega)
      obtain ⟨ba, oa, Ax, cx, rfl, hSb, hc0, _, _⟩ := rItems_at h hx
      have hne := (hS _ hSb).2
      replace hc0 := hD.only.cell hc0 (by simpa using hne)
      have HXG := Lib.hid (GL.out x (List.mem_of_getElem? hx)).1
      have i1 : (0 : Int) ≤ (k : Int) := by omega
      have i2 : (k : Int) < (n : Int) := by omega
      have hcall := D_l1Once w0 wr p hD.at' 2 (by omega) (by omega)
      have HH := Lib.hid h
      clear hx h
      go_wp2_with fail
      refine hcall.mono ?_
      rintro e w1 ⟨v1, rfl, ⟨q, rfl⟩, hO1, hA1⟩
      have D2 := hD.call hO1 hA1
      have hv1 := hD.keep hO1 fInts_good hv hF.ge
      replace hc0 := hO1.cell hc0 (by simpa using hne)
      clear hcall hv hO1
      cases q with
      | true =>
        have hAl := (Bw.refl w1).alloc (.cells #[.int .i64 x.id] 3)
        have DW := D2.bw hAl
        have hvW := keepBw hAl fInts_good hv1
        have hcl := cell_one_new w1 (.int .i64 x.id) 3
        have hFm := (fInts_good (B := 0)).lt hv1
        have hzW := DW.size
        have hz := D2.size
        have h := HH.out
        clear hv1
        go_wp2_with (at_builtin; refine wpList_pushD _ rfl (.tmp 16) (.tmp 22) 26 rfl w0 w p DW w.heap.size (Nat.le_refl _) hzW 3 i0 _ 1 8 Tryz.underlying26 hi hz0 hz1 hz2 rfl (by omega) fInt_good _ xs F rfl hvW hF ⟨w1.heap.size, 0, none⟩ 1 rfl x.id [.int .i64 x.id] [] hcl ⟨rfl, rfl⟩ rfl w1.heap.size hFm Fresh.nil hz (by have := HI.out.1; omega) (by have := HI.out.1; omega) ?_; intro v7 w7 F7 hv7 hF7 hD7 hO7)
        go_roundg (n - (k + 1))
        case measure => omega
        case rel => exact ⟨k + 1, _, F7, by omega, rfl, by go_num, Lib.hid ⟨by rw [List.length_append, List.length_singleton]; have := HI.out.1; omega, fun z hz => (List.mem_append.1 hz).elim (HI.out.2 z) (fun h => by rw [List.mem_singleton.1 h]; exact HXG.out)⟩, hv7, hF7, hD7⟩
      | false =>
        have h := HH.out
        clear hc0
        go_wp2
        go_roundg (n - (k + 1))
        case measure => omega
        case rel => exact ⟨k + 1, xs, F, by omega, rfl, by go_num, Lib.hid ⟨by have := HI.out.1; omega, HI.out.2⟩, hv1, hF, D2⟩
    · obtain rfl : k = n := by omega
      have hcall := D_l1Once w0 wr p hD.at' 14 (by omega) (by omega)
      clear hlt2 h
      go_wp2_with fail
      refine hcall.mono ?_
      rintro e w1 ⟨v1, rfl, ⟨q, rfl⟩, hO1, hA1⟩
      have D2 := hD.call hO1 hA1
      have hv1 := hD.keep hO1 fInts_good hv hF.ge
      clear hcall hv hO1
      have HXL := Lib.hid (show xs.length ≤ 8 by have := HI.out.1; omega)
      cases q with
      | true =>
        have hcall := D_l1Below w0 w1 p hA1 9 (by omega) (by omega)
        go_wp2_with fail
        refine hcall.mono ?_
        rintro e w2 ⟨v2, rfl, ⟨y, rfl, y1, y2⟩, hO2, hA2⟩
        have D3 := D2.call hO2 hA2
        have hv2 := D2.keep hO2 fInts_good hv1 hF.ge
        have hAl := (Bw.refl w2).alloc (.cells #[.int .i64 y] 3)
        have DW := D3.bw hAl
        have hvW := keepBw hAl fInts_good hv2
        have hcl := cell_one_new w2 (.int .i64 y) 3
        have hFm := (fInts_good (B := 0)).lt hv2
        have hzW := DW.size
        have hz := D3.size
        clear hv1 hv2 hcall
        go_wp2_with (at_builtin; refine wpList_pushD _ rfl (.tmp 26) (.tmp 29) 26 rfl w0 w p DW w.heap.size (Nat.le_refl _) hzW 3 i0 _ 1 8 Tryz.underlying26 hi hz0 hz1 hz2 rfl (by omega) fInt_good _ xs F rfl hvW hF ⟨w2.heap.size, 0, none⟩ 1 rfl y [.int .i64 y] [] hcl ⟨rfl, rfl⟩ rfl w2.heap.size hFm Fresh.nil hz (by have := HXL.out; omega) (by have := HXL.out; omega) ?_; intro v7 w7 F7 hv7 hF7 hD7 hO7)
        go_ret
        exact hD7.ret ⟨_, F7, hv7, hF7, by rw [List.length_append, List.length_singleton]; have := HXL.out; omega, fun z hz => (List.mem_append.1 hz).elim (HI.out.2 z) (fun h => by rw [List.mem_singleton.1 h]; omega)⟩
      | false =>
        go_wp2
        go_ret
        exact D2.ret ⟨xs, F, hv1, hF, by have := HXL.out; omega, HI.out.2⟩
/-- read from the blocks that are named -/
def fRd {α : Type} (R : Rep α) : Fp α := fun w x cs F => R w (fun b => b ∈ F) x cs ∧ (∀ b ∈ F, b < w.heap.size) ∧ ∀ u ∈ cs, u.oneCell' = true
theorem fRd_good {α : Type} {R : Rep α} {B : Nat} (hR : Good R) : GoodF B (fRd R) :=
  ⟨fun {w w' x cs F} hw ⟨h, hl, h1⟩ => ⟨hR.step ⟨fun _ hb => hb, fun q hq => World.cell?_of_block (hw _ (.inl hq))⟩ h, fun b hb => by
    have h2 := hw b (.inl hb)
    have h3 := hl b hb
    rw [Array.getElem?_eq_getElem h3] at h2
    exact (Array.getElem?_eq_some_iff.1 h2).1, h1⟩, fun h => h.2.1, fun h => h.2.2⟩
theorem DR.own {R : Rep (List GNode)} {B : Nat} {Q : List GNode → Prop} {W : World} {v : Value} (h : DR R B Q W v) (hone : v.oneCell' = true) (hR : Good R) : ∃ xs F, fRd R W xs [v] F ∧ Fresh B F ∧ Q xs := by
  obtain ⟨xs, h, hq⟩ := h
  refine ⟨xs, (List.range W.heap.size).filter (fun b => decide (B ≤ b)), ⟨hR.step ⟨fun b hb => ?_, fun _ _ => rfl⟩ h, fun b hb => ?_, fun u hu => ?_⟩, ⟨List.nodup_range.filter _, fun b hb => ?_⟩, hq⟩
  · exact List.mem_filter.2 ⟨List.mem_range.2 hb.2, decide_eq_true hb.1⟩
  · exact List.mem_range.1 (List.mem_filter.1 hb).1
  · rw [List.mem_singleton.1 hu]; exact hone
  · exact of_decide_eq_true (List.mem_filter.1 hb).2
abbrev fVoters : Fp (List (List GNode)) := fSl 25 1 (fRd rNodes)
theorem fVoters_good {B : Nat} : GoodF B fVoters := fSl_good (fRd_good rNodes_good)
theorem fVoters_rd {w : World} {xs : List (List GNode)} {cs : List Value} {F : List Nat} (h : fVoters w xs cs F) : rNodess w (fun b => b ∈ F ∨ b < 0) xs cs :=
  fSl_rd rNodes_good (fun _ _ _ h => rNodes_good.step ⟨fun b hb => .inl hb, fun _ _ => rfl⟩ h.1) h
theorem fVoters_Rd {w : World} {xs : List (List GNode)} {cs : List Value} {F : List Nat} (h : fVoters w xs cs F) : Rd rNodess w xs cs := Rd.of rNodess_good (B := 0) (fVoters_rd h) ((fVoters_good (B := 0)).lt h) (Nat.zero_le _)
def gVoters (n : Nat) (g : List (List GNode)) : Prop := g.length ≤ n ∧ ∀ e ∈ g, gNodes 9 e
/-- voters of the call's own -/
def DV (n B : Nat) (W : World) (v : Value) : Prop := DL fVoters B (gVoters n) W v
set_option maxRecDepth 100000 in
set_option maxHeartbeats 3200000 in
theorem D_l12Voters (w0 w : World) (p : Nat) (hA : At w0 p w) : Calls Tryz.prog 182 #[.pointer (some ⟨p, 0, none⟩)] w (RetD w0 p w (DV 4 w.heap.size)) := by
  obtain ⟨i0, hi, hz0, hz1, hz2⟩ := info_parts info_Nodes
  have D0 := Dn.start hA
  have D1 := D0.alloc (.cells #[] 25)
  have hv0 := fSl_empty (e := 25) (sz := 1) (R := fRd rNodes) w
  have hlt := hA.lt
  have hcall := D_l1Below w0 _ p D1.at' 4 (by omega) (by omega)
  go_enter Tryz.func182, Tryz.ntmps182
  go_wp2_with fail
  refine hcall.mono ?_
  rintro e w1 ⟨v1, rfl, ⟨N0, rfl, N1, N2⟩, hO1, hA1⟩
  have D2 := D1.call hO1 hA1
  have hv1 := D1.keep hO1 fVoters_good hv0 (by simp)
  obtain ⟨N, rfl⟩ : ∃ N : Nat, N0 = (N : Int) := ⟨N0.toNat, by omega⟩
  have HN := Lib.hid N2
  clear hcall hO1 hA1 D1 hv0 N1
  go_wp2
  clear N2
  go_loopg [3, 4, 5] (N + 1) (fun g s z x5 w' => ∃ (k : Nat) (n : Nat) (xs : List (List GNode)) (F : List Nat), n = g ∧ z = .int .i64 n ∧ Hid (k + n = N + 1 ∧ xs.length = k ∧ ∀ x ∈ xs, gNodes 9 x) ∧ fVoters w' xs [s] F ∧ Fresh w.heap.size F ∧ Dn w0 w p w')
  case atStart => exact ⟨0, N + 1, [], [w.heap.size], rfl, by go_num, Lib.hid ⟨by omega, rfl, by simp⟩, hv1, ⟨by simp, by simp⟩, D2⟩
  case round =>
    clear hv1 D2
    obtain ⟨k, n, xs, F, rfl, rfl, HI, hv, hF, hD⟩ := hrel
    have hk16 : k + n ≤ 4 := by have := HI.out.1; have := HN.out; omega
    by_cases hn : 0 < n
    · have n1 : (0 : Int) < (n : Int) := by omega
      obtain ⟨m, rfl⟩ : ∃ m, n = m + 1 := ⟨n - 1, by omega⟩
      have hcall := D_l5Expression w0 wr p hD.at'
      have HFM := Lib.hid ((fVoters_good (B := 0)).lt hv)
      go_wp2_with fail
      refine hcall.mono ?_
      rintro e w3 ⟨v3, rfl, he, hO3, hA3⟩
      have he3 := he.ge (B' := wr.heap.size) (Nat.le_refl _)
      have hone : v3.oneCell' = true := by
        obtain ⟨q, hq, _⟩ := he3
        obtain ⟨A, c, rfl, _⟩ := rSl_shape hq
        rfl
      obtain ⟨y, G, hy, hG, gy⟩ := he3.own hone rNodes_good
      have D3 := hD.call hO3 hA3
      have hv3 := hD.keep hO3 fVoters_good hv hF.ge
      have hzr := hD.size
      have HXL := Lib.hid HI.out.2.1
      have HG := Lib.hid (show gNodes 9 y from ⟨by have := gy.1; omega, gy.2⟩)
      obtain ⟨Ay, ny, cy, rfl, ly, _⟩ := rSl_open hy.1
      clear hcall hv hO3 hA3 he he3 gy hone ly
      have hAl := (Bw.refl w3).alloc (.cells #[.slice Ay ny cy] 25)
      have DW := D3.bw hAl
      have hvW := keepBw hAl fVoters_good hv3
      have hyW := keepBw hAl (fRd_good rNodes_good) hy
      have hcl := cell_one_new w3 (.slice Ay ny cy) 25
      have hFm := (fVoters_good (B := 0)).lt hv3
      have hzW := DW.size
      clear hv3
      go_wp2_with (at_builtin; refine wpList_pushD _ rfl (.tmp 16) (.tmp 18) 66 rfl w0 w p DW w.heap.size (Nat.le_refl _) (hzW) 25 i0 _ 1 24 Tryz.underlying66 hi hz0 hz1 hz2 rfl (by omega) (fRd_good rNodes_good) _ xs F rfl hvW hF ⟨w3.heap.size, 0, none⟩ 1 rfl y [.slice Ay ny cy] G hcl hyW rfl wr.heap.size HFM.out hG hzr (by have := HXL.out; omega) (by have := HXL.out; omega) ?_; intro v7 w7 F7 hv7 hF7 hD7 hO7)
      go_roundg m
      case measure => omega
      case rel => exact ⟨k + 1, m, _, F7, rfl, by go_num, Lib.hid ⟨by have := HI.out.1; omega, by rw [List.length_append, HXL.out]; rfl, fun z hz => (List.mem_append.1 hz).elim (HI.out.2.2 z) (fun h => by rw [List.mem_singleton.1 h]; exact HG.out)⟩, hv7, hF7, hD7⟩
    · obtain rfl : n = 0 := by omega
      have HR := Lib.hid (show xs.length ≤ 4 by have := HI.out.1; have := HI.out.2.1; have := HN.out; omega)
      clear hn
      go_wp2
      go_ret
      exact hD.ret ⟨xs, F, hv, hF, HR.out, HI.out.2.2⟩
/-- a drawn value, read from blocks between two marks -/
def DB {α : Type} (R : Rep α) (B m : Nat) (Q : α → Prop) (W : World) (v : Value) : Prop := ∃ xs, R W (fun b => B ≤ b ∧ b < m) xs [v] ∧ Q xs
theorem DR.mark {α : Type} {R : Rep α} {B : Nat} {Q : α → Prop} {W : World} {v : Value} (h : DR R B Q W v) : DB R B W.heap.size Q W v := h
theorem DB.only {α : Type} {R : Rep α} (hR : Good R) {B m : Nat} {Q : α → Prop} {W W' : World} {v : Value} {F : List Nat} (h : DB R B m Q W v) (hO : Only F W W') (hm : m ≤ W.heap.size) (hF : ∀ b ∈ F, b < B ∨ m ≤ b) : DB R B m Q W' v := by
  obtain ⟨xs, h, hq⟩ := h
  exact ⟨xs, hR.step ⟨fun _ hb => hb, fun q hq => World.cell?_of_block (hO.2 _ (Nat.lt_of_lt_of_le hq.2 hm) (fun hf => by have := hF _ hf; have := hq.1; have := hq.2; omega))⟩ h, hq⟩
theorem DB.bw {α : Type} {R : Rep α} (hR : Good R) {B m : Nat} {Q : α → Prop} {W W' : World} {v : Value} (h : DB R B m Q W v) (hb : Bw W W') (hm : m ≤ W.heap.size) : DB R B m Q W' v := h.only hR (hb.only []) hm (by simp)
/-- items and voters of the call's own -/
def D12 (B : Nat) (W : World) (v : Value) : Prop := ∃ va vg a b xs F, v = .tuple #[va, vg] ∧ DB rItems a b (gItems 8) W va ∧ (B ≤ a ∧ b ≤ W.heap.size) ∧ fVoters W xs [vg] F ∧ Fresh B F ∧ gVoters 5 xs ∧ ∀ s ∈ F, s < a ∨ b ≤ s
set_option maxRecDepth 100000 in
set_option maxHeartbeats 3200000 in
theorem D_l12Draw (w0 w : World) (p : Nat) (hA : At w0 p w) : Calls Tryz.prog 131 #[.pointer (some ⟨p, 0, none⟩)] w (RetD w0 p w (D12 w.heap.size)) := by
  obtain ⟨i0, hi, hz0, hz1, hz2⟩ := info_parts info_Nodes
  have hp := hA.lt
  have D0 := Dn.start hA
  have hcall := D_l2Items w0 w p hA 5 (by omega) (by omega)
  go_enter Tryz.func131, Tryz.ntmps131
  go_wp2_with fail
  refine hcall.mono ?_
  rintro e w2 ⟨va, rfl, ha, hO2, hA2⟩
  clear hcall
  replace ha := (ha.gi (Nat.le_refl _) (by omega)).mark
  have D2 := D0.call hO2 hA2
  have z2 := D2.size
  have hcall := D_l12Voters w0 w2 p hA2
  go_wp2_with fail
  refine hcall.mono ?_
  rintro e w3 ⟨vg, rfl, hg, hO3, hA3⟩
  clear hcall
  replace ha := ha.only rItems_good hO3 (Nat.le_refl _) (by simp; omega)
  have D3 := D2.call hO3 hA3
  have hcall := D_l1Below w0 w3 p hA3 16 (by omega) (by omega)
  go_wp2_with fail
  refine hcall.mono ?_
  rintro e w4 ⟨v4, rfl, ⟨sw, rfl, s1, s2⟩, hO4, hA4⟩
  clear hcall
  replace ha := ha.only rItems_good hO4 hO3.1 (by simp; omega)
  have D4 := D3.call hO4 hA4
  have z24 : w2.heap.size ≤ w4.heap.size := Nat.le_trans hO3.1 hO4.1
  have z4 := D4.size
  obtain ⟨xs, F, hv, hF, gg⟩ := hg
  replace hv := D3.keep hO4 fVoters_good hv (fun b hb => by have := hF.ge b hb; omega)
  have GG := Lib.hid gg
  clear gg hO2 hO3 hO4 hA2 hA3 D2 D3
  have hg5 : gVoters 5 xs := ⟨by have := GG.out.1; omega, GG.out.2⟩
  have hFlt := (fVoters_good (B := 0)).lt hv
  by_cases h0 : sw = 0
  · subst h0
    have hcall := D_l2Any w0 w4 p hA4
    go_wp2_with fail
    refine hcall.mono ?_
    rintro e w9 ⟨va2, rfl, ha2, hO9, hA9⟩
    clear hcall
    replace ha2 := ha2.items.mark
    have hv9 := D4.keep hO9 fVoters_good hv (fun b hb => by have := hF.ge b hb; omega)
    clear hv
    go_wp2
    refine bodyPost_ret (v := .tuple #[va2, vg]) (by simp [results, Tryz.results131, go_sem]) rfl ?_
    exact (D4.call hO9 hA9).ret ⟨_, _, _, _, _, _, rfl, ha2, ⟨z4, Nat.le_refl _⟩, hv9, hF.mono z2, hg5, (fun s hs => .inl (hFlt s hs))⟩
  · by_cases h1 : sw = 1
    · subst h1
      have hcall := D_l5Any w0 w4 p hA4
      have HFM := Lib.hid ((fVoters_good (B := 0)).lt hv)
      clear h0
      go_wp2_with fail
      refine hcall.mono ?_
      rintro e w9 ⟨v9, rfl, he3, hO9, hA9⟩
      clear hcall
      have hone : v9.oneCell' = true := by
        obtain ⟨q, hq, _⟩ := he3
        obtain ⟨A, c, rfl, _⟩ := rSl_shape hq
        rfl
      obtain ⟨y, G, hy, hG, gy⟩ := he3.own hone rNodes_good
      have D9 := D4.call hO9 hA9
      have hv9 := D4.keep hO9 fVoters_good hv (fun b hb => by have := hF.ge b hb; omega)
      have HXL := Lib.hid GG.out.1
      have HG := Lib.hid (show gNodes 9 y from ⟨by have := gy.1; omega, gy.2⟩)
      have ha9 := ha.only rItems_good hO9 z24 (by simp; omega)
      obtain ⟨Ay, ny, cy, rfl, ly, _⟩ := rSl_open hy.1
      clear hv he3 gy hone ly
      have z29 : w2.heap.size ≤ w9.heap.size := Nat.le_trans z24 hO9.1
      have ha10 := ha9.bw rItems_good ((Bw.refl w9).alloc (.cells #[.slice Ay ny cy] 25)) z29
      have hFge := hF.ge
      have hAl := (Bw.refl w9).alloc (.cells #[.slice Ay ny cy] 25)
      have DW := D9.bw hAl
      have hvW := keepBw hAl fVoters_good hv9
      have hyW := keepBw hAl (fRd_good rNodes_good) hy
      have hcl := cell_one_new w9 (.slice Ay ny cy) 25
      have hFm := (fVoters_good (B := 0)).lt hv9
      have hzW := DW.size
      clear hv9
      go_wp2_with (at_builtin; refine wpList_pushD _ rfl (.tmp 18) (.tmp 21) 66 rfl w0 w p DW w2.heap.size (z2) (Nat.le_trans z29 hAl.size) 25 i0 _ 1 24 Tryz.underlying66 hi hz0 hz1 hz2 rfl (by omega) (fRd_good rNodes_good) _ xs F rfl hvW hF ⟨w9.heap.size, 0, none⟩ 1 rfl y [.slice Ay ny cy] G hcl hyW rfl w4.heap.size HFM.out hG z24 (by have := HXL.out; omega) (by have := HXL.out; omega) ?_; intro v7 w7 F7 hv7 hF7 hD7 hO7)
      have ha11 := ha10.only rItems_good hO7 (by have := hAl.size; omega) (fun b hb => .inr (hFge b hb))
      go_wp2
      refine bodyPost_ret (v := .tuple #[va, v7]) (by simp [results, Tryz.results131, go_sem]) rfl ?_
      exact (hD7).ret ⟨_, _, _, _, _, _, rfl, ha11, ⟨Nat.le_refl _, by have := hO7.1; have := hAl.size; omega⟩, hv7, hF7.mono z2, ⟨by rw [List.length_append, List.length_singleton]; have := HXL.out; omega, fun z hz => (List.mem_append.1 hz).elim (GG.out.2 z) (fun h => by rw [List.mem_singleton.1 h]; exact HG.out)⟩, (fun s hs => .inr (hF7.ge s hs))⟩
    · by_cases h2 : sw = 2
      · subst h2
        have DW := D4.alloc (.cells #[] 25)
        have hv0 := fSl_empty (e := 25) (sz := 1) (R := fRd rNodes) w4
        have haW := ha.bw rItems_good ((Bw.refl w4).alloc (.cells #[] 25)) z24
        clear h0 h1 hv
        go_wp2
        refine bodyPost_ret (v := .tuple #[va, .slice (some ⟨w4.heap.size, 0, none⟩) 0 0]) (by simp [results, Tryz.results131, go_sem]) rfl ?_
        exact (DW).ret ⟨_, _, _, _, _, _, rfl, haW, ⟨Nat.le_refl _, by simp; omega⟩, hv0, ⟨by simp, by simpa using z4⟩, ⟨by simp, by simp⟩, (fun s hs => .inr (by rw [List.mem_singleton.1 hs]; exact z24))⟩
      · have e0 : (sw == 0) = false := by simpa using h0
        have e1 : (sw == 1) = false := by simpa using h1
        have e2 : (sw == 2) = false := by simpa using h2
        clear h0 h1 h2
        go_wp2
        refine bodyPost_ret (v := .tuple #[va, vg]) (by simp [results, Tryz.results131, go_sem]) rfl ?_
        exact (D4).ret ⟨_, _, _, _, _, _, rfl, ha, ⟨Nat.le_refl _, z24⟩, hv, hF.mono z2, hg5, (fun s hs => .inr (hF.ge s hs))⟩
end Go.Proofs.YtpihighajaeabaaGreat

namespace Go.Proofs.YtpihighajaeabaaGreat
open Go.RowKit
set_option linter.unusedVariables false
set_option linter.unusedSimpArgs false
set_option maxHeartbeats 1600000 in
theorem D_DrawLayerLines (w : World) (xs : List Int) (v : Value) (h : Rd rBytes w xs [v]) (hx : wfBytes xs) : Calls Tryz.prog 43 #[v] w fun e W =>
    ∃ va ve, e = .returned (.tuple #[va, ve]) ∧ T rItems (gItems 8) W va ∧ T rNodes (gNodes 8) W ve ∧ Bw w W := by
  have hcall0 := D_l1New w xs v h hx
  clear h
  go_enter Tryz.func43, Tryz.ntmps43
  go_wp2_with fail
  refine hcall0.mono ?_
  rintro e w1 ⟨p, rfl, hA1⟩
  clear hcall0
  have hcall := D_l7Draw w w1 p hA1
  go_wp2_with fail
  refine hcall.mono ?_
  rintro e w2 ⟨u2, rfl, ⟨va, ve, rfl, ha, he⟩, hO2, hA2⟩
  clear hcall
  go_wp2
  refine bodyPost_ret (v := .tuple #[va, ve]) (by simp [results, Tryz.results43, go_sem]) rfl ?_
  exact ⟨_, _, rfl, ha.rd rItems_good, he.rd rNodes_good, hA2.bw⟩
end Go.Proofs.YtpihighajaeabaaGreat

namespace Go.Proofs.YtpihighajaeabaaGreat
open Go.RowKit
set_option linter.unusedVariables false
set_option linter.unusedSimpArgs false
set_option maxHeartbeats 1600000 in
theorem D_DrawIdLine (w : World) (xs : List Int) (v : Value) (h : Rd rBytes w xs [v]) (hx : wfBytes xs) : Calls Tryz.prog 46 #[v] w fun e W =>
    ∃ va, e = .returned va ∧ T rInts gIds W va ∧ Bw w W := by
  have hcall0 := D_l1New w xs v h hx
  clear h
  go_enter Tryz.func46, Tryz.ntmps46
  go_wp2_with fail
  refine hcall0.mono ?_
  rintro e w1 ⟨p, rfl, hA1⟩
  clear hcall0
  have hp := hA1.lt
  have hcall := D_l2Items w w1 p hA1 6 (by omega) (by omega)
  go_wp2_with fail
  refine hcall.mono ?_
  rintro e w2 ⟨v2, rfl, hl, hO2, hA2⟩
  clear hcall
  obtain ⟨l, hl, gl⟩ := hl.gi (Nat.le_refl _) (by omega)
  have hcall := D_l8Ids w w2 p hA2 l v2 _ (fun b hb => ⟨hb.2, by have := hb.1; omega⟩) hl gl
  go_wp2_with fail
  refine hcall.mono ?_
  rintro e w3 ⟨v3, rfl, ⟨is, F, hi, hF, hq⟩, hO3, hA3⟩
  clear hcall
  go_wp2
  go_ret
  exact ⟨_, rfl, ⟨is, fInts_Rd hi, hq⟩, hA3.bw⟩
set_option maxHeartbeats 1600000 in
theorem D_DrawVoteLine (w : World) (xs : List Int) (v : Value) (h : Rd rBytes w xs [v]) (hx : wfBytes xs) : Calls Tryz.prog 49 #[v] w fun e W =>
    ∃ va vg, e = .returned (.tuple #[va, vg]) ∧ T rItems (gItems 8) W va ∧ T rNodess (gVoters 5) W vg ∧ Bw w W := by
  have hcall0 := D_l1New w xs v h hx
  clear h
  go_enter Tryz.func49, Tryz.ntmps49
  go_wp2_with fail
  refine hcall0.mono ?_
  rintro e w1 ⟨p, rfl, hA1⟩
  clear hcall0
  have hcall := D_l12Draw w w1 p hA1
  go_wp2_with fail
  refine hcall.mono ?_
  rintro e w2 ⟨u2, rfl, ⟨va, vg, sa, sb, ys, F, rfl, ha, hsab, hv, hF, gg, hsF⟩, hO2, hA2⟩
  clear hcall
  go_wp2
  refine bodyPost_ret (v := .tuple #[va, vg]) (by simp [results, Tryz.results49, go_sem]) rfl ?_
  exact ⟨_, _, rfl, (by obtain ⟨ls, hl, ql⟩ := ha; exact ⟨ls, rItems_good.step ⟨fun b hb => Nat.lt_of_lt_of_le hb.2 hsab.2, fun _ _ => rfl⟩ hl, ql⟩), ⟨ys, fVoters_Rd hv, gg⟩, hA2.bw⟩
end Go.Proofs.YtpihighajaeabaaGreat

namespace Go.Proofs.YtpihighajaeabaaGreat
open Go.RowKit
set_option linter.unusedVariables false
set_option linter.unusedSimpArgs false
theorem DR.set {α : Type} {R : Rep α} (hR : Good R) {B b o : Nat} {W : World} {u : Value} {Q : α → Prop} {v : Value} (h : DR R B Q W v) (hb : b < B) : DR R B Q (W.setCell ⟨b, o, none⟩ u) v := by
  obtain ⟨xs, h, hq⟩ := h
  exact ⟨xs, hR.step ⟨fun c hc => by simpa using hc, fun q hq => World.cell?_of_block (Below.heap_setCell _ _ _ _ (by have := hq.1; dsimp only; omega))⟩ h, hq⟩
theorem DR.set2 {α : Type} {R : Rep α} (hR : Good R) {B b : Nat} {W : World} {u t : Value} {Q : α → Prop} {v : Value} (h : DR R B Q W v) (hb : b < B) : DR R B Q (set2 W b u t) v := (h.set hR hb).set hR hb
/-- an item that is drawn, from blocks of the call's own -/
def DI (B : Nat) (W : World) (v : Value) : Prop := ∃ (x : GItem) (u : Value), v = .agg #[.int .i64 x.id, u] ∧ rInts W (fun b => B ≤ b ∧ b < W.heap.size) x.vals [u] ∧ gItem x
theorem DI.of {B : Nat} {W : World} {x : GItem} {u : Value} {F : List Nat} (h : fInts W x.vals [u] F) (hF : Fresh B F) (g : gItem x) : DI B W (.agg #[.int .i64 x.id, u]) := ⟨x, u, rfl, own_read rInts_good (fInts_rd (B := 0) h) hF ((fInts_good (B := 0)).lt h), g⟩
theorem DI.set {B b o : Nat} {W : World} {u : Value} {v : Value} (h : DI B W v) (hb : b < B) : DI B (W.setCell ⟨b, o, none⟩ u) v := by
  obtain ⟨x, t, e, h, g⟩ := h
  exact ⟨x, t, e, rInts_good.step ⟨fun c hc => by simpa using hc, fun q hq => World.cell?_of_block (Below.heap_setCell _ _ _ _ (by have := hq.1; dsimp only; omega))⟩ h, g⟩
theorem DI.set2 {B b : Nat} {W : World} {u t : Value} {v : Value} (h : DI B W v) (hb : b < B) : DI B (set2 W b u t) v := (h.set hb).set hb
theorem DI.bw {B : Nat} {W W' : World} {v : Value} (h : DI B W v) (hb : Bw W W') : DI B W' v := by
  obtain ⟨x, t, e, h, g⟩ := h
  exact ⟨x, t, e, rInts_good.step ⟨fun b h => ⟨h.1, Nat.lt_of_lt_of_le h.2 hb.size⟩, fun q hq => Below.cell hb hq.2⟩ h, g⟩
theorem DI.ti {B : Nat} {W : World} {v : Value} (h : DI B W v) : TI W v := by
  obtain ⟨x, t, e, h, g⟩ := h
  exact ⟨x, t, e, rInts_good.step ⟨fun b h => h.2, fun _ _ => rfl⟩ h, g⟩
set_option maxRecDepth 100000 in
set_option maxHeartbeats 3200000 in
theorem D_DrawCompareBy (w : World) (xs : List Int) (v : Value) (h : Rd rBytes w xs [v]) (hx : wfBytes xs) : Calls Tryz.prog 129 #[v] w fun e W =>
    ∃ vf va vb, e = .returned (.tuple #[vf, va, vb]) ∧ DR rNodes w.heap.size (gNodes 8) W vf ∧ DI w.heap.size W va ∧ DI w.heap.size W vb ∧ Bw w W := by
  have A0 : Bw w ((w.alloc (.cells #[.int .i64 0, .slice none 0 0] 30)).alloc (.cells #[.int .i64 0, .slice none 0 0] 30)) := ((Bw.refl w).alloc _).alloc _
  have bR := (Box.new w #[.int .i64 0, .slice none 0 0] 30).bw ((Bw.refl _).alloc (.cells #[.int .i64 0, .slice none 0 0] 30))
  have bS := Box.new (w.alloc (.cells #[.int .i64 0, .slice none 0 0] 30)) #[.int .i64 0, .slice none 0 0] 30
  rw [show (w.alloc (.cells #[.int .i64 0, .slice none 0 0] 30)).heap.size = w.heap.size + 1 by simp] at bS
  have hcall0 := D_l1New _ xs v (h.bw rBytes_good A0) hx
  clear h
  go_enter Tryz.func129, Tryz.ntmps129
  go_wp2_with fail
  refine hcall0.mono ?_
  rintro e w1 ⟨p, rfl, hA1⟩
  clear hcall0
  have hp := hA1.lt
  have hge := hA1.ge
  replace bR := bR.bw hA1.bw
  replace bS := bS.bw hA1.bw
  have hw1 : w.heap.size + 1 < w1.heap.size := bS.lt
  have hwp : w.heap.size + 1 < p := by simp at hge; omega
  have hcall := D_l5Any _ w1 p hA1
  go_wp2_with fail
  refine hcall.mono ?_
  rintro e w2 ⟨vf, rfl, hf, hO2, hA2⟩
  clear hcall
  have z2 := hO2.1
  replace bR := bR.only hO2 (by simp; omega)
  replace bS := bS.only hO2 (by simp; omega)
  have hcall := D_l2AnyItem _ w2 p hA2
  go_wp2_with fail
  refine hcall.mono ?_
  rintro e w3 ⟨v3, rfl, ⟨x, u, F, rfl, hu, hF, hg⟩, hO3, hA3⟩
  clear hcall
  have hf3 := hO3.read rNodes_good hp hf
  replace bR := bR.only hO3 (by simp; omega)
  replace bS := bS.only hO3 (by simp; omega)
  obtain ⟨Au, nu, cu, rfl, lu, _⟩ := rSl_open (fInts_Rd hu)
  have HG := Lib.hid hg
  have z3 := hO3.1
  have AX : Bw w3 (w3.alloc (.cells #[.int .i64 x.id, .slice Au nu cu] 30)) := (Bw.refl w3).alloc _
  have bX := Box.new w3 #[.int .i64 x.id, .slice Au nu cu] 30
  have D3 := (Dn.start hA3).bw AX
  have hux := keepBw AX fInts_good hu
  have hfx := hf3.bw rNodes_good AX
  replace bR := bR.bw AX
  replace bS := bS.bw AX
  have hcall := D_l1Once _ _ p D3.at' 2 (by omega) (by omega)
  clear lu hu hf hf3
  have hFW : ∀ b ∈ F, w.heap.size + 1 < b := fun b hb => by have := hF.ge b hb; omega
  go_wp2_with fail
  refine hcall.mono ?_
  rintro e w4 ⟨v4, rfl, ⟨q, rfl⟩, hO4, hA4⟩
  clear hcall
  have z4 := hO4.1
  have hzA : (w3.alloc (.cells #[.int .i64 x.id, .slice Au nu cu] 30)).heap.size = w3.heap.size + 1 := by simp
  have AD : Bw w4 w4.drew := (Bw.refl w4).drew
  have bRd := (bR.only hO4 (by simp; omega)).bw AD
  have bSd := (bS.only hO4 (by simp; omega)).bw AD
  have bXd := (bX.only hO4 (by simp; omega)).bw AD
  have hud := keepBw AD fInts_good (hO4.keeps fInts_good hux (fun b hb e => by have := hF.ge b hb; simp at e; omega))
  have hfd := (hO4.read rNodes_good hp hfx).bw rNodes_good AD
  have D4 := (Dn.start hA4).bw AD
  have c0 := bXd.c 0 _ rfl
  have c1 := bXd.c 1 _ rfl
  clear bR bS bX hux hfx
  cases q with
  | true =>
    have hcall := D_l2Item _ _ p D4.at' 7 3 (by omega) (by omega)
    clear hg
    go_wp2_with fail
    go_region_law (go_simp; go_at_call 73; refine hcall.mono ?_; rintro e w5 ⟨v5, rfl, ⟨y, t, G, rfl, ht, hG, hgy⟩, hO5, hA5⟩; obtain ⟨At, nt, ct, rfl, lt', _⟩ := rSl_open (fInts_Rd ht); have HY := Lib.hid hgy; have bR5 := bRd.only hO5 (by (simp; omega)); have bS5 := bSd.only hO5 (by (simp; omega)); have bX5 := bXd.only hO5 (by (simp; omega)); have hx5 := hO5.keeps fInts_good hud (fun b hb e => by (have := hF.ge b hb; simp at e; omega)); have hf5 := hO5.read rNodes_good hp hfd; have c0 := bX5.c 0 _ rfl; have c1 := bX5.c 1 _ rfl; have r0 := bR5.c 0 _ rfl; have r1 := bR5.c 1 _ rfl; have rf := bR5.fr; have s0 := bS5.c 0 _ rfl; have s1 := bS5.c 1 _ rfl; have sf := bS5.fr; clear lt' hgy)
    all_goals
      have hGW : ∀ b ∈ G, w.heap.size + 1 < b := fun b hb => by have := hG.ge b hb; have := AD.size; omega
      clear c0 c1 hcall
      go_wp2
      refine bodyPost_ret (v := .tuple #[vf, .agg #[.int .i64 x.id, .slice Au nu cu], .agg #[.int .i64 y.id, .slice At nt ct]]) (by simp [results, Tryz.results129, go_sem, r0, r1, s0, s1]) rfl ?_
      refine ⟨_, _, _, rfl, (DR.set2 (b := w.heap.size + 1) rNodes_good (DR.set2 (b := w.heap.size) rNodes_good hf5 (by omega)) (by omega)).low rNodes_good (by omega) (fun _ h => h), DI.of (keepSet2 (b := w.heap.size + 1) fInts_good (keepSet2 (b := w.heap.size) fInts_good hx5 (fun h => by have := hFW _ h; omega)) (fun h => by have := hFW _ h; omega)) ⟨hF.nodup, fun b hb => by have := hFW b hb; omega⟩ HG.out, DI.of (keepSet2 (b := w.heap.size + 1) fInts_good (keepSet2 (b := w.heap.size) fInts_good ht (fun h => by have := hGW _ h; omega)) (fun h => by have := hGW _ h; omega)) ⟨hG.nodup, fun b hb => by have := hGW b hb; omega⟩ (by have := HY.out; exact ⟨by omega, by omega, fun z hz => by have := this.2.2 z hz; omega⟩), ?_⟩
      exact ((((A0.then hA5.bw).set (p := ⟨w.heap.size, 0, none⟩) (Nat.le_refl _) _).set (p := ⟨w.heap.size, 1, none⟩) (Nat.le_refl _) _).set (p := ⟨w.heap.size + 1, 0, none⟩) (Nat.le_succ _) _).set (p := ⟨w.heap.size + 1, 1, none⟩) (Nat.le_succ _) _
  | false =>
    have hcall := D_l2AnyItem _ _ p D4.at'
    clear hg
    go_wp2_with fail
    go_region_law (go_simp; go_at_call 72; refine hcall.mono ?_; rintro e w5 ⟨v5, rfl, ⟨y, t, G, rfl, ht, hG, hgy⟩, hO5, hA5⟩; obtain ⟨At, nt, ct, rfl, lt', _⟩ := rSl_open (fInts_Rd ht); have HY := Lib.hid hgy; have bR5 := bRd.only hO5 (by (simp; omega)); have bS5 := bSd.only hO5 (by (simp; omega)); have bX5 := bXd.only hO5 (by (simp; omega)); have hx5 := hO5.keeps fInts_good hud (fun b hb e => by (have := hF.ge b hb; simp at e; omega)); have hf5 := hO5.read rNodes_good hp hfd; have c0 := bX5.c 0 _ rfl; have c1 := bX5.c 1 _ rfl; have r0 := bR5.c 0 _ rfl; have r1 := bR5.c 1 _ rfl; have rf := bR5.fr; have s0 := bS5.c 0 _ rfl; have s1 := bS5.c 1 _ rfl; have sf := bS5.fr; clear lt' hgy)
    all_goals
      have hGW : ∀ b ∈ G, w.heap.size + 1 < b := fun b hb => by have := hG.ge b hb; have := AD.size; omega
      clear c0 c1 hcall
      go_wp2
      refine bodyPost_ret (v := .tuple #[vf, .agg #[.int .i64 x.id, .slice Au nu cu], .agg #[.int .i64 y.id, .slice At nt ct]]) (by simp [results, Tryz.results129, go_sem, r0, r1, s0, s1]) rfl ?_
      refine ⟨_, _, _, rfl, (DR.set2 (b := w.heap.size + 1) rNodes_good (DR.set2 (b := w.heap.size) rNodes_good hf5 (by omega)) (by omega)).low rNodes_good (by omega) (fun _ h => h), DI.of (keepSet2 (b := w.heap.size + 1) fInts_good (keepSet2 (b := w.heap.size) fInts_good hx5 (fun h => by have := hFW _ h; omega)) (fun h => by have := hFW _ h; omega)) ⟨hF.nodup, fun b hb => by have := hFW b hb; omega⟩ HG.out, DI.of (keepSet2 (b := w.heap.size + 1) fInts_good (keepSet2 (b := w.heap.size) fInts_good ht (fun h => by have := hGW _ h; omega)) (fun h => by have := hGW _ h; omega)) ⟨hG.nodup, fun b hb => by have := hGW b hb; omega⟩ HY.out, ?_⟩
      exact ((((A0.then hA5.bw).set (p := ⟨w.heap.size, 0, none⟩) (Nat.le_refl _) _).set (p := ⟨w.heap.size, 1, none⟩) (Nat.le_refl _) _).set (p := ⟨w.heap.size + 1, 0, none⟩) (Nat.le_succ _) _).set (p := ⟨w.heap.size + 1, 1, none⟩) (Nat.le_succ _) _
set_option maxRecDepth 100000 in
set_option maxHeartbeats 3200000 in
theorem D_DrawCompareLine (w : World) (xs : List Int) (v : Value) (h : Rd rBytes w xs [v]) (hx : wfBytes xs) : Calls Tryz.prog 47 #[v] w fun e W =>
    ∃ vf va vb, e = .returned (.tuple #[vf, va, vb]) ∧ T rNodes (gNodes 8) W vf ∧ TI W va ∧ TI W vb ∧ Bw w W := by
  have A0 : Bw w ((w.alloc (.cells #[.int .i64 0, .slice none 0 0] 30)).alloc (.cells #[.int .i64 0, .slice none 0 0] 30)) := ((Bw.refl w).alloc _).alloc _
  have bR := (Box.new w #[.int .i64 0, .slice none 0 0] 30).bw ((Bw.refl _).alloc (.cells #[.int .i64 0, .slice none 0 0] 30))
  have bS := Box.new (w.alloc (.cells #[.int .i64 0, .slice none 0 0] 30)) #[.int .i64 0, .slice none 0 0] 30
  rw [show (w.alloc (.cells #[.int .i64 0, .slice none 0 0] 30)).heap.size = w.heap.size + 1 by simp] at bS
  have hcall0 := D_DrawCompareBy _ xs v (h.bw rBytes_good A0) hx
  clear h
  go_enter Tryz.func47, Tryz.ntmps47
  go_wp2_with fail
  refine hcall0.mono ?_
  rintro e w1 ⟨vf, va, vb, rfl, hf, hdx, hdy, hb1⟩
  clear hcall0
  have hdx0 := hdx
  have hdy0 := hdy
  obtain ⟨x, u, rfl, hu, gx⟩ := hdx0
  obtain ⟨y, t, rfl, ht, gy⟩ := hdy0
  obtain ⟨Au, nu, cu, rfl, lu, _⟩ := rSl_open hu
  obtain ⟨At, nt, ct, rfl, lt', _⟩ := rSl_open ht
  have AX := ((Bw.refl w1).alloc (.cells #[.int .i64 x.id, .slice Au nu cu] 30)).alloc (.cells #[.int .i64 y.id, .slice At nt ct] 30)
  have AD := AX.drew
  have bX := (Box.new w1 #[.int .i64 x.id, .slice Au nu cu] 30).bw ((Bw.refl _).alloc (.cells #[.int .i64 y.id, .slice At nt ct] 30))
  have bY := Box.new (w1.alloc (.cells #[.int .i64 x.id, .slice Au nu cu] 30)) #[.int .i64 y.id, .slice At nt ct] 30
  rw [show (w1.alloc (.cells #[.int .i64 x.id, .slice Au nu cu] 30)).heap.size = w1.heap.size + 1 by simp] at bY
  have bRd := bR.bw (hb1.then AX)
  have bSd := bS.bw (hb1.then AX)
  have hw1 : w.heap.size + 1 < w1.heap.size := (bS.bw hb1).lt
  have c0 := bX.c 0 _ rfl
  have c1 := bX.c 1 _ rfl
  have d0 := bY.c 0 _ rfl
  have d1 := bY.c 1 _ rfl
  have r0 := bRd.c 0 _ rfl
  have r1 := bRd.c 1 _ rfl
  have rf := bRd.fr
  have s0 := bSd.c 0 _ rfl
  have s1 := bSd.c 1 _ rfl
  have sf := bSd.fr
  have hsz : ((w.alloc (.cells #[.int .i64 0, .slice none 0 0] 30)).alloc (.cells #[.int .i64 0, .slice none 0 0] 30)).heap.size = w.heap.size + 2 := by simp
  rw [hsz] at hf hdx hdy
  have hfA := hf.bw rNodes_good AD
  have hdxA := hdx.bw AD
  have hdyA := hdy.bw AD
  have BA := (A0.then hb1).then AD
  clear lu lt' hu ht hf hdx hdy AX AD bR bS bX bY bRd bSd hb1 gx gy A0
  go_wp2
  go_region
  all_goals
    go_wp2
    refine bodyPost_ret (v := .tuple #[vf, .agg #[.int .i64 x.id, .slice Au nu cu], .agg #[.int .i64 y.id, .slice At nt ct]]) (by simp [results, Tryz.results47, go_sem, r0, r1, s0, s1]) rfl ?_
    exact ⟨_, _, _, rfl, (DR.set2 (b := w.heap.size + 1) rNodes_good (DR.set2 (b := w.heap.size) rNodes_good hfA (by omega)) (by omega)).rd rNodes_good, (DI.set2 (b := w.heap.size + 1) (DI.set2 (b := w.heap.size) hdxA (by omega)) (by omega)).ti, (DI.set2 (b := w.heap.size + 1) (DI.set2 (b := w.heap.size) hdyA (by omega)) (by omega)).ti, (((BA.set (p := ⟨w.heap.size, 0, none⟩) (Nat.le_refl _) _).set (p := ⟨w.heap.size, 1, none⟩) (Nat.le_refl _) _).set (p := ⟨w.heap.size + 1, 0, none⟩) (Nat.le_succ _) _).set (p := ⟨w.heap.size + 1, 1, none⟩) (Nat.le_succ _) _⟩
end Go.Proofs.YtpihighajaeabaaGreat
