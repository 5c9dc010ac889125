/- Couples where no law lays couples in as arguments. -/
import Derived.Test.YtfffklkiikmieaaQDrawJ
import Derived.Test.YtfffklkiikmieaaQFill
import Derived.Test.YtfffklkiikmieaaQPairs
namespace Go.Proofs.Ytfffklkiikmieaa
open Go.RowKit
set_option linter.unusedVariables false
set_option linter.unusedSimpArgs false
theorem upd_g3 {xs : List GItem} {i k : Nat} {z : Int} (hz : -100 ≤ z ∧ z ≤ 100) (h : ∀ x ∈ xs, gItem3 x) : ∀ x ∈ updI xs i k z, gItem3 x := by
  intro x hx
  unfold updI at hx
  obtain ⟨j, hj⟩ := List.getElem?_of_mem hx
  rw [List.getElem?_modify] at hj
  cases hq : xs[j]? with
  | none => rw [hq] at hj; simp at hj
  | some y =>
    have hy := h y (List.mem_of_getElem? hq)
    rw [hq] at hj
    have hj2 : (if i = j then { y with vals := y.vals.set k z } else y) = x := by simpa using hj
    clear hj
    split at hj2
    · subst hj2
      refine ⟨hy.1, by dsimp only; rw [List.length_set]; exact hy.2.1, fun v hv => ?_⟩
      rcases List.mem_or_eq_of_mem_set hv with hv | hv
      · exact hy.2.2 v hv
      · rw [hv]; exact hz
    · subst hj2
      exact hy
theorem upd_len (xs : List GItem) (i k : Nat) (z : Int) : (updI xs i k z).length = xs.length := by unfold updI; simp
theorem fInts_neg (w : World) : fInts (w.alloc (.cells #[.int .i64 (-1), .int .i64 (-1), .int .i64 (-1)] 3)) [-1, -1, -1] [.slice (some ⟨w.heap.size, 0, none⟩) 3 3] [w.heap.size] := fInts_tri w (-1) (-1) (-1)
set_option maxRecDepth 100000 in
set_option maxHeartbeats 6400000 in
theorem D_l13Partial (w0 w : World) (p : Nat) (hA : At w0 p w) : Calls Try.prog 151 #[.pointer (some ⟨p, 0, none⟩)] w
    (RetD w0 p w (DL fItems w.heap.size (gItems 8))) := by
  obtain ⟨i0, hi, hz0, hz1, hz2⟩ := info_parts info_Item
  have D0 := Dn.start hA
  have hlt := hA.lt
  have hcall := D_l2Items w0 w p hA 5 (by omega) (by omega)
  go_enter Try.func151, Try.ntmps151
  go_wp2_with fail
  refine hcall.mono ?_
  rintro e w1 ⟨v1, rfl, ⟨xs, F, hv, hF, hx⟩, hO1, hA1⟩
  have D1 := D0.call hO1 hA1
  have hcall2 := D_l1Below w0 w1 p hA1 4 (by omega) (by omega)
  have HX := Lib.hid hx.2
  have HXL := Lib.hid (show xs.length ≤ 5 by have := hx.1; omega)
  obtain ⟨A, L, c, rfl, lx, _⟩ := rSl_open (fItems_Rd hv)
  have HL := Lib.hid lx
  have hL5 : L ≤ 5 := by rw [lx]; exact HXL.out
  clear hcall hO1 hA1 hx lx
  go_wp2_with fail
  refine hcall2.mono ?_
  rintro e w2 ⟨v2, rfl, ⟨N0, rfl, N1, N2⟩, hO2, hA2⟩
  have D2 := D1.call hO2 hA2
  have hv2 := D1.keep hO2 fItems_good hv hF.ge
  obtain ⟨N, rfl⟩ : ∃ N : Nat, N0 = (N : Int) := ⟨N0.toNat, by omega⟩
  have HN := Lib.hid N2
  clear hcall2 hv hO2 hA2 N1 N2
  go_wp2
  go_loopg [4, 5] N (fun g z x5 w' => ∃ (n : Nat) (cur : List GItem), n = g ∧ z = .int .i64 n ∧ Hid (n ≤ N) ∧ Hid (L = cur.length) ∧ Hid (∀ x ∈ cur, gItem3 x) ∧ fItems w' cur [.slice A L c] F ∧ Dn w0 w p w')
  case atStart => exact ⟨N, xs, rfl, rfl, Lib.hid (Nat.le_refl _), HL, HX, hv2, D2⟩
  case round =>
    clear hv2 D2 HX HXL HL
    obtain ⟨n, cur, rfl, rfl, HI, HL, HX, hv, hD⟩ := hrel
    have hn4 : n ≤ 4 := by have := HI.out; have := HN.out; omega
    have hFm := (fItems_good (B := 0)).lt hv
    by_cases hn : 0 < n ∧ 0 < L
    · have n1 : (0 : Int) < (n : Int) := by omega
      have l1 : (0 : Int) < (L : Int) := by omega
      have hn0 := hn.1
      obtain ⟨m, rfl⟩ : ∃ m, n = m + 1 := ⟨n - 1, by omega⟩
      have hcall := D_l1Below w0 wr p hD.at' L (by omega) (by omega)
      clear hn hn0
      go_wp2_with fail
      refine hcall.mono ?_
      rintro e w3 ⟨v3, rfl, ⟨K0, rfl, K1, K2⟩, hO3, hA3⟩
      have D3 := hD.call hO3 hA3
      have hv3 := hD.keep hO3 fItems_good hv hF.ge
      obtain ⟨K, rfl⟩ : ∃ K : Nat, K0 = (K : Int) := ⟨K0.toNat, by omega⟩
      have hKL : K < L := by omega
      obtain ⟨x, hxk⟩ := get_of_lt (xs := cur) (k := K) (by have := HL.out; omega)
      have hx3 : x.vals.length = 3 := (HX.out x (List.mem_of_getElem? hxk)).2.1
      have AD : Bw w3 w3.drew := (Bw.refl w3).drew
      have D4 := D3.bw AD
      have hv4 := keepBw AD fItems_good hv3
      obtain ⟨g, Lg, cg, eg, LG, _, _, _⟩ := fSl_lit' hv4 (by have := HL.out; omega)
      injection eg with eg1 eg2 eg3
      subst eg1 eg2 eg3
      obtain ⟨b, cap, hcb, hfb, _, hbF, hBb, _, _⟩ := fItems_put hv4 hF hxk (k := 0) (by omega) (-1)
      rw [hx3] at hcb
      have hcb3 : w3.cell? ⟨g, K * 2 + 1, none⟩ = some (.slice (some ⟨b, 0, none⟩) 3 cap) := hcb
      have hcall2 := D_l1Below w0 w3.drew p D4.at' 3 (by omega) (by omega)
      have HXK := Lib.hid hxk
      have HX3 := Lib.hid hx3
      have hgF : g ∈ F := by
        obtain ⟨g2, c2', e, _, _, hg⟩ := fSl_lit hv4 (by have := HL.out; omega)
        injection e with e
        injection e with e
        injection e with e
        rw [e]; exact hg
      have hgp : g ≠ p := fun e => by have := hF.ge g hgF; omega
      clear hcall hxk hx3 hO3 hA3 hv hv3 hfb
      go_wp2_with fail
      go_region_law (go_simp; go_at_call 132; refine hcall2.mono ?_; rintro e w5 ⟨v5, rfl, ⟨J0, rfl, J1, J2⟩, hO5, hA5⟩; have D5 := D4.call hO5 hA5; have hv5 := D4.keep hO5 fItems_good hv4 hF.ge; obtain ⟨J, rfl⟩ : ∃ J : Nat, J0 = (J : Int) := ⟨J0.toNat, by omega⟩; have hcb5 := hO5.cell hcb (by simpa using hgp); obtain ⟨b5, cap5, hcb6, hfb5, ⟨y5, hy5⟩, hbF5, hBb5, hgr5, hput5⟩ := fItems_put hv5 hF HXK.out (k := J) (by (have := HX3.out; omega)) (-1); rw [hcb5] at hcb6; injection hcb6 with hcb6; injection hcb6 with e51 e52 e53; injection e51 with e51; injection e51 with e51; subst e51; clear e52 e53)
      all_goals
        have D6 := D5.set (b := b) (o := J) (by have := hF.ge b hbF; omega) (.int .i64 (-1))
        have HX6 := Lib.hid (upd_g3 (i := K) (k := J) (z := -1) (by omega) HX.out)
        have HL6 := Lib.hid (show L = (updI cur K J (-1)).length by rw [upd_len]; exact HL.out)
        clear hcb hcb3 hcb5 hfb5 hy5 hcall2 hv5 hv4 hgr5
        go_wp2
        go_roundg m
        case measure => omega
        case rel => exact ⟨m, _, rfl, by go_num, Lib.hid (by have := HI.out; omega), HL6, HX6, hput5, D6⟩
    · have hcall := D_l1Below w0 wr p hD.at' 14 (by omega) (by omega)
      have hHL := HL.out
      have HLB := Lib.hid (show cur.length ≤ 5 by omega)
      have key : ∀ (w2 : World) (sw : Int), 0 ≤ sw → True := fun _ _ _ => trivial
      have hcond : (decide ((0 : Int) < (n : Int)) && decide ((0 : Int) < (L : Int))) = false := by
        rw [Bool.and_eq_false_iff, decide_eq_false_iff_not, decide_eq_false_iff_not]; omega
      by_cases hn0 : 0 < n
      · have n1 : (0 : Int) < (n : Int) := by omega
        obtain rfl : L = 0 := by omega
        clear hn hcond hHL key hn0
        go_wp2_with fail
        refine hcall.mono ?_
        rintro e w2 ⟨v2, rfl, ⟨sw, rfl, s1, s2⟩, hO2, hA2⟩
        have D2 := hD.call hO2 hA2
        have hv2 := hD.keep hO2 fItems_good hv hF.ge
        clear hcall hv hO2
        replace hFm := (fItems_good (B := 0)).lt hv2
        have hz2' := D2.size
        by_cases h0 : sw = 0
        · subst h0
          have hAn := (Bw.refl w2).alloc (.cells #[.int .i64 (-1), .int .i64 (-1), .int .i64 (-1)] 3)
          have D3 := D2.bw hAn
          have hv3 := keepBw hAn fItems_good hv2
          have hval := fInts_neg w2
          have hGF : Fresh w2.heap.size [w2.heap.size] := ⟨by simp, by simp⟩
          have hg90 : gItem ⟨90, [-1, -1, -1]⟩ := ⟨⟨by dsimp only; omega, by dsimp only; omega⟩, by simp, fun y hy => by simp at hy; omega⟩
          have HG := Lib.hid hg90
          clear hv2 hg90
          have DW := D3.alloc (.cells #[.int .i64 90, .slice (some ⟨w2.heap.size, 0, none⟩) 3 3] 110)
          have hAl := (Bw.refl (w2.alloc (.cells #[.int .i64 (-1), .int .i64 (-1), .int .i64 (-1)] 3))).alloc (.cells #[.int .i64 90, .slice (some ⟨w2.heap.size, 0, none⟩) 3 3] 110)
          have hvW := keepBw hAl fItems_good hv3
          have hyW := keepBw hAl fInts_good hval
          have hcl : ∀ j t, [.int .i64 90, .slice (some ⟨w2.heap.size, 0, none⟩) 3 3][j]? = some t → ((w2.alloc (.cells #[.int .i64 (-1), .int .i64 (-1), .int .i64 (-1)] 3)).alloc (.cells #[.int .i64 90, .slice (some ⟨w2.heap.size, 0, none⟩) 3 3] 110)).cell? ((⟨w2.heap.size + 1, 0, none⟩ : Addr).add j) = some t := by rw [← show (w2.alloc (.cells #[.int .i64 (-1), .int .i64 (-1), .int .i64 (-1)] 3)).heap.size = w2.heap.size + 1 by simp]; exact World.news_of_block (cs := #[.int .i64 90, .slice (some ⟨w2.heap.size, 0, none⟩) 3 3]) (t := 110) (fr := (0, 0)) (heap_alloc_new (w2.alloc (.cells #[.int .i64 (-1), .int .i64 (-1), .int .i64 (-1)] 3)) _)
          have hzW := DW.size
          clear hv3
          go_wp2_with (at_builtin; refine wpList_pushD _ rfl (.tmp 35) (.tmp 38) 29 rfl w0 w p DW w.heap.size (Nat.le_refl _) hzW 110 i0 _ 2 32 Try.underlying29 hi hz0 hz1 hz2 rfl (by omega) fItem_good _ cur F rfl hvW hF _ 1 rfl ⟨90, [-1, -1, -1]⟩ [.int .i64 90, .slice (some ⟨w2.heap.size, 0, none⟩) 3 3] [w2.heap.size] hcl ⟨_, rfl, hyW⟩ rfl w2.heap.size hFm hGF hz2' (by have := HLB.out; omega) (by have := HLB.out; omega) ?_; intro v7 w7 F7 hv7 hF7 hD7 hO7)
          go_ret
          exact hD7.ret ⟨_, F7, hv7, hF7, by rw [List.length_append, List.length_singleton]; have := HLB.out; omega, fun z hz => (List.mem_append.1 hz).elim (fun h => (HX.out z h).g) (fun h => by rw [List.mem_singleton.1 h]; exact HG.out)⟩
        · by_cases h1 : sw = 1
          · subst h1
            have hcall := D_l2AnyItem w0 w2 p hA2
            clear h0
            go_wp2_with fail
            refine hcall.mono ?_
            rintro e w3 ⟨v3, rfl, ⟨y, u, G, rfl, hy, hG, hg⟩, hO3, hA3⟩
            have D3 := D2.call hO3 hA3
            have hv3 := D2.keep hO3 fItems_good hv2 hF.ge
            obtain ⟨Ay, ny, cy, rfl, ly, _⟩ := rSl_open (fInts_Rd hy)
            have HG := Lib.hid hg
            clear hcall hv2 hg ly
            have DW := D3.alloc (.cells #[.int .i64 y.id, .slice Ay ny cy] 110)
            have hAl := (Bw.refl w3).alloc (.cells #[.int .i64 y.id, .slice Ay ny cy] 110)
            have hvW := keepBw hAl fItems_good hv3
            have hyW := keepBw hAl fInts_good hy
            have hcl : ∀ j t, [.int .i64 y.id, .slice Ay ny cy][j]? = some t → (w3.alloc (.cells #[.int .i64 y.id, .slice Ay ny cy] 110)).cell? ((⟨w3.heap.size, 0, none⟩ : Addr).add j) = some t := World.news_of_block (cs := #[.int .i64 y.id, .slice Ay ny cy]) (t := 110) (fr := (0, 0)) (heap_alloc_new w3 _)
            have hzW := DW.size
            clear hv3
            go_wp2_with (at_builtin; refine wpList_pushD _ rfl (.tmp 42) (.tmp 45) 29 rfl w0 w p DW w.heap.size (Nat.le_refl _) hzW 110 i0 _ 2 32 Try.underlying29 hi hz0 hz1 hz2 rfl (by omega) fItem_good _ cur F rfl hvW hF _ 1 rfl y [.int .i64 y.id, .slice Ay ny cy] G hcl ⟨_, rfl, hyW⟩ rfl w2.heap.size hFm hG hz2' (by have := HLB.out; omega) (by have := HLB.out; omega) ?_; intro v7 w7 F7 hv7 hF7 hD7 hO7)
            go_ret
            exact hD7.ret ⟨_, F7, hv7, hF7, by rw [List.length_append, List.length_singleton]; have := HLB.out; omega, fun z hz => (List.mem_append.1 hz).elim (fun h => (HX.out z h).g) (fun h => by rw [List.mem_singleton.1 h]; exact HG.out)⟩
          · have e0 : (sw == 0) = false := by simpa using h0
            have e1 : (sw == 1) = false := by simpa using h1
            clear h0 h1
            go_wp2
            go_ret
            exact D2.ret ⟨_, F, hv2, hF, by have := HLB.out; omega, fun z hz => (HX.out z hz).g⟩
      · obtain rfl : n = 0 := by omega
        clear hn hcond hHL key hn0
        go_wp2_with fail
        refine hcall.mono ?_
        rintro e w2 ⟨v2, rfl, ⟨sw, rfl, s1, s2⟩, hO2, hA2⟩
        have D2 := hD.call hO2 hA2
        have hv2 := hD.keep hO2 fItems_good hv hF.ge
        clear hcall hv hO2
        replace hFm := (fItems_good (B := 0)).lt hv2
        have hz2' := D2.size
        by_cases h0 : sw = 0
        · subst h0
          have hAn := (Bw.refl w2).alloc (.cells #[.int .i64 (-1), .int .i64 (-1), .int .i64 (-1)] 3)
          have D3 := D2.bw hAn
          have hv3 := keepBw hAn fItems_good hv2
          have hval := fInts_neg w2
          have hGF : Fresh w2.heap.size [w2.heap.size] := ⟨by simp, by simp⟩
          have hg90 : gItem ⟨90, [-1, -1, -1]⟩ := ⟨⟨by dsimp only; omega, by dsimp only; omega⟩, by simp, fun y hy => by simp at hy; omega⟩
          have HG := Lib.hid hg90
          clear hv2 hg90
          have DW := D3.alloc (.cells #[.int .i64 90, .slice (some ⟨w2.heap.size, 0, none⟩) 3 3] 110)
          have hAl := (Bw.refl (w2.alloc (.cells #[.int .i64 (-1), .int .i64 (-1), .int .i64 (-1)] 3))).alloc (.cells #[.int .i64 90, .slice (some ⟨w2.heap.size, 0, none⟩) 3 3] 110)
          have hvW := keepBw hAl fItems_good hv3
          have hyW := keepBw hAl fInts_good hval
          have hcl : ∀ j t, [.int .i64 90, .slice (some ⟨w2.heap.size, 0, none⟩) 3 3][j]? = some t → ((w2.alloc (.cells #[.int .i64 (-1), .int .i64 (-1), .int .i64 (-1)] 3)).alloc (.cells #[.int .i64 90, .slice (some ⟨w2.heap.size, 0, none⟩) 3 3] 110)).cell? ((⟨w2.heap.size + 1, 0, none⟩ : Addr).add j) = some t := by rw [← show (w2.alloc (.cells #[.int .i64 (-1), .int .i64 (-1), .int .i64 (-1)] 3)).heap.size = w2.heap.size + 1 by simp]; exact World.news_of_block (cs := #[.int .i64 90, .slice (some ⟨w2.heap.size, 0, none⟩) 3 3]) (t := 110) (fr := (0, 0)) (heap_alloc_new (w2.alloc (.cells #[.int .i64 (-1), .int .i64 (-1), .int .i64 (-1)] 3)) _)
          have hzW := DW.size
          clear hv3
          go_wp2_with (at_builtin; refine wpList_pushD _ rfl (.tmp 35) (.tmp 38) 29 rfl w0 w p DW w.heap.size (Nat.le_refl _) hzW 110 i0 _ 2 32 Try.underlying29 hi hz0 hz1 hz2 rfl (by omega) fItem_good _ cur F rfl hvW hF _ 1 rfl ⟨90, [-1, -1, -1]⟩ [.int .i64 90, .slice (some ⟨w2.heap.size, 0, none⟩) 3 3] [w2.heap.size] hcl ⟨_, rfl, hyW⟩ rfl w2.heap.size hFm hGF hz2' (by have := HLB.out; omega) (by have := HLB.out; omega) ?_; intro v7 w7 F7 hv7 hF7 hD7 hO7)
          go_ret
          exact hD7.ret ⟨_, F7, hv7, hF7, by rw [List.length_append, List.length_singleton]; have := HLB.out; omega, fun z hz => (List.mem_append.1 hz).elim (fun h => (HX.out z h).g) (fun h => by rw [List.mem_singleton.1 h]; exact HG.out)⟩
        · by_cases h1 : sw = 1
          · subst h1
            have hcall := D_l2AnyItem w0 w2 p hA2
            clear h0
            go_wp2_with fail
            refine hcall.mono ?_
            rintro e w3 ⟨v3, rfl, ⟨y, u, G, rfl, hy, hG, hg⟩, hO3, hA3⟩
            have D3 := D2.call hO3 hA3
            have hv3 := D2.keep hO3 fItems_good hv2 hF.ge
            obtain ⟨Ay, ny, cy, rfl, ly, _⟩ := rSl_open (fInts_Rd hy)
            have HG := Lib.hid hg
            clear hcall hv2 hg ly
            have DW := D3.alloc (.cells #[.int .i64 y.id, .slice Ay ny cy] 110)
            have hAl := (Bw.refl w3).alloc (.cells #[.int .i64 y.id, .slice Ay ny cy] 110)
            have hvW := keepBw hAl fItems_good hv3
            have hyW := keepBw hAl fInts_good hy
            have hcl : ∀ j t, [.int .i64 y.id, .slice Ay ny cy][j]? = some t → (w3.alloc (.cells #[.int .i64 y.id, .slice Ay ny cy] 110)).cell? ((⟨w3.heap.size, 0, none⟩ : Addr).add j) = some t := World.news_of_block (cs := #[.int .i64 y.id, .slice Ay ny cy]) (t := 110) (fr := (0, 0)) (heap_alloc_new w3 _)
            have hzW := DW.size
            clear hv3
            go_wp2_with (at_builtin; refine wpList_pushD _ rfl (.tmp 42) (.tmp 45) 29 rfl w0 w p DW w.heap.size (Nat.le_refl _) hzW 110 i0 _ 2 32 Try.underlying29 hi hz0 hz1 hz2 rfl (by omega) fItem_good _ cur F rfl hvW hF _ 1 rfl y [.int .i64 y.id, .slice Ay ny cy] G hcl ⟨_, rfl, hyW⟩ rfl w2.heap.size hFm hG hz2' (by have := HLB.out; omega) (by have := HLB.out; omega) ?_; intro v7 w7 F7 hv7 hF7 hD7 hO7)
            go_ret
            exact hD7.ret ⟨_, F7, hv7, hF7, by rw [List.length_append, List.length_singleton]; have := HLB.out; omega, fun z hz => (List.mem_append.1 hz).elim (fun h => (HX.out z h).g) (fun h => by rw [List.mem_singleton.1 h]; exact HG.out)⟩
          · have e0 : (sw == 0) = false := by simpa using h0
            have e1 : (sw == 1) = false := by simpa using h1
            clear h0 h1
            go_wp2
            go_ret
            exact D2.ret ⟨_, F, hv2, hF, by have := HLB.out; omega, fun z hz => (HX.out z hz).g⟩
end Go.Proofs.Ytfffklkiikmieaa

namespace Go.Proofs.Ytfffklkiikmieaa
open Go.RowKit
set_option linter.unusedVariables false

theorem info_Couple : (Try.prog.info? 83).map (fun i => (i.zero, i.size, i.bytes)) = some (some (.agg #[.int .i64 0, .int .i64 0]), 2, 16) := by kernel_rfl
abbrev fCouples : Fp (List GPair) := fSl 83 2 fPair
theorem fCouples_good {B : Nat} : GoodF B fCouples := fSl_good fPair_good
theorem fCouples_rd {B : Nat} {w : World} {xs : List GPair} {cs : List Value} {F : List Nat} (h : fCouples w xs cs F) : rPairs w (fun b => b ∈ F ∨ b < B) xs cs := fSl_rd rPair_good (fun _ _ _ h => fPair_rd h) h
theorem fCouples_Rd {w : World} {xs : List GPair} {cs : List Value} {F : List Nat} (h : fCouples w xs cs F) : Rd rPairs w xs cs := Rd.of rPairs_good (B := 0) (fCouples_rd h) ((fCouples_good (B := 0)).lt h) (Nat.zero_le _)

set_option maxHeartbeats 400000 in
theorem L_eqCouple (w : World) (x y : GPair) : Calls Try.prog 91 #[.agg #[.int .i64 x.fst, .int .i64 x.snd], .agg #[.int .i64 y.fst, .int .i64 y.snd]] w (Ret w (.bool (decide (x = y)))) := by
  by_cases h1 : x.fst = y.fst <;> by_cases h2 : x.snd = y.snd
  all_goals
    have H : decide (x = y) = (decide (x.fst = y.fst) && decide (x.snd = y.snd)) := by rw [Bool.eq_iff_iff]; simp [GPair.eq_iff]
    rw [H]
    go_enter Try.func91, Try.ntmps91
    go_wp2
    go_ret
    exact Ret.bool (by simp [h1, h2]) (((Bw.refl _).alloc _).alloc _)
set_option maxRecDepth 100000 in
set_option maxHeartbeats 400000 in
theorem L_eqCoupleS (w : World) (xs ys : List GPair) (v1 v2 : Value) (h1 : Rd rPairs w xs [v1]) (h2 : Rd rPairs w ys [v2]) :
    Calls Try.prog 17 #[v1, v2] w (Ret w (.bool (decide (xs = ys)))) := by
  obtain ⟨A1, n1, c1, rfl, a1, a2, a3⟩ := rSl_open h1
  obtain ⟨A2, n2, c2, rfl, b1, b2, b3⟩ := rSl_open h2
  unfold maxLen at a3 b3
  have L1 := Lib.hid a1
  have L2 := Lib.hid b1
  clear a1 b1
  by_cases hl : n1 = n2
  · subst hl
    go_enter Try.func17, Try.ntmps17
    go_wp2
    go_loopw [5] (fun i w' => ∃ k : Nat, k ≤ n1 ∧ i = .int .i64 k ∧ xs.take k = ys.take k ∧ Bw w w') (fun i _ => n1 - (intOf i).toNat)
    case atStart => exact ⟨0, by omega, rfl, by simp, Bw.refl _⟩
    case round =>
      obtain ⟨k, hk, rfl, he, hb⟩ := hrel
      have HE := Lib.hid he
      clear he
      by_cases hlt : k < n1
      · obtain ⟨x, hx⟩ := get_of_lt (xs := xs) (k := k) (by rw [← L1.out]; exact hlt)
        obtain ⟨y, hy⟩ := get_of_lt (xs := ys) (k := k) (by rw [← L2.out]; exact hlt)
        obtain ⟨ba, oa, rfl, _, hcx, hcx'⟩ := rPairs_at (h1.bw rPairs_good hb) hx
        obtain ⟨bb, ob, rfl, _, hcy, hcy'⟩ := rPairs_at (h2.bw rPairs_good hb) hy
        have HX := Lib.hid hx
        have HY := Lib.hid hy
        clear hx hy h1 h2
        go_wp2_with fail
        go_still_tail 8, (by kernel_rfl)
        change wpList _ _ _ _ _ wr.drew
        go_wp2_with fail
        refine (L_eqCouple _ x y).mono ?_
        rintro e w2 ⟨rfl, hb2⟩
        have hbb : Bw w w2 := hb.drew.then hb2
        by_cases hxy : x = y
        · have HD : decide (x = y) = true := by simpa using hxy
          go_wp2
          go_roundw
          case rel => exact ⟨k + 1, by omega, by go_num, take_step HE.out HX.out HY.out hxy, hbb⟩
          case measure => simp [intOf]; omega
        · have HD : decide (x = y) = false := by simpa using hxy
          go_wp2
          go_ret
          exact Ret.bool (by simpa using ne_of_at HX.out HY.out hxy) hbb
      · go_wp2
        go_ret
        exact Ret.bool (by simpa using eq_of_take HE.out (by rw [← L1.out]; omega) (by rw [← L2.out]; omega)) hb
  · go_enter Try.func17, Try.ntmps17
    go_wp2
    go_ret
    exact Ret.bool (by simp; intro e; exact hl (by rw [L1.out, L2.out, e])) (Bw.refl _)
end Go.Proofs.Ytfffklkiikmieaa
