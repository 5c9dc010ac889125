/- The reference's comparison of two items. -/
import Derived.Test.YthlaabaffbffkaaGreatQDrawP
import Derived.Test.YthlaabaffbffkaaGreatQRefine
import Derived.Test.YthlaabaffbffkaaGreatQShareW
import Derived.Test.YthlaabaffbffkaaGreatQCmpI
namespace Go.Proofs.YthlaabaffbffkaaGreat
open Go.RowKit
set_option linter.unusedVariables false
set_option linter.unusedSimpArgs false
theorem DB.own {B m : Nat} {Q : List GNode → Prop} {W : World} {v : Value} (h : DB rNodes B m Q W v) (hone : v.oneCell' = true) (hm : m ≤ W.heap.size) : ∃ xs F, fRd rNodes W xs [v] F ∧ Fresh B F ∧ (∀ b ∈ F, b < m) ∧ Q xs := by
  obtain ⟨xs, h, hq⟩ := h
  refine ⟨xs, (List.range m).filter (fun b => decide (B ≤ b)), ⟨rNodes_good.step ⟨fun b hb => ?_, fun _ _ => rfl⟩ h, fun b hb => ?_, fun u hu => ?_⟩, ⟨List.nodup_range.filter _, fun b hb => ?_⟩, fun b hb => List.mem_range.1 (List.mem_filter.1 hb).1, hq⟩
  · exact List.mem_filter.2 ⟨List.mem_range.2 hb.2, decide_eq_true hb.1⟩
  · have := List.mem_range.1 (List.mem_filter.1 hb).1; omega
  · rw [List.mem_singleton.1 hu]; exact hone
  · exact of_decide_eq_true (List.mem_filter.1 hb).2
theorem DB.rd {α : Type} {R : Rep α} (hR : Good R) {B m : Nat} {Q : α → Prop} {W : World} {v : Value} (h : DB R B m Q W v) (hm : m ≤ W.heap.size) : T R Q W v := by
  obtain ⟨xs, h, hq⟩ := h
  exact ⟨xs, hR.step ⟨fun b hb => Nat.lt_of_lt_of_le hb.2 hm, fun _ _ => rfl⟩ h, hq⟩
set_option maxHeartbeats 1600000 in
theorem D_DrawIsWeaker (w : World) (xs : List Int) (v : Value) (h : Rd rBytes w xs [v]) (hx : wfBytes xs) : Calls Tryz.prog 15 #[v] w fun e W =>
    ∃ vp vq, e = .returned (.tuple #[vp, vq]) ∧ T rNodes (gNodes 9) W vp ∧ T rNodes (gNodes 9) W vq ∧ Bw w W := by
  have hcall0 := D_l1New w xs v h hx
  clear h
  go_enter Tryz.func15, Tryz.ntmps15
  go_wp2_with fail
  refine hcall0.mono ?_
  rintro e w1 ⟨p, rfl, hA1⟩
  clear hcall0
  have hcall := D_l16Pair w w1 p hA1
  go_wp2_with fail
  refine hcall.mono ?_
  rintro e w2 ⟨u2, rfl, ⟨vp, vq, a, b, c, d, rfl, hp, hq, _, hs, _⟩, hO2, hA2⟩
  clear hcall
  go_wp2
  refine bodyPost_ret (v := .tuple #[vp, vq]) (by simp [results, Tryz.results15, go_sem]) rfl ?_
  exact ⟨_, _, rfl, hp.rd rNodes_good hs.1, hq.rd rNodes_good hs.2, hA2.bw⟩
set_option maxHeartbeats 1600000 in
theorem D_DrawAreItems (w : World) (xs : List Int) (v : Value) (h : Rd rBytes w xs [v]) (hx : wfBytes xs) : Calls Tryz.prog 16 #[v] w fun e W =>
    ∃ va, e = .returned va ∧ T rItems (gItems 8) W va ∧ Bw w W := by
  have hcall0 := D_l1New w xs v h hx
  clear h
  go_enter Tryz.func16, Tryz.ntmps16
  go_wp2_with fail
  refine hcall0.mono ?_
  rintro e w1 ⟨p, rfl, hA1⟩
  clear hcall0
  have hcall := D_l2Any w w1 p hA1
  go_wp2_with fail
  refine hcall.mono ?_
  rintro e w2 ⟨va, rfl, ha, hO2, hA2⟩
  clear hcall
  go_wp2
  go_ret
  exact ⟨_, rfl, ha.items.rd rItems_good, hA2.bw⟩
set_option maxHeartbeats 1600000 in
theorem D_DrawRefineBest (w : World) (xs : List Int) (v : Value) (h : Rd rBytes w xs [v]) (hx : wfBytes xs) : Calls Tryz.prog 18 #[v] w fun e W =>
    ∃ va vi ve, e = .returned (.tuple #[va, vi, ve]) ∧ T rItems (gItems 8) W va ∧ T rInts gIds W vi ∧ T rNodes (gNodes 8) W ve ∧ Bw w W := by
  have hcall0 := D_l1New w xs v h hx
  clear h
  go_enter Tryz.func18, Tryz.ntmps18
  go_wp2_with fail
  refine hcall0.mono ?_
  rintro e w1 ⟨p, rfl, hA1⟩
  clear hcall0
  have hp := hA1.lt
  have hcall := D_l7Draw w w1 p hA1
  go_wp2_with fail
  refine hcall.mono ?_
  rintro e w2 ⟨u2, rfl, ⟨va, ve, rfl, ha, he⟩, hO2, hA2⟩
  clear hcall
  obtain ⟨l, hl, gl⟩ := ha
  have GL := Lib.hid gl
  have hcall := D_l8Ids w w2 p hA2 l va _ (fun b hb => ⟨hb.2, by have := hb.1; omega⟩) hl GL.out
  go_wp2_with fail
  refine hcall.mono ?_
  rintro e w3 ⟨vi, rfl, hi, hO3, hA3⟩
  clear hcall
  have he3 := hO3.read rNodes_good hp he
  have ha3 : DR rItems w1.heap.size (gItems 8) w3 va := hO3.read rItems_good hp ⟨l, hl, GL.out⟩
  clear gl
  go_wp2
  refine bodyPost_ret (v := .tuple #[va, vi, ve]) (by simp [results, Tryz.results18, go_sem]) rfl ?_
  obtain ⟨is, F, h1, h2, h3⟩ := hi
  exact ⟨_, _, _, rfl, ha3.rd rItems_good, ⟨is, fInts_Rd h1, h3⟩, he3.rd rNodes_good, hA3.bw⟩
set_option maxRecDepth 100000 in
set_option maxHeartbeats 3200000 in
theorem D_DrawShareBest (w0 : World) (xs0 : List Int) (v : Value) (h : Rd rBytes w0 xs0 [v]) (hx : wfBytes xs0) : Calls Tryz.prog 7 #[v] w0 fun e W =>
    ∃ va vg, e = .returned (.tuple #[va, vg]) ∧ T rItems (gItems 8) W va ∧ T rNodess (gVoters 7) W vg ∧ Bw w0 W := by
  obtain ⟨i0, hi, hz0, hz1, hz2⟩ := info_parts info_Nodes
  have hcall0 := D_l1New w0 xs0 v h hx
  clear h
  go_enter Tryz.func7, Tryz.ntmps7
  go_wp2_with fail
  refine hcall0.mono ?_
  rintro e w ⟨p, rfl, hA1⟩
  clear hcall0
  have hp := hA1.lt
  have D0 := Dn.start hA1
  have hcall := D_l12Draw w0 w p hA1
  go_wp2_with fail
  refine hcall.mono ?_
  rintro e w2 ⟨u2, rfl, ⟨va, vg, sa, sb, xs, F, rfl, ha, hsab, hv, hF, gg, hsF⟩, hO2, hA2⟩
  clear hcall
  have D2 := D0.call hO2 hA2
  have HFM := Lib.hid ((fVoters_good (B := 0)).lt hv)
  have hcall := D_l16Pair w0 w2 p hA2
  go_wp2_with fail
  refine hcall.mono ?_
  rintro e w3 ⟨u3, rfl, ⟨vp, vq, a, b, c, d, rfl, hpp, hqq, hlo, hhi, hab⟩, hO3, hA3⟩
  clear hcall
  have D3 := D2.call hO3 hA3
  have hv3 := D2.keep hO3 fVoters_good hv hF.ge
  have ha3 := ha.only rItems_good hO3 hsab.2 (by simp; omega)
  obtain ⟨A, n, cc, rfl, l1, _⟩ := rSl_open (fVoters_Rd hv3)
  have L := Lib.hid l1
  have hn5 : n ≤ 5 := by rw [l1]; exact gg.1
  have GG := Lib.hid gg
  have hs3 : sb ≤ w3.heap.size := Nat.le_trans hsab.2 hO3.1
  have ha3T := ha3.rd rItems_good hs3
  clear l1 gg hv ha
  by_cases hn : n < 3
  · have i0' : (n : Int) < 3 := by omega
    have hz2' := D2.size
    have hz3' := D3.size
    have hop : vp.oneCell' = true := by obtain ⟨q, hq, _⟩ := hpp; obtain ⟨A, c, rfl, _⟩ := rSl_shape hq; rfl
    have hoq : vq.oneCell' = true := by obtain ⟨q, hq, _⟩ := hqq; obtain ⟨A, c, rfl, _⟩ := rSl_shape hq; rfl
    obtain ⟨y, Fy, hy, fy, ly, gy⟩ := hpp.own hop hhi.1
    obtain ⟨z, Fz, hz, fz, lz, gz⟩ := hqq.own hoq hhi.2
    obtain ⟨Ay, ny, cy, rfl, ey, _⟩ := rSl_open hy.1
    obtain ⟨Az, nz, cz, rfl, ez, _⟩ := rSl_open hz.1
    clear ey ez
    have hAl := (Bw.refl w3).alloc (.cells #[.slice Ay ny cy, .slice Az nz cz] 35)
    have DW := D3.bw hAl
    have hvW := keepBw hAl fVoters_good hv3
    have hyW := keepBw hAl (fRd_good rNodes_good) hy
    have hzW := keepBw hAl (fRd_good rNodes_good) hz
    have hnew : fVoters (w3.alloc (.cells #[.slice Ay ny cy, .slice Az nz cz] 35)) [y, z] [.slice (some ⟨w3.heap.size, 0, none⟩) 2 2] (w3.heap.size :: (Fy ++ Fz)) := by
      refine ⟨_, [[.slice Ay ny cy], [.slice Az nz cz]], [Fy, Fz], rfl, ?_, ⟨⟨hyW, rfl⟩, ⟨hzW, rfl⟩, trivial⟩, by simp [Value.ownBlock]⟩
      exact World.ownsRow_lit w3 #[.slice Ay ny cy, .slice Az nz cz] 2 (Nat.zero_le _) (by simp [maxLen]) rfl
    have hG : Fresh w2.heap.size (w3.heap.size :: (Fy ++ Fz)) := by
      have z23 := hO3.1
      refine ⟨List.nodup_cons.2 ⟨fun h => ?_, List.nodup_append.2 ⟨fy.nodup, fz.nodup, fun s hs t ht e => ?_⟩⟩, fun s hs => ?_⟩
      · rcases List.mem_append.1 h with h | h
        · have := ly _ h; omega
        · have := lz _ h; omega
      · subst e
        have := fy.ge s hs; have := ly s hs; have := fz.ge s ht; have := lz s ht; omega
      · rcases List.mem_cons.1 hs with rfl | hs
        · exact z23
        · rcases List.mem_append.1 hs with hs | hs
          · have := fy.ge s hs; omega
          · have := fz.ge s hs; omega
    have hzW2 := DW.size
    have HGY := Lib.hid gy
    have HGZ := Lib.hid gz
    have ha4 := ha3.bw rItems_good hAl hs3
    have hs4 : sb ≤ (w3.alloc (.cells #[.slice Ay ny cy, .slice Az nz cz] 35)).heap.size := Nat.le_trans hs3 hAl.size
    have HXL := Lib.hid (show xs.length ≤ 5 from GG.out.1)
    clear hv3 hy hz gy gz hop hoq hpp hqq
    go_wp2_with (at_builtin; refine wpList_appendD _ rfl (.tmp 24) (.tmp 27) 25 rfl w0 w p DW w.heap.size (Nat.le_refl _) hzW2 35 i0 _ 1 24 Tryz.underlying25 hi hz0 hz1 hz2 rfl (by omega) (fRd_good rNodes_good) _ xs F rfl hvW hF _ rfl [y, z] _ hnew w2.heap.size HFM.out hG hz2' (by have := HXL.out; simp; omega) (by have := HXL.out; simp; omega) ?_; intro v7 w7 F7 hv7 hF7 hD7 hO7)
    refine bodyPost_ret (v := .tuple #[va, v7]) (by simp [results, Tryz.results7, go_sem]) rfl ?_
    exact ⟨_, _, rfl, (ha4.only rItems_good hO7 hs4 hsF).rd rItems_good (Nat.le_trans hs4 hO7.1), ⟨_, fVoters_Rd hv7, by rw [List.length_append]; have := HXL.out; simp; omega, fun s hs => (List.mem_append.1 hs).elim (GG.out.2 s) (fun h => by rcases List.mem_cons.1 h with rfl | h; exact HGY.out; rw [List.mem_singleton.1 h]; exact HGZ.out)⟩, hD7.at'.bw⟩
  · have i0' : ¬ (n : Int) < 3 := by omega
    clear hn
    go_wp2
    refine bodyPost_ret (v := .tuple #[va, .slice A n cc]) (by simp [results, Tryz.results7, go_sem]) rfl ?_
    exact ⟨_, _, rfl, ha3T, ⟨xs, fVoters_Rd hv3, by have := GG.out.1; omega, GG.out.2⟩, hA3.bw⟩
set_option maxRecDepth 100000 in
set_option maxHeartbeats 3200000 in
theorem D_DrawSameAnswers (w0 : World) (xs0 : List Int) (v : Value) (h : Rd rBytes w0 xs0 [v]) (hx : wfBytes xs0) : Calls Tryz.prog 19 #[v] w0 fun e W =>
    ∃ va vb, e = .returned (.tuple #[va, vb]) ∧ T rIntss (fun _ => True) W va ∧ T rIntss (fun _ => True) W vb ∧ Bw w0 W := by
  have hcall := D_DrawShareBest w0 xs0 v h hx
  have hq0 := h
  obtain ⟨A, n, c, rfl, L0, Lc, Lm⟩ := rSl_open h
  unfold maxLen at Lm
  have L := Lib.hid L0
  clear L0
  go_enter Tryz.func19, Tryz.ntmps19
  go_wp2_with fail
  refine hcall.mono ?_
  rintro e w1 ⟨va, vg, rfl, ⟨l, hl, gl⟩, ⟨g, hg, gg⟩, hb1⟩
  clear hcall
  have hcall := S_ShareBest w1 l g va vg hl hg
  go_wp2_with fail
  refine hcall.mono ?_
  rintro e w2 ⟨u2, rfl, ⟨v2, rfl, ⟨F2, o2, f2⟩⟩, hb2⟩
  clear hcall
  have r2 := fIntss_Rd o2
  have hcall := S_ShareBest w2 l g va vg (hl.bw rItems_good hb2) (hg.bw rNodess_good hb2)
  go_wp2_with fail
  refine hcall.mono ?_
  rintro e w3 ⟨u3, rfl, ⟨v3, rfl, ⟨F3, o3, f3⟩⟩, hb3⟩
  clear hcall
  have r3 := fIntss_Rd o3
  have r23 := r2.bw rIntss_good hb3
  have B3 := (hb1.then hb2).then hb3
  have hc3 := h.bw rBytes_good B3
  obtain ⟨O, hO⟩ : ∃ O, O = shareL l g := ⟨_, rfl⟩
  rw [← hO] at o3 r3 r23
  have HO := Lib.hid hO
  obtain ⟨A3, m, c3, rfl, l3, lm3, lc3⟩ := rSl_open r3
  have L3 := Lib.hid l3
  have HX := Lib.hid hx
  have hfin : ∀ W, Bw w3 W → T rIntss (fun _ => True) W v2 ∧ T rIntss (fun _ => True) W (.slice A3 m c3) := fun W hW => ⟨⟨_, r23.bw rIntss_good hW, trivial⟩, ⟨_, r3.bw rIntss_good hW, trivial⟩⟩
  have HFIN := Lib.hid hfin
  clear l3 hO hfin o2 f2 hx h hq0
  by_cases hm : 0 < m
  · have im : (m : Int) > 0 := by omega
    by_cases hn : 0 < n
    · have ic : (n : Int) > 0 := by omega
      obtain ⟨x, hxk⟩ := get_of_lt (xs := xs0) (k := 0) (by have := L.out; omega)
      have hx255 := HX.out x (List.mem_of_getElem? hxk)
      obtain ⟨b, o, rfl, _, hcx⟩ := rU8s_at hc3 hxk
      rw [Nat.add_zero] at hcx
      have hcx5 := ((Bw.refl w3).alloc (.cells #[.int .i64 5] 3)).cell hcx
      have hr : Int.tmod x 3 = x % 3 := Int.tmod_eq_emod_of_nonneg hx255.1
      clear hxk hc3 r3 r23
      obtain ⟨gb, Lb, cb, eb, LB, _, _, _⟩ := fSl_lit' o3 (by have := L3.out; omega)
      injection eb with eb1 eb2 eb3
      subst eb1 eb2 eb3
      have hlt3 := (fIntss_good (B := 0)).lt o3
      have hA5 := (Bw.refl w3).alloc (.cells #[.int .i64 5] 3)
      have o5 := keepBw hA5 fIntss_good o3
      have hone : fInts (w3.alloc (.cells #[.int .i64 5] 3)) [5] [.slice (some ⟨w3.heap.size, 0, none⟩) 1 1] [w3.heap.size] := by
        refine ⟨_, [[.int .i64 5]], [[]], rfl, ?_, ⟨⟨⟨rfl, rfl⟩, rfl⟩, trivial⟩, by simp [Value.ownBlock]⟩
        exact World.ownsRow_lit w3 #[.int .i64 5] 1 (Nat.zero_le _) (by simp [maxLen]) rfl
      have hw3 := hb3.size
      obtain ⟨F', hv', hF', hgr, _, hsub⟩ := fSl_put (fInts_good (B := w2.heap.size)) o5 f3 (k := 0) (y := [5]) (u := [.slice (some ⟨w3.heap.size, 0, none⟩) 1 1]) hone rfl (m := w3.heap.size) hlt3 ⟨by simp, by simp⟩ hw3 (by have := L3.out; omega)
      simp only [putCells, Nat.zero_mul] at hv' hgr
      obtain ⟨y0, hy0⟩ := get_of_lt (xs := O) (k := 0) (by have := L3.out; omega)
      obtain ⟨_, _, _, _, eg, _, hcell, _⟩ := rIntss_at (fIntss_rd (B := 0) o5) hy0
      injection eg with eg
      injection eg with eg1 eg2
      subst eg1 eg2
      have hfr := fSl_frozen o5 0
      have hgF : gb ∈ F3 := by
        obtain ⟨g2, c2', e, _, _, hg⟩ := fSl_lit o3 (by have := L3.out; omega)
        injection e with e
        injection e with e
        injection e with e
        rw [e]; exact hg
      have hgb := f3.ge gb hgF
      have r6 := fIntss_Rd hv'
      have r2' : T rIntss (fun _ => True) ((w3.alloc (.cells #[.int .i64 5] 3)).setCell ⟨gb, 0, none⟩ (.slice (some ⟨w3.heap.size, 0, none⟩) 1 1)) v2 := ⟨_, r2.bw rIntss_good ((hb3.then hA5).set (p := ⟨gb, 0, none⟩) hgb _), trivial⟩
      have hBf : Bw w0 ((w3.alloc (.cells #[.int .i64 5] 3)).setCell ⟨gb, 0, none⟩ (.slice (some ⟨w3.heap.size, 0, none⟩) 1 1)) := (B3.then hA5).set (p := ⟨gb, 0, none⟩) (by have := (hb1.then hb2).size; dsimp only; omega) _
      have heq : ((w3.alloc (.cells #[.int .i64 5] 3)).setCell ⟨gb, 0, none⟩ (.slice (some ⟨w3.heap.size, 0, none⟩) 1 1)) = ((w3.setCell ⟨gb, 0, none⟩ (.slice (some ⟨w3.heap.size, 0, none⟩) 1 1)).alloc (.cells #[.int .i64 5] 3)) := by
        have hgl := hlt3 gb hgF
        go_simp
      rw [heq] at r2' r6 hBf
      clear heq
      by_cases h3 : x % 3 = 0
      · have e3 : (x % 3 == 0) = true := by simpa using h3
        have e4 : (Int.tmod x 3 == 0) = true := by rw [hr]; exact e3
        clear h3 hy0
        go_wp2
        refine bodyPost_ret (v := .tuple #[v2, .slice (some ⟨gb, 0, none⟩) m c3]) (by simp [results, Tryz.results19, go_sem]) rfl ?_
        exact ⟨_, _, rfl, r2', ⟨_, r6, trivial⟩, hBf⟩
      · have e3 : (x % 3 == 0) = false := by simpa using h3
        have e4 : (Int.tmod x 3 == 0) = false := by rw [hr]; exact e3
        clear h3 hy0
        go_wp2
        refine bodyPost_ret (v := .tuple #[v2, .slice (some ⟨gb, 0, none⟩) m c3]) (by simp [results, Tryz.results19, go_sem]) rfl ?_
        exact ⟨_, _, rfl, (HFIN.out _ (Bw.refl _)).1, (HFIN.out _ (Bw.refl _)).2, B3⟩
    · obtain rfl : n = 0 := by omega
      clear hn
      go_wp2
      refine bodyPost_ret (v := .tuple #[v2, .slice A3 m c3]) (by simp [results, Tryz.results19, go_sem]) rfl ?_
      exact ⟨_, _, rfl, (HFIN.out _ (Bw.refl _)).1, (HFIN.out _ (Bw.refl _)).2, B3⟩
  · obtain rfl : m = 0 := by omega
    clear hm
    go_wp2
    refine bodyPost_ret (v := .tuple #[v2, .slice A3 0 c3]) (by simp [results, Tryz.results19, go_sem]) rfl ?_
    exact ⟨_, _, rfl, (HFIN.out _ (Bw.refl _)).1, (HFIN.out _ (Bw.refl _)).2, B3⟩
end Go.Proofs.YthlaabaffbffkaaGreat

namespace Go.Proofs.YthlaabaffbffkaaGreat
open Go.RowKit
set_option linter.unusedVariables false
set_option linter.unusedSimpArgs false
theorem cmpC_no {e : List GNode} {x y : GItem} (h : (isExpr e && (isItem x && isItem y)) = false) : cmpC e x y = 2 := by unfold cmpC; rw [h]; rfl
set_option maxRecDepth 100000 in
set_option maxHeartbeats 1600000 in
theorem S_CompareBy (w : World) (e : List GNode) (x y : GItem) (v v1 v2 : Value) (h : Rd rNodes w e [v]) (h1 : Rd rInts w x.vals [v1]) (h2 : Rd rInts w y.vals [v2]) :
    Calls Tryz.prog 17 #[v, .agg #[.int .i64 x.id, v1], .agg #[.int .i64 y.id, v2]] w (Ret w (.int .i64 (cmpC e x y))) := by
  obtain ⟨Z, hZ⟩ : ∃ Z, Z = cmpC e x y := ⟨_, rfl⟩
  have HZ := Lib.hid hZ
  rw [← hZ]
  clear hZ
  obtain ⟨A1, n1, c1, rfl, l1, _⟩ := rSl_open h1
  obtain ⟨A2, n2, c2, rfl, l2, _⟩ := rSl_open h2
  have A0 : Bw w ((w.alloc (.cells #[.int .i64 x.id, .slice A1 n1 c1] 42)).alloc (.cells #[.int .i64 y.id, .slice A2 n2 c2] 42)) := ((Bw.refl w).alloc _).alloc _
  have b1 := (Box.new w #[.int .i64 x.id, .slice A1 n1 c1] 42).bw ((Bw.refl _).alloc (.cells #[.int .i64 y.id, .slice A2 n2 c2] 42))
  have b2 := Box.new (w.alloc (.cells #[.int .i64 x.id, .slice A1 n1 c1] 42)) #[.int .i64 y.id, .slice A2 n2 c2] 42
  rw [show (w.alloc (.cells #[.int .i64 x.id, .slice A1 n1 c1] 42)).heap.size = w.heap.size + 1 by simp] at b2
  have hcall := S_IsExpression _ e v (h.bw rNodes_good A0)
  clear l1 l2
  go_enter Tryz.func17, Tryz.ntmps17
  go_wp2_with fail
  refine hcall.mono ?_
  rintro e' w1 ⟨rfl, hb1⟩
  have B1 := A0.then hb1
  replace b1 := b1.bw hb1
  replace b2 := b2.bw hb1
  clear hcall
  rcases Bool.eq_false_or_eq_true (isExpr e) with e1 | e1
  · have hcall := S_IsItem w1 x _ (h1.bw rInts_good B1)
    have HE := Lib.hid e1
    rw [e1]
    clear e1
    have p0 := b1.c 0 _ rfl
    have p1 := b1.c 1 _ rfl
    have pf := b1.fr
    have q0 := b2.c 0 _ rfl
    have q1 := b2.c 1 _ rfl
    have qf := b2.fr
    go_wp2_with fail
    refine hcall.mono ?_
    rintro e' w2 ⟨rfl, hb2⟩
    have B2 := B1.then hb2
    replace b1 := b1.bw hb2
    replace b2 := b2.bw hb2
    clear p0 p1 pf
    clear q0 q1 qf
    clear hcall
    rcases Bool.eq_false_or_eq_true (isItem x) with e2 | e2
    · have hcall := S_IsItem w2 y _ (h2.bw rInts_good B2)
      have HX := Lib.hid e2
      rw [e2]
      clear e2
      have p0 := b1.c 0 _ rfl
      have p1 := b1.c 1 _ rfl
      have pf := b1.fr
      have q0 := b2.c 0 _ rfl
      have q1 := b2.c 1 _ rfl
      have qf := b2.fr
      go_wp2_with fail
      refine hcall.mono ?_
      rintro e' w3 ⟨rfl, hb3⟩
      have B3 := B2.then hb3
      replace b1 := b1.bw hb3
      replace b2 := b2.bw hb3
      clear p0 p1 pf
      clear q0 q1 qf
      clear hcall
      rcases Bool.eq_false_or_eq_true (isItem y) with e3 | e3
      · have HY := Lib.hid e3
        rw [e3]
        clear e3
        have hcall := S_l5Compare w3 e x y v _ _ (h.bw rNodes_good (A0.then ((hb1.then hb2).then hb3))) (h1.bw rInts_good B3) (h2.bw rInts_good B3) HE.out HX.out HY.out
        have HF := Lib.hid (show cmpBy e x y = Z by rw [HZ.out]; unfold cmpC; rw [HE.out, HX.out, HY.out]; rfl)
        have p0 := b1.c 0 _ rfl
        have p1 := b1.c 1 _ rfl
        have pf := b1.fr
        have q0 := b2.c 0 _ rfl
        have q1 := b2.c 1 _ rfl
        have qf := b2.fr
        go_wp2_with fail
        refine hcall.mono ?_
        rintro e' w4 ⟨rfl, hb4⟩
        rw [HF.out]
        clear hcall
        go_wp2
        go_ret
        exact Ret.int rfl (B3.then hb4)
      · have HF := Lib.hid (show Z = 2 by rw [HZ.out]; exact cmpC_no (by rw [HE.out, HX.out, e3]; rfl))
        rw [e3]
        clear e3
        go_wp2
        go_ret
        exact Ret.int HF.out.symm B3
    · have HF := Lib.hid (show Z = 2 by rw [HZ.out]; exact cmpC_no (by rw [HE.out, e2]; rfl))
      rw [e2]
      clear e2
      go_wp2
      go_ret
      exact Ret.int HF.out.symm B2
  · have HF := Lib.hid (show Z = 2 by rw [HZ.out]; exact cmpC_no (by rw [e1]; rfl))
    rw [e1]
    clear e1
    go_wp2
    go_ret
    exact Ret.int HF.out.symm B1
end Go.Proofs.YthlaabaffbffkaaGreat
