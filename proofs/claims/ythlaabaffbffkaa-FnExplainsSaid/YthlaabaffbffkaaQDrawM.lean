/- Draws: items with an expression, with an Id. -/
import Derived.Test.YthlaabaffbffkaaQDrawT
import Derived.Test.YthlaabaffbffkaaQLawH
namespace Go.Proofs.Ythlaabaffbffkaa
open Go.RowKit
set_option linter.unusedVariables false
set_option linter.unusedSimpArgs false
/-- items and an expression of the call's own -/
def D7 (B : Nat) (W : World) (v : Value) : Prop := ∃ va ve, v = .tuple #[va, ve] ∧ DR rItems B (gItems 8) W va ∧ DR rNodes B (gNodes 8) W ve
set_option maxRecDepth 100000 in
set_option maxHeartbeats 1600000 in
theorem D_l7Draw (w0 w : World) (p : Nat) (hA : At w0 p w) : Calls Try.prog 45 #[.pointer (some ⟨p, 0, none⟩)] w (RetD w0 p w (D7 w.heap.size)) := by
  have hp := hA.lt
  go_enter Try.func45, Try.ntmps45
  have hcall := D_l2Items w0 w p hA 8 (by omega) (by omega)
  go_wp2_with fail
  refine hcall.mono ?_
  rintro e w2 ⟨va, rfl, ha, hO2, hA2⟩
  clear hcall
  replace ha := ha.gi (Nat.le_refl _) (by omega)
  have z2 := hO2.1
  have hcall := D_l5Expression w0 w2 p hA2
  go_wp2_with fail
  refine hcall.mono ?_
  rintro e w3 ⟨ve, rfl, he, hO3, hA3⟩
  clear hcall
  replace ha := hO3.read rItems_good hp ha
  replace he := he.ge z2
  have z3 := hO3.1
  have hcall := D_l1Below w0 w3 p hA3 16 (by omega) (by omega)
  go_wp2_with fail
  refine hcall.mono ?_
  rintro e w4 ⟨v4, rfl, ⟨sw, rfl, s1, s2⟩, hO4, hA4⟩
  clear hcall
  replace ha := hO4.read rItems_good hp ha
  replace he := hO4.read rNodes_good hp he
  have hO := (hO2.two hO3).two hO4
  have z14 := hO.1
  by_cases h0 : sw = 0
  · subst h0
    have hcall := D_l2Any w0 w4 p hA4
    go_wp2_with fail
    refine hcall.mono ?_
    rintro e w9 ⟨va2, rfl, ha2, hO9, hA9⟩
    clear hcall
    replace ha2 := ha2.items.low rItems_good z14 (fun _ h => h)
    replace he := hO9.read rNodes_good hp he
    go_wp2
    refine bodyPost_ret (v := .tuple #[va2, ve]) (by simp [results, Try.results45, go_sem]) rfl ?_
    exact ⟨_, rfl, ⟨_, _, rfl, ha2, he⟩, hO.two hO9, hA9⟩
  · by_cases h1 : sw = 1
    · subst h1
      clear h0
      have hcall := D_l5Any w0 w4 p hA4
      go_wp2_with fail
      refine hcall.mono ?_
      rintro e w9 ⟨ve2, rfl, he2, hO9, hA9⟩
      clear hcall
      replace he2 := he2.low rNodes_good z14 (fun _ h => h)
      replace ha := hO9.read rItems_good hp ha
      go_wp2
      refine bodyPost_ret (v := .tuple #[va, ve2]) (by simp [results, Try.results45, go_sem]) rfl ?_
      exact ⟨_, rfl, ⟨_, _, rfl, ha, he2⟩, hO.two hO9, hA9⟩
    · have e0 : (sw == 0) = false := by simpa using h0
      have e1 : (sw == 1) = false := by simpa using h1
      clear h0 h1
      go_wp2
      refine bodyPost_ret (v := .tuple #[va, ve]) (by simp [results, Try.results45, go_sem]) rfl ?_
      exact ⟨_, rfl, ⟨_, _, rfl, ha, he⟩, hO, hA4⟩
set_option maxRecDepth 100000 in
set_option maxHeartbeats 3200000 in
theorem D_l7Id (w : World) (xs : List Int) (v : Value) (h : Rd rBytes w xs [v]) (hx : wfBytes xs) : Calls Try.prog 20 #[v] w fun e W =>
    ∃ va ve id, e = .returned (.tuple #[va, ve, .int .i64 id]) ∧ T rItems (gItems 8) W va ∧ T rNodes (gNodes 8) W ve ∧ (-100 ≤ id ∧ id ≤ 1000) ∧ Bw w W := by
  have hcall0 := D_l1New w xs v h hx
  clear h
  go_enter Try.func20, Try.ntmps20
  go_wp2_with fail
  refine hcall0.mono ?_
  rintro e w1 ⟨p, rfl, hA1⟩
  clear hcall0
  have hp := hA1.lt
  have hcall := D_l7Draw w w1 p hA1
  go_wp2_with fail
  refine hcall.mono ?_
  rintro e w2 ⟨u2, rfl, ⟨va, ve, rfl, ha, he⟩, hO2, hA2⟩
  clear hcall
  have z2 := hO2.1
  obtain ⟨l, hl, gl⟩ := ha
  obtain ⟨A, n, c, rfl, l1, _⟩ := rSl_open hl
  have L := Lib.hid l1
  have hn8 : n ≤ 8 := by rw [l1]; exact gl.1
  have GL := Lib.hid gl
  clear l1 gl
  by_cases hn : 0 < n
  · have i0 : (n : Int) > 0 := by omega
    have hcall := D_l1Once w w2 p hA2 6 (by omega) (by omega)
    go_wp2_with fail
    refine hcall.mono ?_
    rintro e w3 ⟨v3, rfl, ⟨q, rfl⟩, hO3, hA3⟩
    clear hcall
    have ha3 : DR rItems w1.heap.size (gItems 8) w3 (.slice A n c) := hO3.read rItems_good hp ⟨l, hl, GL.out⟩
    have he3 := hO3.read rNodes_good hp he
    cases q with
    | true =>
      have hcall := D_l1Below w w3 p hA3 9 (by omega) (by omega)
      go_wp2_with fail
      refine hcall.mono ?_
      rintro e w4 ⟨v4, rfl, ⟨id, rfl, d1, d2⟩, hO4, hA4⟩
      clear hcall
      have ha4 := hO4.read rItems_good hp ha3
      have he4 := hO4.read rNodes_good hp he3
      have HI := Lib.hid (show -100 ≤ id - 1 ∧ id - 1 ≤ 1000 from ⟨by omega, by omega⟩)
      go_wp2
      refine bodyPost_ret (v := .tuple #[.slice A n c, ve, .int .i64 (id - 1)]) (by simp [results, Try.results20, go_sem]) rfl ?_
      exact ⟨_, _, _, rfl, ha4.rd rItems_good, he4.rd rNodes_good, HI.out, hA4.bw⟩
    | false =>
      have AD : Bw w3 w3.drew := (Bw.refl w3).drew
      have hAd := hA3.bwStep AD
      have had := ha3.bw rItems_good AD
      have hed := he3.bw rNodes_good AD
      have hcall := D_l1Below w w3.drew p hAd n (by omega) (by omega)
      go_wp2_with fail
      go_region_law (go_simp; go_at_call 47; refine hcall.mono ?_; rintro e w5 ⟨v5, rfl, ⟨J0, rfl, J1, J2⟩, hO5, hA5⟩; have ha5 := hO5.read rItems_good hp had; have he5 := hO5.read rNodes_good hp hed; obtain ⟨J, rfl⟩ : ∃ J : Nat, J0 = (J : Int) := ⟨J0.toNat, by omega⟩; have ha6 := ha5; obtain ⟨l5, hl5, gl5⟩ := ha5; have L5 := Lib.hid (rSl_len hl5).1; obtain ⟨x, hxk⟩ := get_of_lt (xs := l5) (k := J) (by (have := L5.out; omega)); have HXG := Lib.hid (gl5.2 x (List.mem_of_getElem? hxk)); obtain ⟨bx, ox, Ax, cx, rfl, _, d0, _, _⟩ := rItems_at hl5 hxk; clear hxk hl5 gl5)
      all_goals
        clear d0 hcall
        go_wp2
        refine bodyPost_ret (v := .tuple #[.slice (some ⟨bx, ox, none⟩) n c, ve, .int .i64 x.id]) (by simp [results, Try.results20, go_sem]) rfl ?_
        exact ⟨_, _, _, rfl, ha6.rd rItems_good, he5.rd rNodes_good, HXG.out.1, hA5.bw⟩
  · obtain rfl : n = 0 := by omega
    have hcall := D_l1Below w w2 p hA2 9 (by omega) (by omega)
    go_wp2_with fail
    refine hcall.mono ?_
    rintro e w4 ⟨v4, rfl, ⟨id, rfl, d1, d2⟩, hO4, hA4⟩
    clear hcall
    have ha4 : DR rItems w1.heap.size (gItems 8) w4 (.slice A 0 c) := hO4.read rItems_good hp ⟨l, hl, GL.out⟩
    have he4 := hO4.read rNodes_good hp he
    have HI := Lib.hid (show -100 ≤ id - 1 ∧ id - 1 ≤ 1000 from ⟨by omega, by omega⟩)
    clear hn
    go_wp2
    refine bodyPost_ret (v := .tuple #[.slice A 0 c, ve, .int .i64 (id - 1)]) (by simp [results, Try.results20, go_sem]) rfl ?_
    exact ⟨_, _, _, rfl, ha4.rd rItems_good, he4.rd rNodes_good, HI.out, hA4.bw⟩
set_option maxHeartbeats 1600000 in
theorem D_DrawSmallestChange (w : World) (xs : List Int) (v : Value) (h : Rd rBytes w xs [v]) (hx : wfBytes xs) : Calls Try.prog 5 #[v] w fun e W =>
    ∃ va ve id, e = .returned (.tuple #[va, ve, .int .i64 id]) ∧ T rItems (gItems 8) W va ∧ T rNodes (gNodes 8) W ve ∧ (-100 ≤ id ∧ id ≤ 1000) ∧ Bw w W := by
  have hcall := D_l7Id w xs v h hx
  clear h
  go_enter Try.func5, Try.ntmps5
  go_wp2_with fail
  refine hcall.mono ?_
  rintro e W ⟨va, ve, id, rfl, ha, he, hid, hB⟩
  have HF := Lib.hid hid
  clear hcall hid
  go_wp2
  refine bodyPost_ret (v := .tuple #[va, ve, .int .i64 id]) (by simp [results, Try.results5, go_sem]) rfl ?_
  exact ⟨_, _, _, rfl, ha, he, HF.out, hB⟩
/-- an item that is drawn, to be read -/
def TI (W : World) (v : Value) : Prop := ∃ x u, v = .agg #[.int .i64 x.id, u] ∧ Rd rInts W x.vals [u] ∧ gItem x
theorem TI.bw {W W' : World} {v : Value} (h : TI W v) (hb : Bw W W') : TI W' v := by
  obtain ⟨x, u, e, h, g⟩ := h
  exact ⟨x, u, e, h.bw rInts_good hb, g⟩
set_option maxHeartbeats 1600000 in
theorem D_DrawReplaceItem (w : World) (xs : List Int) (v : Value) (h : Rd rBytes w xs [v]) (hx : wfBytes xs) : Calls Try.prog 18 #[v] w fun e W =>
    ∃ va vi, e = .returned (.tuple #[va, vi]) ∧ T rItems (gItems 8) W va ∧ TI W vi ∧ Bw w W := by
  have A0 : Bw w (w.alloc (.cells #[.int .i64 0, .slice none 0 0] 30)) := (Bw.refl w).alloc _
  have bR := Box.new w #[.int .i64 0, .slice none 0 0] 30
  have hcall0 := D_l1New _ xs v (h.bw rBytes_good A0) hx
  clear h
  go_enter Try.func18, Try.ntmps18
  go_wp2_with fail
  refine hcall0.mono ?_
  rintro e w1 ⟨p, rfl, hA1⟩
  clear hcall0
  have hp := hA1.lt
  have hge := hA1.ge
  replace bR := bR.bw hA1.bw
  have hw1 : w.heap.size < w1.heap.size := bR.lt
  have hwp : w.heap.size < p := by simp at hge; omega
  have hcall := D_l2Any _ w1 p hA1
  go_wp2_with fail
  refine hcall.mono ?_
  rintro e w2 ⟨va, rfl, ha, hO2, hA2⟩
  clear hcall
  have z2 := hO2.1
  replace bR := bR.only hO2 (by simp; omega)
  have ha2 := ha.items
  have hcall := D_l2AnyItem _ w2 p hA2
  go_wp2_with fail
  refine hcall.mono ?_
  rintro e w3 ⟨v3, rfl, ⟨x, u, F, rfl, hu, hF, hg⟩, hO3, hA3⟩
  clear hcall
  have ha3 := hO3.read rItems_good hp ha2
  replace bR := bR.only hO3 (by simp; omega)
  obtain ⟨Au, nu, cu, rfl, lu, _⟩ := rSl_open (fInts_Rd hu)
  have HG := Lib.hid hg
  have hFW : w.heap.size ∉ F := fun h => by have := hF.ge _ h; omega
  clear lu hg
  have r0 := bR.c 0 _ rfl
  have r1 := bR.c 1 _ rfl
  have rf := bR.fr
  go_wp2
  refine bodyPost_ret (v := .tuple #[va, .agg #[.int .i64 x.id, .slice Au nu cu]]) (by simp [results, Try.results18, go_sem, r0, r1]) rfl ?_
  have hBW : Bw w (set2 w3 w.heap.size (.int .i64 x.id) (.slice Au nu cu)) := by
    unfold set2
    exact ((A0.then hA3.bw).set (p := ⟨w.heap.size, 0, none⟩) (Nat.le_refl _) _).set (p := ⟨w.heap.size, 1, none⟩) (Nat.le_refl _) _
  refine ⟨_, _, rfl, ?_, ⟨x, _, rfl, fInts_Rd (keepSet2 fInts_good hu hFW), HG.out⟩, hBW⟩
  obtain ⟨l, hl, gl⟩ := ha3
  exact ⟨l, rItems_good.step ⟨fun b hb => by simpa [set2] using hb.2, fun q hq => by
    have h1 : w1.heap.size ≤ q.block := hq.1
    refine World.cell?_of_block ?_
    rw [Below.heap_setCell _ _ _ _ (by dsimp only; omega), Below.heap_setCell _ _ _ _ (by dsimp only; omega)]⟩ hl, gl⟩
set_option maxRecDepth 100000 in
set_option maxHeartbeats 3200000 in
theorem D_DrawCostOf (w : World) (xs : List Int) (v : Value) (h : Rd rBytes w xs [v]) (hx : wfBytes xs) : Calls Try.prog 19 #[v] w fun e W =>
    ∃ va vb, e = .returned (.tuple #[va, vb]) ∧ TI W va ∧ TI W vb ∧ Bw w W := by
  have A0 : Bw w ((w.alloc (.cells #[.int .i64 0, .slice none 0 0] 30)).alloc (.cells #[.int .i64 0, .slice none 0 0] 30)) := ((Bw.refl w).alloc _).alloc _
  have bR := (Box.new w #[.int .i64 0, .slice none 0 0] 30).bw ((Bw.refl _).alloc (.cells #[.int .i64 0, .slice none 0 0] 30))
  have bS := Box.new (w.alloc (.cells #[.int .i64 0, .slice none 0 0] 30)) #[.int .i64 0, .slice none 0 0] 30
  rw [show (w.alloc (.cells #[.int .i64 0, .slice none 0 0] 30)).heap.size = w.heap.size + 1 by simp] at bS
  have hcall0 := D_l1New _ xs v (h.bw rBytes_good A0) hx
  clear h
  go_enter Try.func19, Try.ntmps19
  go_wp2_with fail
  refine hcall0.mono ?_
  rintro e w1 ⟨p, rfl, hA1⟩
  clear hcall0
  have hp := hA1.lt
  have hge := hA1.ge
  replace bR := bR.bw hA1.bw
  replace bS := bS.bw hA1.bw
  have hw1 : w.heap.size + 1 < w1.heap.size := bS.lt
  have hwp : w.heap.size + 1 < p := by simp at hge; omega
  have hcall := D_l2AnyItem _ w1 p hA1
  go_wp2_with fail
  refine hcall.mono ?_
  rintro e w2 ⟨v2, rfl, ⟨x, u, F, rfl, hu, hF, hg⟩, hO2, hA2⟩
  clear hcall
  have z2 := hO2.1
  replace bR := bR.only hO2 (by simp; omega)
  replace bS := bS.only hO2 (by simp; omega)
  obtain ⟨Au, nu, cu, rfl, lu, _⟩ := rSl_open (fInts_Rd hu)
  have HG := Lib.hid hg
  have AX : Bw w2 (w2.alloc (.cells #[.int .i64 x.id, .slice Au nu cu] 30)).drew := ((Bw.refl w2).alloc _).drew
  have bX := (Box.new w2 #[.int .i64 x.id, .slice Au nu cu] 30).bw ((Bw.refl _).drew)
  have D2 := (Dn.start hA2).bw AX
  have hux := keepBw AX fInts_good hu
  replace bR := bR.bw AX
  replace bS := bS.bw AX
  have hcall := D_l2AnyItem _ _ p D2.at'
  clear lu hg hu
  have hFW : ∀ b ∈ F, w.heap.size + 1 < b := fun b hb => by have := hF.ge b hb; omega
  have c0 := bX.c 0 _ rfl
  have c1 := bX.c 1 _ rfl
  go_wp2_with fail
  go_region_law (go_simp; go_at_call 44; refine hcall.mono ?_; rintro e w3 ⟨v3, rfl, ⟨y, t, G, rfl, ht, hG, hgy⟩, hO3, hA3⟩; obtain ⟨At, nt, ct, rfl, lt', _⟩ := rSl_open (fInts_Rd ht); have HY := Lib.hid hgy; have bR3 := bR.only hO3 (by (simp; omega)); have bS3 := bS.only hO3 (by (simp; omega)); have bX3 := bX.only hO3 (by (simp; omega)); have hx3 := hO3.keeps fInts_good hux (fun b hb e => by (have := hF.ge b hb; simp at e; omega)); have c0 := bX3.c 0 _ rfl; have c1 := bX3.c 1 _ rfl; have r0 := bR3.c 0 _ rfl; have r1 := bR3.c 1 _ rfl; have rf := bR3.fr; have s0 := bS3.c 0 _ rfl; have s1 := bS3.c 1 _ rfl; have sf := bS3.fr; clear lt' hgy)
  all_goals
    have hGW : ∀ b ∈ G, w.heap.size + 1 < b := fun b hb => by have := hG.ge b hb; have := AX.size; omega
    clear c0 c1 hcall
    go_wp2
    refine bodyPost_ret (v := .tuple #[.agg #[.int .i64 x.id, .slice Au nu cu], .agg #[.int .i64 y.id, .slice At nt ct]]) (by simp [results, Try.results19, go_sem, r0, r1, s0, s1]) rfl ?_
    refine ⟨_, _, rfl, ⟨x, _, rfl, fInts_Rd (keepSet2 (b := w.heap.size + 1) fInts_good (keepSet2 (b := w.heap.size) fInts_good hx3 (fun h => by have := hFW _ h; omega)) (fun h => by have := hFW _ h; omega)), HG.out⟩, ⟨y, _, rfl, fInts_Rd (keepSet2 (b := w.heap.size + 1) fInts_good (keepSet2 (b := w.heap.size) fInts_good ht (fun h => by have := hGW _ h; omega)) (fun h => by have := hGW _ h; omega)), HY.out⟩, ?_⟩
    exact ((((A0.then hA3.bw).set (p := ⟨w.heap.size, 0, none⟩) (Nat.le_refl _) _).set (p := ⟨w.heap.size, 1, none⟩) (Nat.le_refl _) _).set (p := ⟨w.heap.size + 1, 0, none⟩) (Nat.le_succ _) _).set (p := ⟨w.heap.size + 1, 1, none⟩) (Nat.le_succ _) _
end Go.Proofs.Ythlaabaffbffkaa
