/- Parts of lists of items, in the program and in the reference. -/
import Derived.Test.YtfffklkiikmieaaGreatQStandS
import Derived.Test.YtfffklkiikmieaaGreatQStandT
import Derived.Test.YtfffklkiikmieaaGreatQStandC
import Derived.Test.YtfffklkiikmieaaGreatQChangeM
import Derived.Test.YtfffklkiikmieaaGreatQBestI
import Derived.Test.YtfffklkiikmieaaGreatQDom
import Derived.Test.YtfffklkiikmieaaGreatQCompI
namespace Go.Proofs.YtfffklkiikmieaaGreat
open Go.RowKit
set_option linter.unusedVariables false
set_option linter.unusedSimpArgs false
theorem fStanding_parts {w : World} {x : GStanding} {a b c d : Value} {F : List Nat} (h : fStanding w x [a, b, c, d] F) : ∃ Fa Fb Fc, fItems w x.items [a] Fa ∧ fNodes w x.wanted [b] Fb ∧ fInts w x.best [c] Fc ∧ F = Fa ++ (Fb ++ Fc) := by
  obtain ⟨va, vb, vc, Fa, Fb, Fc, e, h1, h2, h3, hF⟩ := h
  injection e with e1 e
  injection e with e2 e
  injection e with e3 e
  subst e1 e2 e3
  exact ⟨Fa, Fb, Fc, h1, h2, h3, hF⟩
/-- the end: four stores into the result's block -/
theorem stand_ret {w V : World} {y : GStanding} {b : Bool} {b0 : Nat} {v1 v2 v3 : Value} {F G H : List Nat} {a0 a1 a2 a3 : Value} (h1 : fItems V y.items [v1] F) (h2 : fNodes V y.wanted [v2] G) (h3 : fInts V y.best [v3] H) (f : Fresh (b0 + 1) (F ++ (G ++ H))) (hb0 : w.heap.size ≤ b0) (B : Bw w V) :
    RetV w (TwoA fStanding w.heap.size y (.bool b)) (.returned (.tuple #[.agg #[v1, v2, v3, .int .i64 y.tests], .bool b])) (set4 V b0 a0 a1 a2 a3) := by
  have n1 : b0 ∉ F := fun h => by have := f.ge b0 (List.mem_append_left _ h); omega
  have n2 : b0 ∉ G := fun h => by have := f.ge b0 (List.mem_append_right _ (List.mem_append_left _ h)); omega
  have n3 : b0 ∉ H := fun h => by have := f.ge b0 (List.mem_append_right _ (List.mem_append_right _ h)); omega
  exact ⟨_, rfl, ⟨[v1, v2, v3, .int .i64 y.tests], rfl, F ++ (G ++ H), ⟨_, _, _, F, G, H, rfl, keepSet4 fItems_good h1 n1, keepSet4 fNodes_good h2 n2, keepSet4 fInts_good h3 n3, rfl⟩, f.mono (by omega)⟩, B.set4 hb0⟩
set_option maxRecDepth 100000 in
set_option maxHeartbeats 6400000 in
theorem S_InsertItem_no (w : World) (s : GStanding) (x : GItem) (va vb vc u : Value) (ha : Rd rItems w s.items [va]) (hb : Rd rNodes w s.wanted [vb]) (hc : Rd rInts w s.best [vc]) (hx : Rd rInts w x.vals [u]) (t1 : totItems s.items ≤ 1048576) (t2 : totNodes s.wanted ≤ 1048576) (t3 : s.best.length ≤ 1048576) (hno : insOk s x = false) :
    Calls Tryz.prog 28 #[.agg #[va, vb, vc, .int .i64 s.tests], .agg #[.int .i64 x.id, u]] w (RetV w (TwoA fStanding w.heap.size s (.bool false))) := by
  obtain ⟨A, n, c, rfl, L0, Lc, Lm⟩ := rSl_open ha
  unfold maxLen at Lm
  have L := Lib.hid L0
  clear L0
  obtain ⟨B, m, c4, rfl, M0, Mc, Mm⟩ := rSl_open hc
  unfold maxLen at Mm
  have M := Lib.hid M0
  clear M0
  obtain ⟨W0, hW0⟩ : ∃ W0, W0 = ((w.alloc (.cells #[.slice A n c, vb, .slice B m c4, .int .i64 s.tests] 47)).alloc (.cells #[.int .i64 x.id, u] 58)).alloc (.cells #[.slice none 0 0, .slice none 0 0, .slice none 0 0, .int .i64 0] 47) := ⟨_, rfl⟩
  have A0 : Bw w W0 := by rw [hW0]; exact (((Bw.refl w).alloc _).alloc _).alloc _
  have bS : Box W0 w.heap.size [.slice A n c, vb, .slice B m c4, .int .i64 s.tests] := by rw [hW0]; exact (Box.new w #[.slice A n c, vb, .slice B m c4, .int .i64 s.tests] 47).bw (((Bw.refl _).alloc _).alloc _)
  have bX : Box W0 (w.heap.size + 1) [.int .i64 x.id, u] := by
    have := Box.new (w.alloc (.cells #[.slice A n c, vb, .slice B m c4, .int .i64 s.tests] 47)) #[.int .i64 x.id, u] 58
    rw [show (w.alloc (.cells #[.slice A n c, vb, .slice B m c4, .int .i64 s.tests] 47)).heap.size = w.heap.size + 1 from by simp] at this
    rw [hW0]; exact this.bw ((Bw.refl _).alloc _)
  have bR : Box W0 (w.heap.size + 1 + 1) [.slice none 0 0, .slice none 0 0, .slice none 0 0, .int .i64 0] := by
    have := Box.new ((w.alloc (.cells #[.slice A n c, vb, .slice B m c4, .int .i64 s.tests] 47)).alloc (.cells #[.int .i64 x.id, u] 58)) #[.slice none 0 0, .slice none 0 0, .slice none 0 0, .int .i64 0] 47
    rw [show ((w.alloc (.cells #[.slice A n c, vb, .slice B m c4, .int .i64 s.tests] 47)).alloc (.cells #[.int .i64 x.id, u] 58)).heap.size = w.heap.size + 1 + 1 from by simp] at this
    rw [hW0]; exact this
  have z0 : W0.heap.size = w.heap.size + 3 := by rw [hW0]; simp
  have hcopy := S_l15Copy W0 s _ vb _ (ha.bw rItems_good A0) (hb.bw rNodes_good A0) (hc.bw rInts_good A0) t1 t2 t3
  have HW0 := Lib.hid hW0
  clear hW0
  go_enter Tryz.func28, Tryz.ntmps28
  go_wp2_with fail
  rw [← HW0.out]
  refine hcopy.mono ?_
  rintro e w1 ⟨cs, F0, rfl, oS, fS, hb1⟩
  obtain ⟨A1, c1, A2, c2, A3, c3, rfl⟩ := fStanding_shape oS
  obtain ⟨F1, F2, F3, o1, o2, o3, rfl⟩ := fStanding_parts oS
  obtain ⟨m1, hm1⟩ : ∃ m, m = s.items.length := ⟨_, rfl⟩
  obtain ⟨m2, hm2⟩ : ∃ m, m = s.wanted.length := ⟨_, rfl⟩
  obtain ⟨m3, hm3⟩ : ∃ m, m = s.best.length := ⟨_, rfl⟩
  rw [← hm1] at o1
  rw [← hm2] at o2
  rw [← hm3] at o3
  dsimp only
  rw [← hm1, ← hm2, ← hm3]
  have bS1 := (bS.bw hb1).bw ((Bw.refl w1).alloc (.cells #[.slice A1 m1 c1, .slice A2 m2 c2, .slice A3 m3 c3, .int .i64 s.tests] 47))
  have y0 := bS1.c 0 _ rfl
  have y1 := bS1.c 1 _ rfl
  have y2 := bS1.c 2 _ rfl
  have y3 := bS1.c 3 _ rfl
  have HM1 := Lib.hid hm1
  have HM2 := Lib.hid hm2
  have HM3 := Lib.hid hm3
  clear hm1 hm2 hm3
  go_wp2_with fail
  obtain ⟨V, hV⟩ : ∃ V, V = w1.alloc (.cells #[.slice A1 m1 c1, .slice A2 m2 c2, .slice A3 m3 c3, .int .i64 s.tests] 47) := ⟨_, rfl⟩
  have A1' : Bw w1 V := by rw [hV]; exact (Bw.refl w1).alloc _
  have bO : Box V w1.heap.size [.slice A1 m1 c1, .slice A2 m2 c2, .slice A3 m3 c3, .int .i64 s.tests] := by rw [hV]; exact Box.new w1 #[.slice A1 m1 c1, .slice A2 m2 c2, .slice A3 m3 c3, .int .i64 s.tests] 47
  have zV : V.heap.size = w1.heap.size + 1 := by rw [hV]; simp
  have BV : Bw w V := A0.then (hb1.then A1')
  replace bS := bS.bw (hb1.then A1')
  replace bX := bX.bw (hb1.then A1')
  replace bR := bR.bw (hb1.then A1')
  have zw : w.heap.size + 3 ≤ w1.heap.size := by have := hb1.size; omega
  have lS := (fStanding_good (B := 0)).lt oS
  replace o1 := keepBw A1' fItems_good o1
  replace o2 := keepBw A1' fNodes_good o2
  replace o3 := keepBw A1' fInts_good o3
  have fV : Fresh (w.heap.size + 3) (F1 ++ (F2 ++ F3)) := fS.mono (by omega)
  have HLS := Lib.hid lS
  have HV := Lib.hid hV
  have k1 := Lib.hid (fun W (B : Bw V W) => S_IsStanding W s _ vb _ (ha.bw rItems_good (BV.then B)) (hb.bw rNodes_good (BV.then B)) (hc.bw rInts_good (BV.then B)))
  have k2 := Lib.hid (fun W (B : Bw V W) => S_IsItem W x u (hx.bw rInts_good (BV.then B)))
  have k3 := Lib.hid (fun W (B : Bw V W) => S_FindItem W s.items x.id _ (ha.bw rItems_good (BV.then B)))
  obtain ⟨b6, hb6⟩ : ∃ b, b = w1.heap.size := ⟨_, rfl⟩
  rw [← hb6] at bO zV zw lS
  have HB6 := Lib.hid hb6
  rw [← HV.out, ← HB6.out]
  clear hV oS fS hcopy hb1 A1' A0 hb6 lS y0 y1 y2 y3 bS1
  refine (k1.out _ (Bw.refl V)).mono ?_
  rintro e w2 ⟨rfl, hb2⟩
  rcases Bool.eq_false_or_eq_true (isStand s) with e1 | e1
  · have E1 := Lib.hid e1
    rw [e1]
    clear e1
    have bS2 := bS.bw hb2
    have bX2 := bX.bw hb2
    have y0 := bS2.c 0 _ rfl
    have y1 := bS2.c 1 _ rfl
    have y2 := bS2.c 2 _ rfl
    have y3 := bS2.c 3 _ rfl
    have yf := bS2.fr
    have x0 := bX2.c 0 _ rfl
    have x1 := bX2.c 1 _ rfl
    have xf := bX2.fr
    have hcall := k2.out _ hb2
    clear bS2 bX2
    go_wp2_with fail
    refine hcall.mono ?_
    rintro e w3 ⟨rfl, hb3⟩
    have hB3 := hb2.then hb3
    clear y0 y1 y2 y3 yf
    clear x0 x1 xf
    rcases Bool.eq_false_or_eq_true (isItem x) with e2 | e2
    · have E2 := Lib.hid e2
      rw [e2]
      clear e2
      have bS3 := bS.bw hB3
      have bX3 := bX.bw hB3
      have y0 := bS3.c 0 _ rfl
      have y1 := bS3.c 1 _ rfl
      have y2 := bS3.c 2 _ rfl
      have y3 := bS3.c 3 _ rfl
      have yf := bS3.fr
      have x0 := bX3.c 0 _ rfl
      have x1 := bX3.c 1 _ rfl
      have xf := bX3.fr
      have hcall := k3.out _ hB3
      obtain ⟨K, hK⟩ : ∃ K, K = findIdx s.items x.id := ⟨_, rfl⟩
      rw [← hK] at hcall
      have HK := Lib.hid hK
      clear bS3 bX3 hK
      go_wp2_with fail
      refine hcall.mono ?_
      rintro e w4 ⟨rfl, hb4⟩
      have hB4 := hB3.then hb4
      clear y0 y1 y2 y3 yf
      clear x0 x1 xf
      by_cases hK0 : 0 ≤ K
      · clear hno
        have bR2 := bR.bw hB4
        have bO2 := bO.bw hB4
        have r0 := bR2.c 0 _ rfl
        have r1 := bR2.c 1 _ rfl
        have r2 := bR2.c 2 _ rfl
        have r3 := bR2.c 3 _ rfl
        have rf := bR2.fr
        have q0 := bO2.c 0 _ rfl
        have q1 := bO2.c 1 _ rfl
        have q2 := bO2.c 2 _ rfl
        have q3 := bO2.c 3 _ rfl
        have qf := bO2.fr
        have hBB := BV.then hB4
        have p1 := keepBw hB4 fItems_good o1
        have p2 := keepBw hB4 fNodes_good o2
        have p3 := keepBw hB4 fInts_good o3
        clear bR2 bO2 o1 o2 o3 bR bO
        go_wp2
        rw [HM1.out] at p1 ⊢
        rw [HM2.out] at p2 ⊢
        rw [HM3.out] at p3 ⊢
        refine bodyPost_ret (v := .tuple #[.agg #[.slice A1 s.items.length c1, .slice A2 s.wanted.length c2, .slice A3 s.best.length c3, .int .i64 s.tests], .bool false]) (by simp [results, Tryz.results28, go_sem, r0, r1, r2, r3]) rfl (stand_ret p1 p2 p3 (fV.mono (by omega)) (by omega) hBB)
      · have hK1 : ¬ (0 : Int) ≤ K := hK0
        by_cases hn16 : 16 ≤ n
        · have hn1 : (16 : Int) ≤ (n : Int) := by omega
          have bS4 := bS.bw hB4
          have y0 := bS4.c 0 _ rfl
          have y1 := bS4.c 1 _ rfl
          have y2 := bS4.c 2 _ rfl
          have y3 := bS4.c 3 _ rfl
          have yf := bS4.fr
          clear hno bS4
          have bR2 := bR.bw hB4
          have bO2 := bO.bw hB4
          have r0 := bR2.c 0 _ rfl
          have r1 := bR2.c 1 _ rfl
          have r2 := bR2.c 2 _ rfl
          have r3 := bR2.c 3 _ rfl
          have rf := bR2.fr
          have q0 := bO2.c 0 _ rfl
          have q1 := bO2.c 1 _ rfl
          have q2 := bO2.c 2 _ rfl
          have q3 := bO2.c 3 _ rfl
          have qf := bO2.fr
          have hBB := BV.then hB4
          have p1 := keepBw hB4 fItems_good o1
          have p2 := keepBw hB4 fNodes_good o2
          have p3 := keepBw hB4 fInts_good o3
          clear bR2 bO2 o1 o2 o3 bR bO
          go_wp2
          rw [HM1.out] at p1 ⊢
          rw [HM2.out] at p2 ⊢
          rw [HM3.out] at p3 ⊢
          refine bodyPost_ret (v := .tuple #[.agg #[.slice A1 s.items.length c1, .slice A2 s.wanted.length c2, .slice A3 s.best.length c3, .int .i64 s.tests], .bool false]) (by simp [results, Tryz.results28, go_sem, r0, r1, r2, r3]) rfl (stand_ret p1 p2 p3 (fV.mono (by omega)) (by omega) hBB)
        · have hn1 : ¬ (16 : Int) ≤ (n : Int) := by omega
          have ht0 : 999900 < s.tests := by
            rcases Decidable.em (999900 < s.tests) with h | h
            · exact h
            · exfalso
              have h2 : insOk s x = true := by
                unfold insOk
                rw [E1.out, E2.out, decide_eq_true (show findIdx s.items x.id < 0 by rw [← HK.out]; omega), decide_eq_true (show s.items.length < 16 by rw [← L.out]; omega), decide_eq_true (show s.tests ≤ 999900 by omega)]; rfl
              rw [h2] at hno; cases hno
          have bS4 := bS.bw hB4
          have y0 := bS4.c 0 _ rfl
          have y1 := bS4.c 1 _ rfl
          have y2 := bS4.c 2 _ rfl
          have y3 := bS4.c 3 _ rfl
          have yf := bS4.fr
          clear hno bS4
          have bR2 := bR.bw hB4
          have bO2 := bO.bw hB4
          have r0 := bR2.c 0 _ rfl
          have r1 := bR2.c 1 _ rfl
          have r2 := bR2.c 2 _ rfl
          have r3 := bR2.c 3 _ rfl
          have rf := bR2.fr
          have q0 := bO2.c 0 _ rfl
          have q1 := bO2.c 1 _ rfl
          have q2 := bO2.c 2 _ rfl
          have q3 := bO2.c 3 _ rfl
          have qf := bO2.fr
          have hBB := BV.then hB4
          have p1 := keepBw hB4 fItems_good o1
          have p2 := keepBw hB4 fNodes_good o2
          have p3 := keepBw hB4 fInts_good o3
          clear bR2 bO2 o1 o2 o3 bR bO
          go_wp2
          rw [HM1.out] at p1 ⊢
          rw [HM2.out] at p2 ⊢
          rw [HM3.out] at p3 ⊢
          refine bodyPost_ret (v := .tuple #[.agg #[.slice A1 s.items.length c1, .slice A2 s.wanted.length c2, .slice A3 s.best.length c3, .int .i64 s.tests], .bool false]) (by simp [results, Tryz.results28, go_sem, r0, r1, r2, r3]) rfl (stand_ret p1 p2 p3 (fV.mono (by omega)) (by omega) hBB)
    · rw [e2]
      clear e2 hno
      have bR2 := bR.bw hB3
      have bO2 := bO.bw hB3
      have r0 := bR2.c 0 _ rfl
      have r1 := bR2.c 1 _ rfl
      have r2 := bR2.c 2 _ rfl
      have r3 := bR2.c 3 _ rfl
      have rf := bR2.fr
      have q0 := bO2.c 0 _ rfl
      have q1 := bO2.c 1 _ rfl
      have q2 := bO2.c 2 _ rfl
      have q3 := bO2.c 3 _ rfl
      have qf := bO2.fr
      have hBB := BV.then hB3
      have p1 := keepBw hB3 fItems_good o1
      have p2 := keepBw hB3 fNodes_good o2
      have p3 := keepBw hB3 fInts_good o3
      clear bR2 bO2 o1 o2 o3 bR bO
      go_wp2
      rw [HM1.out] at p1 ⊢
      rw [HM2.out] at p2 ⊢
      rw [HM3.out] at p3 ⊢
      refine bodyPost_ret (v := .tuple #[.agg #[.slice A1 s.items.length c1, .slice A2 s.wanted.length c2, .slice A3 s.best.length c3, .int .i64 s.tests], .bool false]) (by simp [results, Tryz.results28, go_sem, r0, r1, r2, r3]) rfl (stand_ret p1 p2 p3 (fV.mono (by omega)) (by omega) hBB)
  · rw [e1]
    clear e1 hno
    have bR2 := bR.bw hb2
    have bO2 := bO.bw hb2
    have r0 := bR2.c 0 _ rfl
    have r1 := bR2.c 1 _ rfl
    have r2 := bR2.c 2 _ rfl
    have r3 := bR2.c 3 _ rfl
    have rf := bR2.fr
    have q0 := bO2.c 0 _ rfl
    have q1 := bO2.c 1 _ rfl
    have q2 := bO2.c 2 _ rfl
    have q3 := bO2.c 3 _ rfl
    have qf := bO2.fr
    have hBB := BV.then hb2
    have p1 := keepBw hb2 fItems_good o1
    have p2 := keepBw hb2 fNodes_good o2
    have p3 := keepBw hb2 fInts_good o3
    clear bR2 bO2 o1 o2 o3 bR bO
    go_wp2
    rw [HM1.out] at p1 ⊢
    rw [HM2.out] at p2 ⊢
    rw [HM3.out] at p3 ⊢
    refine bodyPost_ret (v := .tuple #[.agg #[.slice A1 s.items.length c1, .slice A2 s.wanted.length c2, .slice A3 s.best.length c3, .int .i64 s.tests], .bool false]) (by simp [results, Tryz.results28, go_sem, r0, r1, r2, r3]) rfl (stand_ret p1 p2 p3 (fV.mono (by omega)) (by omega) hBB)
end Go.Proofs.YtfffklkiikmieaaGreat

namespace Go.Proofs.YtfffklkiikmieaaGreat
open Go.RowKit
set_option linter.unusedVariables false

/-- what is left behind the best -/
def restM (l : List GItem) (e : List GNode) : List GItem := onlyM l (bestM l e) false
def layersF (e : List GNode) : Nat → List GItem → List (List Int)
  | 0, _ => []
  | n + 1, l => if l.length = 0 then [] else bestM l e :: layersF e n (restM l e)
theorem rest_lt {l : List GItem} {e : List GNode} (hE : isExpr e = true) (hl : ¬ l.length = 0) (hi : ∀ x ∈ l, isItem x = true) : (restM l e).length < l.length := by
  have hb := best_pos hE (fun h => hl (by rw [h]; rfl)) hi
  obtain ⟨b, hb⟩ := List.exists_mem_of_ne_nil _ hb
  obtain ⟨x, hx, rfl⟩ := List.mem_map.1 (show b ∈ (l.filter (freeIn l e)).map (·.id) from hb)
  have hxl := (List.mem_filter.1 hx).1
  rcases Nat.lt_or_ge (restM l e).length l.length with h | h
  · exact h
  · exfalso
    have h2 : (restM l e).length = l.length := Nat.le_antisymm (List.length_filter_le _ _) h
    have := List.length_filter_eq_length_iff.1 h2 x hxl
    simp only [beq_iff_eq] at this
    rw [List.contains_iff_mem.2 hb] at this
    cases this
theorem rest_items {l : List GItem} {e : List GNode} (h : areItems l = true) : areItems (restM l e) = true := areItems_filter _ h
theorem layersF_fuel {e : List GNode} (hE : isExpr e = true) : ∀ (n m : Nat) (l : List GItem), areItems l = true → l.length ≤ n → l.length ≤ m → layersF e n l = layersF e m l
  | 0, 0, l, _, _, _ => rfl
  | 0, m + 1, l, _, h, _ => by simp only [layersF]; rw [if_pos (by omega)]
  | n + 1, 0, l, _, _, h => by simp only [layersF]; rw [if_pos (by omega)]
  | n + 1, m + 1, l, hi, h1, h2 => by
    simp only [layersF]
    by_cases hl : l.length = 0
    · rw [if_pos hl, if_pos hl]
    · rw [if_neg hl, if_neg hl]
      have := rest_lt hE hl (fun x hx => areItems_mem hi hx)
      rw [layersF_fuel hE n m _ (rest_items hi) (by omega) (by omega)]
def layersOf (l : List GItem) (e : List GNode) : List (List Int) := layersF e l.length l
theorem layersOf_nil {l : List GItem} {e : List GNode} (h : l.length = 0) : layersOf l e = [] := by unfold layersOf; rw [h]; rfl
theorem layersOf_cons {l : List GItem} {e : List GNode} (hE : isExpr e = true) (hi : areItems l = true) (h : ¬ l.length = 0) : layersOf l e = bestM l e :: layersOf (restM l e) e := by
  unfold layersOf
  obtain ⟨n, hn⟩ : ∃ n, l.length = n + 1 := ⟨l.length - 1, by omega⟩
  have := rest_lt hE h (fun x hx => areItems_mem hi hx)
  rw [hn]
  simp only [layersF]
  rw [if_neg h, layersF_fuel hE n (restM l e).length _ (rest_items hi) (by omega) (Nat.le_refl _)]
theorem layersF_len {e : List GNode} : ∀ (n : Nat) (l : List GItem), (layersF e n l).length ≤ n
  | 0, _ => Nat.le_refl _
  | n + 1, l => by
    simp only [layersF]
    split
    · simp
    · have := layersF_len (e := e) n (restM l e)
      simp only [List.length_cons]; omega
theorem layersF_mem {e : List GNode} : ∀ (n : Nat) (l : List GItem) (b : List Int), b ∈ layersF e n l → b.length ≤ l.length
  | 0, _, _, h => by simp [layersF] at h
  | n + 1, l, b, h => by
    simp only [layersF] at h
    split at h
    · simp at h
    · rcases List.mem_cons.1 h with rfl | h
      · exact bestM_len l e
      · exact Nat.le_trans (layersF_mem n _ b h) (List.length_filter_le _ _)
def layersM (l : List GItem) (e : List GNode) : List (List Int) := if areBoth l e then layersOf l e else []
theorem layersM_len (l : List GItem) (e : List GNode) : (layersM l e).length ≤ 16 := by
  unfold layersM; split
  · rename_i h
    have := areItems_len (areBoth_items h)
    have := layersF_len (e := e) l.length l
    unfold layersOf; omega
  · simp
theorem layersM_mem {l : List GItem} {e : List GNode} {b : List Int} (h : b ∈ layersM l e) : b.length ≤ 16 := by
  unfold layersM at h; split at h
  · rename_i h2
    have := areItems_len (areBoth_items h2)
    have := layersF_mem l.length l b h
    omega
  · simp at h
end Go.Proofs.YtfffklkiikmieaaGreat

namespace Go.Proofs.YtfffklkiikmieaaGreat
open Go.RowKit
set_option linter.unusedVariables false
set_option linter.unusedSimpArgs false
/-- items in a row of the call's own; what their values lie in is older -/
abbrev fItemsSh (B : Nat) : Fp (List GItem) := fSl 58 2 (fSh B rItem)
theorem fItemsSh_Rd {B : Nat} {w : World} {xs : List GItem} {v : Value} {F : List Nat} (h : fItemsSh B w xs [v] F) (hB : B ≤ w.heap.size) : Rd rItems w xs [v] :=
  Rd.of rItems_good (B := B) (fSl_rd rItem_good (fun _ _ _ h => fSh_rd rItem_good h) h) ((fSl_good (fSh_good rItem_good (Nat.le_refl _)) : GoodF B (fItemsSh B)).lt h) hB
/-- what an element lies in is of given blocks -/
def fShS {α : Type} (S : Blocks) (R : Rep α) : Fp α := fun w x cs F => F = [] ∧ R w S x cs ∧ ∀ u ∈ cs, u.oneCell' = true
theorem fShS_good {α : Type} {B : Nat} {S : Blocks} {R : Rep α} (hR : Good R) (hS : ∀ b, S b → b < B) : GoodF B (fShS S R) :=
  ⟨fun hw ⟨hF, h, h1⟩ => ⟨hF, hR.step ⟨fun _ hb => hb, fun p hp => World.cell?_of_block (hw _ (.inr (hS _ hp)))⟩ h, h1⟩, fun h b hb => by rw [h.1] at hb; simp at hb, fun h => h.2.2⟩
abbrev fItemsS (S : Blocks) : Fp (List GItem) := fSl 58 2 (fShS S rItem)
theorem fItemsS_read {S : Blocks} {w : World} {xs : List GItem} {v : Value} {F : List Nat} (h : fItemsS S w xs [v] F) : rItems w (fun b => b ∈ F ∨ S b) xs [v] := by
  obtain ⟨v0, us, Fs, e, hown, hall, hFe⟩ := h
  injection e with e
  subst e
  have hl := all3_len hall
  have hus : ∀ u ∈ us, u.length = 2 := fun u hu => by obtain ⟨x, f, hr⟩ := all3_mem_us hall hu; exact hr.2
  obtain ⟨A, c, rfl, h1, h2, h3⟩ := ownsRow_rSl hown hl.1 hus
  refine ⟨A, c, rfl, h1, h2, fun k x hx => ?_⟩
  obtain ⟨u, f, hu, hf, hr⟩ := all3_at hall hx
  obtain ⟨b, rfl, hb, hc⟩ := h3 k u hu
  exact ⟨b, 0, u, rfl, .inl (by simp [hFe, hb]), hr.2, hc, rItem_good.step ⟨fun _ hb => .inr hb, fun _ _ => rfl⟩ hr.1.2.1⟩
theorem sh_item {w W : World} {S : Blocks} (hS : ∀ b, S b → b < w.heap.size) (hB : Bw w W) {x : GItem} {A : Option Addr} {c : Nat} (h : rInts w S x.vals [.slice A x.vals.length c]) : fShS S rItem W x [.int .i64 x.id, .slice A x.vals.length c] [] := by
  refine ⟨rfl, ⟨_, rfl, ?_⟩, fun u hu => ?_⟩
  · exact rInts_good.step ⟨fun _ h => h, fun p hp => Below.cell hB (hS _ hp)⟩ h
  · simp at hu; rcases hu with rfl | rfl <;> rfl
set_option maxRecDepth 100000 in
set_option maxHeartbeats 3200000 in
theorem I_onlyS (w : World) (l : List GItem) (ids : List Int) (b : Bool) (v u : Value) (S : Blocks) (hS : ∀ b, S b → b < w.heap.size) (h : rItems w S l [v]) (h' : Rd rInts w ids [u]) (hn : l.length ≤ 1048576) : Calls Tryz.prog 68 #[v, u, .bool b] w (RetV w (Made (fItemsS S) w.heap.size (onlyM l ids b))) := by
  obtain ⟨i0, hi, hz0, hz1, hz2⟩ := info_parts info_Item
  obtain ⟨A, n, c, rfl, L0, Lc, Lm⟩ := rSl_open h
  unfold maxLen at Lm
  have L := Lib.hid L0
  clear L0
  rw [← L.out] at hn
  have hv0 := fSl_empty (e := 58) (sz := 2) (R := fShS S rItem) w
  go_enter Tryz.func68, Tryz.ntmps68
  go_wp2
  go_loopg [7, 13] n (fun g s i w' => ∃ (k : Nat) (F : List Nat), k ≤ n ∧ g = n - k ∧ i = .int .i64 k ∧ fItemsS S w' (onlyTo l ids b k) [s] F ∧ Fresh w.heap.size F ∧ Bw w w')
  case atStart => exact ⟨0, _, by omega, rfl, rfl, hv0, ⟨by simp, by simp⟩, (Bw.refl _).alloc _⟩
  case round =>
    clear hv0
    obtain ⟨k, F, hk, rfl, rfl, hv, hF, hb⟩ := hrel
    by_cases hlt : k < n
    · obtain ⟨x, hx⟩ := get_of_lt (xs := l) (k := k) (by have := L.out; omega)
      obtain ⟨ba, oa, Ax, cx, rfl, _, hc0, hc1, hin⟩ := rItems_at h hx
      have i1 : (0 : Int) ≤ (k : Int) := by omega
      have i2 : (k : Int) < (n : Int) := by omega
      replace hc0 := hb.cell hc0
      replace hc1 := hb.cell hc1
      have hbx := World.block_lt_of_cell? _ _ hc0
      have HYES := Lib.hid (fun hc => onlyTo_yes (ids := ids) (b := b) hx hc)
      have HNO := Lib.hid (fun hc => onlyTo_no (ids := ids) (b := b) hx hc)
      have HH := Lib.hid h
      have HIN := Lib.hid hin
      have A1 : Bw wr (wr.alloc (.cells #[.int .i64 x.id, .slice Ax x.vals.length cx] 58)) := (Bw.refl wr).alloc _
      have hbA := hb.then A1
      have GG : GoodF w.heap.size (fItemsS S) := fSl_good (fShS_good rItem_good hS)
      have hvA := GG.bw A1 hb.size hv
      have hFm := GG.lt hvA
      obtain ⟨M, hM⟩ : ∃ M, M = x.vals.length := ⟨_, rfl⟩
      rw [← hM] at hc1 A1 hbA hvA hFm
      have HM := Lib.hid hM
      clear hx h hv hin hM
      go_wp2_with fail
      refine (slices_Contains_ints _ ids x.id _ (h'.bw rInts_good hbA)).mono ?_
      rintro e w2 ⟨rfl, hb2⟩
      have p0 : w2.cell? ⟨wr.heap.size, 0, none⟩ = some (.int .i64 x.id) := hb2.cell (by go_simp)
      have p1 : w2.cell? ⟨wr.heap.size, 1, none⟩ = some (.slice Ax M cx) := hb2.cell (by go_simp)
      have hbb := hbA.then hb2
      have hv2 := GG.bw hb2 hbA.size hvA
      clear hvA
      by_cases hcb : ids.contains x.id = b
      · have HB := Lib.hid (HYES.out hcb)
        have e1 : (ids.contains x.id == b) = true := by simpa using hcb
        obtain ⟨d, hd⟩ : ∃ d, d = ids.contains x.id := ⟨_, rfl⟩
        rw [← hd] at e1 ⊢
        have hvW := GG.bw ((Bw.refl w2).alloc (.cells #[.int .i64 x.id, .slice Ax M cx] 58)) hbb.size hv2
        have hbW := hbb.alloc (.cells #[.int .i64 x.id, .slice Ax M cx] 58)
        have hcl : ∀ j t, [Value.int .i64 x.id, .slice Ax M cx][j]? = some t → (w2.alloc (.cells #[.int .i64 x.id, .slice Ax M cx] 58)).cell? ((⟨w2.heap.size, 0, none⟩ : Addr).add j) = some t := World.news_of_block (cs := #[.int .i64 x.id, .slice Ax M cx]) (t := 58) (fr := (0, 0)) (heap_alloc_new w2 _)
        have hy : fShS S rItem (w2.alloc (.cells #[.int .i64 x.id, .slice Ax M cx] 58)) x [.int .i64 x.id, .slice Ax M cx] [] := by rw [HM.out]; exact sh_item hS (by rw [← HM.out]; exact hbW) HIN.out
        have hol := onlyTo_len (l := l) (ids := ids) (b := b) (k := k)
        have HOL := Lib.hid hol
        have hb0 := hbA.size
        clear hcb hd hv2 hol
        go_wp2_with (at_builtin; refine wpList_push _ rfl (.tmp 23) (.tmp 25) 29 rfl w 58 i0 _ 2 32 Tryz.underlying29 hi hz0 hz1 hz2 rfl (by omega) (fShS_good rItem_good hS) _ (onlyTo l ids b k) F rfl hvW hF ⟨w2.heap.size, 0, none⟩ 1 rfl x [.int .i64 x.id, .slice Ax M cx] [] hcl hy rfl _ hFm Fresh.nil hb0 (by have := HOL.out; omega) (by have := HOL.out; omega) hbW ?_; intro v' w' F' hv' hF' hb')
        go_roundg (n - (k + 1))
        case measure => omega
        case rel => exact ⟨k + 1, F', by omega, rfl, by go_num, by rw [HB.out]; exact hv', hF', hb'⟩
      · have HB := Lib.hid (HNO.out (by cases hq : ids.contains x.id <;> cases b <;> simp_all))
        have e1 : (ids.contains x.id == b) = false := by simpa using hcb
        obtain ⟨d, hd⟩ : ∃ d, d = ids.contains x.id := ⟨_, rfl⟩
        rw [← hd] at e1 ⊢
        clear hcb hd
        go_wp2
        go_roundg (n - (k + 1))
        case measure => omega
        case rel => exact ⟨k + 1, F, by omega, rfl, by go_num, by rw [HB.out]; exact hv2, hF, hbb⟩
    · obtain rfl : k = n := by omega
      rw [onlyTo_end (by rw [← L.out]; exact Nat.le_refl _)] at hv
      go_wp2
      go_ret
      exact ⟨_, rfl, ⟨F, hv, hF⟩, hb⟩
theorem I_only (w : World) (l : List GItem) (ids : List Int) (b : Bool) (v u : Value) (h : Rd rItems w l [v]) (h' : Rd rInts w ids [u]) (hn : l.length ≤ 1048576) : Calls Tryz.prog 68 #[v, u, .bool b] w (RetV w (Made (fItemsSh w.heap.size) w.heap.size (onlyM l ids b))) :=
  I_onlyS w l ids b v u (lt w) (fun _ h => h) h h' hn
end Go.Proofs.YtfffklkiikmieaaGreat
