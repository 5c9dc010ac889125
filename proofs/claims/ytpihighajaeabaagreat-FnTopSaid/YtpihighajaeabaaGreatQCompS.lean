/- Comparisons of values in the reference. -/
import Derived.Test.YtpihighajaeabaaGreatQCompI
import Derived.Test.YtpihighajaeabaaGreatQWishS
import Derived.Test.YtpihighajaeabaaGreatQTree
namespace Go.Proofs.YtpihighajaeabaaGreat
open Go.RowKit
set_option linter.unusedVariables false
set_option linter.unusedSimpArgs false
set_option maxRecDepth 100000 in
set_option maxHeartbeats 3200000 in
theorem I_CompareValues (w : World) (x : GWish) (v u : Value) (a b : Int) (h : Rd rInts w x.list [v]) (h' : Rd rPairs w x.pairs [u]) (hx : isWish x = true) (ha : 0 ≤ a ∧ a ≤ 9) (hb : 0 ≤ b ∧ b ≤ 9) :
    Calls Tryz.prog 206 #[.agg #[.int .i64 x.kind, .int .i64 x.field, .int .i64 x.value, v, u], .int .i64 a, .int .i64 b] w (Ret w (.int .i64 (cmpV x a b))) := by
  have B0 : Bw w (w.alloc (.cells #[.int .i64 x.kind, .int .i64 x.field, .int .i64 x.value, v, u] 109)) := (Bw.refl w).alloc _
  have HX := Lib.hid hx
  have HA := Lib.hid (inB_iff.2 ha)
  have HB := Lib.hid (inB_iff.2 hb)
  have ra := rankV_bd hx ha
  have rb := rankV_bd hx hb
  obtain ⟨i, rfl⟩ : ∃ i : Nat, a = i := ⟨a.toNat, by omega⟩
  obtain ⟨j, rfl⟩ : ∃ j : Nat, b = j := ⟨b.toNat, by omega⟩
  go_enter Tryz.func206, Tryz.ntmps206
  go_wp2_with fail
  refine (I_IsWish _ x _ _ (h.bw rInts_good B0) (h'.bw rPairs_good B0)).mono ?_
  rintro e w1 ⟨rfl, hb1⟩
  rw [HX.out]
  have p0 : w1.cell? ⟨w.heap.size, 0, none⟩ = some (.int .i64 x.kind) := hb1.cell (by go_simp)
  have p1 : w1.cell? ⟨w.heap.size, 1, none⟩ = some (.int .i64 x.field) := hb1.cell (by go_simp)
  have p2 : w1.cell? ⟨w.heap.size, 2, none⟩ = some (.int .i64 x.value) := hb1.cell (by go_simp)
  have p3 : w1.cell? ⟨w.heap.size, 3, none⟩ = some (v) := hb1.cell (by go_simp)
  have p4 : w1.cell? ⟨w.heap.size, 4, none⟩ = some (u) := hb1.cell (by go_simp)
  have B1 := B0.then hb1
  go_wp2_with fail
  refine (I_within _ _ _ _).mono ?_
  rintro e w2 ⟨rfl, hb2⟩
  rw [HA.out]
  replace p0 := hb2.cell p0
  replace p1 := hb2.cell p1
  replace p2 := hb2.cell p2
  replace p3 := hb2.cell p3
  replace p4 := hb2.cell p4
  replace B1 := B1.then hb2
  go_wp2_with fail
  refine (I_within _ _ _ _).mono ?_
  rintro e w3 ⟨rfl, hb3⟩
  rw [HB.out]
  replace p0 := hb3.cell p0
  replace p1 := hb3.cell p1
  replace p2 := hb3.cell p2
  replace p3 := hb3.cell p3
  replace p4 := hb3.cell p4
  replace B1 := B1.then hb3
  by_cases k4 : x.kind = 4
  · have q4 : (x.kind == 4) = true := by simpa using k4
    have hp := isWish_pairs hx k4
    have HP := Lib.hid (arePairs_in hp)
    have HC := Lib.hid (show cmpV x i j = if (i : Int) = (j : Int) then 0 else if reachB x.pairs i j then 1 else if reachB x.pairs j i then -1 else 2 by rw [cmpV, if_pos k4])
    clear k4 hp hx ra rb
    go_wp2_with fail
    refine (I_above _ x.pairs _ (h'.bw rPairs_good B1) HP.out).mono ?_
    rintro e w4 ⟨rfl, hb4⟩
    obtain ⟨B, hB⟩ : ∃ B, B = warsh (baseB x.pairs) 10 := ⟨_, rfl⟩
    rw [← hB]
    rw [show reachB x.pairs i j = B i j by rw [hB]; rfl, show reachB x.pairs j i = B j i by rw [hB]; rfl] at HC
    clear hB
    have hmi := mat_info
    rw [← matOf_size B] at hmi
    have hzz : Tryz.zeroCells228.size = (matOf B).size := by rw [matOf_size]; kernel_rfl
    have RR : Row (w4.alloc (.cells (matOf B) 228)) w4.heap.size 228 (matOf B) := heap_alloc_new _ _
    have hbW := (B1.then hb4).alloc (.cells (matOf B) 228)
    have hg0 : (w4.alloc (.cells Tryz.zeroCells228 228)).heap[w4.heap.size]? = some (.cells Tryz.zeroCells228 228 (0, 0)) := heap_alloc_new _ _
    have hset : (w4.alloc (.cells Tryz.zeroCells228 228)).setRow w4.heap.size (matOf B) = w4.alloc (.cells (matOf B) 228) := World.setRow_alloc_new w4 _ _ _
    have i1 : (i : Int) < 10 := by omega
    have j1 : (j : Int) < 10 := by omega
    have hc1 := RR.cell (i * 10 + j)
    rw [matOf_at (by omega) (by omega)] at hc1
    have hc2 := RR.cell (j * 10 + i)
    rw [matOf_at (by omega) (by omega)] at hc2
    obtain ⟨W, hW⟩ : ∃ W, W = w4.alloc (.cells (matOf B) 228) := ⟨_, rfl⟩
    rw [← hW] at hc1 hc2 hset hbW
    clear RR hW
    by_cases eij : (i : Int) = j
    · have e1 : ((i : Int) == (j : Int)) = true := by simpa using eij
      have E := Lib.hid (show cmpV x i j = 0 by rw [HC.out, if_pos eij])
      clear eij hc1 hc2 HC
      go_wp2_with (first | (refine wpList_store_row rfl 228 (.tmp 7) (.tmp 30) rfl w4.heap.size (matOf B) rfl rfl 228 Tryz.zeroCells228 hg0 hmi hzz (matOf_one _) ?_; rw [hset]))
      clear hmi hzz hg0 hset
      go_wp2
      go_ret
      exact Ret.int (E.out.symm) (hbW)
    · have e1 : ((i : Int) == (j : Int)) = false := by simpa using eij
      rcases Bool.eq_false_or_eq_true (B i j) with r1 | r1
      · rw [r1] at hc1
        have E := Lib.hid (show cmpV x i j = 1 by rw [HC.out, if_neg eij, if_pos r1])
        clear eij HC r1 hc2
        go_wp2_with (first | (refine wpList_store_row rfl 228 (.tmp 7) (.tmp 30) rfl w4.heap.size (matOf B) rfl rfl 228 Tryz.zeroCells228 hg0 hmi hzz (matOf_one _) ?_; rw [hset]))
        clear hmi hzz hg0 hset
        go_wp2
        go_ret
        exact Ret.int (E.out.symm) (hbW)
      · rw [r1] at hc1
        rcases Bool.eq_false_or_eq_true (B j i) with r2 | r2
        · rw [r2] at hc2
          have E := Lib.hid (show cmpV x i j = -1 by rw [HC.out, if_neg eij, r1, r2]; rfl)
          clear eij HC r1 r2
          go_wp2_with (first | (refine wpList_store_row rfl 228 (.tmp 7) (.tmp 30) rfl w4.heap.size (matOf B) rfl rfl 228 Tryz.zeroCells228 hg0 hmi hzz (matOf_one _) ?_; rw [hset]))
          clear hmi hzz hg0 hset
          go_wp2
          go_ret
          exact Ret.int (E.out.symm) (hbW)
        · rw [r2] at hc2
          have E := Lib.hid (show cmpV x i j = 2 by rw [HC.out, if_neg eij, r1, r2]; rfl)
          clear eij HC r1 r2
          go_wp2_with (first | (refine wpList_store_row rfl 228 (.tmp 7) (.tmp 30) rfl w4.heap.size (matOf B) rfl rfl 228 Tryz.zeroCells228 hg0 hmi hzz (matOf_one _) ?_; rw [hset]))
          clear hmi hzz hg0 hset
          go_wp2
          go_ret
          exact Ret.int (E.out.symm) (hbW)
  · have q4 : (x.kind == 4) = false := by simpa using k4
    have HC := Lib.hid (show cmpV x i j = if rankV x i < rankV x j then 1 else if rankV x j < rankV x i then -1 else 0 by rw [cmpV, if_neg k4])
    have K4 := Lib.hid k4
    clear k4 hx
    go_wp2_with fail
    refine (I_RankOfValue _ x _ _ i (h.bw rInts_good B1) (h'.bw rPairs_good B1) HX.out K4.out ha).mono ?_
    rintro e w4 ⟨rfl, hb4⟩
    replace p0 := hb4.cell p0
    replace p1 := hb4.cell p1
    replace p2 := hb4.cell p2
    replace p3 := hb4.cell p3
    replace p4 := hb4.cell p4
    replace B1 := B1.then hb4
    go_wp2_with fail
    refine (I_RankOfValue _ x _ _ j (h.bw rInts_good B1) (h'.bw rPairs_good B1) HX.out K4.out hb).mono ?_
    rintro e w5 ⟨rfl, hb5⟩
    have B3 := B1.then hb5
    obtain ⟨r, hr⟩ : ∃ r, r = rankV x i := ⟨_, rfl⟩
    obtain ⟨s, hs⟩ : ∃ s, s = rankV x j := ⟨_, rfl⟩
    rw [← hr, ← hs] at HC
    rw [← hr] at ra ⊢
    rw [← hs] at rb ⊢
    clear hr hs
    by_cases l1 : r < s
    · have E := Lib.hid (show cmpV x i j = 1 by rw [HC.out, if_pos l1])
      go_wp2
      go_ret
      exact Ret.int (E.out.symm) (B3)
    · by_cases l2 : s < r
      · have E := Lib.hid (show cmpV x i j = -1 by rw [HC.out, if_neg l1, if_pos l2])
        go_wp2
        go_ret
        exact Ret.int (E.out.symm) (B3)
      · have E := Lib.hid (show cmpV x i j = 0 by rw [HC.out, if_neg l1, if_neg l2])
        go_wp2
        go_ret
        exact Ret.int (E.out.symm) (B3)
set_option maxRecDepth 100000 in
set_option maxHeartbeats 3200000 in
theorem I_CompareItems (w : World) (x : GWish) (p q : GItem) (v u v1 v2 : Value) (h : Rd rInts w x.list [v]) (h' : Rd rPairs w x.pairs [u]) (h1 : Rd rInts w p.vals [v1]) (h2 : Rd rInts w q.vals [v2]) (hx : isWish x = true) (hp : isItem p = true) (hq : isItem q = true) :
    Calls Tryz.prog 160 #[.agg #[.int .i64 x.kind, .int .i64 x.field, .int .i64 x.value, v, u], .agg #[.int .i64 p.id, v1], .agg #[.int .i64 q.id, v2]] w (Ret w (.int .i64 (cmpItem x p q))) := by
  have hf0 := isWish_field hx
  obtain ⟨f, hf⟩ : ∃ f : Nat, x.field = f := ⟨x.field.toNat, by omega⟩
  have hpl := isItem_len hp
  have hql := isItem_len hq
  have HE := Lib.hid (show cmpV x (valAt p f) (valAt q f) = cmpItem x p q by unfold cmpItem; rw [hf])
  have hf2 : f ≤ 2 := by omega
  have Vp := Lib.hid (valAt_bd hp hf2)
  have Vq := Lib.hid (valAt_bd hq hf2)
  have HX := Lib.hid hx
  have HP := Lib.hid hp
  have HQ := Lib.hid hq
  obtain ⟨A1, n1, c1, rfl, L1, L1c, L1m⟩ := rSl_open h1
  obtain ⟨A2, n2, c2, rfl, L2, L2c, L2m⟩ := rSl_open h2
  rw [hpl] at L1
  rw [hql] at L2
  subst L1 L2
  obtain ⟨b1, o1, rfl, _, hc1⟩ := rInts_at h1 (valAt_get hp hf2)
  obtain ⟨b2, o2, rfl, _, hc2⟩ := rInts_at h2 (valAt_get hq hf2)
  have B0 : Bw w (((w.alloc (.cells #[.int .i64 x.kind, .int .i64 x.field, .int .i64 x.value, v, u] 109)).alloc (.cells #[.int .i64 p.id, .slice (some ⟨b1, o1, none⟩) 3 c1] 30)).alloc (.cells #[.int .i64 q.id, .slice (some ⟨b2, o2, none⟩) 3 c2] 30)) := (((Bw.refl w).alloc _).alloc _).alloc _
  have HF := Lib.hid hf
  clear hx hp hq hpl hql hf0 hf
  go_enter Tryz.func160, Tryz.ntmps160
  go_wp2_with fail
  refine (I_IsWish _ x _ _ (h.bw rInts_good B0) (h'.bw rPairs_good B0)).mono ?_
  rintro e w1 ⟨rfl, hb1⟩
  rw [HX.out]
  have p0 : w1.cell? ⟨w.heap.size, 0, none⟩ = some (.int .i64 x.kind) := hb1.cell (by go_simp)
  have p1 : w1.cell? ⟨w.heap.size, 1, none⟩ = some (.int .i64 x.field) := hb1.cell (by go_simp)
  have p2 : w1.cell? ⟨w.heap.size, 2, none⟩ = some (.int .i64 x.value) := hb1.cell (by go_simp)
  have p3 : w1.cell? ⟨w.heap.size, 3, none⟩ = some (v) := hb1.cell (by go_simp)
  have p4 : w1.cell? ⟨w.heap.size, 4, none⟩ = some (u) := hb1.cell (by go_simp)
  have q0 : w1.cell? ⟨w.heap.size + 1, 0, none⟩ = some (.int .i64 p.id) := hb1.cell (by go_simp)
  have q1 : w1.cell? ⟨w.heap.size + 1, 1, none⟩ = some (.slice (some ⟨b1, o1, none⟩) 3 c1) := hb1.cell (by go_simp)
  have r0 : w1.cell? ⟨w.heap.size + 1 + 1, 0, none⟩ = some (.int .i64 q.id) := hb1.cell (by go_simp)
  have r1 : w1.cell? ⟨w.heap.size + 1 + 1, 1, none⟩ = some (.slice (some ⟨b2, o2, none⟩) 3 c2) := hb1.cell (by go_simp)
  have B1 := B0.then hb1
  go_wp2_with fail
  refine (I_IsItem _ p _ (h1.bw rInts_good B1)).mono ?_
  rintro e w2 ⟨rfl, hb2⟩
  rw [HP.out]
  have B2 := B1.then hb2
  replace r0 := hb2.cell r0
  replace r1 := hb2.cell r1
  go_wp2_with fail
  refine (I_IsItem _ q _ (h2.bw rInts_good B2)).mono ?_
  rintro e w3 ⟨rfl, hb3⟩
  rw [HQ.out]
  have B3 := B2.then hb3
  have hbC := hb2.then hb3
  replace p0 := hbC.cell p0
  replace p1 := hbC.cell p1
  replace p2 := hbC.cell p2
  replace p3 := hbC.cell p3
  replace p4 := hbC.cell p4
  replace q1 := hbC.cell q1
  replace r1 := hb3.cell r1
  have hcp := B3.cell hc1
  have hcq := B3.cell hc2
  have k1 := h.bw rInts_good B3
  have k2 := h'.bw rPairs_good B3
  rw [HF.out] at p1
  have i1 : (0 : Int) ≤ (f : Int) := by omega
  have i2 : (f : Int) < 3 := by omega
  have s0 := since_cell p0
  have s1 := since_cell p1
  have s2 := since_cell p2
  have s3 := since_cell p3
  have s4 := since_cell p4
  have s5 := since_cell q1
  have s6 := since_cell r1
  have s7 := since_cell hcp
  have s8 := since_cell hcq
  have hcall : ∀ s : Since w3, Calls Tryz.prog 206 #[.agg #[.int .i64 x.kind, .int .i64 f, .int .i64 x.value, v, u], .int .i64 (valAt p f), .int .i64 (valAt q f)] s.1 (Ret s.1 (.int .i64 (cmpV x (valAt p f) (valAt q f)))) := fun s => by
    have := I_CompareValues s.1 x v u (valAt p f) (valAt q f) (k1.bw rInts_good s.bw) (k2.bw rPairs_good s.bw) HX.out Vp.out Vq.out
    rwa [HF.out] at this
  clear p0 p1 p2 p3 p4 q0 q1 r0 r1 hcp hcq hc1 hc2
  go_wp2
  refine wp_region_since (by kernel_rfl) (by kernel_rfl) ?_
  repeat (first | go_big_quiet_skip | (go_big_quiet_want; go_big_quiet_op; first | go_big_quiet_on | (apply Exists.intro; refine ⟨fun _ => ?_, ?_⟩; (· (((first | (go_at_call 206; exact Calls_since (hcall _)))))); go_big_quiet_on)))
  refine wpQuiet_nil ?_
  rintro ⟨wq, hbq⟩
  dsimp only at *
  go_wp2
  go_ret
  exact Ret.int HE.out (B3.then hbq)
end Go.Proofs.YtpihighajaeabaaGreat

namespace Go.Proofs.YtpihighajaeabaaGreat
open Go.RowKit
set_option linter.unusedVariables false
set_option linter.unusedSimpArgs false
theorem max_int (a b : Int) : max a b = if a ≤ b then b else a := by by_cases h : a ≤ b <;> simp [h] <;> omega
set_option maxRecDepth 100000 in
set_option maxHeartbeats 1600000 in
theorem S_l4Rank (w : World) (x : GWish) (a u : Value) (v : Int) (h : Rd rInts w x.list [a]) (h' : Rd rPairs w x.pairs [u]) (hx : 0 ≤ x.value ∧ x.value ≤ 9) (hv : 0 ≤ v ∧ v ≤ 9) :
    Calls Tryz.prog 227 #[.agg #[.int .i64 x.kind, .int .i64 x.field, .int .i64 x.value, a, u], .int .i64 v] w (Ret w (.int .i64 (rankV x v))) := by
  have B0 : Bw w (w.alloc (.cells #[.int .i64 x.kind, .int .i64 x.field, .int .i64 x.value, a, u] 109)) := (Bw.refl w).alloc _
  by_cases k0 : x.kind = 0
  · have q0 : (x.kind == 0) = true := by simpa using k0
    have K := Lib.hid k0
    clear k0
    go_enter Tryz.func227, Tryz.ntmps227
    go_wp2
    go_ret
    exact Ret.int (by rw [rankV, if_pos K.out]) (B0)
  have q0 : (x.kind == 0) = false := by simpa using k0
  by_cases k1 : x.kind = 1
  · have q1 : (x.kind == 1) = true := by simpa using k1
    have K := Lib.hid (show ¬ x.kind = 0 ∧ x.kind = 1 from ⟨k0, k1⟩)
    clear k0 k1
    go_enter Tryz.func227, Tryz.ntmps227
    go_wp2
    go_ret
    exact Ret.int (by rw [rankV, if_neg K.out.1, if_pos K.out.2]) (B0)
  have q1 : (x.kind == 1) = false := by simpa using k1
  by_cases k2 : x.kind = 2
  · have q2 : (x.kind == 2) = true := by simpa using k2
    have K := trivial
    by_cases hlt : v - x.value < x.value - v
    · have E := Lib.hid (show rankV x v = x.value - v by rw [rankV, if_neg k0, if_neg k1, if_pos k2, max_int, if_pos (by omega)])
      clear k0 k1 k2 K
      go_enter Tryz.func227, Tryz.ntmps227
      go_wp2
      go_ret
      exact Ret.int (E.out.symm) (B0)
    · have E := Lib.hid (show rankV x v = v - x.value by
        rw [rankV, if_neg k0, if_neg k1, if_pos k2, max_int]
        by_cases he : v - x.value ≤ x.value - v
        · rw [if_pos he]; omega
        · rw [if_neg he])
      clear k0 k1 k2 K
      go_enter Tryz.func227, Tryz.ntmps227
      go_wp2
      go_ret
      exact Ret.int (E.out.symm) (B0)
  have q2 : (x.kind == 2) = false := by simpa using k2
  have K := Lib.hid (show ¬ x.kind = 0 ∧ ¬ x.kind = 1 ∧ ¬ x.kind = 2 from ⟨k0, k1, k2⟩)
  clear k0 k1 k2
  go_enter Tryz.func227, Tryz.ntmps227
  go_wp2_with fail
  refine (S_l2Has _ x.list v _ (h.bw rInts_good B0)).mono ?_
  rintro e w2 ⟨rfl, hb2⟩
  rcases Bool.eq_false_or_eq_true (x.list.contains v) with e1 | e1
  · have E := Lib.hid e1
    rw [e1]
    clear e1
    go_wp2
    go_ret
    exact Ret.int (by rw [rankV, if_neg K.out.1, if_neg K.out.2.1, if_neg K.out.2.2, E.out]; rfl) (B0.then hb2)
  · have E := Lib.hid e1
    rw [e1]
    clear e1
    go_wp2
    go_ret
    exact Ret.int (by rw [rankV, if_neg K.out.1, if_neg K.out.2.1, if_neg K.out.2.2, E.out]; rfl) (B0.then hb2)
set_option maxRecDepth 100000 in
set_option maxHeartbeats 1600000 in
theorem S_l4Compare (w : World) (x : GWish) (v u : Value) (a b : Int) (h : Rd rInts w x.list [v]) (h' : Rd rPairs w x.pairs [u]) (hx : isWish x = true) (ha : 0 ≤ a ∧ a ≤ 9) (hb : 0 ≤ b ∧ b ≤ 9) :
    Calls Tryz.prog 165 #[.agg #[.int .i64 x.kind, .int .i64 x.field, .int .i64 x.value, v, u], .int .i64 a, .int .i64 b] w (Ret w (.int .i64 (cmpV x a b))) := by
  have B0 : Bw w (w.alloc (.cells #[.int .i64 x.kind, .int .i64 x.field, .int .i64 x.value, v, u] 109)) := (Bw.refl w).alloc _
  by_cases k4 : x.kind = 4
  · have q4 : (x.kind == 4) = true := by simpa using k4
    have K := Lib.hid k4
    have hp := isWish_pairs hx k4
    have HP := Lib.hid (arePairs_in hp)
    have H8 := Lib.hid (arePairs_len hp)
    clear k4 hp hx
    by_cases eab : a = b
    · have e1 : (a == b) = true := by simpa using eab
      have E := Lib.hid eab
      clear eab
      go_enter Tryz.func165, Tryz.ntmps165
      go_wp2
      go_ret
      exact Ret.int (by rw [cmpV, if_pos K.out, if_pos E.out]) (B0)
    · have e1 : (a == b) = false := by simpa using eab
      have E := Lib.hid eab
      clear eab
      go_enter Tryz.func165, Tryz.ntmps165
      go_wp2_with fail
      refine (S_l3Reach _ x.pairs a b _ (h'.bw rPairs_good B0) HP.out H8.out ha hb).mono ?_
      rintro e w2 ⟨rfl, hb2⟩
      have p0 : w2.cell? ⟨w.heap.size, 0, none⟩ = some (.int .i64 x.kind) := hb2.cell (by go_simp)
      have p1 : w2.cell? ⟨w.heap.size, 1, none⟩ = some (.int .i64 x.field) := hb2.cell (by go_simp)
      have p2 : w2.cell? ⟨w.heap.size, 2, none⟩ = some (.int .i64 x.value) := hb2.cell (by go_simp)
      have p3 : w2.cell? ⟨w.heap.size, 3, none⟩ = some (v) := hb2.cell (by go_simp)
      have p4 : w2.cell? ⟨w.heap.size, 4, none⟩ = some (u) := hb2.cell (by go_simp)
      have B2 := B0.then hb2
      rcases Bool.eq_false_or_eq_true (reachB x.pairs a b) with r1 | r1
      · have R := Lib.hid r1
        rw [r1]
        clear r1
        go_wp2
        go_ret
        exact Ret.int (by rw [cmpV, if_pos K.out, if_neg E.out, if_pos R.out]) (B2)
      · have R := Lib.hid r1
        rw [r1]
        clear r1
        go_wp2_with fail
        refine (S_l3Reach _ x.pairs b a _ (h'.bw rPairs_good B2) HP.out H8.out hb ha).mono ?_
        rintro e w3 ⟨rfl, hb3⟩
        rcases Bool.eq_false_or_eq_true (reachB x.pairs b a) with r2 | r2
        · have R2 := Lib.hid r2
          rw [r2]
          clear r2
          go_wp2
          go_ret
          exact Ret.int (by rw [cmpV, if_pos K.out, if_neg E.out, R.out, R2.out]; rfl) (B2.then hb3)
        · have R2 := Lib.hid r2
          rw [r2]
          clear r2
          go_wp2
          go_ret
          exact Ret.int (by rw [cmpV, if_pos K.out, if_neg E.out, R.out, R2.out]; rfl) (B2.then hb3)
  · have q4 : (x.kind == 4) = false := by simpa using k4
    have K := Lib.hid k4
    have hval := isWish_value hx
    have ra := rankV_bd hx ha
    have rb := rankV_bd hx hb
    clear k4 hx
    go_enter Tryz.func165, Tryz.ntmps165
    go_wp2_with fail
    refine (S_l4Rank _ x _ _ a (h.bw rInts_good B0) (h'.bw rPairs_good B0) hval ha).mono ?_
    rintro e w2 ⟨rfl, hb2⟩
    have p0 : w2.cell? ⟨w.heap.size, 0, none⟩ = some (.int .i64 x.kind) := hb2.cell (by go_simp)
    have p1 : w2.cell? ⟨w.heap.size, 1, none⟩ = some (.int .i64 x.field) := hb2.cell (by go_simp)
    have p2 : w2.cell? ⟨w.heap.size, 2, none⟩ = some (.int .i64 x.value) := hb2.cell (by go_simp)
    have p3 : w2.cell? ⟨w.heap.size, 3, none⟩ = some (v) := hb2.cell (by go_simp)
    have p4 : w2.cell? ⟨w.heap.size, 4, none⟩ = some (u) := hb2.cell (by go_simp)
    have B2 := B0.then hb2
    go_wp2_with fail
    refine (S_l4Rank _ x _ _ b (h.bw rInts_good B2) (h'.bw rPairs_good B2) hval hb).mono ?_
    rintro e w3 ⟨rfl, hb3⟩
    have B3 := B2.then hb3
    have HC := Lib.hid (show cmpV x a b = if rankV x a < rankV x b then 1 else if rankV x b < rankV x a then -1 else 0 by rw [cmpV, if_neg K.out])
    obtain ⟨r, hr⟩ : ∃ r, r = rankV x a := ⟨_, rfl⟩
    obtain ⟨s, hs⟩ : ∃ s, s = rankV x b := ⟨_, rfl⟩
    rw [← hr, ← hs] at HC
    rw [← hr] at ra ⊢
    rw [← hs] at rb ⊢
    clear hr hs
    by_cases l1 : r < s
    · have E := Lib.hid (show cmpV x a b = 1 by rw [HC.out, if_pos l1])
      go_wp2
      go_ret
      exact Ret.int (E.out.symm) (B3)
    · by_cases l2 : s < r
      · have E := Lib.hid (show cmpV x a b = -1 by rw [HC.out, if_neg l1, if_pos l2])
        go_wp2
        go_ret
        exact Ret.int (E.out.symm) (B3)
      · have E := Lib.hid (show cmpV x a b = 0 by rw [HC.out, if_neg l1, if_neg l2])
        go_wp2
        go_ret
        exact Ret.int (E.out.symm) (B3)
set_option maxRecDepth 100000 in
theorem S_l5Pareto (w : World) (a b : Int) (ha : -1 ≤ a ∧ a ≤ 2) (hb : -1 ≤ b ∧ b ≤ 2) : Calls Tryz.prog 228 #[.int .i64 a, .int .i64 b] w (Ret w (.int .i64 (comb 1 a b))) := by
  have ea : a = -1 ∨ a = 0 ∨ a = 1 ∨ a = 2 := by omega
  have eb : b = -1 ∨ b = 0 ∨ b = 1 ∨ b = 2 := by omega
  clear ha hb
  rcases ea with rfl | rfl | rfl | rfl <;> rcases eb with rfl | rfl | rfl | rfl
  all_goals
    go_enter Tryz.func228, Tryz.ntmps228
    go_wp2
    go_ret
    exact Ret.int rfl (Bw.refl _)
set_option maxRecDepth 100000 in
theorem S_l5Meet (w : World) (a b : Int) : Calls Tryz.prog 229 #[.int .i64 a, .int .i64 b] w (Ret w (.int .i64 (comb 4 a b))) := by
  by_cases h : a = b
  · have e1 : (a == b) = true := by simpa using h
    have H := Lib.hid h
    clear h
    go_enter Tryz.func229, Tryz.ntmps229
    go_wp2
    go_ret
    exact Ret.int (by rw [comb, if_neg (by omega), if_neg (by omega), if_pos H.out]) (Bw.refl _)
  · have e1 : (a == b) = false := by simpa using h
    have H := Lib.hid h
    clear h
    go_enter Tryz.func229, Tryz.ntmps229
    go_wp2
    go_ret
    exact Ret.int (by rw [comb, if_neg (by omega), if_neg (by omega), if_neg H.out]) (Bw.refl _)
set_option maxRecDepth 100000 in
theorem S_l5Op (w : World) (op a b : Int) (hop : op = 1 ∨ op = 2 ∨ op = 4) (ha : -1 ≤ a ∧ a ≤ 2) (hb : -1 ≤ b ∧ b ≤ 2) : Calls Tryz.prog 166 #[.int .i64 op, .int .i64 a, .int .i64 b] w (Ret w (.int .i64 (comb op a b))) := by
  rcases hop with rfl | rfl | rfl
  · go_enter Tryz.func166, Tryz.ntmps166
    go_wp2_with fail
    refine (S_l5Pareto _ a b ha hb).mono ?_
    rintro e w2 ⟨rfl, hb2⟩
    go_wp2
    go_ret
    exact Ret.int (rfl) (hb2)
  · by_cases h : a = 0
    · have e1 : (a != 0) = false := by simpa using h
      have H := Lib.hid h
      clear h
      go_enter Tryz.func166, Tryz.ntmps166
      go_wp2
      go_ret
      exact Ret.int (by rw [comb, if_neg (by omega), if_pos rfl, if_pos H.out]) (Bw.refl _)
    · have e1 : (a != 0) = true := by simpa using h
      have H := Lib.hid h
      clear h
      go_enter Tryz.func166, Tryz.ntmps166
      go_wp2
      go_ret
      exact Ret.int (by rw [comb, if_neg (by omega), if_pos rfl, if_neg H.out]) (Bw.refl _)
  · go_enter Tryz.func166, Tryz.ntmps166
    go_wp2_with fail
    refine (S_l5Meet _ a b).mono ?_
    rintro e w2 ⟨rfl, hb2⟩
    go_wp2
    go_ret
    exact Ret.int (rfl) (hb2)
end Go.Proofs.YtpihighajaeabaaGreat
