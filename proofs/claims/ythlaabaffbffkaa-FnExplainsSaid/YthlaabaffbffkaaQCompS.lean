/- Comparisons of values in the reference. -/
import Derived.Test.YthlaabaffbffkaaQWishS
import Derived.Test.YthlaabaffbffkaaQStack
namespace Go.Proofs.Ythlaabaffbffkaa
open Go.RowKit
set_option linter.unusedVariables false
set_option linter.unusedSimpArgs false
theorem max_int (a b : Int) : max a b = if a ≤ b then b else a := by by_cases h : a ≤ b <;> simp [h] <;> omega
set_option maxRecDepth 100000 in
set_option maxHeartbeats 1600000 in
theorem S_l4Rank (w : World) (x : GWish) (a u : Value) (v : Int) (h : Rd rInts w x.list [a]) (h' : Rd rPairs w x.pairs [u]) (hx : 0 ≤ x.value ∧ x.value ≤ 9) (hv : 0 ≤ v ∧ v ≤ 9) :
    Calls Try.prog 93 #[.agg #[.int .i64 x.kind, .int .i64 x.field, .int .i64 x.value, a, u], .int .i64 v] w (Ret w (.int .i64 (rankV x v))) := by
  have B0 : Bw w (w.alloc (.cells #[.int .i64 x.kind, .int .i64 x.field, .int .i64 x.value, a, u] 71)) := (Bw.refl w).alloc _
  by_cases k0 : x.kind = 0
  · have q0 : (x.kind == 0) = true := by simpa using k0
    have K := Lib.hid k0
    clear k0
    go_enter Try.func93, Try.ntmps93
    go_wp2
    go_ret
    exact Ret.int (by rw [rankV, if_pos K.out]) (B0)
  have q0 : (x.kind == 0) = false := by simpa using k0
  by_cases k1 : x.kind = 1
  · have q1 : (x.kind == 1) = true := by simpa using k1
    have K := Lib.hid (show ¬ x.kind = 0 ∧ x.kind = 1 from ⟨k0, k1⟩)
    clear k0 k1
    go_enter Try.func93, Try.ntmps93
    go_wp2
    go_ret
    exact Ret.int (by rw [rankV, if_neg K.out.1, if_pos K.out.2]) (B0)
  have q1 : (x.kind == 1) = false := by simpa using k1
  by_cases k2 : x.kind = 2
  · have q2 : (x.kind == 2) = true := by simpa using k2
    have K := trivial
    by_cases hlt : v - x.value < x.value - v
    · have E := Lib.hid (show rankV x v = x.value - v by rw [rankV, if_neg k0, if_neg k1, if_pos k2, max_int, if_pos (by omega)])
      clear k0 k1 k2 K
      go_enter Try.func93, Try.ntmps93
      go_wp2
      go_ret
      exact Ret.int (E.out.symm) (B0)
    · have E := Lib.hid (show rankV x v = v - x.value by
        rw [rankV, if_neg k0, if_neg k1, if_pos k2, max_int]
        by_cases he : v - x.value ≤ x.value - v
        · rw [if_pos he]; omega
        · rw [if_neg he])
      clear k0 k1 k2 K
      go_enter Try.func93, Try.ntmps93
      go_wp2
      go_ret
      exact Ret.int (E.out.symm) (B0)
  have q2 : (x.kind == 2) = false := by simpa using k2
  have K := Lib.hid (show ¬ x.kind = 0 ∧ ¬ x.kind = 1 ∧ ¬ x.kind = 2 from ⟨k0, k1, k2⟩)
  clear k0 k1 k2
  go_enter Try.func93, Try.ntmps93
  go_wp2_with fail
  refine (S_l2Has _ x.list v _ (h.bw rInts_good B0)).mono ?_
  rintro e w2 ⟨rfl, hb2⟩
  rcases Bool.eq_false_or_eq_true (x.list.contains v) with e1 | e1
  · have E := Lib.hid e1
    rw [e1]
    clear e1
    go_wp2
    go_ret
    exact Ret.int (by rw [rankV, if_neg K.out.1, if_neg K.out.2.1, if_neg K.out.2.2, E.out]; rfl) (B0.then hb2)
  · have E := Lib.hid e1
    rw [e1]
    clear e1
    go_wp2
    go_ret
    exact Ret.int (by rw [rankV, if_neg K.out.1, if_neg K.out.2.1, if_neg K.out.2.2, E.out]; rfl) (B0.then hb2)
set_option maxRecDepth 100000 in
set_option maxHeartbeats 1600000 in
theorem S_l4Compare (w : World) (x : GWish) (v u : Value) (a b : Int) (h : Rd rInts w x.list [v]) (h' : Rd rPairs w x.pairs [u]) (hx : isWish x = true) (ha : 0 ≤ a ∧ a ≤ 9) (hb : 0 ≤ b ∧ b ≤ 9) :
    Calls Try.prog 78 #[.agg #[.int .i64 x.kind, .int .i64 x.field, .int .i64 x.value, v, u], .int .i64 a, .int .i64 b] w (Ret w (.int .i64 (cmpV x a b))) := by
  have B0 : Bw w (w.alloc (.cells #[.int .i64 x.kind, .int .i64 x.field, .int .i64 x.value, v, u] 71)) := (Bw.refl w).alloc _
  by_cases k4 : x.kind = 4
  · have q4 : (x.kind == 4) = true := by simpa using k4
    have K := Lib.hid k4
    have hp := isWish_pairs hx k4
    have HP := Lib.hid (arePairs_in hp)
    have H8 := Lib.hid (arePairs_len hp)
    clear k4 hp hx
    by_cases eab : a = b
    · have e1 : (a == b) = true := by simpa using eab
      have E := Lib.hid eab
      clear eab
      go_enter Try.func78, Try.ntmps78
      go_wp2
      go_ret
      exact Ret.int (by rw [cmpV, if_pos K.out, if_pos E.out]) (B0)
    · have e1 : (a == b) = false := by simpa using eab
      have E := Lib.hid eab
      clear eab
      go_enter Try.func78, Try.ntmps78
      go_wp2_with fail
      refine (S_l3Reach _ x.pairs a b _ (h'.bw rPairs_good B0) HP.out H8.out ha hb).mono ?_
      rintro e w2 ⟨rfl, hb2⟩
      have p0 : w2.cell? ⟨w.heap.size, 0, none⟩ = some (.int .i64 x.kind) := hb2.cell (by go_simp)
      have p1 : w2.cell? ⟨w.heap.size, 1, none⟩ = some (.int .i64 x.field) := hb2.cell (by go_simp)
      have p2 : w2.cell? ⟨w.heap.size, 2, none⟩ = some (.int .i64 x.value) := hb2.cell (by go_simp)
      have p3 : w2.cell? ⟨w.heap.size, 3, none⟩ = some (v) := hb2.cell (by go_simp)
      have p4 : w2.cell? ⟨w.heap.size, 4, none⟩ = some (u) := hb2.cell (by go_simp)
      have B2 := B0.then hb2
      rcases Bool.eq_false_or_eq_true (reachB x.pairs a b) with r1 | r1
      · have R := Lib.hid r1
        rw [r1]
        clear r1
        go_wp2
        go_ret
        exact Ret.int (by rw [cmpV, if_pos K.out, if_neg E.out, if_pos R.out]) (B2)
      · have R := Lib.hid r1
        rw [r1]
        clear r1
        go_wp2_with fail
        refine (S_l3Reach _ x.pairs b a _ (h'.bw rPairs_good B2) HP.out H8.out hb ha).mono ?_
        rintro e w3 ⟨rfl, hb3⟩
        rcases Bool.eq_false_or_eq_true (reachB x.pairs b a) with r2 | r2
        · have R2 := Lib.hid r2
          rw [r2]
          clear r2
          go_wp2
          go_ret
          exact Ret.int (by rw [cmpV, if_pos K.out, if_neg E.out, R.out, R2.out]; rfl) (B2.then hb3)
        · have R2 := Lib.hid r2
          rw [r2]
          clear r2
          go_wp2
          go_ret
          exact Ret.int (by rw [cmpV, if_pos K.out, if_neg E.out, R.out, R2.out]; rfl) (B2.then hb3)
  · have q4 : (x.kind == 4) = false := by simpa using k4
    have K := Lib.hid k4
    have hval := isWish_value hx
    have ra := rankV_bd hx ha
    have rb := rankV_bd hx hb
    clear k4 hx
    go_enter Try.func78, Try.ntmps78
    go_wp2_with fail
    refine (S_l4Rank _ x _ _ a (h.bw rInts_good B0) (h'.bw rPairs_good B0) hval ha).mono ?_
    rintro e w2 ⟨rfl, hb2⟩
    have p0 : w2.cell? ⟨w.heap.size, 0, none⟩ = some (.int .i64 x.kind) := hb2.cell (by go_simp)
    have p1 : w2.cell? ⟨w.heap.size, 1, none⟩ = some (.int .i64 x.field) := hb2.cell (by go_simp)
    have p2 : w2.cell? ⟨w.heap.size, 2, none⟩ = some (.int .i64 x.value) := hb2.cell (by go_simp)
    have p3 : w2.cell? ⟨w.heap.size, 3, none⟩ = some (v) := hb2.cell (by go_simp)
    have p4 : w2.cell? ⟨w.heap.size, 4, none⟩ = some (u) := hb2.cell (by go_simp)
    have B2 := B0.then hb2
    go_wp2_with fail
    refine (S_l4Rank _ x _ _ b (h.bw rInts_good B2) (h'.bw rPairs_good B2) hval hb).mono ?_
    rintro e w3 ⟨rfl, hb3⟩
    have B3 := B2.then hb3
    have HC := Lib.hid (show cmpV x a b = if rankV x a < rankV x b then 1 else if rankV x b < rankV x a then -1 else 0 by rw [cmpV, if_neg K.out])
    obtain ⟨r, hr⟩ : ∃ r, r = rankV x a := ⟨_, rfl⟩
    obtain ⟨s, hs⟩ : ∃ s, s = rankV x b := ⟨_, rfl⟩
    rw [← hr, ← hs] at HC
    rw [← hr] at ra ⊢
    rw [← hs] at rb ⊢
    clear hr hs
    by_cases l1 : r < s
    · have E := Lib.hid (show cmpV x a b = 1 by rw [HC.out, if_pos l1])
      go_wp2
      go_ret
      exact Ret.int (E.out.symm) (B3)
    · by_cases l2 : s < r
      · have E := Lib.hid (show cmpV x a b = -1 by rw [HC.out, if_neg l1, if_pos l2])
        go_wp2
        go_ret
        exact Ret.int (E.out.symm) (B3)
      · have E := Lib.hid (show cmpV x a b = 0 by rw [HC.out, if_neg l1, if_neg l2])
        go_wp2
        go_ret
        exact Ret.int (E.out.symm) (B3)
set_option maxRecDepth 100000 in
theorem S_l5Pareto (w : World) (a b : Int) (ha : -1 ≤ a ∧ a ≤ 2) (hb : -1 ≤ b ∧ b ≤ 2) : Calls Try.prog 94 #[.int .i64 a, .int .i64 b] w (Ret w (.int .i64 (comb 1 a b))) := by
  have ea : a = -1 ∨ a = 0 ∨ a = 1 ∨ a = 2 := by omega
  have eb : b = -1 ∨ b = 0 ∨ b = 1 ∨ b = 2 := by omega
  clear ha hb
  rcases ea with rfl | rfl | rfl | rfl <;> rcases eb with rfl | rfl | rfl | rfl
  all_goals
    go_enter Try.func94, Try.ntmps94
    go_wp2
    go_ret
    exact Ret.int rfl (Bw.refl _)
set_option maxRecDepth 100000 in
theorem S_l5Meet (w : World) (a b : Int) : Calls Try.prog 95 #[.int .i64 a, .int .i64 b] w (Ret w (.int .i64 (comb 4 a b))) := by
  by_cases h : a = b
  · have e1 : (a == b) = true := by simpa using h
    have H := Lib.hid h
    clear h
    go_enter Try.func95, Try.ntmps95
    go_wp2
    go_ret
    exact Ret.int (by rw [comb, if_neg (by omega), if_neg (by omega), if_pos H.out]) (Bw.refl _)
  · have e1 : (a == b) = false := by simpa using h
    have H := Lib.hid h
    clear h
    go_enter Try.func95, Try.ntmps95
    go_wp2
    go_ret
    exact Ret.int (by rw [comb, if_neg (by omega), if_neg (by omega), if_neg H.out]) (Bw.refl _)
set_option maxRecDepth 100000 in
theorem S_l5Op (w : World) (op a b : Int) (hop : op = 1 ∨ op = 2 ∨ op = 4) (ha : -1 ≤ a ∧ a ≤ 2) (hb : -1 ≤ b ∧ b ≤ 2) : Calls Try.prog 79 #[.int .i64 op, .int .i64 a, .int .i64 b] w (Ret w (.int .i64 (comb op a b))) := by
  rcases hop with rfl | rfl | rfl
  · go_enter Try.func79, Try.ntmps79
    go_wp2_with fail
    refine (S_l5Pareto _ a b ha hb).mono ?_
    rintro e w2 ⟨rfl, hb2⟩
    go_wp2
    go_ret
    exact Ret.int (rfl) (hb2)
  · by_cases h : a = 0
    · have e1 : (a != 0) = false := by simpa using h
      have H := Lib.hid h
      clear h
      go_enter Try.func79, Try.ntmps79
      go_wp2
      go_ret
      exact Ret.int (by rw [comb, if_neg (by omega), if_pos rfl, if_pos H.out]) (Bw.refl _)
    · have e1 : (a != 0) = true := by simpa using h
      have H := Lib.hid h
      clear h
      go_enter Try.func79, Try.ntmps79
      go_wp2
      go_ret
      exact Ret.int (by rw [comb, if_neg (by omega), if_pos rfl, if_neg H.out]) (Bw.refl _)
  · go_enter Try.func79, Try.ntmps79
    go_wp2_with fail
    refine (S_l5Meet _ a b).mono ?_
    rintro e w2 ⟨rfl, hb2⟩
    go_wp2
    go_ret
    exact Ret.int (rfl) (hb2)
end Go.Proofs.Ythlaabaffbffkaa
