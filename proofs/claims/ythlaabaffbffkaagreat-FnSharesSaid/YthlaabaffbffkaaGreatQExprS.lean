/- Valid expressions in the reference. -/
import Derived.Test.YthlaabaffbffkaaGreatQWishS
import Derived.Test.YthlaabaffbffkaaGreatQStack
namespace Go.Proofs.YthlaabaffbffkaaGreat
open Go.RowKit
set_option linter.unusedVariables false
set_option linter.unusedSimpArgs false
theorem noWish_dec (x : GWish) : decide (x = noWish) = (decide (x.kind = 0) && (decide (x.field = 0) && (decide (x.value = 0) && (decide (x.list.length = 0) && decide (x.pairs.length = 0))))) := by
  rw [Bool.eq_iff_iff]; simp [GWish.eq_iff, noWish]
set_option maxRecDepth 100000 in
set_option maxHeartbeats 1600000 in
theorem S_l5NoWish (w : World) (x : GWish) (v u : Value) (h : Rd rInts w x.list [v]) (h' : Rd rPairs w x.pairs [u]) :
    Calls Tryz.prog 147 #[.agg #[.int .i64 x.kind, .int .i64 x.field, .int .i64 x.value, v, u]] w (Ret w (.bool (decide (x = noWish)))) := by
  obtain ⟨A, n, c, rfl, L0, Lc, Lm⟩ := rSl_open h
  unfold maxLen at Lm
  have L := Lib.hid L0
  clear L0
  obtain ⟨B, m, c', rfl, M0, Mc, Mm⟩ := rSl_open h'
  unfold maxLen at Mm
  have M := Lib.hid M0
  clear M0
  have HD := Lib.hid (noWish_dec x)
  rw [← L.out, ← M.out] at HD
  have B0 : Bw w (w.alloc (.cells #[.int .i64 x.kind, .int .i64 x.field, .int .i64 x.value, .slice A n c, .slice B m c'] 129)) := (Bw.refl w).alloc _
  by_cases e1 : x.kind = 0
  · by_cases e2 : x.field = 0
    · by_cases e3 : x.value = 0
      · have a1 : (x.kind == 0) = true := by simpa using e1
        have a2 : (x.field == 0) = true := by simpa using e2
        have a3 : (x.value == 0) = true := by simpa using e3
        by_cases e4 : n = 0
        · by_cases e5 : m = 0
          · have E := Lib.hid (show decide (x = noWish) = true by rw [HD.out]; simp [e1, e2, e3, e4, e5])
            subst e4 e5
            clear e1 e2 e3 HD
            go_enter Tryz.func147, Tryz.ntmps147
            go_wp2
            go_ret
            exact Ret.bool (E.out.symm) (B0)
          · have E := Lib.hid (show decide (x = noWish) = false by rw [HD.out]; simp [e5])
            have a5 : ((m : Int) == 0) = false := by simp; omega
            subst e4
            clear e1 e2 e3 HD
            go_enter Tryz.func147, Tryz.ntmps147
            go_wp2
            go_ret
            exact Ret.bool (E.out.symm) (B0)
        · have E := Lib.hid (show decide (x = noWish) = false by rw [HD.out]; simp [e4])
          have a4 : ((n : Int) == 0) = false := by simp; omega
          clear e1 e2 e3 HD
          go_enter Tryz.func147, Tryz.ntmps147
          go_wp2
          go_ret
          exact Ret.bool (E.out.symm) (B0)
      · have E := Lib.hid (show decide (x = noWish) = false by rw [HD.out]; simp [e3])
        have a1 : (x.kind == 0) = true := by simpa using e1
        have a2 : (x.field == 0) = true := by simpa using e2
        have a3 : (x.value == 0) = false := by simpa using e3
        clear e1 e2 e3 HD
        go_enter Tryz.func147, Tryz.ntmps147
        go_wp2
        go_ret
        exact Ret.bool (E.out.symm) (B0)
    · have E := Lib.hid (show decide (x = noWish) = false by rw [HD.out]; simp [e2])
      have a1 : (x.kind == 0) = true := by simpa using e1
      have a2 : (x.field == 0) = false := by simpa using e2
      clear e1 e2 HD
      go_enter Tryz.func147, Tryz.ntmps147
      go_wp2
      go_ret
      exact Ret.bool (E.out.symm) (B0)
  · have E := Lib.hid (show decide (x = noWish) = false by rw [HD.out]; simp [e1])
    have a1 : (x.kind == 0) = false := by simpa using e1
    clear e1 HD
    go_enter Tryz.func147, Tryz.ntmps147
    go_wp2
    go_ret
    exact Ret.bool (E.out.symm) (B0)
theorem depth_bad {e : List GNode} {k : Nat} {d : Int} {n : GNode} (hn : e[k]? = some n) (h : nodeOk n d = false) : depthOf (e.drop k) d = none := by
  rw [drop_cons hn, depthOf, h]; rfl
theorem depth_good {e : List GNode} {k : Nat} {d : Int} {n : GNode} (hn : e[k]? = some n) (h : nodeOk n d = true) : depthOf (e.drop k) d = depthOf (e.drop (k + 1)) (d - opnds n.op + 1) := by
  rw [drop_cons hn, depthOf, if_pos h]
def exprAt (e : List GNode) (k : Nat) (d : Int) : Bool := decide (depthOf (e.drop k) d = some 1) && decide (e.length ≤ 9)
theorem exprAt_bad {e : List GNode} {k : Nat} {d : Int} {n : GNode} (hn : e[k]? = some n) (h : nodeOk n d = false) : exprAt e k d = false := by rw [exprAt, depth_bad hn h]; rfl
theorem exprAt_good {e : List GNode} {k : Nat} {d : Int} {n : GNode} (hn : e[k]? = some n) (h : nodeOk n d = true) : exprAt e k d = exprAt e (k + 1) (d - opnds n.op + 1) := by rw [exprAt, depth_good hn h]; rfl
theorem exprAt_end {e : List GNode} {k : Nat} {d : Int} (hk : e.length = k) : exprAt e k d = (decide (d = 1) && decide (k ≤ 9)) := by
  rw [exprAt, List.drop_of_length_le (by omega), depthOf, hk]; simp
theorem nodeOk_base {n : GNode} {d : Int} (h0 : n.op = 0) (hd : 0 ≤ d) : nodeOk n d = isWish n.wish := by
  unfold nodeOk; rw [h0]; simp [inB, opnds, hd]
theorem nodeOk_dual {n : GNode} {d : Int} (h0 : n.op = 3) : nodeOk n d = (decide (1 ≤ d) && decide (n.wish = noWish)) := by
  unfold nodeOk; rw [h0]; simp [inB, opnds]
theorem nodeOk_two {n : GNode} {d : Int} (h0 : n.op = 1 ∨ n.op = 2 ∨ n.op = 4) : nodeOk n d = (decide (2 ≤ d) && decide (n.wish = noWish)) := by
  unfold nodeOk
  rcases h0 with h0 | h0 | h0 <;> rw [h0] <;> simp [inB, opnds]
theorem nodeOk_none {n : GNode} {d : Int} (h0 : ¬ n.op = 0) (h1 : ¬ n.op = 1) (h2 : ¬ n.op = 2) (h3 : ¬ n.op = 3) (h4 : ¬ n.op = 4) : nodeOk n d = false := by
  unfold nodeOk
  have : inB n.op 0 4 = false := by simp [inB]; omega
  rw [this]; rfl
set_option maxRecDepth 100000 in
set_option maxHeartbeats 3200000 in
theorem S_IsExpression (w : World) (e : List GNode) (v : Value) (h : Rd rNodes w e [v]) : Calls Tryz.prog 75 #[v] w (Ret w (.bool (isExpr e))) := by
  obtain ⟨A, n, c, rfl, L0, Lc, Lm⟩ := rSl_open h
  unfold maxLen at Lm
  have L := Lib.hid L0
  clear L0
  go_enter Tryz.func75, Tryz.ntmps75
  go_wp2
  go_loopg [3, 4] n (fun g d i w' => ∃ (k : Nat) (m : Int), k ≤ n ∧ g = n - k ∧ d = .int .i64 m ∧ i = .int .i64 k ∧ 0 ≤ m ∧ m ≤ k ∧ Hid (isExpr e = exprAt e k m) ∧ Bw w w')
  case atStart => exact ⟨0, 0, by omega, rfl, rfl, rfl, by omega, by omega, Lib.hid rfl, Bw.refl _⟩
  case round =>
    obtain ⟨k, m, hk, rfl, rfl, rfl, m0, mk, HE, hb⟩ := hrel
    by_cases hlt : k < n
    · obtain ⟨x, hx⟩ := get_of_lt (xs := e) (k := k) (by have := L.out; omega)
      obtain ⟨ba, oa, Al, cl, Ap, cp, rfl, _, c0, c1, c2, c3, c4, c5, hl, hp⟩ := rNodes_at h hx
      have i1 : (0 : Int) ≤ (k : Int) := by omega
      have i2 : (k : Int) < (n : Int) := by omega
      have p0 := hb.cell c0
      have p1 := hb.cell c1
      have p2 := hb.cell c2
      have p3 := hb.cell c3
      have p4 := hb.cell c4
      have p5 := hb.cell c5
      have hl' := Rd.bw rInts_good hl hb
      have hp' := Rd.bw rPairs_good hp hb
      have HH := Lib.hid h
      have HGOOD := Lib.hid (show nodeOk x m = true → isExpr e = exprAt e (k + 1) (m - opnds x.op + 1) from fun hg => by rw [HE.out, exprAt_good hx hg])
      have HBAD := Lib.hid (show nodeOk x m = false → isExpr e = false from fun hg => by rw [HE.out, exprAt_bad hx hg])
      clear c0 c1 c2 c3 c4 c5 hx h hl hp HE
      by_cases o0 : x.op = 0
      · have q0 : (x.op == 0) = true := by simpa using o0
        have ho := nodeOk_base (n := x) o0 m0
        rw [ho, show opnds x.op = 0 by rw [o0]; rfl] at HGOOD
        rw [ho] at HBAD
        clear ho o0
        go_wp2_with fail
        refine (S_IsWish _ x.wish _ _ hl' hp').mono ?_
        rintro e w2 ⟨rfl, hb2⟩
        have hbb := hb.then hb2
        rcases Bool.eq_false_or_eq_true (isWish x.wish) with e1 | e1
        · have G := Lib.hid (HGOOD.out e1)
          rw [e1]
          rw [show m - 0 + 1 = m + 1 by omega] at G
          clear e1 HGOOD HBAD
          go_wp2
          go_roundg (n - (k + 1))
          case measure => omega
          case rel => exact ⟨k + 1, m + 1, by omega, rfl, rfl, by go_num, by omega, by omega, G, hbb⟩
        · have G := Lib.hid (HBAD.out e1)
          rw [e1]
          clear e1 HGOOD HBAD
          go_wp2
          go_ret
          exact Ret.bool (G.out.symm) (hbb)
      have q0 : (x.op == 0) = false := by simpa using o0
      by_cases o3 : x.op = 3
      · have q3 : (x.op == 3) = true := by simpa using o3
        have ho := nodeOk_dual (n := x) (d := m) o3
        rw [ho, show opnds x.op = 1 by rw [o3]; rfl, show m - 1 + 1 = m by omega] at HGOOD
        rw [ho] at HBAD
        clear ho o0 o3
        by_cases hd : m < 1
        · have G := Lib.hid (HBAD.out (by rw [show decide (1 ≤ m) = false by simp; omega]; rfl))
          clear HGOOD HBAD
          go_wp2
          go_ret
          exact Ret.bool (G.out.symm) (hb)
        · rw [show decide (1 ≤ m) = true by simp; omega, Bool.true_and] at HGOOD HBAD
          go_wp2_with fail
          refine (S_l5NoWish _ x.wish _ _ hl' hp').mono ?_
          rintro e w2 ⟨rfl, hb2⟩
          have hbb := hb.then hb2
          rcases Bool.eq_false_or_eq_true (decide (x.wish = noWish)) with e1 | e1
          · have G := Lib.hid (HGOOD.out e1)
            rw [e1]
            clear e1 HGOOD HBAD
            go_wp2
            go_roundg (n - (k + 1))
            case measure => omega
            case rel => exact ⟨k + 1, m, by omega, rfl, rfl, by go_num, by omega, by omega, G, hbb⟩
          · have G := Lib.hid (HBAD.out e1)
            rw [e1]
            clear e1 HGOOD HBAD
            go_wp2
            go_ret
            exact Ret.bool (G.out.symm) (hbb)
      have q3 : (x.op == 3) = false := by simpa using o3
      by_cases ot : x.op = 1 ∨ x.op = 2 ∨ x.op = 4
      · have ho := nodeOk_two (n := x) (d := m) ot
        rw [ho, show opnds x.op = 2 by rcases ot with h | h | h <;> rw [h] <;> rfl, show m - 2 + 1 = m - 1 by omega] at HGOOD
        rw [ho] at HBAD
        by_cases hd : m < 2
        · have G := Lib.hid (HBAD.out (by rw [show decide (2 ≤ m) = false by simp; omega]; rfl))
          clear HGOOD HBAD
          rcases ot with o1 | o1 | o1
          · have q1 : (x.op == 1) = true := by simpa using o1
            clear o0 o1 o3
            go_wp2
            go_ret
            exact Ret.bool (G.out.symm) (hb)
          · have q1 : (x.op == 1) = false := by simp; omega
            have q2 : (x.op == 2) = true := by simpa using o1
            clear o0 o1 o3
            go_wp2
            go_ret
            exact Ret.bool (G.out.symm) (hb)
          · have q1 : (x.op == 1) = false := by simp; omega
            have q2 : (x.op == 2) = false := by simp; omega
            have q4 : (x.op == 4) = true := by simpa using o1
            clear o0 o1 o3
            go_wp2
            go_ret
            exact Ret.bool (G.out.symm) (hb)
        · rw [show decide (2 ≤ m) = true by simp; omega, Bool.true_and] at HGOOD HBAD
          have key := S_l5NoWish wr x.wish _ _ hl' hp'
          rcases Bool.eq_false_or_eq_true (decide (x.wish = noWish)) with e1 | e1
          all_goals rw [e1] at key
          · have G := Lib.hid (HGOOD.out e1)
            clear e1 HGOOD HBAD
            rcases ot with o1 | o1 | o1
            · have q1 : (x.op == 1) = true := by simpa using o1
              clear o0 o1 o3
              go_wp2_with fail
              refine (key).mono ?_
              rintro e w2 ⟨rfl, hb2⟩
              have hbb := hb.then hb2
              go_wp2
              go_roundg (n - (k + 1))
              case measure => omega
              case rel => exact ⟨k + 1, m - 1, by omega, rfl, rfl, by go_num, by omega, by omega, G, hbb⟩
            · have q1 : (x.op == 1) = false := by simp; omega
              have q2 : (x.op == 2) = true := by simpa using o1
              clear o0 o1 o3
              go_wp2_with fail
              refine (key).mono ?_
              rintro e w2 ⟨rfl, hb2⟩
              have hbb := hb.then hb2
              go_wp2
              go_roundg (n - (k + 1))
              case measure => omega
              case rel => exact ⟨k + 1, m - 1, by omega, rfl, rfl, by go_num, by omega, by omega, G, hbb⟩
            · have q1 : (x.op == 1) = false := by simp; omega
              have q2 : (x.op == 2) = false := by simp; omega
              have q4 : (x.op == 4) = true := by simpa using o1
              clear o0 o1 o3
              go_wp2_with fail
              refine (key).mono ?_
              rintro e w2 ⟨rfl, hb2⟩
              have hbb := hb.then hb2
              go_wp2
              go_roundg (n - (k + 1))
              case measure => omega
              case rel => exact ⟨k + 1, m - 1, by omega, rfl, rfl, by go_num, by omega, by omega, G, hbb⟩
          · have G := Lib.hid (HBAD.out e1)
            clear e1 HGOOD HBAD
            rcases ot with o1 | o1 | o1
            · have q1 : (x.op == 1) = true := by simpa using o1
              clear o0 o1 o3
              go_wp2_with fail
              refine (key).mono ?_
              rintro e w2 ⟨rfl, hb2⟩
              go_wp2
              go_ret
              exact Ret.bool (G.out.symm) (hb.then hb2)
            · have q1 : (x.op == 1) = false := by simp; omega
              have q2 : (x.op == 2) = true := by simpa using o1
              clear o0 o1 o3
              go_wp2_with fail
              refine (key).mono ?_
              rintro e w2 ⟨rfl, hb2⟩
              go_wp2
              go_ret
              exact Ret.bool (G.out.symm) (hb.then hb2)
            · have q1 : (x.op == 1) = false := by simp; omega
              have q2 : (x.op == 2) = false := by simp; omega
              have q4 : (x.op == 4) = true := by simpa using o1
              clear o0 o1 o3
              go_wp2_with fail
              refine (key).mono ?_
              rintro e w2 ⟨rfl, hb2⟩
              go_wp2
              go_ret
              exact Ret.bool (G.out.symm) (hb.then hb2)
      have q1 : (x.op == 1) = false := by simp; omega
      have q2 : (x.op == 2) = false := by simp; omega
      have q4 : (x.op == 4) = false := by simp; omega
      have G := Lib.hid (HBAD.out (nodeOk_none o0 (by omega) (by omega) o3 (by omega)))
      clear HGOOD HBAD o0 o3 ot
      go_wp2
      go_ret
      exact Ret.bool (G.out.symm) (hb)
    · obtain rfl : k = n := by omega
      have HF := Lib.hid (show isExpr e = (decide (m = 1) && decide (k ≤ 9)) by rw [HE.out, exprAt_end L.out.symm])
      clear HE hlt
      by_cases hm : m = 1
      · have q1 : (m == 1) = true := by simpa using hm
        by_cases h9 : (k : Int) ≤ 9
        · have G := Lib.hid (show isExpr e = true by rw [HF.out]; simp [hm]; omega)
          clear hm HF
          go_wp2
          go_ret
          exact Ret.bool (G.out.symm) (hb)
        · have G := Lib.hid (show isExpr e = false by rw [HF.out]; simp; omega)
          clear hm HF
          go_wp2
          go_ret
          exact Ret.bool (G.out.symm) (hb)
      · have q1 : (m == 1) = false := by simpa using hm
        have G := Lib.hid (show isExpr e = false by rw [HF.out]; simp [hm])
        clear hm HF
        go_wp2
        go_ret
        exact Ret.bool (G.out.symm) (hb)
end Go.Proofs.YthlaabaffbffkaaGreat
