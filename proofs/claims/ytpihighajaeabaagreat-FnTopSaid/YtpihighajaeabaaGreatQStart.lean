/- Where the part of an expression begins that ends at a node, in both programs. -/
import Derived.Test.YtpihighajaeabaaGreatQWishS
import Derived.Test.YtpihighajaeabaaGreatQTree
import Derived.Test.YtpihighajaeabaaGreatQWishI
namespace Go.Proofs.YtpihighajaeabaaGreat
open Go.RowKit
set_option linter.unusedVariables false
set_option linter.unusedSimpArgs false
theorem noWish_dec (x : GWish) : decide (x = noWish) = (decide (x.kind = 0) && (decide (x.field = 0) && (decide (x.value = 0) && (decide (x.list.length = 0) && decide (x.pairs.length = 0))))) := by
  rw [Bool.eq_iff_iff]; simp [GWish.eq_iff, noWish]
set_option maxRecDepth 100000 in
set_option maxHeartbeats 1600000 in
theorem S_l5NoWish (w : World) (x : GWish) (v u : Value) (h : Rd rInts w x.list [v]) (h' : Rd rPairs w x.pairs [u]) :
    Calls Tryz.prog 112 #[.agg #[.int .i64 x.kind, .int .i64 x.field, .int .i64 x.value, v, u]] w (Ret w (.bool (decide (x = noWish)))) := by
  obtain ⟨A, n, c, rfl, L0, Lc, Lm⟩ := rSl_open h
  unfold maxLen at Lm
  have L := Lib.hid L0
  clear L0
  obtain ⟨B, m, c', rfl, M0, Mc, Mm⟩ := rSl_open h'
  unfold maxLen at Mm
  have M := Lib.hid M0
  clear M0
  have HD := Lib.hid (noWish_dec x)
  rw [← L.out, ← M.out] at HD
  have B0 : Bw w (w.alloc (.cells #[.int .i64 x.kind, .int .i64 x.field, .int .i64 x.value, .slice A n c, .slice B m c'] 109)) := (Bw.refl w).alloc _
  by_cases e1 : x.kind = 0
  · by_cases e2 : x.field = 0
    · by_cases e3 : x.value = 0
      · have a1 : (x.kind == 0) = true := by simpa using e1
        have a2 : (x.field == 0) = true := by simpa using e2
        have a3 : (x.value == 0) = true := by simpa using e3
        by_cases e4 : n = 0
        · by_cases e5 : m = 0
          · have E := Lib.hid (show decide (x = noWish) = true by rw [HD.out]; simp [e1, e2, e3, e4, e5])
            subst e4 e5
            clear e1 e2 e3 HD
            go_enter Tryz.func112, Tryz.ntmps112
            go_wp2
            go_ret
            exact Ret.bool (E.out.symm) (B0)
          · have E := Lib.hid (show decide (x = noWish) = false by rw [HD.out]; simp [e5])
            have a5 : ((m : Int) == 0) = false := by simp; omega
            subst e4
            clear e1 e2 e3 HD
            go_enter Tryz.func112, Tryz.ntmps112
            go_wp2
            go_ret
            exact Ret.bool (E.out.symm) (B0)
        · have E := Lib.hid (show decide (x = noWish) = false by rw [HD.out]; simp [e4])
          have a4 : ((n : Int) == 0) = false := by simp; omega
          clear e1 e2 e3 HD
          go_enter Tryz.func112, Tryz.ntmps112
          go_wp2
          go_ret
          exact Ret.bool (E.out.symm) (B0)
      · have E := Lib.hid (show decide (x = noWish) = false by rw [HD.out]; simp [e3])
        have a1 : (x.kind == 0) = true := by simpa using e1
        have a2 : (x.field == 0) = true := by simpa using e2
        have a3 : (x.value == 0) = false := by simpa using e3
        clear e1 e2 e3 HD
        go_enter Tryz.func112, Tryz.ntmps112
        go_wp2
        go_ret
        exact Ret.bool (E.out.symm) (B0)
    · have E := Lib.hid (show decide (x = noWish) = false by rw [HD.out]; simp [e2])
      have a1 : (x.kind == 0) = true := by simpa using e1
      have a2 : (x.field == 0) = false := by simpa using e2
      clear e1 e2 HD
      go_enter Tryz.func112, Tryz.ntmps112
      go_wp2
      go_ret
      exact Ret.bool (E.out.symm) (B0)
  · have E := Lib.hid (show decide (x = noWish) = false by rw [HD.out]; simp [e1])
    have a1 : (x.kind == 0) = false := by simpa using e1
    clear e1 HD
    go_enter Tryz.func112, Tryz.ntmps112
    go_wp2
    go_ret
    exact Ret.bool (E.out.symm) (B0)
theorem depth_bad {e : List GNode} {k : Nat} {d : Int} {n : GNode} (hn : e[k]? = some n) (h : nodeOk n d = false) : depthOf (e.drop k) d = none := by
  rw [drop_cons hn, depthOf, h]; rfl
theorem depth_good {e : List GNode} {k : Nat} {d : Int} {n : GNode} (hn : e[k]? = some n) (h : nodeOk n d = true) : depthOf (e.drop k) d = depthOf (e.drop (k + 1)) (d - opnds n.op + 1) := by
  rw [drop_cons hn, depthOf, if_pos h]
def exprAt (e : List GNode) (k : Nat) (d : Int) : Bool := decide (depthOf (e.drop k) d = some 1) && decide (e.length ≤ 9)
theorem exprAt_bad {e : List GNode} {k : Nat} {d : Int} {n : GNode} (hn : e[k]? = some n) (h : nodeOk n d = false) : exprAt e k d = false := by rw [exprAt, depth_bad hn h]; rfl
theorem exprAt_good {e : List GNode} {k : Nat} {d : Int} {n : GNode} (hn : e[k]? = some n) (h : nodeOk n d = true) : exprAt e k d = exprAt e (k + 1) (d - opnds n.op + 1) := by rw [exprAt, depth_good hn h]; rfl
theorem exprAt_end {e : List GNode} {k : Nat} {d : Int} (hk : e.length = k) : exprAt e k d = (decide (d = 1) && decide (k ≤ 9)) := by
  rw [exprAt, List.drop_of_length_le (by omega), depthOf, hk]; simp
theorem nodeOk_base {n : GNode} {d : Int} (h0 : n.op = 0) (hd : 0 ≤ d) : nodeOk n d = isWish n.wish := by
  unfold nodeOk; rw [h0]; simp [inB, opnds, hd]
theorem nodeOk_dual {n : GNode} {d : Int} (h0 : n.op = 3) : nodeOk n d = (decide (1 ≤ d) && decide (n.wish = noWish)) := by
  unfold nodeOk; rw [h0]; simp [inB, opnds]
theorem nodeOk_two {n : GNode} {d : Int} (h0 : n.op = 1 ∨ n.op = 2 ∨ n.op = 4) : nodeOk n d = (decide (2 ≤ d) && decide (n.wish = noWish)) := by
  unfold nodeOk
  rcases h0 with h0 | h0 | h0 <;> rw [h0] <;> simp [inB, opnds]
theorem nodeOk_none {n : GNode} {d : Int} (h0 : ¬ n.op = 0) (h1 : ¬ n.op = 1) (h2 : ¬ n.op = 2) (h3 : ¬ n.op = 3) (h4 : ¬ n.op = 4) : nodeOk n d = false := by
  unfold nodeOk
  have : inB n.op 0 4 = false := by simp [inB]; omega
  rw [this]; rfl
set_option maxRecDepth 100000 in
set_option maxHeartbeats 3200000 in
theorem S_IsExpression (w : World) (e : List GNode) (v : Value) (h : Rd rNodes w e [v]) : Calls Tryz.prog 31 #[v] w (Ret w (.bool (isExpr e))) := by
  obtain ⟨A, n, c, rfl, L0, Lc, Lm⟩ := rSl_open h
  unfold maxLen at Lm
  have L := Lib.hid L0
  clear L0
  go_enter Tryz.func31, Tryz.ntmps31
  go_wp2
  go_loopg [3, 4] n (fun g d i w' => ∃ (k : Nat) (m : Int), k ≤ n ∧ g = n - k ∧ d = .int .i64 m ∧ i = .int .i64 k ∧ 0 ≤ m ∧ m ≤ k ∧ Hid (isExpr e = exprAt e k m) ∧ Bw w w')
  case atStart => exact ⟨0, 0, by omega, rfl, rfl, rfl, by omega, by omega, Lib.hid rfl, Bw.refl _⟩
  case round =>
    obtain ⟨k, m, hk, rfl, rfl, rfl, m0, mk, HE, hb⟩ := hrel
    by_cases hlt : k < n
    · obtain ⟨x, hx⟩ := get_of_lt (xs := e) (k := k) (by have := L.out; omega)
      obtain ⟨ba, oa, Al, cl, Ap, cp, rfl, _, c0, c1, c2, c3, c4, c5, hl, hp⟩ := rNodes_at h hx
      have i1 : (0 : Int) ≤ (k : Int) := by omega
      have i2 : (k : Int) < (n : Int) := by omega
      have p0 := hb.cell c0
      have p1 := hb.cell c1
      have p2 := hb.cell c2
      have p3 := hb.cell c3
      have p4 := hb.cell c4
      have p5 := hb.cell c5
      have hl' := Rd.bw rInts_good hl hb
      have hp' := Rd.bw rPairs_good hp hb
      have HH := Lib.hid h
      have HGOOD := Lib.hid (show nodeOk x m = true → isExpr e = exprAt e (k + 1) (m - opnds x.op + 1) from fun hg => by rw [HE.out, exprAt_good hx hg])
      have HBAD := Lib.hid (show nodeOk x m = false → isExpr e = false from fun hg => by rw [HE.out, exprAt_bad hx hg])
      clear c0 c1 c2 c3 c4 c5 hx h hl hp HE
      by_cases o0 : x.op = 0
      · have q0 : (x.op == 0) = true := by simpa using o0
        have ho := nodeOk_base (n := x) o0 m0
        rw [ho, show opnds x.op = 0 by rw [o0]; rfl] at HGOOD
        rw [ho] at HBAD
        clear ho o0
        go_wp2_with fail
        refine (S_IsWish _ x.wish _ _ hl' hp').mono ?_
        rintro e w2 ⟨rfl, hb2⟩
        have hbb := hb.then hb2
        rcases Bool.eq_false_or_eq_true (isWish x.wish) with e1 | e1
        · have G := Lib.hid (HGOOD.out e1)
          rw [e1]
          rw [show m - 0 + 1 = m + 1 by omega] at G
          clear e1 HGOOD HBAD
          go_wp2
          go_roundg (n - (k + 1))
          case measure => omega
          case rel => exact ⟨k + 1, m + 1, by omega, rfl, rfl, by go_num, by omega, by omega, G, hbb⟩
        · have G := Lib.hid (HBAD.out e1)
          rw [e1]
          clear e1 HGOOD HBAD
          go_wp2
          go_ret
          exact Ret.bool (G.out.symm) (hbb)
      have q0 : (x.op == 0) = false := by simpa using o0
      by_cases o3 : x.op = 3
      · have q3 : (x.op == 3) = true := by simpa using o3
        have ho := nodeOk_dual (n := x) (d := m) o3
        rw [ho, show opnds x.op = 1 by rw [o3]; rfl, show m - 1 + 1 = m by omega] at HGOOD
        rw [ho] at HBAD
        clear ho o0 o3
        by_cases hd : m < 1
        · have G := Lib.hid (HBAD.out (by rw [show decide (1 ≤ m) = false by simp; omega]; rfl))
          clear HGOOD HBAD
          go_wp2
          go_ret
          exact Ret.bool (G.out.symm) (hb)
        · rw [show decide (1 ≤ m) = true by simp; omega, Bool.true_and] at HGOOD HBAD
          go_wp2_with fail
          refine (S_l5NoWish _ x.wish _ _ hl' hp').mono ?_
          rintro e w2 ⟨rfl, hb2⟩
          have hbb := hb.then hb2
          rcases Bool.eq_false_or_eq_true (decide (x.wish = noWish)) with e1 | e1
          · have G := Lib.hid (HGOOD.out e1)
            rw [e1]
            clear e1 HGOOD HBAD
            go_wp2
            go_roundg (n - (k + 1))
            case measure => omega
            case rel => exact ⟨k + 1, m, by omega, rfl, rfl, by go_num, by omega, by omega, G, hbb⟩
          · have G := Lib.hid (HBAD.out e1)
            rw [e1]
            clear e1 HGOOD HBAD
            go_wp2
            go_ret
            exact Ret.bool (G.out.symm) (hbb)
      have q3 : (x.op == 3) = false := by simpa using o3
      by_cases ot : x.op = 1 ∨ x.op = 2 ∨ x.op = 4
      · have ho := nodeOk_two (n := x) (d := m) ot
        rw [ho, show opnds x.op = 2 by rcases ot with h | h | h <;> rw [h] <;> rfl, show m - 2 + 1 = m - 1 by omega] at HGOOD
        rw [ho] at HBAD
        by_cases hd : m < 2
        · have G := Lib.hid (HBAD.out (by rw [show decide (2 ≤ m) = false by simp; omega]; rfl))
          clear HGOOD HBAD
          rcases ot with o1 | o1 | o1
          · have q1 : (x.op == 1) = true := by simpa using o1
            clear o0 o1 o3
            go_wp2
            go_ret
            exact Ret.bool (G.out.symm) (hb)
          · have q1 : (x.op == 1) = false := by simp; omega
            have q2 : (x.op == 2) = true := by simpa using o1
            clear o0 o1 o3
            go_wp2
            go_ret
            exact Ret.bool (G.out.symm) (hb)
          · have q1 : (x.op == 1) = false := by simp; omega
            have q2 : (x.op == 2) = false := by simp; omega
            have q4 : (x.op == 4) = true := by simpa using o1
            clear o0 o1 o3
            go_wp2
            go_ret
            exact Ret.bool (G.out.symm) (hb)
        · rw [show decide (2 ≤ m) = true by simp; omega, Bool.true_and] at HGOOD HBAD
          have key := S_l5NoWish wr x.wish _ _ hl' hp'
          rcases Bool.eq_false_or_eq_true (decide (x.wish = noWish)) with e1 | e1
          all_goals rw [e1] at key
          · have G := Lib.hid (HGOOD.out e1)
            clear e1 HGOOD HBAD
            rcases ot with o1 | o1 | o1
            · have q1 : (x.op == 1) = true := by simpa using o1
              clear o0 o1 o3
              go_wp2_with fail
              refine (key).mono ?_
              rintro e w2 ⟨rfl, hb2⟩
              have hbb := hb.then hb2
              go_wp2
              go_roundg (n - (k + 1))
              case measure => omega
              case rel => exact ⟨k + 1, m - 1, by omega, rfl, rfl, by go_num, by omega, by omega, G, hbb⟩
            · have q1 : (x.op == 1) = false := by simp; omega
              have q2 : (x.op == 2) = true := by simpa using o1
              clear o0 o1 o3
              go_wp2_with fail
              refine (key).mono ?_
              rintro e w2 ⟨rfl, hb2⟩
              have hbb := hb.then hb2
              go_wp2
              go_roundg (n - (k + 1))
              case measure => omega
              case rel => exact ⟨k + 1, m - 1, by omega, rfl, rfl, by go_num, by omega, by omega, G, hbb⟩
            · have q1 : (x.op == 1) = false := by simp; omega
              have q2 : (x.op == 2) = false := by simp; omega
              have q4 : (x.op == 4) = true := by simpa using o1
              clear o0 o1 o3
              go_wp2_with fail
              refine (key).mono ?_
              rintro e w2 ⟨rfl, hb2⟩
              have hbb := hb.then hb2
              go_wp2
              go_roundg (n - (k + 1))
              case measure => omega
              case rel => exact ⟨k + 1, m - 1, by omega, rfl, rfl, by go_num, by omega, by omega, G, hbb⟩
          · have G := Lib.hid (HBAD.out e1)
            clear e1 HGOOD HBAD
            rcases ot with o1 | o1 | o1
            · have q1 : (x.op == 1) = true := by simpa using o1
              clear o0 o1 o3
              go_wp2_with fail
              refine (key).mono ?_
              rintro e w2 ⟨rfl, hb2⟩
              go_wp2
              go_ret
              exact Ret.bool (G.out.symm) (hb.then hb2)
            · have q1 : (x.op == 1) = false := by simp; omega
              have q2 : (x.op == 2) = true := by simpa using o1
              clear o0 o1 o3
              go_wp2_with fail
              refine (key).mono ?_
              rintro e w2 ⟨rfl, hb2⟩
              go_wp2
              go_ret
              exact Ret.bool (G.out.symm) (hb.then hb2)
            · have q1 : (x.op == 1) = false := by simp; omega
              have q2 : (x.op == 2) = false := by simp; omega
              have q4 : (x.op == 4) = true := by simpa using o1
              clear o0 o1 o3
              go_wp2_with fail
              refine (key).mono ?_
              rintro e w2 ⟨rfl, hb2⟩
              go_wp2
              go_ret
              exact Ret.bool (G.out.symm) (hb.then hb2)
      have q1 : (x.op == 1) = false := by simp; omega
      have q2 : (x.op == 2) = false := by simp; omega
      have q4 : (x.op == 4) = false := by simp; omega
      have G := Lib.hid (HBAD.out (nodeOk_none o0 (by omega) (by omega) o3 (by omega)))
      clear HGOOD HBAD o0 o3 ot
      go_wp2
      go_ret
      exact Ret.bool (G.out.symm) (hb)
    · obtain rfl : k = n := by omega
      have HF := Lib.hid (show isExpr e = (decide (m = 1) && decide (k ≤ 9)) by rw [HE.out, exprAt_end L.out.symm])
      clear HE hlt
      by_cases hm : m = 1
      · have q1 : (m == 1) = true := by simpa using hm
        by_cases h9 : (k : Int) ≤ 9
        · have G := Lib.hid (show isExpr e = true by rw [HF.out]; simp [hm]; omega)
          clear hm HF
          go_wp2
          go_ret
          exact Ret.bool (G.out.symm) (hb)
        · have G := Lib.hid (show isExpr e = false by rw [HF.out]; simp; omega)
          clear hm HF
          go_wp2
          go_ret
          exact Ret.bool (G.out.symm) (hb)
      · have q1 : (m == 1) = false := by simpa using hm
        have G := Lib.hid (show isExpr e = false by rw [HF.out]; simp [hm])
        clear hm HF
        go_wp2
        go_ret
        exact Ret.bool (G.out.symm) (hb)
end Go.Proofs.YtpihighajaeabaaGreat

namespace Go.Proofs.YtpihighajaeabaaGreat
open Go.RowKit
set_option linter.unusedVariables false
set_option linter.unusedSimpArgs false
theorem I_operands (w : World) (op : Int) : Calls Tryz.prog 184 #[.int .i64 op] w (Ret w (.int .i64 (opnds op))) := by
  by_cases h0 : op = 0
  · have q0 : (op == 0) = true := by simpa using h0
    have E := Lib.hid (show opnds op = 0 by rw [opnds, if_pos h0])
    clear h0
    go_enter Tryz.func184, Tryz.ntmps184
    go_wp2
    go_ret
    exact Ret.int (E.out.symm) (Bw.refl _)
  have q0 : (op == 0) = false := by simpa using h0
  by_cases h3 : op = 3
  · have q3 : (op == 3) = true := by simpa using h3
    have E := Lib.hid (show opnds op = 1 by rw [opnds, if_neg h0, if_pos h3])
    clear h0 h3
    go_enter Tryz.func184, Tryz.ntmps184
    go_wp2
    go_ret
    exact Ret.int (E.out.symm) (Bw.refl _)
  · have q3 : (op == 3) = false := by simpa using h3
    have E := Lib.hid (show opnds op = 2 by rw [opnds, if_neg h0, if_neg h3])
    clear h0 h3
    go_enter Tryz.func184, Tryz.ntmps184
    go_wp2
    go_ret
    exact Ret.int (E.out.symm) (Bw.refl _)
theorem opnds_bd (op : Int) : 0 ≤ opnds op ∧ opnds op ≤ 2 := by
  unfold opnds
  repeat' split
  all_goals omega
set_option maxRecDepth 100000 in
set_option maxHeartbeats 3200000 in
theorem I_IsExpression (w : World) (e : List GNode) (v : Value) (h : Rd rNodes w e [v]) : Calls Tryz.prog 133 #[v] w (Ret w (.bool (isExpr e))) := by
  obtain ⟨A, n, c, rfl, L0, Lc, Lm⟩ := rSl_open h
  unfold maxLen at Lm
  have L := Lib.hid L0
  clear L0
  go_enter Tryz.func133, Tryz.ntmps133
  go_wp2
  go_loopg [3, 8] n (fun g d i w' => ∃ (k : Nat) (m : Int), k ≤ n ∧ g = n - k ∧ d = .int .i64 m ∧ i = .int .i64 k ∧ 0 ≤ m ∧ m ≤ k ∧ Hid (isExpr e = exprAt e k m) ∧ Bw w w')
  case atStart => exact ⟨0, 0, by omega, rfl, rfl, rfl, by omega, by omega, Lib.hid rfl, Bw.refl _⟩
  case round =>
    obtain ⟨k, m, hk, rfl, rfl, rfl, m0, mk, HE, hb⟩ := hrel
    by_cases hlt : k < n
    · obtain ⟨x, hx⟩ := get_of_lt (xs := e) (k := k) (by have := L.out; omega)
      obtain ⟨ba, oa, Al, cl, Ap, cp, rfl, _, c0, c1, c2, c3, c4, c5, hl, hp⟩ := rNodes_at h hx
      have i1 : (0 : Int) ≤ (k : Int) := by omega
      have i2 : (k : Int) < (n : Int) := by omega
      replace c0 := hb.cell c0
      replace c1 := hb.cell c1
      replace c2 := hb.cell c2
      replace c3 := hb.cell c3
      replace c4 := hb.cell c4
      replace c5 := hb.cell c5
      have D1 : Bw wr (wr.alloc (.cells #[.int .i64 x.op, .int .i64 x.wish.kind, .int .i64 x.wish.field, .int .i64 x.wish.value, .slice Al x.wish.list.length cl, .slice Ap x.wish.pairs.length cp] 111)) := (Bw.refl wr).alloc _
      have HH := Lib.hid h
      have hbx := World.block_lt_of_cell? _ _ c0
      have hO0 := opnds_bd x.op
      obtain ⟨O, hO⟩ : ∃ O, O = opnds x.op := ⟨_, rfl⟩
      have key : ∀ W, Calls Tryz.prog 184 #[.int .i64 x.op] W (Ret W (.int .i64 O)) := fun W => by rw [hO]; exact I_operands W x.op
      have HGOOD := Lib.hid (show nodeOk x m = true → isExpr e = exprAt e (k + 1) (m - O + 1) from fun hg => by rw [HE.out, exprAt_good hx hg, hO])
      have HBAD := Lib.hid (show nodeOk x m = false → isExpr e = false from fun hg => by rw [HE.out, exprAt_bad hx hg])
      have HN := Lib.hid (show nodeOk x m = (inB x.op 0 4 && (decide (O ≤ m) && if x.op = 0 then isWish x.wish else decide (x.wish = noWish))) by rw [hO]; rfl)
      rw [← hO] at hO0
      clear hx h HE hO
      go_wp2_with fail
      refine (I_within _ _ _ _).mono ?_
      rintro e w2 ⟨rfl, hb2⟩
      have p0 : w2.cell? ⟨wr.heap.size, 0, none⟩ = some (.int .i64 x.op) := hb2.cell (by go_simp)
      have p1 : w2.cell? ⟨wr.heap.size, 1, none⟩ = some (.int .i64 x.wish.kind) := hb2.cell (by go_simp)
      have p2 : w2.cell? ⟨wr.heap.size, 2, none⟩ = some (.int .i64 x.wish.field) := hb2.cell (by go_simp)
      have p3 : w2.cell? ⟨wr.heap.size, 3, none⟩ = some (.int .i64 x.wish.value) := hb2.cell (by go_simp)
      have p4 : w2.cell? ⟨wr.heap.size, 4, none⟩ = some (.slice Al x.wish.list.length cl) := hb2.cell (by go_simp)
      have p5 : w2.cell? ⟨wr.heap.size, 5, none⟩ = some (.slice Ap x.wish.pairs.length cp) := hb2.cell (by go_simp)
      have D2 := D1.then hb2
      have B2 := hb.then D2
      have hl2 := Rd.bw rInts_good hl B2
      have hp2 := Rd.bw rPairs_good hp B2
      clear c0 c1 c2 c3 c4 c5 D1 hb2 hl hp
      rcases Bool.eq_false_or_eq_true (inB x.op 0 4) with e1 | e1
      · have E1 := Lib.hid e1
        rw [e1]
        clear e1
        go_wp2_with fail
        refine (key _).mono ?_
        rintro e w3 ⟨rfl, hb3⟩
        replace p0 := hb3.cell p0
        replace p1 := hb3.cell p1
        replace p2 := hb3.cell p2
        replace p3 := hb3.cell p3
        replace p4 := hb3.cell p4
        replace p5 := hb3.cell p5
        have B3 := B2.then hb3
        replace hl2 := Rd.bw rInts_good hl2 hb3
        replace hp2 := Rd.bw rPairs_good hp2 hb3
        by_cases hd : m < O
        · have G := Lib.hid (HBAD.out (by rw [HN.out, show decide (O ≤ m) = false by simp; omega]; simp))
          clear HGOOD HBAD HN
          go_wp2
          go_ret
          exact Ret.bool (G.out.symm) (B3)
        · by_cases o0 : x.op = 0
          · have q0 : (x.op == 0) = true := by simpa using o0
            have q1 : (x.op != 0) = false := by simpa using o0
            have HN2 := Lib.hid (show nodeOk x m = isWish x.wish by rw [HN.out, E1.out, if_pos o0, show decide (O ≤ m) = true by simp; omega]; rfl)
            clear o0 HN
            go_wp2_with fail
            refine (I_IsWish _ x.wish _ _ hl2 hp2).mono ?_
            rintro e w4 ⟨rfl, hb4⟩
            replace p0 := hb4.cell p0
            have B4 := B3.then hb4
            rcases Bool.eq_false_or_eq_true (isWish x.wish) with e2 | e2
            · have G := Lib.hid (HGOOD.out (by rw [HN2.out, e2]))
              rw [e2]
              clear e2 HGOOD HBAD HN2
              go_wp2_with fail
              refine (key _).mono ?_
              rintro e w5 ⟨rfl, hb5⟩
              go_wp2
              go_roundg (n - (k + 1))
              case measure => omega
              case rel => exact ⟨k + 1, m - O + 1, by omega, rfl, rfl, by go_num, by omega, by omega, G, B4.then hb5⟩
            · have G := Lib.hid (HBAD.out (by rw [HN2.out, e2]))
              rw [e2]
              clear e2 HGOOD HBAD HN2
              go_wp2
              go_ret
              exact Ret.bool (G.out.symm) (B4)
          · have q0 : (x.op == 0) = false := by simpa using o0
            have q1 : (x.op != 0) = true := by simpa using o0
            have HN2 := Lib.hid (show nodeOk x m = decide (x.wish = noWish) by rw [HN.out, E1.out, if_neg o0, show decide (O ≤ m) = true by simp; omega]; rfl)
            clear o0 HN
            go_wp2_with fail
            refine (I_equalWish _ x.wish noWish _ (.slice none 0 0) _ (.slice none 0 0) hl2 rSl_nil hp2 rSl_nil).mono ?_
            rintro e w4 ⟨rfl, hb4⟩
            replace p0 := hb4.cell p0
            have B4 := B3.then hb4
            rcases Bool.eq_false_or_eq_true (decide (x.wish = noWish)) with e2 | e2
            · have G := Lib.hid (HGOOD.out (by rw [HN2.out, e2]))
              rw [e2]
              clear e2 HGOOD HBAD HN2
              go_wp2_with fail
              refine (key _).mono ?_
              rintro e w5 ⟨rfl, hb5⟩
              go_wp2
              go_roundg (n - (k + 1))
              case measure => omega
              case rel => exact ⟨k + 1, m - O + 1, by omega, rfl, rfl, by go_num, by omega, by omega, G, B4.then hb5⟩
            · have G := Lib.hid (HBAD.out (by rw [HN2.out, e2]))
              rw [e2]
              clear e2 HGOOD HBAD HN2
              go_wp2
              go_ret
              exact Ret.bool (G.out.symm) (B4)
      · have G := Lib.hid (HBAD.out (by rw [HN.out, e1]; rfl))
        rw [e1]
        clear e1 HGOOD HBAD HN
        go_wp2
        go_ret
        exact Ret.bool (G.out.symm) (B2)
    · obtain rfl : k = n := by omega
      have HF := Lib.hid (show isExpr e = (decide (m = 1) && decide (k ≤ 9)) by rw [HE.out, exprAt_end L.out.symm])
      clear HE hlt
      by_cases hm : m = 1
      · have q1 : (m == 1) = true := by simpa using hm
        by_cases h9 : (k : Int) ≤ 9
        · have G := Lib.hid (show isExpr e = true by rw [HF.out]; simp [hm]; omega)
          clear hm HF
          go_wp2
          go_ret
          exact Ret.bool (G.out.symm) (hb)
        · have G := Lib.hid (show isExpr e = false by rw [HF.out]; simp; omega)
          clear hm HF
          go_wp2
          go_ret
          exact Ret.bool (G.out.symm) (hb)
      · have q1 : (m == 1) = false := by simpa using hm
        have G := Lib.hid (show isExpr e = false by rw [HF.out]; simp [hm])
        clear hm HF
        go_wp2
        go_ret
        exact Ret.bool (G.out.symm) (hb)
end Go.Proofs.YtpihighajaeabaaGreat

namespace Go.Proofs.YtpihighajaeabaaGreat
open Go.RowKit
set_option linter.unusedVariables false
set_option linter.unusedSimpArgs false
theorem flats_ge : ∀ ts : List XT, ts.length ≤ (flats ts).length
  | [] => Nat.le_refl _
  | t :: ts => by
    have h1 := flat_pos t
    have h2 := flats_ge ts
    have e : flats (t :: ts) = flat t ++ flats ts := by simp [flats]
    rw [e, List.length_append, List.length_cons]; omega
theorem flats_one (t : XT) : flats [t] = flat t := by simp [flats]
set_option maxRecDepth 100000 in
set_option maxHeartbeats 1600000 in
theorem I_start (w : World) (e pre : List GNode) (t : XT) (m : Nat) (v : Value) (h : Rd rNodes w e [v]) (hok : okT t) (hm : m < e.length) (h9 : e.length ≤ 9) (he : e.take (m + 1) = pre ++ flat t) :
    Calls Tryz.prog 181 #[v, .int .i64 (m : Int)] w (Ret w (.int .i64 (pre.length : Int))) := by
  have HT := Lib.hid (show ∀ s ∈ [t], okT s from fun s hs => by simp at hs; rw [hs]; exact hok)
  have HE := Lib.hid (show e.take (m + 1) = pre ++ flats [t] by rw [flats_one]; exact he)
  obtain ⟨A, n, c, rfl, L0, Lc, Lm⟩ := rSl_open h
  unfold maxLen at Lm
  have L := Lib.hid L0
  clear L0
  rw [← L.out] at hm h9
  clear he hok
  go_enter Tryz.func181, Tryz.ntmps181
  go_wp2
  go_loopg [5, 6] (m + 1) (fun g d i w' => ∃ (k : Nat) (ts : List XT) (z : Nat), k < n ∧ g = k + 1 ∧ i = .int .i64 k ∧ d = .int .i64 z ∧ Hid (z = ts.length) ∧ 0 < z ∧ z ≤ 9 ∧ Hid (∀ s ∈ ts, okT s) ∧ Hid (e.take (k + 1) = pre ++ flats ts) ∧ Bw w w')
  case atStart => exact ⟨m, [t], 1, hm, rfl, rfl, rfl, Lib.hid rfl, by omega, by omega, HT, HE, Bw.refl _⟩
  case round =>
    clear HT HE
    obtain ⟨k, ts, z, hk, rfl, rfl, rfl, HZ, z0, z9, HT, HE, hb⟩ := hrel
    obtain ⟨x, ts2, hx, hok2, hlen, htk, hop⟩ := back_step HT.out (by rw [← HZ.out]; exact z0) HE.out (by rw [← L.out]; exact hk)
    obtain ⟨ba, oa, Al, cl, Ap, cp, rfl, _, c0, _⟩ := rNodes_at h hx
    have i1 : (0 : Int) ≤ (k : Int) := by omega
    have i2 : (k : Int) < (n : Int) := by omega
    replace c0 := hb.cell c0
    have hO := opnds_bd x.op
    have hl2 : ts2.length ≤ 9 := by
      have h1 := flats_ge ts2
      have h2 := congrArg List.length htk
      rw [List.length_append, List.length_take, ← L.out] at h2
      omega
    obtain ⟨O, hOe⟩ : ∃ O, O = opnds x.op := ⟨_, rfl⟩
    have key : ∀ W, Calls Tryz.prog 184 #[.int .i64 x.op] W (Ret W (.int .i64 O)) := fun W => by rw [hOe]; exact I_operands W x.op
    rw [← hOe] at hlen hO
    obtain ⟨y, hy⟩ : ∃ y, y = ts2.length := ⟨_, rfl⟩
    rw [← hy] at hlen hl2
    rw [← HZ.out] at hlen
    have HY := Lib.hid hy
    have HTK := Lib.hid htk
    have HO2 := Lib.hid hok2
    have HLEN := Lib.hid hlen
    have HPRE := Lib.hid (show y = 0 → (pre.length : Int) = (k : Int) from fun h0 => by
      have h2 := congrArg List.length htk
      rw [show ts2 = [] from List.eq_nil_of_length_eq_zero (by rw [← hy]; exact h0), flats_nil, List.append_nil, List.length_take, ← L.out] at h2
      omega)
    have HK1 := Lib.hid (show 0 < y → 1 ≤ k from fun h0 => by
      have h1 := flats_pos (ts := ts2) (by rw [← hy]; exact h0)
      have h2 := congrArg List.length htk
      rw [List.length_append, List.length_take, ← L.out] at h2
      omega)
    have HH := Lib.hid h
    clear hx hok2 htk hop hOe hy hlen h
    go_wp2_with fail
    refine (key _).mono ?_
    rintro e w2 ⟨rfl, hb2⟩
    have hbb := hb.then hb2
    have hO3 : O = (y : Int) - (z : Int) + 1 := by have := HLEN.out; omega
    clear key HLEN c0
    by_cases hy0 : y = 0
    · have e1 : ((z : Int) - 1 + O == 0) = true := by simp; omega
      have HF := Lib.hid (HPRE.out hy0)
      have hO4 := Lib.hid hO3
      clear hO3
      go_wp2
      go_ret
      exact Ret.int (HF.out.symm) (hbb)
    · have e1 : ((z : Int) - 1 + O == 0) = false := by simp; omega
      have hk1 := HK1.out (by omega)
      have HO4 := Lib.hid hO3
      have h := HH.out
      clear hO3
      go_wp2
      go_roundg k
      case measure => omega
      case rel => exact ⟨k - 1, ts2, y, by omega, by omega, by go_num, by have := HO4.out; go_num, HY, by omega, by omega, HO2, Lib.hid (by rw [show k - 1 + 1 = k by omega]; exact HTK.out), hbb⟩
end Go.Proofs.YtpihighajaeabaaGreat
