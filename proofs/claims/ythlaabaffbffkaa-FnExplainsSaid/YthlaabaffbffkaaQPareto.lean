/- The wishes that count alike: ParetoOf in both programs. -/
import Derived.Test.YthlaabaffbffkaaQStack
import Derived.Test.YthlaabaffbffkaaQExprS
import Derived.Test.YthlaabaffbffkaaQCopyW
import Derived.Test.YthlaabaffbffkaaQBoxT
namespace Go.Proofs.Ythlaabaffbffkaa
open Go.RowKit
set_option linter.unusedVariables false
set_option linter.unusedSimpArgs false
theorem I_operands (w : World) (op : Int) : Calls Try.prog 72 #[.int .i64 op] w (Ret w (.int .i64 (opnds op))) := by
  by_cases h0 : op = 0
  · have q0 : (op == 0) = true := by simpa using h0
    have E := Lib.hid (show opnds op = 0 by rw [opnds, if_pos h0])
    clear h0
    go_enter Try.func72, Try.ntmps72
    go_wp2
    go_ret
    exact Ret.int (E.out.symm) (Bw.refl _)
  have q0 : (op == 0) = false := by simpa using h0
  by_cases h3 : op = 3
  · have q3 : (op == 3) = true := by simpa using h3
    have E := Lib.hid (show opnds op = 1 by rw [opnds, if_neg h0, if_pos h3])
    clear h0 h3
    go_enter Try.func72, Try.ntmps72
    go_wp2
    go_ret
    exact Ret.int (E.out.symm) (Bw.refl _)
  · have q3 : (op == 3) = false := by simpa using h3
    have E := Lib.hid (show opnds op = 2 by rw [opnds, if_neg h0, if_neg h3])
    clear h0 h3
    go_enter Try.func72, Try.ntmps72
    go_wp2
    go_ret
    exact Ret.int (E.out.symm) (Bw.refl _)
theorem opnds_bd (op : Int) : 0 ≤ opnds op ∧ opnds op ≤ 2 := by
  unfold opnds
  repeat' split
  all_goals omega
set_option maxRecDepth 100000 in
set_option maxHeartbeats 3200000 in
theorem I_IsExpression (w : World) (e : List GNode) (v : Value) (h : Rd rNodes w e [v]) : Calls Try.prog 51 #[v] w (Ret w (.bool (isExpr e))) := by
  obtain ⟨A, n, c, rfl, L0, Lc, Lm⟩ := rSl_open h
  unfold maxLen at Lm
  have L := Lib.hid L0
  clear L0
  go_enter Try.func51, Try.ntmps51
  go_wp2
  go_loopg [3, 8] n (fun g d i w' => ∃ (k : Nat) (m : Int), k ≤ n ∧ g = n - k ∧ d = .int .i64 m ∧ i = .int .i64 k ∧ 0 ≤ m ∧ m ≤ k ∧ Hid (isExpr e = exprAt e k m) ∧ Bw w w')
  case atStart => exact ⟨0, 0, by omega, rfl, rfl, rfl, by omega, by omega, Lib.hid rfl, Bw.refl _⟩
  case round =>
    obtain ⟨k, m, hk, rfl, rfl, rfl, m0, mk, HE, hb⟩ := hrel
    by_cases hlt : k < n
    · obtain ⟨x, hx⟩ := get_of_lt (xs := e) (k := k) (by have := L.out; omega)
      obtain ⟨ba, oa, Al, cl, Ap, cp, rfl, _, c0, c1, c2, c3, c4, c5, hl, hp⟩ := rNodes_at h hx
      have i1 : (0 : Int) ≤ (k : Int) := by omega
      have i2 : (k : Int) < (n : Int) := by omega
      replace c0 := hb.cell c0
      replace c1 := hb.cell c1
      replace c2 := hb.cell c2
      replace c3 := hb.cell c3
      replace c4 := hb.cell c4
      replace c5 := hb.cell c5
      have D1 : Bw wr (wr.alloc (.cells #[.int .i64 x.op, .int .i64 x.wish.kind, .int .i64 x.wish.field, .int .i64 x.wish.value, .slice Al x.wish.list.length cl, .slice Ap x.wish.pairs.length cp] 73)) := (Bw.refl wr).alloc _
      have HH := Lib.hid h
      have hbx := World.block_lt_of_cell? _ _ c0
      have hO0 := opnds_bd x.op
      obtain ⟨O, hO⟩ : ∃ O, O = opnds x.op := ⟨_, rfl⟩
      have key : ∀ W, Calls Try.prog 72 #[.int .i64 x.op] W (Ret W (.int .i64 O)) := fun W => by rw [hO]; exact I_operands W x.op
      have HGOOD := Lib.hid (show nodeOk x m = true → isExpr e = exprAt e (k + 1) (m - O + 1) from fun hg => by rw [HE.out, exprAt_good hx hg, hO])
      have HBAD := Lib.hid (show nodeOk x m = false → isExpr e = false from fun hg => by rw [HE.out, exprAt_bad hx hg])
      have HN := Lib.hid (show nodeOk x m = (inB x.op 0 4 && (decide (O ≤ m) && if x.op = 0 then isWish x.wish else decide (x.wish = noWish))) by rw [hO]; rfl)
      rw [← hO] at hO0
      clear hx h HE hO
      go_wp2_with fail
      refine (I_within _ _ _ _).mono ?_
      rintro e w2 ⟨rfl, hb2⟩
      have p0 : w2.cell? ⟨wr.heap.size, 0, none⟩ = some (.int .i64 x.op) := hb2.cell (by go_simp)
      have p1 : w2.cell? ⟨wr.heap.size, 1, none⟩ = some (.int .i64 x.wish.kind) := hb2.cell (by go_simp)
      have p2 : w2.cell? ⟨wr.heap.size, 2, none⟩ = some (.int .i64 x.wish.field) := hb2.cell (by go_simp)
      have p3 : w2.cell? ⟨wr.heap.size, 3, none⟩ = some (.int .i64 x.wish.value) := hb2.cell (by go_simp)
      have p4 : w2.cell? ⟨wr.heap.size, 4, none⟩ = some (.slice Al x.wish.list.length cl) := hb2.cell (by go_simp)
      have p5 : w2.cell? ⟨wr.heap.size, 5, none⟩ = some (.slice Ap x.wish.pairs.length cp) := hb2.cell (by go_simp)
      have D2 := D1.then hb2
      have B2 := hb.then D2
      have hl2 := Rd.bw rInts_good hl B2
      have hp2 := Rd.bw rPairs_good hp B2
      clear c0 c1 c2 c3 c4 c5 D1 hb2 hl hp
      rcases Bool.eq_false_or_eq_true (inB x.op 0 4) with e1 | e1
      · have E1 := Lib.hid e1
        rw [e1]
        clear e1
        go_wp2_with fail
        refine (key _).mono ?_
        rintro e w3 ⟨rfl, hb3⟩
        replace p0 := hb3.cell p0
        replace p1 := hb3.cell p1
        replace p2 := hb3.cell p2
        replace p3 := hb3.cell p3
        replace p4 := hb3.cell p4
        replace p5 := hb3.cell p5
        have B3 := B2.then hb3
        replace hl2 := Rd.bw rInts_good hl2 hb3
        replace hp2 := Rd.bw rPairs_good hp2 hb3
        by_cases hd : m < O
        · have G := Lib.hid (HBAD.out (by rw [HN.out, show decide (O ≤ m) = false by simp; omega]; simp))
          clear HGOOD HBAD HN
          go_wp2
          go_ret
          exact Ret.bool (G.out.symm) (B3)
        · by_cases o0 : x.op = 0
          · have q0 : (x.op == 0) = true := by simpa using o0
            have q1 : (x.op != 0) = false := by simpa using o0
            have HN2 := Lib.hid (show nodeOk x m = isWish x.wish by rw [HN.out, E1.out, if_pos o0, show decide (O ≤ m) = true by simp; omega]; rfl)
            clear o0 HN
            go_wp2_with fail
            refine (I_IsWish _ x.wish _ _ hl2 hp2).mono ?_
            rintro e w4 ⟨rfl, hb4⟩
            replace p0 := hb4.cell p0
            have B4 := B3.then hb4
            rcases Bool.eq_false_or_eq_true (isWish x.wish) with e2 | e2
            · have G := Lib.hid (HGOOD.out (by rw [HN2.out, e2]))
              rw [e2]
              clear e2 HGOOD HBAD HN2
              go_wp2_with fail
              refine (key _).mono ?_
              rintro e w5 ⟨rfl, hb5⟩
              go_wp2
              go_roundg (n - (k + 1))
              case measure => omega
              case rel => exact ⟨k + 1, m - O + 1, by omega, rfl, rfl, by go_num, by omega, by omega, G, B4.then hb5⟩
            · have G := Lib.hid (HBAD.out (by rw [HN2.out, e2]))
              rw [e2]
              clear e2 HGOOD HBAD HN2
              go_wp2
              go_ret
              exact Ret.bool (G.out.symm) (B4)
          · have q0 : (x.op == 0) = false := by simpa using o0
            have q1 : (x.op != 0) = true := by simpa using o0
            have HN2 := Lib.hid (show nodeOk x m = decide (x.wish = noWish) by rw [HN.out, E1.out, if_neg o0, show decide (O ≤ m) = true by simp; omega]; rfl)
            clear o0 HN
            go_wp2_with fail
            refine (I_equalWish _ x.wish noWish _ (.slice none 0 0) _ (.slice none 0 0) hl2 rSl_nil hp2 rSl_nil).mono ?_
            rintro e w4 ⟨rfl, hb4⟩
            replace p0 := hb4.cell p0
            have B4 := B3.then hb4
            rcases Bool.eq_false_or_eq_true (decide (x.wish = noWish)) with e2 | e2
            · have G := Lib.hid (HGOOD.out (by rw [HN2.out, e2]))
              rw [e2]
              clear e2 HGOOD HBAD HN2
              go_wp2_with fail
              refine (key _).mono ?_
              rintro e w5 ⟨rfl, hb5⟩
              go_wp2
              go_roundg (n - (k + 1))
              case measure => omega
              case rel => exact ⟨k + 1, m - O + 1, by omega, rfl, rfl, by go_num, by omega, by omega, G, B4.then hb5⟩
            · have G := Lib.hid (HBAD.out (by rw [HN2.out, e2]))
              rw [e2]
              clear e2 HGOOD HBAD HN2
              go_wp2
              go_ret
              exact Ret.bool (G.out.symm) (B4)
      · have G := Lib.hid (HBAD.out (by rw [HN.out, e1]; rfl))
        rw [e1]
        clear e1 HGOOD HBAD HN
        go_wp2
        go_ret
        exact Ret.bool (G.out.symm) (B2)
    · obtain rfl : k = n := by omega
      have HF := Lib.hid (show isExpr e = (decide (m = 1) && decide (k ≤ 9)) by rw [HE.out, exprAt_end L.out.symm])
      clear HE hlt
      by_cases hm : m = 1
      · have q1 : (m == 1) = true := by simpa using hm
        by_cases h9 : (k : Int) ≤ 9
        · have G := Lib.hid (show isExpr e = true by rw [HF.out]; simp [hm]; omega)
          clear hm HF
          go_wp2
          go_ret
          exact Ret.bool (G.out.symm) (hb)
        · have G := Lib.hid (show isExpr e = false by rw [HF.out]; simp; omega)
          clear hm HF
          go_wp2
          go_ret
          exact Ret.bool (G.out.symm) (hb)
      · have q1 : (m == 1) = false := by simpa using hm
        have G := Lib.hid (show isExpr e = false by rw [HF.out]; simp [hm])
        clear hm HF
        go_wp2
        go_ret
        exact Ret.bool (G.out.symm) (hb)
end Go.Proofs.Ythlaabaffbffkaa

namespace Go.Proofs.Ythlaabaffbffkaa
open Go.RowKit
set_option linter.unusedVariables false
set_option linter.unusedSimpArgs false
def opNode : GNode := ⟨1, ⟨0, 0, 0, [], []⟩⟩
def parTo (w : List GWish) : Nat → List GNode
  | 0 => []
  | k + 1 => parTo w k ++ (match w[k]? with | some x => ⟨0, x⟩ :: (if k = 0 then [] else [opNode]) | none => [])
def parL (w : List GWish) : List GNode := if isExpr (parTo w w.length) then parTo w w.length else []
def parOk (w : List GWish) : Bool := isExpr (parTo w w.length)
theorem parTo_one {w : List GWish} {x : GWish} (h : w[0]? = some x) : parTo w 1 = parTo w 0 ++ [⟨0, x⟩] := by rw [show parTo w 1 = parTo w 0 ++ (match w[0]? with | some x => ⟨0, x⟩ :: (if (0 : Nat) = 0 then [] else [opNode]) | none => []) from rfl, h]; rfl
theorem parTo_more {w : List GWish} {k : Nat} {x : GWish} (h : w[k]? = some x) (hk : 0 < k) : parTo w (k + 1) = (parTo w k ++ [⟨0, x⟩]) ++ [opNode] := by
  rw [parTo, h, List.append_assoc]
  simp only [if_neg (Nat.ne_of_gt hk), List.cons_append, List.nil_append]
theorem parTo_len (w : List GWish) : ∀ k, (parTo w k).length ≤ 2 * k
  | 0 => Nat.le_refl _
  | k + 1 => by
    have := parTo_len w k
    rw [parTo, List.length_append]
    cases w[k]? with
    | none => simp; omega
    | some x =>
      dsimp only
      split
      · simp; omega
      · simp; omega
theorem asc_len : ∀ {l : List Int} {p : Int}, ascFrom (some p) l = true → p ≤ 9 → (l.length : Int) ≤ 9 - p
  | [], p, _, h => by simp; omega
  | v :: l, p, h, hp => by
    simp only [ascFrom, Bool.and_eq_true, decide_eq_true_eq] at h
    have hv := inB_iff.1 h.1.1
    have := asc_len h.2 hv.2
    simp only [List.length_cons]
    omega
theorem wish_small {x : GWish} (h : isWish x = true) : x.list.length ≤ 10 ∧ x.pairs.length ≤ 8 := by
  unfold isWish at h
  simp only [Bool.and_eq_true] at h
  refine ⟨?_, ?_⟩
  · have ha := h.2.2.2.1
    match hl : x.list, ha with
    | [], _ => simp
    | v :: l, ha =>
      simp only [ascFrom, Bool.and_eq_true] at ha
      have hv := inB_iff.1 ha.1
      have := asc_len ha.2 hv.2
      simp only [List.length_cons]
      omega
  · have hp := h.2.2.2.2.2.2
    split at hp
    · unfold arePairs at hp
      simp only [Bool.and_eq_true, decide_eq_true_eq] at hp
      exact hp.2.1
    · rw [decide_eq_true_eq] at hp; omega
theorem depth_small : ∀ {e : List GNode} {d r : Int}, depthOf e d = some r → ∀ n ∈ e, totNode n ≤ 18
  | [], _, _, _, n, hn => by simp at hn
  | m :: e, d, r, h, n, hn => by
    rw [depthOf] at h
    split at h
    · rename_i hk
      rcases List.mem_cons.1 hn with h1 | h1
      · subst h1
        unfold nodeOk at hk
        simp only [Bool.and_eq_true] at hk
        have hw := hk.2.2
        split at hw
        · have := wish_small hw
          unfold totNode totWish; omega
        · rw [decide_eq_true_eq] at hw
          unfold totNode totWish; rw [hw]; simp [noWish]
      · exact depth_small h n h1
    · cases h
theorem sum_le {α : Type} (f : α → Nat) (B : Nat) : ∀ {l : List α}, (∀ x ∈ l, f x ≤ B) → sumL f l ≤ B * l.length
  | [], _ => by simp [sumL]
  | x :: l, h => by
    have h1 := h x (by simp)
    have h2 := sum_le f B (l := l) (fun y hy => h y (by simp [hy]))
    simp only [sumL, List.length_cons, Nat.mul_add]
    omega
theorem expr_small {e : List GNode} (h : isExpr e = true) : totNodes e ≤ 171 := by
  unfold isExpr at h
  rw [Bool.and_eq_true, decide_eq_true_eq, decide_eq_true_eq] at h
  have := sum_le totNode 18 (depth_small h.1)
  unfold totNodes
  omega
theorem par_tot (w : List GWish) : totNodes (parL w) ≤ 171 := by
  unfold parL
  split
  · rename_i he; exact expr_small he
  · simp [totNodes, sumL]
theorem fNode_op (w : World) : fNode w opNode [.int .i64 1, .int .i64 0, .int .i64 0, .int .i64 0, .slice none 0 0, .slice none 0 0] [] :=
  ⟨_, rfl, _, _, [], [], rfl, ⟨_, [], [], rfl, World.ownsRow_nil _ _ _ _, trivial, by simp [Value.ownBlock]⟩, ⟨_, [], [], rfl, World.ownsRow_nil _ _ _ _, trivial, by simp [Value.ownBlock]⟩, rfl⟩
theorem wish_lens {xs : List GWish} (ht : totWishes xs ≤ 1048576) : xs.length ≤ 1048576 ∧ ∀ x ∈ xs, x.list.length ≤ 1048576 ∧ x.pairs.length ≤ 1048576 := by
  unfold totWishes at ht
  refine ⟨by omega, fun x hx => ?_⟩
  have h1 := le_sum totWish hx
  have h2 : totWish x = x.list.length + x.pairs.length := rfl
  omega


end Go.Proofs.Ythlaabaffbffkaa
