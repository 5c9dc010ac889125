/- The best items in plain words. No program in sight. -/
import Derived.Test.YtpihighajaeabaaGreatQRuleR
import Derived.Test.YtpihighajaeabaaGreatQTree
namespace Go.Proofs.YtpihighajaeabaaGreat
open Go.RowKit
set_option linter.unusedVariables false
set_option linter.unusedSimpArgs false
/-- a part of an expression; what stands in its place leaves an expression -/
structure SplitP (T : List GNode → Prop) (e : List GNode) (m : Nat) (q : List GNode × XT × List GNode) : Prop where
  eq : e = q.1 ++ (flat q.2.1 ++ q.2.2)
  ok : okT q.2.1
  at' : m + 1 = q.1.length + (flat q.2.1).length
  put : ∀ t', okT t' → T (q.1 ++ (flat t' ++ q.2.2))
def isFlat (e : List GNode) : Prop := ∃ t, okT t ∧ e = flat t
theorem flat_split : ∀ {u : XT}, okT u → ∀ {m : Nat}, m < (flat u).length → ∃ q, SplitP isFlat (flat u) m q
  | .base w, h, m, hm => ⟨([], .base w, []), ⟨by simp, h, by simp [flat] at hm ⊢; omega, fun t' ht => ⟨t', ht, by simp⟩⟩⟩
  | .dual s, h, m, hm => by
    by_cases hs : m < (flat s).length
    · obtain ⟨⟨pre, t, post⟩, h1, h2, h3, h4⟩ := flat_split (u := s) h hs
      refine ⟨(pre, t, post ++ [⟨3, noWish⟩]), ⟨?_, h2, h3, fun t' ht => ?_⟩⟩
      · show flat s ++ _ = _
        rw [h1]; simp
      · obtain ⟨u', hu, he⟩ := h4 t' ht
        refine ⟨.dual u', hu, ?_⟩
        show _ = flat u' ++ _
        rw [← he]; simp
    · exact ⟨([], .dual s, []), ⟨by simp, h, by have := flat_dual_len s; dsimp only; simp only [List.length_nil]; omega, fun t' ht => ⟨t', ht, by simp⟩⟩⟩
  | .two op a b, h, m, hm => by
    have hl := flat_two_len op a b
    by_cases ha : m < (flat a).length
    · obtain ⟨⟨pre, t, post⟩, h1, h2, h3, h4⟩ := flat_split (u := a) h.2.1 ha
      refine ⟨(pre, t, post ++ (flat b ++ [⟨op, noWish⟩])), ⟨?_, h2, h3, fun t' ht => ?_⟩⟩
      · show flat a ++ _ = _
        rw [h1]; simp
      · obtain ⟨u', hu, he⟩ := h4 t' ht
        refine ⟨.two op u' b, ⟨h.1, hu, h.2.2⟩, ?_⟩
        show _ = flat u' ++ _
        rw [← he]; simp
    · by_cases hb : m < (flat a).length + (flat b).length
      · obtain ⟨⟨pre, t, post⟩, h1, h2, h3, h4⟩ := flat_split (u := b) h.2.2 (m := m - (flat a).length) (by omega)
        refine ⟨(flat a ++ pre, t, post ++ [⟨op, noWish⟩]), ⟨?_, h2, by dsimp only at h3 ⊢; rw [List.length_append]; omega, fun t' ht => ?_⟩⟩
        · show flat a ++ (flat b ++ _) = _
          rw [h1]; simp
        · obtain ⟨u', hu, he⟩ := h4 t' ht
          refine ⟨.two op a u', ⟨h.1, h.2.1, hu⟩, ?_⟩
          show _ = flat a ++ (flat u' ++ _)
          rw [← he]; simp
      · exact ⟨([], .two op a b, []), ⟨by simp, h, by dsimp only; simp only [List.length_nil]; omega, fun t' ht => ⟨t', ht, by simp⟩⟩⟩
theorem expr_split {e : List GNode} (h : isExpr e = true) {m : Nat} (hm : m < e.length) : ∃ q, SplitP isFlat e m q := by
  obtain ⟨t, ht, rfl⟩ := tree_of h
  exact flat_split ht hm
theorem ruleT_flat {r : Int} {t : XT} {x : List GNode} (h : ruleT r t = some x) (hok : okT t) : ∃ t', okT t' ∧ x = flat t' := by
  cases t with
  | base w => cases h
  | two op a b =>
    simp only [ruleT] at h
    split at h
    · injection h with h; exact ⟨a, hok.2.1, h.symm⟩
    · cases h
  | dual s =>
    cases s with
    | base w => cases h
    | dual s =>
      simp only [ruleT] at h
      split at h
      · injection h with h; exact ⟨s, hok, h.symm⟩
      · cases h
    | two op a b =>
      simp only [ruleT] at h
      split at h
      · injection h with h
        exact ⟨.two op (.dual a) (.dual b), ⟨hok.1, hok.2.1, hok.2.2⟩, by rw [← h]; simp [flat]⟩
      · cases h
def resM (q : List GNode × XT × List GNode) (r : Int) (e : List GNode) : List GNode × Bool := match ruleT r q.2.1 with
  | some x => if (q.1 ++ (x ++ q.2.2)).length ≤ 9 then (q.1 ++ (x ++ q.2.2), true) else (e, false)
  | none => (e, false)
open Classical in
noncomputable def applyM (e : List GNode) (r m : Int) : List GNode × Bool :=
  if h : (isExpr e = true ∧ 0 ≤ m ∧ m < e.length) ∧ ∃ q, SplitP isFlat e m.toNat q then resM h.2.choose r e else (e, false)
theorem applyM_no {e : List GNode} {r m : Int} (h : ¬ (isExpr e = true ∧ 0 ≤ m ∧ m < e.length)) : applyM e r m = (e, false) := by unfold applyM; rw [dif_neg (fun k => h k.1)]
theorem applyM_yes {e : List GNode} {r : Int} {m : Nat} (h : isExpr e = true) (hm : m < e.length) : ∃ q, SplitP isFlat e m q ∧ applyM e r m = resM q r e := by
  have hh : (isExpr e = true ∧ 0 ≤ (m : Int) ∧ (m : Int) < e.length) ∧ ∃ q, SplitP isFlat e (m : Int).toNat q := ⟨⟨h, by omega, by omega⟩, expr_split h hm⟩
  refine ⟨hh.2.choose, hh.2.choose_spec, ?_⟩
  unfold applyM
  rw [dif_pos hh]
theorem applyM_expr {e y : List GNode} {r m : Int} (h : applyM e r m = (y, true)) : isExpr y = true := by
  by_cases hc : isExpr e = true ∧ 0 ≤ m ∧ m < e.length
  · obtain ⟨k, rfl⟩ : ∃ k : Nat, m = k := ⟨m.toNat, by omega⟩
    obtain ⟨q, hq, hr⟩ := applyM_yes (r := r) hc.1 (m := k) (by omega)
    rw [hr] at h
    unfold resM at h
    cases hx : ruleT r q.2.1 with
    | none => rw [hx] at h; cases h
    | some x =>
      rw [hx] at h
      dsimp only at h
      split at h
      · rename_i hl
        injection h with h _
        obtain ⟨t', ht', rfl⟩ := ruleT_flat hx hq.ok
        obtain ⟨u, hu, he⟩ := hq.put t' ht'
        rw [← h, he]
        exact isExpr_flat hu (by rw [← he]; exact hl)
      · cases h
  · rw [applyM_no hc] at h; cases h
theorem applyM_false {e : List GNode} {r m : Int} (h : (applyM e r m).2 = false) : applyM e r m = (e, false) := by
  by_cases hc : isExpr e = true ∧ 0 ≤ m ∧ m < e.length
  · obtain ⟨k, rfl⟩ : ∃ k : Nat, m = k := ⟨m.toNat, by omega⟩
    obtain ⟨q, hq, hr⟩ := applyM_yes (r := r) hc.1 (m := k) (by omega)
    rw [hr] at h ⊢
    unfold resM at h ⊢
    cases hx : ruleT r q.2.1 with
    | none => rfl
    | some x =>
      rw [hx] at h
      dsimp only at h ⊢
      split at h
      · cases h
      · rename_i hl; rw [if_neg hl]
  · exact applyM_no hc
theorem expr_len9 {e : List GNode} (h : isExpr e = true) : e.length ≤ 9 := by
  unfold isExpr at h
  rw [Bool.and_eq_true, decide_eq_true_eq, decide_eq_true_eq] at h
  exact h.2
theorem expr_pos {e : List GNode} (h : isExpr e = true) : 0 < e.length := by
  obtain ⟨t, _, rfl⟩ := tree_of h
  exact flat_pos t
theorem nodes_lit {w : World} {e : List GNode} {v : Value} (h : Rd rNodes w e [v]) (hn : 0 < e.length) : ∃ b o n c, v = .slice (some ⟨b, o, none⟩) n c ∧ Hid (n = e.length) ∧ n ≤ c ∧ c ≤ 9223372036854775807 := by
  obtain ⟨A, n, c, rfl, hl, hc, hm⟩ := rSl_open h
  unfold maxLen at hm
  obtain ⟨x, hx⟩ := get_of_lt (xs := e) (k := 0) hn
  obtain ⟨b, o, _, _, _, _, rfl, _⟩ := rNodes_at h hx
  exact ⟨b, o, n, c, rfl, Lib.hid hl, hc, hm⟩
def RuleA (e : List GNode) (r m : Int) (w : World) (e' : Ending) (w' : World) : Prop := ∃ v b, e' = .returned (.tuple #[v, .bool b]) ∧ Bw w w' ∧ b = (applyM e r m).2 ∧ (b = true → Rd rNodes w' (applyM e r m).1 [v])
theorem RulePost.a {e : List GNode} {r : Int} {m : Nat} {q : List GNode × XT × List GNode} {w : World} {e' : Ending} {w' : World} (hr : applyM e r m = resM q r e) (h : RulePost q.1 q.2.2 (ruleT r q.2.1) w e' w') : RuleA e r m w e' w' := by
  obtain ⟨v, b, he, hb, hx⟩ := h
  refine ⟨v, b, he, hb, ?_⟩
  rw [hr]
  unfold resM
  cases ho : ruleT r q.2.1 with
  | none =>
    rw [ho] at hx
    dsimp only at hx ⊢
    exact ⟨hx, fun h => by rw [hx] at h; cases h⟩
  | some x =>
    rw [ho] at hx
    dsimp only at hx ⊢
    by_cases hl : (q.1 ++ (x ++ q.2.2)).length ≤ 9
    · rw [if_pos hl]
      exact ⟨by rw [hx.1]; exact decide_eq_true hl, fun _ => hx.2⟩
    · rw [if_neg hl]
      exact ⟨by rw [hx.1]; exact decide_eq_false hl, fun h => by rw [hx.1, decide_eq_false hl] at h; cases h⟩
end Go.Proofs.YtpihighajaeabaaGreat

namespace Go.Proofs.YtpihighajaeabaaGreat
open Go.RowKit
set_option linter.unusedVariables false
set_option linter.unusedSimpArgs false
noncomputable def ruleFrom (e : List GNode) (k : Nat) : Nat → Nat → Option (List GNode)
  | 0, _ => none
  | f + 1, r => if (applyM e r k).2 then some (applyM e r k).1 else ruleFrom e k f (r + 1)
noncomputable def ruleAll (e : List GNode) (k : Nat) : Option (List GNode) := ruleFrom e k 3 1
noncomputable def atFrom (e : List GNode) : Nat → Nat → Option (List GNode)
  | 0, _ => none
  | f + 1, k => match ruleAll e k with
    | some y => some y
    | none => atFrom e f (k + 1)
noncomputable def atAll (e : List GNode) : Option (List GNode) := atFrom e e.length 0
noncomputable def normN : Nat → List GNode → List GNode
  | 0, e => e
  | n + 1, e => match atAll e with
    | some y => normN n y
    | none => e
noncomputable def normM (e : List GNode) : List GNode := normN 60 e
theorem ruleFrom_succ (e : List GNode) (k f r : Nat) : ruleFrom e k (f + 1) r = if (applyM e r k).2 then some (applyM e r k).1 else ruleFrom e k f (r + 1) := rfl
theorem atFrom_succ (e : List GNode) (f k : Nat) : atFrom e (f + 1) k = match ruleAll e k with | some y => some y | none => atFrom e f (k + 1) := rfl
theorem normN_succ (n : Nat) (e : List GNode) : normN (n + 1) e = match atAll e with | some y => normN n y | none => e := rfl
theorem ruleFrom_expr {e y : List GNode} {k : Nat} : ∀ {f r : Nat}, ruleFrom e k f r = some y → isExpr y = true
  | 0, _, h => by cases h
  | f + 1, r, h => by
    rw [ruleFrom_succ] at h
    split at h
    · rename_i hb
      injection h with h
      exact applyM_expr (r := r) (m := k) (by rw [← h]; exact Prod.ext rfl hb)
    · exact ruleFrom_expr h
theorem atFrom_expr {e y : List GNode} : ∀ {f k : Nat}, atFrom e f k = some y → isExpr y = true
  | 0, _, h => by cases h
  | f + 1, k, h => by
    rw [atFrom_succ] at h
    cases hr : ruleAll e k with
    | some z => rw [hr] at h; injection h with h; rw [← h]; exact ruleFrom_expr hr
    | none => rw [hr] at h; exact atFrom_expr h
theorem normN_expr {e : List GNode} (h : isExpr e = true) : ∀ n, isExpr (normN n e) = true := by
  intro n
  induction n generalizing e with
  | zero => exact h
  | succ n ih =>
    rw [normN_succ]
    cases ha : atAll e with
    | some y => exact ih (atFrom_expr ha)
    | none => exact h
/-- where the loop over the rules stands -/
def RuleSt (xs : List GNode) (k r : Nat) (b : Bool) (ys : List GNode) : Prop := if b then ruleAll xs k = some ys else ys = xs ∧ r ≤ 4 ∧ ruleAll xs k = ruleFrom xs k (4 - r) r
/-- where the loop over the places stands -/
def AtSt (xs : List GNode) (k : Nat) (b : Bool) (ys : List GNode) : Prop := if b then atAll xs = some ys else ys = xs ∧ k ≤ xs.length ∧ atAll xs = atFrom xs (xs.length - k) k
theorem RuleSt.start (xs : List GNode) (k : Nat) : RuleSt xs k 1 false xs := ⟨rfl, by omega, rfl⟩
theorem RuleSt.yes {xs ys : List GNode} {k r : Nat} (h : RuleSt xs k r false xs) (hr : r ≤ 3) (ha : applyM xs r k = (ys, true)) : RuleSt xs k (r + 1) true ys := by
  obtain ⟨_, h1, h2⟩ := h
  show ruleAll xs k = some ys
  rw [h2, show 4 - r = (3 - r) + 1 by omega, ruleFrom_succ, ha]
  rfl
theorem RuleSt.no {xs : List GNode} {k r : Nat} (h : RuleSt xs k r false xs) (hr : r ≤ 3) (ha : (applyM xs r k).2 = false) : RuleSt xs k (r + 1) false xs := by
  obtain ⟨_, h1, h2⟩ := h
  refine ⟨rfl, by omega, ?_⟩
  rw [h2, show 4 - r = (3 - r) + 1 by omega, ruleFrom_succ, if_neg (by rw [ha]; simp), show 4 - (r + 1) = 3 - r by omega]
theorem AtSt.start (xs : List GNode) : AtSt xs 0 false xs := ⟨rfl, Nat.zero_le _, rfl⟩
theorem AtSt.yes {xs ys : List GNode} {k r : Nat} (h : AtSt xs k false xs) (hk : k < xs.length) (ha : RuleSt xs k r true ys) : AtSt xs (k + 1) true ys := by
  obtain ⟨_, h1, h2⟩ := h
  show atAll xs = some ys
  rw [h2, show xs.length - k = (xs.length - k - 1) + 1 by omega, atFrom_succ, show ruleAll xs k = some ys from ha]
theorem AtSt.no {xs ys : List GNode} {k : Nat} (h : AtSt xs k false xs) (hk : k < xs.length) (ha : RuleSt xs k 4 false ys) : AtSt xs (k + 1) false xs := by
  obtain ⟨_, h1, h2⟩ := h
  obtain ⟨_, _, h3⟩ := ha
  refine ⟨rfl, by omega, ?_⟩
  rw [h2, show xs.length - k = (xs.length - k - 1) + 1 by omega, atFrom_succ, h3]
  show (match (none : Option (List GNode)) with | some y => some y | none => _) = _
  rw [show xs.length - (k + 1) = xs.length - k - 1 by omega]
theorem norm_yes {xs ys : List GNode} {k j : Nat} (h : AtSt xs k true ys) : normN (j + 1) xs = normN j ys := by rw [normN_succ, show atAll xs = some ys from h]
theorem norm_no {xs ys : List GNode} {k j : Nat} (h : AtSt xs k false ys) (hk : xs.length ≤ k) : normN (j + 1) xs = xs := by
  obtain ⟨_, _, h2⟩ := h
  rw [normN_succ, h2, show xs.length - k = 0 by omega]
  rfl
theorem AtSt.expr {xs ys : List GNode} {k : Nat} (h : AtSt xs k true ys) : isExpr ys = true := atFrom_expr (show atAll xs = some ys from h)
theorem RuleSt.expr {xs ys : List GNode} {k r : Nat} (h : RuleSt xs k r true ys) : isExpr ys = true := ruleFrom_expr (show ruleAll xs k = some ys from h)
theorem AtSt.eq {xs ys : List GNode} {k : Nat} (h : AtSt xs k false ys) : ys = xs := h.1
theorem RuleSt.eq {xs ys : List GNode} {k r : Nat} (h : RuleSt xs k r false ys) : ys = xs := h.1
end Go.Proofs.YtpihighajaeabaaGreat

namespace Go.Proofs.YtpihighajaeabaaGreat
open Go.RowKit
set_option linter.unusedVariables false

def beats (e : List GNode) (y x : GItem) : Bool := decide (cmpBy e y x = 1)
def freeIn (l : List GItem) (e : List GNode) (x : GItem) : Bool := !(l.any fun y => beats e y x)
def bestM (l : List GItem) (e : List GNode) : List Int := (l.filter (freeIn l e)).map (·.id)
def areBoth (l : List GItem) (e : List GNode) : Bool := areItems l && isExpr e
def bestItems (l : List GItem) (e : List GNode) : List Int := if areBoth l e then bestM l e else []
def onlyM (l : List GItem) (ids : List Int) (b : Bool) : List GItem := l.filter fun x => ids.contains x.id == b
theorem areBoth_items {l : List GItem} {e : List GNode} (h : areBoth l e = true) : areItems l = true := by unfold areBoth at h; simp only [Bool.and_eq_true] at h; exact h.1
theorem areBoth_expr {l : List GItem} {e : List GNode} (h : areBoth l e = true) : isExpr e = true := by unfold areBoth at h; simp only [Bool.and_eq_true] at h; exact h.2
theorem bestM_len (l : List GItem) (e : List GNode) : (bestM l e).length ≤ l.length := by unfold bestM; rw [List.length_map]; exact List.length_filter_le _ _
/-- the best of the first items -/
def bestTo (l : List GItem) (e : List GNode) (k : Nat) : List Int := ((l.take k).filter (freeIn l e)).map (·.id)
theorem bestTo_yes {l : List GItem} {e : List GNode} {k : Nat} {x : GItem} (hx : l[k]? = some x) (h : freeIn l e x = true) : bestTo l e (k + 1) = bestTo l e k ++ [x.id] := by
  unfold bestTo; rw [List.take_add_one, hx, List.filter_append, List.map_append]; simp [h]
theorem bestTo_no {l : List GItem} {e : List GNode} {k : Nat} {x : GItem} (hx : l[k]? = some x) (h : freeIn l e x = false) : bestTo l e (k + 1) = bestTo l e k := by
  unfold bestTo; rw [List.take_add_one, hx, List.filter_append, List.map_append]; simp [h]
theorem bestTo_end {l : List GItem} {e : List GNode} {k : Nat} (h : l.length ≤ k) : bestTo l e k = bestM l e := by unfold bestTo bestM; rw [List.take_of_length_le h]
theorem bestTo_len {l : List GItem} {e : List GNode} {k : Nat} : (bestTo l e k).length ≤ k := by
  unfold bestTo; rw [List.length_map]
  exact Nat.le_trans (List.length_filter_le _ _) (by rw [List.length_take]; omega)
theorem any_take_succ {α : Type} (f : α → Bool) {l : List α} {k : Nat} {y : α} (h : l[k]? = some y) : (l.take (k + 1)).any f = ((l.take k).any f || f y) := by
  rw [List.take_add_one, h, List.any_append]; simp
theorem any_take_end {α : Type} (f : α → Bool) {l : List α} {k : Nat} (h : l.length ≤ k) : (l.take k).any f = l.any f := by rw [List.take_of_length_le h]
def onlyTo (l : List GItem) (ids : List Int) (b : Bool) (k : Nat) : List GItem := (l.take k).filter fun x => ids.contains x.id == b
theorem onlyTo_yes {l : List GItem} {ids : List Int} {b : Bool} {k : Nat} {x : GItem} (hx : l[k]? = some x) (h : ids.contains x.id = b) : onlyTo l ids b (k + 1) = onlyTo l ids b k ++ [x] := by
  have hb : (ids.contains x.id == b) = true := by rw [h]; simp
  unfold onlyTo; rw [List.take_add_one, hx, List.filter_append]
  simp only [Option.toList_some, List.filter_cons, List.filter_nil, hb, if_true]
theorem onlyTo_no {l : List GItem} {ids : List Int} {b : Bool} {k : Nat} {x : GItem} (hx : l[k]? = some x) (h : ids.contains x.id = !b) : onlyTo l ids b (k + 1) = onlyTo l ids b k := by
  have hb : (ids.contains x.id == b) = false := by rw [h]; cases b <;> rfl
  unfold onlyTo; rw [List.take_add_one, hx, List.filter_append]
  simp only [Option.toList_some, List.filter_cons, List.filter_nil, hb, List.append_nil, Bool.false_eq_true, if_false]
theorem onlyTo_end {l : List GItem} {ids : List Int} {b : Bool} {k : Nat} (h : l.length ≤ k) : onlyTo l ids b k = onlyM l ids b := by unfold onlyTo onlyM; rw [List.take_of_length_le h]
theorem onlyTo_len {l : List GItem} {ids : List Int} {b : Bool} {k : Nat} : (onlyTo l ids b k).length ≤ k := by
  unfold onlyTo
  exact Nat.le_trans (List.length_filter_le _ _) (by rw [List.length_take]; omega)
theorem onlyM_len (l : List GItem) (ids : List Int) (b : Bool) : (onlyM l ids b).length ≤ l.length := List.length_filter_le _ _

/-! ### several laws' answers -/
def isStand (s : GStanding) : Bool := areBoth s.items s.wanted && (decide (s.best = bestM s.items s.wanted) && inB s.tests 0 1000000)
end Go.Proofs.YtpihighajaeabaaGreat
