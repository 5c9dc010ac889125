/- The best items in plain words. No program in sight. -/
import Derived.Test.YtfffklkiikmieaaGreatQOwn2
import Derived.Test.YtfffklkiikmieaaGreatQOwn3
import Derived.WalkSmall
namespace Go.Proofs.YtfffklkiikmieaaGreat
open Go.RowKit
set_option linter.unusedVariables false
theorem all3_ints {w : World} : ∀ {xs : List Int} {us : List (List Value)} {Fs : List (List Nat)}, all3 (fun x u f => fInt w x u f ∧ u.length = 1) xs us Fs → us.flatten = xs.map (Value.int .i64) ∧ Fs.flatten = []
  | [], [], [], _ => ⟨rfl, rfl⟩
  | x :: xs, u :: us, f :: Fs, h => by
    obtain ⟨h1, h2⟩ := h
    have ih := all3_ints h2
    obtain ⟨⟨rfl, rfl⟩, _⟩ := h1
    simp [ih.1, ih.2]
  | [], _ :: _, _, h => by cases h
  | [], [], _ :: _, h => by cases h
  | _ :: _, [], _, h => by cases h
  | _ :: _, _ :: _, [], h => by cases h
theorem all3_ints_mk {w : World} : ∀ xs : List Int, all3 (fun x u f => fInt w x u f ∧ u.length = 1) xs (xs.map fun x => [Value.int .i64 x]) (xs.map fun _ => [])
  | [] => trivial
  | x :: xs => ⟨⟨⟨rfl, rfl⟩, rfl⟩, all3_ints_mk xs⟩
theorem flatten_nils {α β : Type} : ∀ xs : List α, (xs.map fun _ => ([] : List β)).flatten = []
  | [] => rfl
  | _ :: xs => by simp
theorem flatten_ones : ∀ xs : List Int, (xs.map fun x => [Value.int .i64 x]).flatten = xs.map (Value.int .i64)
  | [] => rfl
  | x :: xs => by rw [List.map_cons, List.flatten_cons, flatten_ones xs]; rfl
theorem fInts_iff {w : World} {xs : List Int} {v : Value} {F : List Nat} : fInts w xs [v] F ↔ w.ownsRow 0 3 1 v xs.length (xs.map (Value.int .i64)) ∧ F = v.ownBlock.toList := by
  constructor
  · rintro ⟨v', us, Fs, e, hown, hall, rfl⟩
    injection e with e
    subst e
    have := all3_ints hall
    rw [this.1] at hown
    exact ⟨hown, by rw [this.2]; simp⟩
  · rintro ⟨h, rfl⟩
    exact ⟨v, _, _, rfl, by rw [flatten_ones]; exact h, all3_ints_mk xs, by rw [flatten_nils]; simp⟩
theorem fInts_pop {w : World} {xs : List Int} {x : Int} {g n c : Nat} {F : List Nat} (h : fInts w (xs ++ [x]) [.slice (some ⟨g, 0, none⟩) n c] F) : fInts w xs [.slice (some ⟨g, 0, none⟩) xs.length c] F := by
  rw [fInts_iff] at h ⊢
  obtain ⟨h1, h2⟩ := h
  refine ⟨?_, h2⟩
  have hn : n = xs.length + 1 := by
    rcases h1.2 with ⟨h, _⟩ | ⟨g', cap, cur, h, _⟩
    · cases h
    · injection h with _ h _; simpa using h
  subst hn
  refine ownsRow_pop (last := [.int .i64 x]) (by simp) ?_
  simpa using h1
theorem fInts_len {w : World} {xs : List Int} {A : Option Addr} {n c : Nat} {F : List Nat} (h : fInts w xs [.slice A n c] F) : n = xs.length := by
  have := (rSl_len (fInts_Rd h)).1
  exact this
theorem snoc1 {l : List Int} (h : 0 < l.length) : ∃ T a, l = T ++ [a] := ⟨l.dropLast, l.getLast (fun e => by rw [e] at h; simp at h), (List.dropLast_concat_getLast _).symm⟩
theorem snoc2 {l : List Int} (h : 2 ≤ l.length) : ∃ T a b, l = T ++ [a, b] := by
  obtain ⟨T, b, rfl⟩ := snoc1 (l := l) (by omega)
  obtain ⟨T', a, rfl⟩ := snoc1 (l := T) (by simp at h; omega)
  exact ⟨T', a, b, by simp⟩
theorem stack_base {x y : GItem} {st : List Int} {n : GNode} (h : n.op = 0) : stackStep x y st n = st ++ [cmpItem n.wish x y] := by unfold stackStep; rw [if_pos h]
theorem stack_dual {x y : GItem} {T : List Int} {a : Int} {n : GNode} (h : n.op = 3) : stackStep x y (T ++ [a]) n = T ++ [neg2 a] := by
  unfold stackStep; rw [if_neg (by omega), if_pos h]
  simp
theorem stack_two {x y : GItem} {T : List Int} {a b : Int} {n : GNode} (h : n.op ≠ 0) (h3 : n.op ≠ 3) : stackStep x y (T ++ [a, b]) n = T ++ [comb n.op a b] := by
  unfold stackStep; rw [if_neg h, if_neg h3]
  simp [List.getD_eq_getElem?_getD]
theorem depth_step {e : List GNode} {k : Nat} {d : Int} {n : GNode} (h : depthOf (e.drop k) d = some 1) (hn : e[k]? = some n) : nodeOk n d = true ∧ depthOf (e.drop (k + 1)) (d - opnds n.op + 1) = some 1 := by
  rw [drop_cons hn] at h
  unfold depthOf at h
  split at h
  · rename_i hk; exact ⟨hk, h⟩
  · cases h
theorem nodeOk_op {n : GNode} {d : Int} (h : nodeOk n d = true) : 0 ≤ n.op ∧ n.op ≤ 4 := by
  unfold nodeOk at h; simp only [Bool.and_eq_true] at h; exact inB_iff.1 h.1
theorem nodeOk_ge {n : GNode} {d : Int} (h : nodeOk n d = true) : opnds n.op ≤ d := by
  unfold nodeOk at h; simp only [Bool.and_eq_true, decide_eq_true_iff] at h; exact h.2.1
theorem nodeOk_wish {n : GNode} {d : Int} (h : nodeOk n d = true) (h0 : n.op = 0) : isWish n.wish = true := by
  unfold nodeOk at h; simp only [Bool.and_eq_true, decide_eq_true_iff] at h; have := h.2.2; rw [if_pos h0] at this; exact this
theorem isExpr_depth {e : List GNode} (h : isExpr e = true) : depthOf e 0 = some 1 := by
  unfold isExpr at h; simp only [Bool.and_eq_true, decide_eq_true_iff] at h; exact h.1
theorem isExpr_len {e : List GNode} (h : isExpr e = true) : e.length ≤ 9 := by
  unfold isExpr at h; simp only [Bool.and_eq_true, decide_eq_true_iff] at h; exact h.2
/-- the stack behind k nodes -/
def stackAt (e : List GNode) (x y : GItem) (k : Nat) : List Int := (e.take k).foldl (stackStep x y) []
theorem stackAt_next {e : List GNode} {x y : GItem} {k : Nat} {n : GNode} (hn : e[k]? = some n) : stackAt e x y (k + 1) = stackStep x y (stackAt e x y k) n := by
  unfold stackAt; rw [List.take_add_one, hn, List.foldl_append]; rfl
theorem stackAt_end {e : List GNode} {x y : GItem} {k : Nat} (hk : e.length ≤ k) : (stackAt e x y k).getD 0 0 = cmpBy e x y := by
  unfold stackAt cmpBy; rw [List.take_of_length_le hk]
def codes (st : List Int) : Prop := ∀ v ∈ st, -1 ≤ v ∧ v ≤ 2
theorem codes_snoc {st : List Int} {v : Int} (h : codes st) (hv : -1 ≤ v ∧ v ≤ 2) : codes (st ++ [v]) := fun u hu => by
  rcases List.mem_append.1 hu with hu | hu
  · exact h u hu
  · simp at hu; rw [hu]; exact hv
theorem codes_left {st l : List Int} (h : codes (st ++ l)) : codes st := fun u hu => h u (List.mem_append_left _ hu)
theorem cmpItem_code (w : GWish) (x y : GItem) : -1 ≤ cmpItem w x y ∧ cmpItem w x y ≤ 2 := cmpV_code _ _ _
theorem isWish_field {w : GWish} (h : isWish w = true) : 0 ≤ w.field ∧ w.field ≤ 2 := by
  unfold isWish at h; simp only [Bool.and_eq_true] at h; exact inB_iff.1 h.1
theorem isWish_kind {w : GWish} (h : isWish w = true) : 0 ≤ w.kind ∧ w.kind ≤ 4 := by
  unfold isWish at h; simp only [Bool.and_eq_true] at h; exact inB_iff.1 h.2.1
theorem isWish_value {w : GWish} (h : isWish w = true) : 0 ≤ w.value ∧ w.value ≤ 9 := by
  unfold isWish at h; simp only [Bool.and_eq_true] at h; exact inB_iff.1 h.2.2.1
theorem isWish_pairs {w : GWish} (h : isWish w = true) (h4 : w.kind = 4) : arePairs w.pairs = true := by
  unfold isWish at h; simp only [Bool.and_eq_true] at h; have := h.2.2.2.2.2.2; rw [if_pos h4] at this; exact this
theorem arePairs_in {l : List GPair} (h : arePairs l = true) : pairsIn l = true := by
  unfold arePairs at h; simp only [Bool.and_eq_true] at h; exact h.1
theorem arePairs_len {l : List GPair} (h : arePairs l = true) : l.length ≤ 8 := by
  unfold arePairs at h; simp only [Bool.and_eq_true, decide_eq_true_iff] at h; exact h.2.1
theorem rankV_bd {w : GWish} {v : Int} (hw : isWish w = true) (hv : 0 ≤ v ∧ v ≤ 9) : 0 ≤ rankV w v ∧ rankV w v ≤ 9 := by
  have := isWish_value hw
  unfold rankV; repeat' split
  all_goals omega
end Go.Proofs.YtfffklkiikmieaaGreat

namespace Go.Proofs.YtfffklkiikmieaaGreat
open Go.RowKit
set_option linter.unusedVariables false

def beats (e : List GNode) (y x : GItem) : Bool := decide (cmpBy e y x = 1)
def freeIn (l : List GItem) (e : List GNode) (x : GItem) : Bool := !(l.any fun y => beats e y x)
def bestM (l : List GItem) (e : List GNode) : List Int := (l.filter (freeIn l e)).map (·.id)
def areBoth (l : List GItem) (e : List GNode) : Bool := areItems l && isExpr e
def bestItems (l : List GItem) (e : List GNode) : List Int := if areBoth l e then bestM l e else []
def onlyM (l : List GItem) (ids : List Int) (b : Bool) : List GItem := l.filter fun x => ids.contains x.id == b
theorem areItemsFrom_none : ∀ {l : List GItem} {p : Option Int}, areItemsFrom p l = true → areItemsFrom none l = true
  | [], _, _ => rfl
  | x :: l, none, h => h
  | x :: l, some p, h => by
    simp only [areItemsFrom, Bool.and_eq_true] at h ⊢
    exact ⟨h.1.1, h.2⟩
theorem areItemsFrom_low {p q : Int} (hpq : p ≤ q) : ∀ {l : List GItem}, areItemsFrom (some q) l = true → areItemsFrom (some p) l = true
  | [], _ => rfl
  | x :: l, h => by
    simp only [areItemsFrom, Bool.and_eq_true, decide_eq_true_iff] at h ⊢
    exact ⟨⟨h.1.1, by omega⟩, h.2⟩
theorem areItemsFrom_filter (f : GItem → Bool) : ∀ {l : List GItem} {p : Option Int}, areItemsFrom p l = true → areItemsFrom p (l.filter f) = true
  | [], _, _ => by simp [areItemsFrom]
  | x :: l, none, h => by
    have hh := h
    simp only [areItemsFrom, Bool.and_eq_true] at h
    by_cases hf : f x = true
    · rw [List.filter_cons_of_pos hf]
      simp only [areItemsFrom, Bool.and_eq_true]
      exact ⟨h.1, areItemsFrom_filter f h.2⟩
    · rw [List.filter_cons_of_neg hf]
      exact areItemsFrom_filter f (areItemsFrom_none h.2)
  | x :: l, some p, h => by
    simp only [areItemsFrom, Bool.and_eq_true, decide_eq_true_iff] at h
    by_cases hf : f x = true
    · rw [List.filter_cons_of_pos hf]
      simp only [areItemsFrom, Bool.and_eq_true, decide_eq_true_iff]
      exact ⟨h.1, areItemsFrom_filter f h.2⟩
    · rw [List.filter_cons_of_neg hf]
      exact areItemsFrom_filter f (areItemsFrom_low (by omega) h.2)
theorem areItems_filter {l : List GItem} (f : GItem → Bool) (h : areItems l = true) : areItems (l.filter f) = true := by
  unfold areItems at h ⊢
  simp only [Bool.and_eq_true, decide_eq_true_iff] at h ⊢
  exact ⟨areItemsFrom_filter f h.1, Nat.le_trans (List.length_filter_le _ _) h.2⟩
theorem areBoth_items {l : List GItem} {e : List GNode} (h : areBoth l e = true) : areItems l = true := by unfold areBoth at h; simp only [Bool.and_eq_true] at h; exact h.1
theorem areBoth_expr {l : List GItem} {e : List GNode} (h : areBoth l e = true) : isExpr e = true := by unfold areBoth at h; simp only [Bool.and_eq_true] at h; exact h.2
theorem bestM_len (l : List GItem) (e : List GNode) : (bestM l e).length ≤ l.length := by unfold bestM; rw [List.length_map]; exact List.length_filter_le _ _
/-- the best of the first items -/
def bestTo (l : List GItem) (e : List GNode) (k : Nat) : List Int := ((l.take k).filter (freeIn l e)).map (·.id)
theorem bestTo_yes {l : List GItem} {e : List GNode} {k : Nat} {x : GItem} (hx : l[k]? = some x) (h : freeIn l e x = true) : bestTo l e (k + 1) = bestTo l e k ++ [x.id] := by
  unfold bestTo; rw [List.take_add_one, hx, List.filter_append, List.map_append]; simp [h]
theorem bestTo_no {l : List GItem} {e : List GNode} {k : Nat} {x : GItem} (hx : l[k]? = some x) (h : freeIn l e x = false) : bestTo l e (k + 1) = bestTo l e k := by
  unfold bestTo; rw [List.take_add_one, hx, List.filter_append, List.map_append]; simp [h]
theorem bestTo_end {l : List GItem} {e : List GNode} {k : Nat} (h : l.length ≤ k) : bestTo l e k = bestM l e := by unfold bestTo bestM; rw [List.take_of_length_le h]
theorem bestTo_len {l : List GItem} {e : List GNode} {k : Nat} : (bestTo l e k).length ≤ k := by
  unfold bestTo; rw [List.length_map]
  exact Nat.le_trans (List.length_filter_le _ _) (by rw [List.length_take]; omega)
theorem any_take_succ {α : Type} (f : α → Bool) {l : List α} {k : Nat} {y : α} (h : l[k]? = some y) : (l.take (k + 1)).any f = ((l.take k).any f || f y) := by
  rw [List.take_add_one, h, List.any_append]; simp
theorem any_take_end {α : Type} (f : α → Bool) {l : List α} {k : Nat} (h : l.length ≤ k) : (l.take k).any f = l.any f := by rw [List.take_of_length_le h]
def onlyTo (l : List GItem) (ids : List Int) (b : Bool) (k : Nat) : List GItem := (l.take k).filter fun x => ids.contains x.id == b
theorem onlyTo_yes {l : List GItem} {ids : List Int} {b : Bool} {k : Nat} {x : GItem} (hx : l[k]? = some x) (h : ids.contains x.id = b) : onlyTo l ids b (k + 1) = onlyTo l ids b k ++ [x] := by
  have hb : (ids.contains x.id == b) = true := by rw [h]; simp
  unfold onlyTo; rw [List.take_add_one, hx, List.filter_append]
  simp only [Option.toList_some, List.filter_cons, List.filter_nil, hb, if_true]
theorem onlyTo_no {l : List GItem} {ids : List Int} {b : Bool} {k : Nat} {x : GItem} (hx : l[k]? = some x) (h : ids.contains x.id = !b) : onlyTo l ids b (k + 1) = onlyTo l ids b k := by
  have hb : (ids.contains x.id == b) = false := by rw [h]; cases b <;> rfl
  unfold onlyTo; rw [List.take_add_one, hx, List.filter_append]
  simp only [Option.toList_some, List.filter_cons, List.filter_nil, hb, List.append_nil, Bool.false_eq_true, if_false]
theorem onlyTo_end {l : List GItem} {ids : List Int} {b : Bool} {k : Nat} (h : l.length ≤ k) : onlyTo l ids b k = onlyM l ids b := by unfold onlyTo onlyM; rw [List.take_of_length_le h]
theorem onlyTo_len {l : List GItem} {ids : List Int} {b : Bool} {k : Nat} : (onlyTo l ids b k).length ≤ k := by
  unfold onlyTo
  exact Nat.le_trans (List.length_filter_le _ _) (by rw [List.length_take]; omega)
theorem onlyM_len (l : List GItem) (ids : List Int) (b : Bool) : (onlyM l ids b).length ≤ l.length := List.length_filter_le _ _

/-! ### several laws' answers -/
def codeB (c : Int) : Int := c
def refineM (l : List GItem) (ids : List Int) (q : List GNode) : List Int := if areBoth l q then bestM (onlyM l ids true) q else []
def localFree (a : List GItem) (f : Int) (p : List GNode) (x : GItem) : Bool := !(a.any fun y => decide (valAt x f = valAt y f) && beats p y x)
def localM (a : List GItem) (f : Int) (p : List GNode) : List Int := if areBoth a p && inB f 0 2 then (a.filter (localFree a f p)).map (·.id) else []
def isStand (s : GStanding) : Bool := areBoth s.items s.wanted && (decide (s.best = bestM s.items s.wanted) && inB s.tests 0 1000000)
end Go.Proofs.YtfffklkiikmieaaGreat
