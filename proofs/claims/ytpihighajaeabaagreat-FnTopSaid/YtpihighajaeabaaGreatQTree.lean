/- Expressions as trees. No program in sight. -/
import Derived.Test.YtpihighajaeabaaGreatQOwn3
import Derived.WalkSmall
namespace Go.Proofs.YtpihighajaeabaaGreat
open Go.RowKit
set_option linter.unusedVariables false
theorem all3_ints {w : World} : ∀ {xs : List Int} {us : List (List Value)} {Fs : List (List Nat)}, all3 (fun x u f => fInt w x u f ∧ u.length = 1) xs us Fs → us.flatten = xs.map (Value.int .i64) ∧ Fs.flatten = []
  | [], [], [], _ => ⟨rfl, rfl⟩
  | x :: xs, u :: us, f :: Fs, h => by
    obtain ⟨h1, h2⟩ := h
    have ih := all3_ints h2
    obtain ⟨⟨rfl, rfl⟩, _⟩ := h1
    simp [ih.1, ih.2]
  | [], _ :: _, _, h => by cases h
  | [], [], _ :: _, h => by cases h
  | _ :: _, [], _, h => by cases h
  | _ :: _, _ :: _, [], h => by cases h
theorem all3_ints_mk {w : World} : ∀ xs : List Int, all3 (fun x u f => fInt w x u f ∧ u.length = 1) xs (xs.map fun x => [Value.int .i64 x]) (xs.map fun _ => [])
  | [] => trivial
  | x :: xs => ⟨⟨⟨rfl, rfl⟩, rfl⟩, all3_ints_mk xs⟩
theorem flatten_nils {α β : Type} : ∀ xs : List α, (xs.map fun _ => ([] : List β)).flatten = []
  | [] => rfl
  | _ :: xs => by simp
theorem flatten_ones : ∀ xs : List Int, (xs.map fun x => [Value.int .i64 x]).flatten = xs.map (Value.int .i64)
  | [] => rfl
  | x :: xs => by rw [List.map_cons, List.flatten_cons, flatten_ones xs]; rfl
theorem fInts_iff {w : World} {xs : List Int} {v : Value} {F : List Nat} : fInts w xs [v] F ↔ w.ownsRow 0 3 1 v xs.length (xs.map (Value.int .i64)) ∧ F = v.ownBlock.toList := by
  constructor
  · rintro ⟨v', us, Fs, e, hown, hall, rfl⟩
    injection e with e
    subst e
    have := all3_ints hall
    rw [this.1] at hown
    exact ⟨hown, by rw [this.2]; simp⟩
  · rintro ⟨h, rfl⟩
    exact ⟨v, _, _, rfl, by rw [flatten_ones]; exact h, all3_ints_mk xs, by rw [flatten_nils]; simp⟩
theorem fInts_pop {w : World} {xs : List Int} {x : Int} {g n c : Nat} {F : List Nat} (h : fInts w (xs ++ [x]) [.slice (some ⟨g, 0, none⟩) n c] F) : fInts w xs [.slice (some ⟨g, 0, none⟩) xs.length c] F := by
  rw [fInts_iff] at h ⊢
  obtain ⟨h1, h2⟩ := h
  refine ⟨?_, h2⟩
  have hn : n = xs.length + 1 := by
    rcases h1.2 with ⟨h, _⟩ | ⟨g', cap, cur, h, _⟩
    · cases h
    · injection h with _ h _; simpa using h
  subst hn
  refine ownsRow_pop (last := [.int .i64 x]) (by simp) ?_
  simpa using h1
theorem snoc1 {l : List Int} (h : 0 < l.length) : ∃ T a, l = T ++ [a] := ⟨l.dropLast, l.getLast (fun e => by rw [e] at h; simp at h), (List.dropLast_concat_getLast _).symm⟩
theorem snoc2 {l : List Int} (h : 2 ≤ l.length) : ∃ T a b, l = T ++ [a, b] := by
  obtain ⟨T, b, rfl⟩ := snoc1 (l := l) (by omega)
  obtain ⟨T', a, rfl⟩ := snoc1 (l := T) (by simp at h; omega)
  exact ⟨T', a, b, by simp⟩
theorem stack_base {x y : GItem} {st : List Int} {n : GNode} (h : n.op = 0) : stackStep x y st n = st ++ [cmpItem n.wish x y] := by unfold stackStep; rw [if_pos h]
theorem stack_dual {x y : GItem} {T : List Int} {a : Int} {n : GNode} (h : n.op = 3) : stackStep x y (T ++ [a]) n = T ++ [neg2 a] := by
  unfold stackStep; rw [if_neg (by omega), if_pos h]
  simp
theorem stack_two {x y : GItem} {T : List Int} {a b : Int} {n : GNode} (h : n.op ≠ 0) (h3 : n.op ≠ 3) : stackStep x y (T ++ [a, b]) n = T ++ [comb n.op a b] := by
  unfold stackStep; rw [if_neg h, if_neg h3]
  simp [List.getD_eq_getElem?_getD]
theorem depth_step {e : List GNode} {k : Nat} {d : Int} {n : GNode} (h : depthOf (e.drop k) d = some 1) (hn : e[k]? = some n) : nodeOk n d = true ∧ depthOf (e.drop (k + 1)) (d - opnds n.op + 1) = some 1 := by
  rw [drop_cons hn] at h
  unfold depthOf at h
  split at h
  · rename_i hk; exact ⟨hk, h⟩
  · cases h
theorem nodeOk_op {n : GNode} {d : Int} (h : nodeOk n d = true) : 0 ≤ n.op ∧ n.op ≤ 4 := by
  unfold nodeOk at h; simp only [Bool.and_eq_true] at h; exact inB_iff.1 h.1
theorem nodeOk_ge {n : GNode} {d : Int} (h : nodeOk n d = true) : opnds n.op ≤ d := by
  unfold nodeOk at h; simp only [Bool.and_eq_true, decide_eq_true_iff] at h; exact h.2.1
theorem nodeOk_wish {n : GNode} {d : Int} (h : nodeOk n d = true) (h0 : n.op = 0) : isWish n.wish = true := by
  unfold nodeOk at h; simp only [Bool.and_eq_true, decide_eq_true_iff] at h; have := h.2.2; rw [if_pos h0] at this; exact this
theorem isExpr_depth {e : List GNode} (h : isExpr e = true) : depthOf e 0 = some 1 := by
  unfold isExpr at h; simp only [Bool.and_eq_true, decide_eq_true_iff] at h; exact h.1
theorem isExpr_len {e : List GNode} (h : isExpr e = true) : e.length ≤ 9 := by
  unfold isExpr at h; simp only [Bool.and_eq_true, decide_eq_true_iff] at h; exact h.2
/-- the stack behind k nodes -/
def stackAt (e : List GNode) (x y : GItem) (k : Nat) : List Int := (e.take k).foldl (stackStep x y) []
theorem stackAt_next {e : List GNode} {x y : GItem} {k : Nat} {n : GNode} (hn : e[k]? = some n) : stackAt e x y (k + 1) = stackStep x y (stackAt e x y k) n := by
  unfold stackAt; rw [List.take_add_one, hn, List.foldl_append]; rfl
theorem stackAt_end {e : List GNode} {x y : GItem} {k : Nat} (hk : e.length ≤ k) : (stackAt e x y k).getD 0 0 = cmpBy e x y := by
  unfold stackAt cmpBy; rw [List.take_of_length_le hk]
def codes (st : List Int) : Prop := ∀ v ∈ st, -1 ≤ v ∧ v ≤ 2
theorem codes_snoc {st : List Int} {v : Int} (h : codes st) (hv : -1 ≤ v ∧ v ≤ 2) : codes (st ++ [v]) := fun u hu => by
  rcases List.mem_append.1 hu with hu | hu
  · exact h u hu
  · simp at hu; rw [hu]; exact hv
theorem codes_left {st l : List Int} (h : codes (st ++ l)) : codes st := fun u hu => h u (List.mem_append_left _ hu)
theorem cmpItem_code (w : GWish) (x y : GItem) : -1 ≤ cmpItem w x y ∧ cmpItem w x y ≤ 2 := cmpV_code _ _ _
theorem isWish_field {w : GWish} (h : isWish w = true) : 0 ≤ w.field ∧ w.field ≤ 2 := by
  unfold isWish at h; simp only [Bool.and_eq_true] at h; exact inB_iff.1 h.1
theorem isWish_kind {w : GWish} (h : isWish w = true) : 0 ≤ w.kind ∧ w.kind ≤ 4 := by
  unfold isWish at h; simp only [Bool.and_eq_true] at h; exact inB_iff.1 h.2.1
theorem isWish_value {w : GWish} (h : isWish w = true) : 0 ≤ w.value ∧ w.value ≤ 9 := by
  unfold isWish at h; simp only [Bool.and_eq_true] at h; exact inB_iff.1 h.2.2.1
theorem isWish_pairs {w : GWish} (h : isWish w = true) (h4 : w.kind = 4) : arePairs w.pairs = true := by
  unfold isWish at h; simp only [Bool.and_eq_true] at h; have := h.2.2.2.2.2.2; rw [if_pos h4] at this; exact this
theorem arePairs_in {l : List GPair} (h : arePairs l = true) : pairsIn l = true := by
  unfold arePairs at h; simp only [Bool.and_eq_true] at h; exact h.1
theorem arePairs_len {l : List GPair} (h : arePairs l = true) : l.length ≤ 8 := by
  unfold arePairs at h; simp only [Bool.and_eq_true, decide_eq_true_iff] at h; exact h.2.1
theorem rankV_bd {w : GWish} {v : Int} (hw : isWish w = true) (hv : 0 ≤ v ∧ v ≤ 9) : 0 ≤ rankV w v ∧ rankV w v ≤ 9 := by
  have := isWish_value hw
  unfold rankV; repeat' split
  all_goals omega
end Go.Proofs.YtpihighajaeabaaGreat

namespace Go.Proofs.YtpihighajaeabaaGreat
open Go.RowKit
set_option linter.unusedVariables false

inductive XT where
  | base (w : GWish)
  | dual (t : XT)
  | two (op : Int) (a b : XT)
def flat : XT → List GNode
  | .base w => [⟨0, w⟩]
  | .dual t => flat t ++ [⟨3, noWish⟩]
  | .two op a b => flat a ++ (flat b ++ [⟨op, noWish⟩])
def isTwo (op : Int) : Prop := op = 1 ∨ op = 2 ∨ op = 4
def okT : XT → Prop
  | .base w => isWish w = true
  | .dual t => okT t
  | .two op a b => isTwo op ∧ okT a ∧ okT b
def flats (ts : List XT) : List GNode := (ts.map flat).flatten
theorem flats_snoc (ts : List XT) (t : XT) : flats (ts ++ [t]) = flats ts ++ flat t := by simp [flats]
theorem flats_nil : flats [] = [] := rfl
theorem flat_pos : ∀ t : XT, 0 < (flat t).length
  | .base w => by simp [flat]
  | .dual t => by simp [flat]
  | .two op a b => by simp [flat]; omega
theorem flats_pos {ts : List XT} (h : 0 < ts.length) : 0 < (flats ts).length := by
  cases ts with
  | nil => simp at h
  | cons t ts => have := flat_pos t; simp [flats]; omega
theorem opnds_two {op : Int} (h : isTwo op) : opnds op = 2 := by unfold isTwo at h; unfold opnds; rw [if_neg (by omega), if_neg (by omega)]
theorem snocT {l : List XT} (h : 0 < l.length) : ∃ T a, l = T ++ [a] := ⟨l.dropLast, l.getLast (fun e => by rw [e] at h; simp at h), (List.dropLast_concat_getLast _).symm⟩
theorem nodeOk_iff {n : GNode} {d : Int} : nodeOk n d = true ↔ (0 ≤ n.op ∧ n.op ≤ 4) ∧ opnds n.op ≤ d ∧ (if n.op = 0 then isWish n.wish = true else n.wish = noWish) := by
  unfold nodeOk; simp only [Bool.and_eq_true, inB_iff, decide_eq_true_iff]
  by_cases h : n.op = 0
  · rw [if_pos h, if_pos h]
  · rw [if_neg h, if_neg h, decide_eq_true_iff]
theorem flat_depth : ∀ {t : XT}, okT t → ∀ (rest : List GNode) (d : Int), 0 ≤ d → depthOf (flat t ++ rest) d = depthOf rest (d + 1)
  | .base w, h, rest, d, hd => by
    have hk : nodeOk ⟨0, w⟩ d = true := nodeOk_iff.2 ⟨by simp, by simp [opnds]; exact hd, by simpa [okT] using h⟩
    simp [flat, depthOf, hk, opnds]
  | .dual t, h, rest, d, hd => by
    have hk : nodeOk ⟨3, noWish⟩ (d + 1) = true := nodeOk_iff.2 ⟨by simp, by simp [opnds]; omega, by simp⟩
    rw [flat, List.append_assoc, flat_depth (t := t) h _ d hd]
    simp [depthOf, hk, opnds]
  | .two op a b, h, rest, d, hd => by
    have h2 := opnds_two h.1
    have hk : nodeOk ⟨op, noWish⟩ (d + 1 + 1) = true := nodeOk_iff.2 ⟨by have := h.1; unfold isTwo at this; dsimp only; omega, by dsimp only; omega, by rw [if_neg (by have := h.1; unfold isTwo at this; dsimp only; omega)]⟩
    rw [flat, List.append_assoc, flat_depth (t := a) h.2.1 _ d hd, List.append_assoc, flat_depth (t := b) h.2.2 _ (d + 1) (by omega)]
    simp only [List.singleton_append, depthOf, hk, if_pos, h2]
    congr 1; omega
theorem tree_stack : ∀ (e : List GNode) (ts : List XT), (∀ t ∈ ts, okT t) → depthOf e ts.length = some 1 → ∃ t, okT t ∧ flats ts ++ e = flat t
  | [], ts, hk, h => by
    simp only [depthOf] at h
    have h1 : ts.length = 1 := by injection h with h; omega
    match ts, h1 with
    | [t], _ => exact ⟨t, hk t (by simp), by simp [flats]⟩
  | n :: e, ts, hk, h => by
    unfold depthOf at h
    split at h
    · rename_i hn
      obtain ⟨ho, hd, hw⟩ := nodeOk_iff.1 hn
      by_cases h0 : n.op = 0
      · rw [if_pos h0] at hw
        have hn' : n = ⟨0, n.wish⟩ := by cases n; simp_all
        obtain ⟨t, ht, he⟩ := tree_stack e (ts ++ [.base n.wish]) (by intro t ht; rcases List.mem_append.1 ht with ht | ht; exact hk t ht; simp at ht; rw [ht]; exact hw) (by
          rw [← h]; congr 1; simp [h0, opnds])
        refine ⟨t, ht, ?_⟩
        rw [← he, flats_snoc, flat, List.append_assoc, ← hn']; rfl
      rw [if_neg h0] at hw
      by_cases h3 : n.op = 3
      · have hn' : n = ⟨3, noWish⟩ := by cases n; simp_all
        have ho3 : opnds n.op = 1 := by rw [h3]; rfl
        obtain ⟨T, a, rfl⟩ := snocT (l := ts) (by omega)
        obtain ⟨t, ht, he⟩ := tree_stack e (T ++ [.dual a]) (by intro t ht; rcases List.mem_append.1 ht with ht | ht; exact hk t (by simp [ht]); simp at ht; rw [ht]; exact hk a (by simp)) (by
          rw [← h]; congr 1; simp [ho3])
        refine ⟨t, ht, ?_⟩
        rw [← he, flats_snoc, flats_snoc, flat, hn']; simp
      · have ho2 : isTwo n.op := by unfold isTwo; omega
        have hn' : n = ⟨n.op, noWish⟩ := by cases n; simp_all
        have hd2 := opnds_two ho2
        obtain ⟨T', b, rfl⟩ := snocT (l := ts) (by omega)
        obtain ⟨T, a, rfl⟩ := snocT (l := T') (by simp at hd; omega)
        obtain ⟨t, ht, he⟩ := tree_stack e (T ++ [.two n.op a b]) (by
            intro t ht
            rcases List.mem_append.1 ht with ht | ht
            · exact hk t (by simp [ht])
            · simp at ht; rw [ht]; exact ⟨ho2, hk a (by simp), hk b (by simp)⟩) (by
          rw [← h]; congr 1; simp [hd2])
        refine ⟨t, ht, ?_⟩
        rw [← he, flats_snoc, flats_snoc, flats_snoc, flat, ← hn']; simp
    · cases h
theorem tree_of {e : List GNode} (h : isExpr e = true) : ∃ t, okT t ∧ e = flat t := by
  obtain ⟨t, ht, he⟩ := tree_stack e [] (by simp) (by simpa using isExpr_depth h)
  exact ⟨t, ht, by simpa [flats] using he⟩
theorem isExpr_flat {t : XT} (h : okT t) (hl : (flat t).length ≤ 9) : isExpr (flat t) = true := by
  have := flat_depth h [] 0 (by omega)
  rw [List.append_nil] at this
  unfold isExpr
  rw [this]
  simp [depthOf, hl]
/-- one step back through an expression: the trees still to pass -/
theorem back_step {e pre : List GNode} {ts : List XT} {i : Nat} (hok : ∀ t ∈ ts, okT t) (h0 : 0 < ts.length) (h : e.take (i + 1) = pre ++ flats ts) (hi : i < e.length) :
    ∃ n ts2, e[i]? = some n ∧ (∀ t ∈ ts2, okT t) ∧ (ts2.length : Int) = (ts.length : Int) - 1 + opnds n.op ∧ e.take i = pre ++ flats ts2 ∧ (n.op = 0 ∨ n.op = 3 ∨ isTwo n.op) := by
  obtain ⟨T, u, rfl⟩ := snocT h0
  have key : ∀ (l : List GNode) (n : GNode), e.take (i + 1) = l ++ [n] → e[i]? = some n ∧ e.take i = l := fun l n hh => by
    have hl : l.length = i := by have := congrArg List.length hh; simp at this; omega
    refine ⟨?_, ?_⟩
    · have := congrArg (fun l => l[i]?) hh
      simp only [List.getElem?_take] at this
      rw [if_pos (by omega)] at this
      rw [this, List.getElem?_append_right (by omega), hl]; simp
    · have := congrArg (List.take i) hh
      rw [List.take_take, Nat.min_eq_left (by omega)] at this
      rw [this, ← hl]; exact List.take_left' rfl
  have hT : ∀ t ∈ T, okT t := fun t ht => hok t (by simp [ht])
  have hu := hok u (by simp)
  rw [flats_snoc] at h
  cases u with
  | base w =>
    obtain ⟨h1, h2⟩ := key (pre ++ flats T) ⟨0, w⟩ (by rw [h, flat]; simp)
    exact ⟨_, T, h1, hT, by simp [opnds], h2, .inl rfl⟩
  | dual t =>
    obtain ⟨h1, h2⟩ := key (pre ++ flats (T ++ [t])) ⟨3, noWish⟩ (by rw [h, flat, flats_snoc]; simp)
    exact ⟨_, T ++ [t], h1, by intro s hs; rcases List.mem_append.1 hs with hs | hs; exact hT s hs; simp at hs; rw [hs]; exact hu, by simp [opnds], h2, .inr (.inl rfl)⟩
  | two op a b =>
    obtain ⟨h1, h2⟩ := key (pre ++ flats (T ++ [a] ++ [b])) ⟨op, noWish⟩ (by rw [h, flat, flats_snoc, flats_snoc]; simp)
    refine ⟨_, T ++ [a] ++ [b], h1, ?_, ?_, h2, .inr (.inr hu.1)⟩
    · intro s hs
      rcases List.mem_append.1 hs with hs | hs
      · rcases List.mem_append.1 hs with hs | hs
        · exact hT s hs
        · simp at hs; rw [hs]; exact hu.2.1
      · simp at hs; rw [hs]; exact hu.2.2
    · rw [opnds_two hu.1]; simp; try omega

/-! ### weaker -/
end Go.Proofs.YtpihighajaeabaaGreat
