/- The two parts of an expression, in both programs. -/
import Derived.Test.YthlaabaffbffkaaQItems
import Derived.Test.YthlaabaffbffkaaQCopies
import Derived.Deep.LoopGhost
import Derived.Test.YthlaabaffbffkaaQStack
import Derived.Test.YthlaabaffbffkaaQPareto
import Derived.Test.YthlaabaffbffkaaQCopyW
namespace Go.Proofs.Ythlaabaffbffkaa
open Go.RowKit
set_option linter.unusedVariables false
theorem info_ints : (Try.prog.info? 28).map (fun i => (i.zero, i.size, i.bytes)) = some (some (.slice none 0 0), 1, 24) := by kernel_rfl
abbrev fIntss : Fp (List (List Int)) := fSl 28 1 fInts
theorem fIntss_good {B : Nat} : GoodF B fIntss := fSl_good fInts_good
theorem fIntss_rd {B : Nat} {w : World} {xs : List (List Int)} {cs : List Value} {F : List Nat} (h : fIntss w xs cs F) : rIntss w (fun b => b ∈ F ∨ b < B) xs cs := fSl_rd rInts_good (fun _ _ _ h => fInts_rd h) h
theorem fIntss_Rd {w : World} {xs : List (List Int)} {cs : List Value} {F : List Nat} (h : fIntss w xs cs F) : Rd rIntss w xs cs := Rd.of rIntss_good (B := 0) (fIntss_rd h) ((fIntss_good (B := 0)).lt h) (Nat.zero_le _)
def totIntss (xs : List (List Int)) : Nat := xs.length + sumL (fun x => x.length) xs




end Go.Proofs.Ythlaabaffbffkaa


namespace Go.Proofs.Ythlaabaffbffkaa
open Go.RowKit
set_option linter.unusedVariables false
def holesV (i : Nat) : Nat → List Int → List (List Int)
  | _, [] => []
  | k, v :: vs => if v = -1 then [(i : Int), (k : Int)] :: holesV i (k + 1) vs else holesV i (k + 1) vs
def holesL : Nat → List GItem → List (List Int)
  | _, [] => []
  | i, x :: xs => holesV i 0 x.vals ++ holesL (i + 1) xs
def holes (xs : List GItem) : List (List Int) := holesL 0 xs
theorem holesV_len (i : Nat) : ∀ (k : Nat) (vs : List Int), (holesV i k vs).length ≤ vs.length
  | _, [] => Nat.le_refl _
  | k, v :: vs => by
    have := holesV_len i (k + 1) vs
    unfold holesV
    split <;> simp <;> omega
theorem holesL_len : ∀ (i : Nat) (xs : List GItem), (holesL i xs).length ≤ sumL (fun x => x.vals.length) xs
  | _, [] => Nat.le_refl _
  | i, x :: xs => by
    have := holesL_len (i + 1) xs
    have := holesV_len i 0 x.vals
    simp only [holesL, sumL, List.length_append]; omega
theorem holes_len {xs : List GItem} (h : totItems xs ≤ 1048576) : (holes xs).length ≤ 1048576 := by
  have := holesL_len 0 xs
  unfold totItems at h; unfold holes; omega
theorem holesL_drop {xs : List GItem} {i : Nat} {x : GItem} (h : xs[i]? = some x) : holesL i (xs.drop i) = holesV i 0 x.vals ++ holesL (i + 1) (xs.drop (i + 1)) := by rw [drop_cons h, holesL]
theorem holesV_yes {vs : List Int} {i k : Nat} {y : Int} (h : vs[k]? = some y) (hy : y = -1) : holesV i k (vs.drop k) = [(i : Int), (k : Int)] :: holesV i (k + 1) (vs.drop (k + 1)) := by rw [drop_cons h, holesV, if_pos hy]
theorem holesV_no {vs : List Int} {i k : Nat} {y : Int} (h : vs[k]? = some y) (hy : y ≠ -1) : holesV i k (vs.drop k) = holesV i (k + 1) (vs.drop (k + 1)) := by rw [drop_cons h, holesV, if_neg hy]
theorem fInts_two (w : World) (i k : Int) : fInts (w.alloc (.cells #[.int .i64 i, .int .i64 k] 3)) [i, k] [.slice (some ⟨w.heap.size, 0, none⟩) 2 2] [w.heap.size] := by
  refine ⟨_, [[.int .i64 i], [.int .i64 k]], [[], []], rfl, ?_, ⟨⟨⟨rfl, rfl⟩, rfl⟩, ⟨⟨rfl, rfl⟩, rfl⟩, trivial⟩, by simp [Value.ownBlock]⟩
  exact World.ownsRow_lit w #[.int .i64 i, .int .i64 k] 2 (Nat.zero_le _) (by simp [maxLen]) rfl
theorem info_Ints2 : (Try.prog.info? 28).map (fun i => (i.zero, i.size, i.bytes)) = some (some (.slice none 0 0), 1, 24) := by kernel_rfl


end Go.Proofs.Ythlaabaffbffkaa

namespace Go.Proofs.Ythlaabaffbffkaa
open Go.RowKit
set_option linter.unusedVariables false

inductive XT where
  | base (w : GWish)
  | dual (t : XT)
  | two (op : Int) (a b : XT)
def flat : XT → List GNode
  | .base w => [⟨0, w⟩]
  | .dual t => flat t ++ [⟨3, noWish⟩]
  | .two op a b => flat a ++ (flat b ++ [⟨op, noWish⟩])
def isTwo (op : Int) : Prop := op = 1 ∨ op = 2 ∨ op = 4
def okT : XT → Prop
  | .base w => isWish w = true
  | .dual t => okT t
  | .two op a b => isTwo op ∧ okT a ∧ okT b
def flats (ts : List XT) : List GNode := (ts.map flat).flatten
theorem flats_snoc (ts : List XT) (t : XT) : flats (ts ++ [t]) = flats ts ++ flat t := by simp [flats]
theorem flats_nil : flats [] = [] := rfl
theorem flat_pos : ∀ t : XT, 0 < (flat t).length
  | .base w => by simp [flat]
  | .dual t => by simp [flat]
  | .two op a b => by simp [flat]; omega
theorem flats_pos {ts : List XT} (h : 0 < ts.length) : 0 < (flats ts).length := by
  cases ts with
  | nil => simp at h
  | cons t ts => have := flat_pos t; simp [flats]; omega
theorem opnds_two {op : Int} (h : isTwo op) : opnds op = 2 := by unfold isTwo at h; unfold opnds; rw [if_neg (by omega), if_neg (by omega)]
theorem snocT {l : List XT} (h : 0 < l.length) : ∃ T a, l = T ++ [a] := ⟨l.dropLast, l.getLast (fun e => by rw [e] at h; simp at h), (List.dropLast_concat_getLast _).symm⟩
theorem nodeOk_iff {n : GNode} {d : Int} : nodeOk n d = true ↔ (0 ≤ n.op ∧ n.op ≤ 4) ∧ opnds n.op ≤ d ∧ (if n.op = 0 then isWish n.wish = true else n.wish = noWish) := by
  unfold nodeOk; simp only [Bool.and_eq_true, inB_iff, decide_eq_true_iff]
  by_cases h : n.op = 0
  · rw [if_pos h, if_pos h]
  · rw [if_neg h, if_neg h, decide_eq_true_iff]
theorem flat_depth : ∀ {t : XT}, okT t → ∀ (rest : List GNode) (d : Int), 0 ≤ d → depthOf (flat t ++ rest) d = depthOf rest (d + 1)
  | .base w, h, rest, d, hd => by
    have hk : nodeOk ⟨0, w⟩ d = true := nodeOk_iff.2 ⟨by simp, by simp [opnds]; exact hd, by simpa [okT] using h⟩
    simp [flat, depthOf, hk, opnds]
  | .dual t, h, rest, d, hd => by
    have hk : nodeOk ⟨3, noWish⟩ (d + 1) = true := nodeOk_iff.2 ⟨by simp, by simp [opnds]; omega, by simp⟩
    rw [flat, List.append_assoc, flat_depth (t := t) h _ d hd]
    simp [depthOf, hk, opnds]
  | .two op a b, h, rest, d, hd => by
    have h2 := opnds_two h.1
    have hk : nodeOk ⟨op, noWish⟩ (d + 1 + 1) = true := nodeOk_iff.2 ⟨by have := h.1; unfold isTwo at this; dsimp only; omega, by dsimp only; omega, by rw [if_neg (by have := h.1; unfold isTwo at this; dsimp only; omega)]⟩
    rw [flat, List.append_assoc, flat_depth (t := a) h.2.1 _ d hd, List.append_assoc, flat_depth (t := b) h.2.2 _ (d + 1) (by omega)]
    simp only [List.singleton_append, depthOf, hk, if_pos, h2]
    congr 1; omega
theorem tree_stack : ∀ (e : List GNode) (ts : List XT), (∀ t ∈ ts, okT t) → depthOf e ts.length = some 1 → ∃ t, okT t ∧ flats ts ++ e = flat t
  | [], ts, hk, h => by
    simp only [depthOf] at h
    have h1 : ts.length = 1 := by injection h with h; omega
    match ts, h1 with
    | [t], _ => exact ⟨t, hk t (by simp), by simp [flats]⟩
  | n :: e, ts, hk, h => by
    unfold depthOf at h
    split at h
    · rename_i hn
      obtain ⟨ho, hd, hw⟩ := nodeOk_iff.1 hn
      by_cases h0 : n.op = 0
      · rw [if_pos h0] at hw
        have hn' : n = ⟨0, n.wish⟩ := by cases n; simp_all
        obtain ⟨t, ht, he⟩ := tree_stack e (ts ++ [.base n.wish]) (by intro t ht; rcases List.mem_append.1 ht with ht | ht; exact hk t ht; simp at ht; rw [ht]; exact hw) (by
          rw [← h]; congr 1; simp [h0, opnds])
        refine ⟨t, ht, ?_⟩
        rw [← he, flats_snoc, flat, List.append_assoc, ← hn']; rfl
      rw [if_neg h0] at hw
      by_cases h3 : n.op = 3
      · have hn' : n = ⟨3, noWish⟩ := by cases n; simp_all
        have ho3 : opnds n.op = 1 := by rw [h3]; rfl
        obtain ⟨T, a, rfl⟩ := snocT (l := ts) (by omega)
        obtain ⟨t, ht, he⟩ := tree_stack e (T ++ [.dual a]) (by intro t ht; rcases List.mem_append.1 ht with ht | ht; exact hk t (by simp [ht]); simp at ht; rw [ht]; exact hk a (by simp)) (by
          rw [← h]; congr 1; simp [ho3])
        refine ⟨t, ht, ?_⟩
        rw [← he, flats_snoc, flats_snoc, flat, hn']; simp
      · have ho2 : isTwo n.op := by unfold isTwo; omega
        have hn' : n = ⟨n.op, noWish⟩ := by cases n; simp_all
        have hd2 := opnds_two ho2
        obtain ⟨T', b, rfl⟩ := snocT (l := ts) (by omega)
        obtain ⟨T, a, rfl⟩ := snocT (l := T') (by simp at hd; omega)
        obtain ⟨t, ht, he⟩ := tree_stack e (T ++ [.two n.op a b]) (by
            intro t ht
            rcases List.mem_append.1 ht with ht | ht
            · exact hk t (by simp [ht])
            · simp at ht; rw [ht]; exact ⟨ho2, hk a (by simp), hk b (by simp)⟩) (by
          rw [← h]; congr 1; simp [hd2])
        refine ⟨t, ht, ?_⟩
        rw [← he, flats_snoc, flats_snoc, flats_snoc, flat, ← hn']; simp
    · cases h
theorem tree_of {e : List GNode} (h : isExpr e = true) : ∃ t, okT t ∧ e = flat t := by
  obtain ⟨t, ht, he⟩ := tree_stack e [] (by simp) (by simpa using isExpr_depth h)
  exact ⟨t, ht, by simpa [flats] using he⟩
theorem isExpr_flat {t : XT} (h : okT t) (hl : (flat t).length ≤ 9) : isExpr (flat t) = true := by
  have := flat_depth h [] 0 (by omega)
  rw [List.append_nil] at this
  unfold isExpr
  rw [this]
  simp [depthOf, hl]
/-- one step back through an expression: the trees still to pass -/
theorem back_step {e pre : List GNode} {ts : List XT} {i : Nat} (hok : ∀ t ∈ ts, okT t) (h0 : 0 < ts.length) (h : e.take (i + 1) = pre ++ flats ts) (hi : i < e.length) :
    ∃ n ts2, e[i]? = some n ∧ (∀ t ∈ ts2, okT t) ∧ (ts2.length : Int) = (ts.length : Int) - 1 + opnds n.op ∧ e.take i = pre ++ flats ts2 ∧ (n.op = 0 ∨ n.op = 3 ∨ isTwo n.op) := by
  obtain ⟨T, u, rfl⟩ := snocT h0
  have key : ∀ (l : List GNode) (n : GNode), e.take (i + 1) = l ++ [n] → e[i]? = some n ∧ e.take i = l := fun l n hh => by
    have hl : l.length = i := by have := congrArg List.length hh; simp at this; omega
    refine ⟨?_, ?_⟩
    · have := congrArg (fun l => l[i]?) hh
      simp only [List.getElem?_take] at this
      rw [if_pos (by omega)] at this
      rw [this, List.getElem?_append_right (by omega), hl]; simp
    · have := congrArg (List.take i) hh
      rw [List.take_take, Nat.min_eq_left (by omega)] at this
      rw [this, ← hl]; exact List.take_left' rfl
  have hT : ∀ t ∈ T, okT t := fun t ht => hok t (by simp [ht])
  have hu := hok u (by simp)
  rw [flats_snoc] at h
  cases u with
  | base w =>
    obtain ⟨h1, h2⟩ := key (pre ++ flats T) ⟨0, w⟩ (by rw [h, flat]; simp)
    exact ⟨_, T, h1, hT, by simp [opnds], h2, .inl rfl⟩
  | dual t =>
    obtain ⟨h1, h2⟩ := key (pre ++ flats (T ++ [t])) ⟨3, noWish⟩ (by rw [h, flat, flats_snoc]; simp)
    exact ⟨_, T ++ [t], h1, by intro s hs; rcases List.mem_append.1 hs with hs | hs; exact hT s hs; simp at hs; rw [hs]; exact hu, by simp [opnds], h2, .inr (.inl rfl)⟩
  | two op a b =>
    obtain ⟨h1, h2⟩ := key (pre ++ flats (T ++ [a] ++ [b])) ⟨op, noWish⟩ (by rw [h, flat, flats_snoc, flats_snoc]; simp)
    refine ⟨_, T ++ [a] ++ [b], h1, ?_, ?_, h2, .inr (.inr hu.1)⟩
    · intro s hs
      rcases List.mem_append.1 hs with hs | hs
      · rcases List.mem_append.1 hs with hs | hs
        · exact hT s hs
        · simp at hs; rw [hs]; exact hu.2.1
      · simp at hs; rw [hs]; exact hu.2.2
    · rw [opnds_two hu.1]; simp; try omega

/-! ### weaker -/
def swapT : XT → XT → Bool
  | .two o a0 a1, .two r b0 b1 => (decide (o = 1 ∧ r = 2) || decide (o = 4 ∧ r = 1)) && ((decide (flat a0 = flat b0) && decide (flat a1 = flat b1)) || (decide (flat a0 = flat b1) && decide (flat a1 = flat b0)))
  | _, _ => false
def weakT (p q : XT) : Bool :=
  decide (flat p = flat q) || ((match q with | .two r b0 _ => decide (r = 2) && weakT p b0 | _ => false) || ((match p with | .two o a0 a1 => decide (o = 4) && (weakT a0 q || weakT a1 q) | _ => false) || swapT p q))
termination_by SizeOf.sizeOf p + SizeOf.sizeOf q
end Go.Proofs.Ythlaabaffbffkaa

namespace Go.Proofs.Ythlaabaffbffkaa
open Go.RowKit
set_option linter.unusedVariables false
set_option linter.unusedSimpArgs false
theorem flats_ge : ∀ ts : List XT, ts.length ≤ (flats ts).length
  | [] => Nat.le_refl _
  | t :: ts => by
    have h1 := flat_pos t
    have h2 := flats_ge ts
    have e : flats (t :: ts) = flat t ++ flats ts := by simp [flats]
    rw [e, List.length_append, List.length_cons]; omega
theorem flats_one (t : XT) : flats [t] = flat t := by simp [flats]


end Go.Proofs.Ythlaabaffbffkaa

namespace Go.Proofs.Ythlaabaffbffkaa
open Go.RowKit
set_option linter.unusedVariables false
set_option linter.unusedSimpArgs false
theorem rSl_sub {α : Type} {sz : Nat} {R : Rep α} {w : World} {S : Blocks} {xs : List α} {b o n c : Nat} (h : rSl sz R w S xs [.slice (some ⟨b, o, none⟩) n c]) (i k : Nat) (hik : i ≤ k) (hk : k ≤ n) (hn : n = xs.length) :
    rSl sz R w S ((xs.drop i).take (k - i)) [.slice (some ⟨b, o + i * sz, none⟩) (k - i) (c - i)] := by
  obtain ⟨A, c', e, h1, h2, h3⟩ := h
  injection e with e _
  injection e with e1 e2 e3
  subst e1 e3
  have hl : ((xs.drop i).take (k - i)).length = k - i := by rw [List.length_take, List.length_drop]; omega
  refine ⟨_, c - i, by rw [hl], by rw [hl]; omega, Nat.le_trans (Nat.sub_le _ _) h2, fun j x hx => ?_⟩
  have hj : j < k - i := by rw [← hl]; exact (List.getElem?_eq_some_iff.1 hx).1
  rw [List.getElem?_take, if_pos hj, List.getElem?_drop] at hx
  obtain ⟨b', o', us, eA, hS, hul, hc, hr⟩ := h3 (i + j) x hx
  injection eA with eA
  injection eA with e4 e5 _
  subst e4 e5
  refine ⟨b, o + i * sz, us, rfl, hS, hul, fun t u hu => ?_, hr⟩
  have := hc t u hu
  rw [show o + i * sz + j * sz + t = o + (i + j) * sz + t by rw [Nat.add_mul]; omega]
  exact this
def opOf : XT → Int
  | .base _ => 0
  | .dual _ => 3
  | .two op _ _ => op
def PartsPost (t : XT) (w : World) (e : Ending) (w' : World) : Prop := ∃ sv, e = .returned (.tuple #[.int .i64 (opOf t), sv]) ∧ Bw w w' ∧ (match t with
  | .two _ a b => ∃ g va vb, sv = .slice (some ⟨g, 0, none⟩) 2 2 ∧ w'.cell? ⟨g, 0, none⟩ = some va ∧ w'.cell? ⟨g, 1, none⟩ = some vb ∧ Rd rNodes w (flat a) [va] ∧ Rd rNodes w (flat b) [vb]
  | _ => True)
theorem flat_last : ∀ t : XT, ∃ n, (flat t)[(flat t).length - 1]? = some n ∧ n.op = opOf t
  | .base w => ⟨⟨0, w⟩, by simp [flat], rfl⟩
  | .dual t => ⟨⟨3, noWish⟩, by simp [flat], rfl⟩
  | .two op a b => ⟨⟨op, noWish⟩, by
      have : flat (.two op a b) = (flat a ++ flat b) ++ [⟨op, noWish⟩] := by simp [flat]
      rw [this]; simp, rfl⟩
theorem flat_two_take (op : Int) (a b : XT) : (flat (.two op a b)).take ((flat (.two op a b)).length - 1) = flat a ++ flat b := by
  have h : flat (.two op a b) = (flat a ++ flat b) ++ [⟨op, noWish⟩] := by simp [flat]
  rw [h]
  exact List.take_left' (by simp)
theorem flat_two_len (op : Int) (a b : XT) : (flat (.two op a b)).length = (flat a).length + (flat b).length + 1 := by simp [flat]; omega
theorem flat_two_a (op : Int) (a b : XT) : ((flat (.two op a b)).drop 0).take ((flat a).length - 0) = flat a := by simp [flat]
theorem flat_two_b (op : Int) (a b : XT) : ((flat (.two op a b)).drop (flat a).length).take ((flat a).length + (flat b).length - (flat a).length) = flat b := by simp [flat]




theorem flat_tot {t : XT} (hok : okT t) (h9 : (flat t).length ≤ 9) : totNodes (flat t) ≤ 1048576 := by have := expr_small (isExpr_flat hok h9); omega
/-- where the last node lies -/
theorem flat_open {w : World} {t : XT} {v : Value} (h : Rd rNodes w (flat t) [v]) : ∃ b o m c, v = .slice (some ⟨b, o, none⟩) (m + 1) c ∧ Hid (m + 1 = (flat t).length) ∧ m + 1 ≤ c ∧ c ≤ 9223372036854775807 ∧ w.cell? ⟨b, o + m * 6, none⟩ = some (.int .i64 (opOf t)) := by
  obtain ⟨x, hx, hxo⟩ := flat_last t
  have hp := flat_pos t
  obtain ⟨A, n, c, rfl, L, Lc, Lm⟩ := rSl_open h
  unfold maxLen at Lm
  obtain ⟨ba, oa, Al, cl, Ap, cp, rfl, _, c0, _⟩ := rNodes_at h hx
  obtain ⟨m, hm⟩ : ∃ m, n = m + 1 := ⟨n - 1, by omega⟩
  subst hm
  rw [hxo, show (flat t).length - 1 = m by omega] at c0
  exact ⟨ba, oa, m, c, rfl, L, Lc, by omega, c0⟩
end Go.Proofs.Ythlaabaffbffkaa
