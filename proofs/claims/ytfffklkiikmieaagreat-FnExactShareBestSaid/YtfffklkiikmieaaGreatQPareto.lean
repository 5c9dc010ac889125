/- The wishes that count alike: ParetoOf in both programs. -/
import Derived.Test.YtfffklkiikmieaaGreatQOwn3
import Derived.Test.YtfffklkiikmieaaGreatQCopyW
import Derived.Test.YtfffklkiikmieaaGreatQExprI
import Derived.Test.YtfffklkiikmieaaGreatQExprS
namespace Go.Proofs.YtfffklkiikmieaaGreat
open Go.RowKit
set_option linter.unusedVariables false
theorem Bw.only {a b : World} (F : List Nat) (h : Bw a b) : Only F a b := ⟨h.size, fun x hx _ => Below.block h x hx⟩
theorem Only.push {g : Nat} {F : List Nat} {a b c : World} (h : Only [g] a b) (k : Only F b c) (hF : ∀ x ∈ F, x = g ∨ a.heap.size ≤ x) : Only [g] a c := ⟨Nat.le_trans h.1 k.1, fun x hx hn => (k.2 x (Nat.lt_of_lt_of_le hx h.1) (fun e => (hF x e).elim (fun e => hn (by simp [e])) (fun e => by omega))).trans (h.2 x hx hn)⟩
/-- a result in memory and one more -/
def Two {α : Type} (f : Fp α) (B : Nat) (x : α) (z : Value) (w : World) (u : Value) : Prop := ∃ v, u = .tuple #[v, z] ∧ Made f B x w v
theorem RetV.two {α : Type} {f : Fp α} {w w' : World} {x : α} {v z z' : Value} {F : List Nat} (h : f w' x [v] F) (hF : Fresh w.heap.size F) (hz : z = z') (hb : Bw w w') : RetV w (Two f w.heap.size x z') (.returned (.tuple #[v, z])) w' := ⟨_, rfl, ⟨v, by rw [hz], F, h, hF⟩, hb⟩
end Go.Proofs.YtfffklkiikmieaaGreat

namespace Go.Proofs.YtfffklkiikmieaaGreat
open Go.RowKit
set_option linter.unusedVariables false
set_option linter.unusedSimpArgs false
def opNode : GNode := ⟨1, ⟨0, 0, 0, [], []⟩⟩
def parTo (w : List GWish) : Nat → List GNode
  | 0 => []
  | k + 1 => parTo w k ++ (match w[k]? with | some x => ⟨0, x⟩ :: (if k = 0 then [] else [opNode]) | none => [])
def parL (w : List GWish) : List GNode := if isExpr (parTo w w.length) then parTo w w.length else []
def parOk (w : List GWish) : Bool := isExpr (parTo w w.length)
theorem parTo_one {w : List GWish} {x : GWish} (h : w[0]? = some x) : parTo w 1 = parTo w 0 ++ [⟨0, x⟩] := by rw [show parTo w 1 = parTo w 0 ++ (match w[0]? with | some x => ⟨0, x⟩ :: (if (0 : Nat) = 0 then [] else [opNode]) | none => []) from rfl, h]; rfl
theorem parTo_more {w : List GWish} {k : Nat} {x : GWish} (h : w[k]? = some x) (hk : 0 < k) : parTo w (k + 1) = (parTo w k ++ [⟨0, x⟩]) ++ [opNode] := by
  rw [parTo, h, List.append_assoc]
  simp only [if_neg (Nat.ne_of_gt hk), List.cons_append, List.nil_append]
theorem parTo_len (w : List GWish) : ∀ k, (parTo w k).length ≤ 2 * k
  | 0 => Nat.le_refl _
  | k + 1 => by
    have := parTo_len w k
    rw [parTo, List.length_append]
    cases w[k]? with
    | none => simp; omega
    | some x =>
      dsimp only
      split
      · simp; omega
      · simp; omega
theorem asc_len : ∀ {l : List Int} {p : Int}, ascFrom (some p) l = true → p ≤ 9 → (l.length : Int) ≤ 9 - p
  | [], p, _, h => by simp; omega
  | v :: l, p, h, hp => by
    simp only [ascFrom, Bool.and_eq_true, decide_eq_true_eq] at h
    have hv := inB_iff.1 h.1.1
    have := asc_len h.2 hv.2
    simp only [List.length_cons]
    omega
theorem wish_small {x : GWish} (h : isWish x = true) : x.list.length ≤ 10 ∧ x.pairs.length ≤ 8 := by
  unfold isWish at h
  simp only [Bool.and_eq_true] at h
  refine ⟨?_, ?_⟩
  · have ha := h.2.2.2.1
    match hl : x.list, ha with
    | [], _ => simp
    | v :: l, ha =>
      simp only [ascFrom, Bool.and_eq_true] at ha
      have hv := inB_iff.1 ha.1
      have := asc_len ha.2 hv.2
      simp only [List.length_cons]
      omega
  · have hp := h.2.2.2.2.2.2
    split at hp
    · unfold arePairs at hp
      simp only [Bool.and_eq_true, decide_eq_true_eq] at hp
      exact hp.2.1
    · rw [decide_eq_true_eq] at hp; omega
theorem depth_small : ∀ {e : List GNode} {d r : Int}, depthOf e d = some r → ∀ n ∈ e, totNode n ≤ 18
  | [], _, _, _, n, hn => by simp at hn
  | m :: e, d, r, h, n, hn => by
    rw [depthOf] at h
    split at h
    · rename_i hk
      rcases List.mem_cons.1 hn with h1 | h1
      · subst h1
        unfold nodeOk at hk
        simp only [Bool.and_eq_true] at hk
        have hw := hk.2.2
        split at hw
        · have := wish_small hw
          unfold totNode totWish; omega
        · rw [decide_eq_true_eq] at hw
          unfold totNode totWish; rw [hw]; simp [noWish]
      · exact depth_small h n h1
    · cases h
theorem sum_le {α : Type} (f : α → Nat) (B : Nat) : ∀ {l : List α}, (∀ x ∈ l, f x ≤ B) → sumL f l ≤ B * l.length
  | [], _ => by simp [sumL]
  | x :: l, h => by
    have h1 := h x (by simp)
    have h2 := sum_le f B (l := l) (fun y hy => h y (by simp [hy]))
    simp only [sumL, List.length_cons, Nat.mul_add]
    omega
theorem expr_small {e : List GNode} (h : isExpr e = true) : totNodes e ≤ 171 := by
  unfold isExpr at h
  rw [Bool.and_eq_true, decide_eq_true_eq, decide_eq_true_eq] at h
  have := sum_le totNode 18 (depth_small h.1)
  unfold totNodes
  omega
theorem par_tot (w : List GWish) : totNodes (parL w) ≤ 171 := by
  unfold parL
  split
  · rename_i he; exact expr_small he
  · simp [totNodes, sumL]
theorem fNode_op (w : World) : fNode w opNode [.int .i64 1, .int .i64 0, .int .i64 0, .int .i64 0, .slice none 0 0, .slice none 0 0] [] :=
  ⟨_, rfl, _, _, [], [], rfl, ⟨_, [], [], rfl, World.ownsRow_nil _ _ _ _, trivial, by simp [Value.ownBlock]⟩, ⟨_, [], [], rfl, World.ownsRow_nil _ _ _ _, trivial, by simp [Value.ownBlock]⟩, rfl⟩
theorem wish_lens {xs : List GWish} (ht : totWishes xs ≤ 1048576) : xs.length ≤ 1048576 ∧ ∀ x ∈ xs, x.list.length ≤ 1048576 ∧ x.pairs.length ≤ 1048576 := by
  unfold totWishes at ht
  refine ⟨by omega, fun x hx => ?_⟩
  have h1 := le_sum totWish hx
  have h2 : totWish x = x.list.length + x.pairs.length := rfl
  omega
end Go.Proofs.YtfffklkiikmieaaGreat
