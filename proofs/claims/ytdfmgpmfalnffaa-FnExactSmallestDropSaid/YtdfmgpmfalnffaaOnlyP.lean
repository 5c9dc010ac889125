/- One list grows, all else stands. -/
import Derived.Test.YtdfmgpmfalnffaaOwn3
namespace Go.Proofs.Ytdfmgpmfalnffaa
open Go.RowKit
set_option linter.unusedVariables false
theorem Bw.only {a b : World} (F : List Nat) (h : Bw a b) : Only F a b := ⟨h.size, fun x hx _ => Below.block h x hx⟩
theorem Only.push {g : Nat} {F : List Nat} {a b c : World} (h : Only [g] a b) (k : Only F b c) (hF : ∀ x ∈ F, x = g ∨ a.heap.size ≤ x) : Only [g] a c := ⟨Nat.le_trans h.1 k.1, fun x hx hn => (k.2 x (Nat.lt_of_lt_of_le hx h.1) (fun e => (hF x e).elim (fun e => hn (by simp [e])) (fun e => by omega))).trans (h.2 x hx hn)⟩
/-- a result in memory and one more -/
def Two {α : Type} (f : Fp α) (B : Nat) (x : α) (z : Value) (w : World) (u : Value) : Prop := ∃ v, u = .tuple #[v, z] ∧ Made f B x w v
theorem RetV.two {α : Type} {f : Fp α} {w w' : World} {x : α} {v z z' : Value} {F : List Nat} (h : f w' x [v] F) (hF : Fresh w.heap.size F) (hz : z = z') (hb : Bw w w') : RetV w (Two f w.heap.size x z') (.returned (.tuple #[v, z])) w' := ⟨_, rfl, ⟨v, by rw [hz], F, h, hF⟩, hb⟩
end Go.Proofs.Ytdfmgpmfalnffaa
