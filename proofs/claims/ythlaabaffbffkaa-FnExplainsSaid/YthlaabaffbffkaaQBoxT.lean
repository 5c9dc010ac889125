/- Words for stores into blocks of the call's own. -/
import Derived.Test.YthlaabaffbffkaaQOwn3
import Derived.Test.YthlaabaffbffkaaQMarks
import Derived.Test.YthlaabaffbffkaaQItems
namespace Go.Proofs.Ythlaabaffbffkaa
open Go.RowKit
set_option linter.unusedVariables false
theorem Bw.only {a b : World} (F : List Nat) (h : Bw a b) : Only F a b := ⟨h.size, fun x hx _ => Below.block h x hx⟩
theorem Only.push {g : Nat} {F : List Nat} {a b c : World} (h : Only [g] a b) (k : Only F b c) (hF : ∀ x ∈ F, x = g ∨ a.heap.size ≤ x) : Only [g] a c := ⟨Nat.le_trans h.1 k.1, fun x hx hn => (k.2 x (Nat.lt_of_lt_of_le hx h.1) (fun e => (hF x e).elim (fun e => hn (by simp [e])) (fun e => by omega))).trans (h.2 x hx hn)⟩
/-- a result in memory and one more -/
def Two {α : Type} (f : Fp α) (B : Nat) (x : α) (z : Value) (w : World) (u : Value) : Prop := ∃ v, u = .tuple #[v, z] ∧ Made f B x w v
theorem RetV.two {α : Type} {f : Fp α} {w w' : World} {x : α} {v z z' : Value} {F : List Nat} (h : f w' x [v] F) (hF : Fresh w.heap.size F) (hz : z = z') (hb : Bw w w') : RetV w (Two f w.heap.size x z') (.returned (.tuple #[v, z])) w' := ⟨_, rfl, ⟨v, by rw [hz], F, h, hF⟩, hb⟩
end Go.Proofs.Ythlaabaffbffkaa

namespace Go.Proofs.Ythlaabaffbffkaa
open Go.RowKit
set_option linter.unusedVariables false
set_option linter.unusedSimpArgs false
theorem only_setCell (p o : Nat) (w : World) (u : Value) : Only [p] w (w.setCell ⟨p, o, none⟩ u) := ⟨by simp, fun b _ hn => Below.heap_setCell _ _ _ _ (by simpa using hn)⟩
theorem Only.bwNext {F : List Nat} {a b c : World} (h : Only F a b) (k : Bw b c) : Only F a c := h.then (k.only F) (fun _ h => h)
theorem Only.two {p : Nat} {a b c : World} (h : Only [p] a b) (k : Only [p] b c) : Only [p] a c := h.then k (fun _ h => h)
theorem Only.frozen {F : List Nat} {w w' : World} (h : Only F w w') {b : Nat} (hb : b < w.heap.size) (hd : b ∉ F) (o : Nat) : w'.frozen? ⟨b, o, none⟩ = w.frozen? ⟨b, o, none⟩ := World.frozen?_of_block (h.2 _ hb hd)
theorem Fresh.raise {a B m : Nat} {F f F' : List Nat} (h : Fresh a F') (h5 : ∀ b ∈ F', b ∈ F ∨ b ∈ f ∨ m ≤ b) (hF : ∀ b ∈ F, B ≤ b) (hf : ∀ b ∈ f, B ≤ b) (hm : B ≤ m) : Fresh B F' :=
  ⟨h.nodup, fun b hb => (h5 b hb).elim (hF b) (fun h => h.elim (hf b) (fun h => Nat.le_trans hm h))⟩
/-- a block of two cells -/
structure Box2 (W : World) (b : Nat) (x y : Value) : Prop where
  c0 : W.cell? ⟨b, 0, none⟩ = some x
  c1 : W.cell? ⟨b, 1, none⟩ = some y
  fr : ∀ o, W.frozen? ⟨b, o, none⟩ = false
theorem Box2.lt {W : World} {b : Nat} {x y : Value} (h : Box2 W b x y) : b < W.heap.size := World.block_lt_of_cell? _ _ h.c0
theorem Box2.only {F : List Nat} {w w' : World} {b : Nat} {x y : Value} (h : Box2 w b x y) (hO : Only F w w') (hd : b ∉ F) : Box2 w' b x y := ⟨hO.cell h.c0 hd, hO.cell h.c1 hd, fun o => (hO.frozen h.lt hd o).trans (h.fr o)⟩
theorem Box2.bw {w w' : World} {b : Nat} {x y : Value} (h : Box2 w b x y) (hb : Bw w w') : Box2 w' b x y := ⟨hb.cell h.c0, hb.cell h.c1, fun o => (bw_frozen hb b o h.lt).trans (h.fr o)⟩
theorem Box2.new (w : World) (x y : Value) (t : TypeId) : Box2 (w.alloc (.cells #[x, y] t)) w.heap.size x y := ⟨by go_simp, by go_simp, fun o => by go_simp⟩
theorem keepBw {W W' : World} (hb : Bw W W') {α : Type} {R : Fp α} (hR : GoodF 0 R) {x : α} {cs : List Value} {F : List Nat} (hx : R W x cs F) : R W' x cs F := hR.bw hb (Nat.zero_le _) hx
theorem keepSet {W : World} {b o : Nat} {u : Value} {α : Type} {R : Fp α} (hR : GoodF 0 R) {x : α} {cs : List Value} {F : List Nat} (hx : R W x cs F) (hF : b ∉ F) : R (W.setCell ⟨b, o, none⟩ u) x cs F :=
  (only_setCell b o W u).keeps hR hx fun c hc e => by simp at e; exact hF (e ▸ hc)
/-- a block of cells -/
structure Box (W : World) (b : Nat) (vs : List Value) : Prop where
  lt : b < W.heap.size
  c : ∀ j v, vs[j]? = some v → W.cell? ⟨b, j, none⟩ = some v
  fr : ∀ o, W.frozen? ⟨b, o, none⟩ = false
theorem Box.only {F : List Nat} {w w' : World} {b : Nat} {vs : List Value} (h : Box w b vs) (hO : Only F w w') (hd : b ∉ F) : Box w' b vs := ⟨Nat.lt_of_lt_of_le h.lt hO.1, fun j v hv => hO.cell (h.c j v hv) hd, fun o => (hO.frozen h.lt hd o).trans (h.fr o)⟩
theorem Box.bw {w w' : World} {b : Nat} {vs : List Value} (h : Box w b vs) (hb : Bw w w') : Box w' b vs := h.only (hb.only []) (by simp)
theorem Box.new (w : World) (cs : Array Value) (t : TypeId) : Box (w.alloc (.cells cs t)) w.heap.size cs.toList := ⟨by simp, fun j v hv => by
  have := World.news_of_block (cs := cs) (t := t) (fr := (0, 0)) (heap_alloc_new w (.cells cs t)) j v hv
  have hadd : (⟨w.heap.size, 0, none⟩ : Addr).add j = ⟨w.heap.size, j, none⟩ := by unfold Addr.add; split <;> simp_all
  rwa [hadd] at this, fun o => by go_simp⟩
theorem cell_set_same {W : World} {b o : Nat} {x u : Value} (h : W.cell? ⟨b, o, none⟩ = some x) : (W.setCell ⟨b, o, none⟩ u).cell? ⟨b, o, none⟩ = some u := by go_simp
theorem cell_set_other {W : World} {b o k : Nat} {x u : Value} (h : W.cell? ⟨b, k, none⟩ = some x) (hk : k ≠ o) : (W.setCell ⟨b, o, none⟩ u).cell? ⟨b, k, none⟩ = some x := by go_simp
theorem Box.set {W : World} {b j : Nat} {vs : List Value} (h : Box W b vs) (hj : j < vs.length) (u : Value) : Box (W.setCell ⟨b, j, none⟩ u) b (vs.set j u) := by
  refine ⟨by have := h.lt; simpa using this, fun k v hv => ?_, fun o => ?_⟩
  · rw [List.getElem?_set] at hv
    by_cases hk : j = k
    · rw [if_pos hk, if_pos (by omega)] at hv
      injection hv with hv
      subst hv hk
      exact cell_set_same (h.c j _ (List.getElem?_eq_getElem hj))
    · rw [if_neg hk] at hv
      exact cell_set_other (h.c k v hv) (fun e => hk e.symm)
  · have h0 := h.fr o; go_simp
/-- four stores into a block -/
def set4 (W : World) (b : Nat) (a0 a1 a2 a3 : Value) : World := (((W.setCell ⟨b, 0, none⟩ a0).setCell ⟨b, 1, none⟩ a1).setCell ⟨b, 2, none⟩ a2).setCell ⟨b, 3, none⟩ a3
theorem keepSet4 {W : World} {b : Nat} {a0 a1 a2 a3 : Value} {α : Type} {R : Fp α} (hR : GoodF 0 R) {x : α} {cs : List Value} {F : List Nat} (hx : R W x cs F) (hF : b ∉ F) : R (set4 W b a0 a1 a2 a3) x cs F := keepSet hR (keepSet hR (keepSet hR (keepSet hR hx hF) hF) hF) hF
theorem Bw.set4 {w W : World} {b : Nat} {a0 a1 a2 a3 : Value} (h : Bw w W) (hb : w.heap.size ≤ b) : Bw w (set4 W b a0 a1 a2 a3) := (((h.set (p := ⟨b, 0, none⟩) hb _).set (p := ⟨b, 1, none⟩) hb _).set (p := ⟨b, 2, none⟩) hb _).set (p := ⟨b, 3, none⟩) hb _
end Go.Proofs.Ythlaabaffbffkaa
