/- Words of our own for reading and owning memory; no program in sight. -/
import Derived.WalkKit
import Derived.ProofKit
import Derived.Below
import Derived.Lib.Hide
import Derived.Deep.QuietTactic
import Derived.BigQuiet
import Derived.Outline
import Derived.Deep.LoopGhost
import Derived.WalkSpells
import Derived.WalkLawsBesides
import Derived.Deep.RegionHeld3
import Derived.StillTailTactics
import Derived.Deep.OwnRows
import Derived.Deep.AppendLies
import Derived.Maps.AppendAt
namespace Go.Proofs.YtpihighajaeabaaGreat
open Go.RowKit
set_option linter.unusedVariables false

/-! ### what a call leaves -/
def Bw (w w' : World) : Prop := Below w.heap.size w w'
theorem Bw.refl (w : World) : Bw w w := Below.refl _ _
theorem Bw.size {w w' : World} (h : Bw w w') : w.heap.size ≤ w'.heap.size := Below.size h
theorem Bw.then {a b c : World} (h : Bw a b) (k : Bw b c) : Bw a c := Below.trans h (Below.mono k h.size)
theorem Bw.alloc {a w : World} (h : Bw a w) (o : Obj) : Bw a (w.alloc o) := Below.alloc h h.size o
theorem Bw.drew {a w : World} (h : Bw a w) : Bw a w.drew := Below.drew h
theorem Bw.drewN {a w : World} (h : Bw a w) (n : Nat) : Bw a (w.drewN n) := have k : Below a.heap.size a w := h; ⟨k.os, k.tape, k.output, k.size, k.block⟩
theorem Bw.set {a w : World} (h : Bw a w) {p : Addr} (hp : a.heap.size ≤ p.block) (u : Value) : Bw a (w.setCell p u) := Below.setCell h hp u
theorem Bw.grown {a w w' : World} (h : Bw a w) {row : Option Nat} (hg : w.grownBy w' row) (hr : ∀ k, row = some k → a.heap.size ≤ k) : Bw a w' := Below.grown h hg h.size hr
theorem Bw.cell {a w : World} (h : Bw a w) {p : Addr} {u : Value} (hc : a.cell? p = some u) : w.cell? p = some u := (Below.cell h (World.block_lt_of_cell? a p hc)).trans hc

/-- the call returned v, and nothing that was there has turned -/
def Ret (w : World) (v : Value) (e : Ending) (w' : World) : Prop := e = .returned v ∧ Bw w w'
theorem Ret.int {w w' : World} {k : IntKind} {a b : Int} (h : a = b) (hb : Bw w w') : Ret w (.int k b) (.returned (.int k a)) w' := ⟨by rw [h], hb⟩
theorem Ret.bool {w w' : World} {a b : Bool} (h : a = b) (hb : Bw w w') : Ret w (.bool b) (.returned (.bool a)) w' := ⟨by rw [h], hb⟩
/-- the call returned a value of which R holds in the world that it left -/
def RetV (w : World) (R : World → Value → Prop) (e : Ending) (w' : World) : Prop := ∃ v, e = .returned v ∧ R w' v ∧ Bw w w'

/-! ### reading -/
abbrev Blocks := Nat → Prop
abbrev Rep (α : Type) := World → Blocks → α → List Value → Prop
abbrev lt (w : World) : Blocks := fun b => b < w.heap.size
structure Agree (S S' : Blocks) (w w' : World) : Prop where
  sub : ∀ b, S b → S' b
  cell : ∀ p : Addr, S p.block → w'.cell? p = w.cell? p
structure Good {α : Type} (R : Rep α) : Prop where
  step : ∀ {w w' : World} {S S' : Blocks} {x : α} {cs : List Value}, Agree S S' w w' → R w S x cs → R w' S' x cs
theorem Agree.bw {w w' : World} (h : Bw w w') : Agree (lt w) (lt w') w w' := ⟨fun _ hb => Nat.lt_of_lt_of_le hb h.size, fun _ hp => Below.cell h hp⟩
/-- x is read in w, from whatever blocks there are -/
def Rd {α : Type} (R : Rep α) (w : World) (x : α) (cs : List Value) : Prop := R w (lt w) x cs
theorem Rd.bw {α : Type} {R : Rep α} (hR : Good R) {w w' : World} {x : α} {cs : List Value} (h : Rd R w x cs) (hb : Bw w w') : Rd R w' x cs := hR.step (Agree.bw hb) h

def rInt : Rep Int := fun _ _ n cs => cs = [.int .i64 n]
theorem rInt_good : Good rInt := ⟨fun _ h => h⟩
def rSl {α : Type} (sz : Nat) (R : Rep α) : Rep (List α) := fun w S xs cs =>
  ∃ A c, cs = [.slice A xs.length c] ∧ xs.length ≤ c ∧ c ≤ maxLen ∧
    ∀ k x, xs[k]? = some x → ∃ b o us, A = some ⟨b, o, none⟩ ∧ S b ∧ us.length = sz ∧ (∀ j u, us[j]? = some u → w.cell? ⟨b, o + k * sz + j, none⟩ = some u) ∧ R w S x us
theorem add_block (a : Addr) (n : Nat) : (a.add n).block = a.block := by unfold Addr.add; split <;> rfl
theorem add_add (a : Addr) (i j : Nat) : (a.add i).add j = a.add (i + j) := by
  unfold Addr.add
  by_cases hi : i = 0 <;> by_cases hj : j = 0 <;> simp [hi, hj, Nat.add_assoc]
theorem rSl_good {α : Type} {sz : Nat} {R : Rep α} (hR : Good R) : Good (rSl sz R) := by
  refine ⟨fun {w w' S S' xs cs} hA ⟨A, c, hcs, hl, hm, hk⟩ => ⟨A, c, hcs, hl, hm, fun k x hx => ?_⟩⟩
  obtain ⟨b, o, us, e, hS, hlen, hc, hr⟩ := hk k x hx
  exact ⟨b, o, us, e, hA.sub _ hS, hlen, fun j u hu => (hA.cell _ hS).trans (hc j u hu), hR.step hA hr⟩
theorem rSl_nil {α : Type} {sz : Nat} {R : Rep α} {w : World} {S : Blocks} : rSl sz R w S [] [.slice none 0 0] :=
  ⟨none, 0, rfl, Nat.le_refl _, by simp [maxLen], fun k x hx => by simp at hx⟩

/-! ### the program's data -/
structure GItem where
  id : Int
  vals : List Int
structure GPair where
  fst : Int
  snd : Int
structure GWish where
  kind : Int
  field : Int
  value : Int
  list : List Int
  pairs : List GPair
structure GNode where
  op : Int
  wish : GWish
structure GStanding where
  items : List GItem
  wanted : List GNode
  best : List Int
  tests : Int
structure GRewriting where
  rule : Int
  pos : Int
  after : List GNode
theorem GItem.eq_iff (a b : GItem) : a = b ↔ a.id = b.id ∧ a.vals = b.vals := by cases a; cases b; simp
theorem GPair.eq_iff (a b : GPair) : a = b ↔ a.fst = b.fst ∧ a.snd = b.snd := by cases a; cases b; simp
instance : DecidableEq GItem := fun a b => decidable_of_iff _ (GItem.eq_iff a b).symm
instance : DecidableEq GPair := fun a b => decidable_of_iff _ (GPair.eq_iff a b).symm
theorem GWish.eq_iff (a b : GWish) : a = b ↔ a.kind = b.kind ∧ a.field = b.field ∧ a.value = b.value ∧ a.list = b.list ∧ a.pairs = b.pairs := by cases a; cases b; simp
instance : DecidableEq GWish := fun a b => decidable_of_iff _ (GWish.eq_iff a b).symm
theorem GNode.eq_iff (a b : GNode) : a = b ↔ a.op = b.op ∧ a.wish = b.wish := by cases a; cases b; simp
instance : DecidableEq GNode := fun a b => decidable_of_iff _ (GNode.eq_iff a b).symm
theorem GStanding.eq_iff (a b : GStanding) : a = b ↔ a.items = b.items ∧ a.wanted = b.wanted ∧ a.best = b.best ∧ a.tests = b.tests := by cases a; cases b; simp
instance : DecidableEq GStanding := fun a b => decidable_of_iff _ (GStanding.eq_iff a b).symm
theorem GRewriting.eq_iff (a b : GRewriting) : a = b ↔ a.rule = b.rule ∧ a.pos = b.pos ∧ a.after = b.after := by cases a; cases b; simp
instance : DecidableEq GRewriting := fun a b => decidable_of_iff _ (GRewriting.eq_iff a b).symm

def rInts : Rep (List Int) := rSl 1 rInt
def rPair : Rep GPair := fun _ _ p cs => cs = [.int .i64 p.fst, .int .i64 p.snd]
def rPairs : Rep (List GPair) := rSl 2 rPair
def rItem : Rep GItem := fun w S x cs => ∃ v, cs = [.int .i64 x.id, v] ∧ rInts w S x.vals [v]
def rItems : Rep (List GItem) := rSl 2 rItem
def rWish : Rep GWish := fun w S x cs => ∃ v u, cs = [.int .i64 x.kind, .int .i64 x.field, .int .i64 x.value, v, u] ∧ rInts w S x.list [v] ∧ rPairs w S x.pairs [u]
def rNode : Rep GNode := fun w S x cs => ∃ us, cs = .int .i64 x.op :: us ∧ rWish w S x.wish us
def rNodes : Rep (List GNode) := rSl 6 rNode
theorem rInts_good : Good rInts := rSl_good rInt_good
theorem rPair_good : Good rPair := ⟨fun _ h => h⟩
theorem rPairs_good : Good rPairs := rSl_good rPair_good
theorem rItem_good : Good rItem := ⟨fun hA ⟨v, e, h⟩ => ⟨v, e, rInts_good.step hA h⟩⟩
theorem rItems_good : Good rItems := rSl_good rItem_good
theorem rWish_good : Good rWish := ⟨fun hA ⟨v, u, e, h, k⟩ => ⟨v, u, e, rInts_good.step hA h, rPairs_good.step hA k⟩⟩
theorem rNode_good : Good rNode := ⟨fun hA ⟨us, e, h⟩ => ⟨us, e, rWish_good.step hA h⟩⟩
theorem rNodes_good : Good rNodes := rSl_good rNode_good
/-! ### opening -/
section
variable {w : World} {S : Blocks} {A : Option Addr} {n c k : Nat}
theorem rSl_shape {α : Type} {sz : Nat} {R : Rep α} {xs : List α} {v : Value} (h : rSl sz R w S xs [v]) : ∃ A c, v = .slice A xs.length c ∧ xs.length ≤ c ∧ c ≤ maxLen := by
  obtain ⟨A, c, e, h1, h2, _⟩ := h
  injection e with e
  exact ⟨A, c, e, h1, h2⟩
theorem rSl_open {α : Type} {sz : Nat} {R : Rep α} {xs : List α} {v : Value} (h : rSl sz R w S xs [v]) : ∃ A n c, v = .slice A n c ∧ n = xs.length ∧ n ≤ c ∧ c ≤ maxLen := by
  obtain ⟨A, c, e, h1, h2, _⟩ := h
  injection e with e
  exact ⟨A, _, c, e, rfl, h1, h2⟩
theorem rSl_len {α : Type} {sz : Nat} {R : Rep α} {xs : List α} (h : rSl sz R w S xs [.slice A n c]) : n = xs.length ∧ n ≤ c ∧ c ≤ maxLen := by
  obtain ⟨A', c', e, h1, h2, _⟩ := h
  injection e with e
  injection e with e1 e2 e3
  subst e1 e2 e3
  exact ⟨rfl, h1, h2⟩
theorem rSl_at {α : Type} {sz : Nat} {R : Rep α} {xs : List α} (h : rSl sz R w S xs [.slice A n c]) {x : α} (hx : xs[k]? = some x) :
    ∃ b o us, A = some ⟨b, o, none⟩ ∧ S b ∧ us.length = sz ∧ (∀ j u, us[j]? = some u → w.cell? ⟨b, o + k * sz + j, none⟩ = some u) ∧ R w S x us := by
  obtain ⟨A', c', e, h1, h2, h3⟩ := h
  injection e with e
  injection e with e1 e2 e3
  subst e1 e2 e3
  exact h3 k x hx
theorem rInts_at {xs : List Int} (h : rInts w S xs [.slice A n c]) {x : Int} (hx : xs[k]? = some x) : ∃ b o, A = some ⟨b, o, none⟩ ∧ S b ∧ w.cell? ⟨b, o + k, none⟩ = some (.int .i64 x) := by
  obtain ⟨b, o, us, e, hS, _, hc, rfl⟩ := rSl_at h hx
  exact ⟨b, o, e, hS, by simpa using hc 0 _ rfl⟩
theorem rPairs_at {xs : List GPair} (h : rPairs w S xs [.slice A n c]) {x : GPair} (hx : xs[k]? = some x) : ∃ b o, A = some ⟨b, o, none⟩ ∧ S b ∧
    w.cell? ⟨b, o + k * 2, none⟩ = some (.int .i64 x.fst) ∧ w.cell? ⟨b, o + k * 2 + 1, none⟩ = some (.int .i64 x.snd) := by
  obtain ⟨b, o, us, e, hS, _, hc, rfl⟩ := rSl_at h hx
  exact ⟨b, o, e, hS, hc 0 _ rfl, hc 1 _ rfl⟩
theorem rItems_at {xs : List GItem} (h : rItems w S xs [.slice A n c]) {x : GItem} (hx : xs[k]? = some x) : ∃ b o A' c', A = some ⟨b, o, none⟩ ∧ S b ∧
    w.cell? ⟨b, o + k * 2, none⟩ = some (.int .i64 x.id) ∧ w.cell? ⟨b, o + k * 2 + 1, none⟩ = some (.slice A' x.vals.length c') ∧ rInts w S x.vals [.slice A' x.vals.length c'] := by
  obtain ⟨b, o, us, e, hS, _, hc, v, rfl, hv⟩ := rSl_at h hx
  obtain ⟨A', c', rfl, _⟩ := rSl_shape hv
  exact ⟨b, o, A', c', e, hS, hc 0 _ rfl, hc 1 _ rfl, hv⟩
end

/-! ### regions that draw their order and whose callees make memory: one walk, at the class 'whatever has come since' -/
def Since (w : World) : Type := { w' : World // Bw w w' }
instance (w : World) : Nonempty (Since w) := ⟨⟨w, Bw.refl w⟩⟩
theorem Since.bw {w : World} (s : Since w) : Bw w s.1 := s.2
theorem wp_region_since {P : Program} {id : Nat} {Q : Exit → Act → World → Prop} {a : Act} {w : World} {l : List Oper} (hm : P.follows .mixedOrders = true) (hB : Region.lexB .any l.toArray = true)
    (h : wpQuiet P l.toArray (fun w' => ∃ s : Since w, w' = s.1) (fun a' => ∀ s : Since w, Q .normal a' s.1) l a) : (Code.region id l.toArray true).wp P Q a w := by
  refine wp_region_quiet (C := fun w' => ∃ s : Since w, w' = s.1) hm hB ⟨⟨w.drewN 1, (Bw.refl w).drewN 1⟩, rfl⟩ ?_
  have e : (fun a' => ∀ w', (∃ s : Since w, w' = s.1) → Q .normal a' w') = (fun a' => ∀ s : Since w, Q .normal a' s.1) := by
    funext a'
    exact propext ⟨fun h s => h _ ⟨s, rfl⟩, fun h w' ⟨s, e⟩ => e ▸ h s⟩
  rw [e]
  simpa using h
theorem Calls_since {P : Program} {f : FuncId} {args : Array Value} {w : World} {s : Since w} {v : Value} (h : Calls P f args s.1 (Ret s.1 v)) :
    Calls P f args s.1 fun e w'' => e = .returned v ∧ ∃ t : Since w, w'' = t.1 :=
  h.mono fun _ w' h => ⟨h.1, ⟨w', s.2.then h.2⟩, rfl⟩
theorem since_cell {w : World} {p : Addr} {u : Value} (h : w.cell? p = some u) : ∀ s : Since w, s.1.cell? p = some u := fun s => s.2.cell h
/-! ### short words -/
theorem named {α : Type} (a : α) : ∃ x, x = a := ⟨a, rfl⟩
def C2 (W : World) (b : Nat) (v0 v1 : Value) : Prop := W.cell? ⟨b, 0, none⟩ = some v0 ∧ W.cell? ⟨b, 1, none⟩ = some v1
theorem Bw.c2 {a W : World} {b : Nat} {v0 v1 : Value} (h : Bw a W) (k : C2 a b v0 v1) : C2 W b v0 v1 := have ⟨k0, k1⟩ := k; ⟨h.cell k0, h.cell k1⟩
def C3 (W : World) (b : Nat) (v0 v1 v2 : Value) : Prop := W.cell? ⟨b, 0, none⟩ = some v0 ∧ W.cell? ⟨b, 1, none⟩ = some v1 ∧ W.cell? ⟨b, 2, none⟩ = some v2
end Go.Proofs.YtpihighajaeabaaGreat
