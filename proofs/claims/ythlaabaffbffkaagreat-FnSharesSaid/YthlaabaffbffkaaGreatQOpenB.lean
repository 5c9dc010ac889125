/- A slice of bytes among a law's arguments. -/
import Derived.Test.YthlaabaffbffkaaGreatProg
import Derived.Test.YthlaabaffbffkaaGreatQOwn
import Derived.Deep.Slices
import Derived.OpenShut
import Derived.ShutString
import Derived.ChangeOld
import Derived.Carry
import Derived.Test.YthlaabaffbffkaaGreatQLawH
namespace Go.Proofs.YthlaabaffbffkaaGreat
open Go.RowKit Go.ChangeShapes Go.WideShapes Go.Deep
set_option linter.unusedVariables false

theorem own_knob : ownKnob Tryz.prog.godebug = none := by kernel_rfl
theorem laid_out : laidOutB Tryz.prog = true := by kernel_rfl
def wfInts (xs : List Int) : Prop := ∀ x ∈ xs, (Lit.int .i64 x).wf = true
def I64 (n : Int) : Prop := (Lit.int .i64 n).wf = true
theorem I64.bd {n : Int} (h : I64 n) : -9223372036854775808 ≤ n ∧ n ≤ 9223372036854775807 :=
  bounds_i64 h
theorem two_of {α : Type} : ∀ {l : List α}, l.length = 2 → ∃ a b, l = [a, b]
  | [a, b], _ => ⟨a, b, rfl⟩
theorem three_of {α : Type} : ∀ {l : List α}, l.length = 3 → ∃ a b c, l = [a, b, c]
  | [a, b, c], _ => ⟨a, b, c, rfl⟩
theorem four_of {α : Type} : ∀ {l : List α}, l.length = 4 → ∃ a b c d, l = [a, b, c, d]
  | [a, b, c, d], _ => ⟨a, b, c, d, rfl⟩
theorem five_of {α : Type} : ∀ {l : List α}, l.length = 5 → ∃ a b c d e, l = [a, b, c, d, e]
  | [a, b, c, d, e], _ => ⟨a, b, c, d, e, rfl⟩
theorem six_of {α : Type} : ∀ {l : List α}, l.length = 6 → ∃ a b c d e f, l = [a, b, c, d, e, f]
  | [a, b, c, d, e, f], _ => ⟨a, b, c, d, e, f, rfl⟩
section
variable {H : Type} {enc : TypeId × Value → H} {w : World} {sp : Nat → Bool} {held : Bool}
theorem t_slice {α : Type} {t e : TypeId} {sz : Nat} {R : Rep α} {Q : α → Prop} (ht : Tryz.prog.underlying t = some (.slice e)) (hC : Tryz.prog.cellsOf e = sz) (hsz : 0 < sz)
    (hE : ∀ n cs y, DataW.trod enc Tryz.prog w 0 sp held n e cs = some y → cs.length = sz → ∃ x, R w (lt w) x cs ∧ Q x) {fuel : Nat} {cs : List Value} {x : DataW H × List MemPlace}
    (h : DataW.trod enc Tryz.prog w 0 sp held fuel t cs = some x) : ∃ xs, Rd (rSl sz R) w xs cs ∧ ∀ x ∈ xs, Q x := by
  rcases open_slice ht h with ⟨rfl, _⟩ | ⟨a, len, cap, m, n, D, Pl, rfl, _, hl, hm, hmm, _, hi⟩
  · exact ⟨[], rSl_nil, fun x hx => by simp at hx⟩
  · have hml : len ≤ m := by rw [hmm]; split <;> omega
    by_cases hl0 : len = 0
    · subst hl0
      exact ⟨[], ⟨some a, cap, rfl, Nat.zero_le _, hm, fun k x hx => by simp at hx⟩, fun x hx => by simp at hx⟩
    obtain ⟨b, o, spot⟩ := a
    have hsp : spot = none := by
      obtain ⟨cs', hc, ht'⟩ := hi 0 (by omega)
      obtain ⟨_, hlen, hat⟩ := World.cells?_some hc
      rw [hC] at hlen hat
      have h0 := hat 0 hsz
      rw [List.getElem?_eq_getElem (by omega), Nat.zero_mul] at h0
      exact World.cell?_spot h0
    subst hsp
    have key : ∀ i : Nat, ∃ x : Option α, i < len → ∃ x' us, x = some x' ∧ b < w.heap.size ∧ us.length = sz ∧ (∀ j u, us[j]? = some u → w.cell? ⟨b, o + i * sz + j, none⟩ = some u) ∧ R w (lt w) x' us ∧ Q x' := by
      intro i
      by_cases hil : i < len
      · obtain ⟨cs', hc, ht'⟩ := hi i (by omega)
        obtain ⟨_, hlen, hat⟩ := World.cells?_some hc
        rw [hC] at hlen hat
        obtain ⟨x, hR, hQ⟩ := hE _ _ _ ht' hlen
        have h0 := hat 0 hsz
        rw [List.getElem?_eq_getElem (by omega)] at h0
        have hb := World.block_lt_of_cell? _ _ h0
        refine ⟨some x, fun _ => ⟨x, cs', rfl, by rw [Go.Proofs.YthlaabaffbffkaaGreat.add_block, Go.Proofs.YthlaabaffbffkaaGreat.add_block] at hb; exact hb, hlen, fun j u hu => ?_, hR, hQ⟩⟩
        have hj : j < sz := by rw [← hlen]; exact (List.getElem?_eq_some_iff.1 hu).1
        have := hat j hj
        have ea : ((⟨b, o, none⟩ : Addr).add (i * sz)).add j = ⟨b, o + i * sz + j, none⟩ := by
          rw [Go.Proofs.YthlaabaffbffkaaGreat.add_add, Nat.add_assoc]
          unfold Addr.add
          split
          · rename_i h; rw [h]; rfl
          · rfl
        rw [ea, hu] at this
        exact this
      · exact ⟨none, fun h => absurd h hil⟩
    obtain ⟨f, hf⟩ := Classical.axiomOfChoice key
    refine ⟨(List.range len).filterMap f, ?_, ?_⟩
    · have hlen : ((List.range len).filterMap f).length = len := by
        have : ∀ k, k ≤ len → ((List.range k).filterMap f).length = k := by
          intro k hk
          induction k with
          | zero => rfl
          | succ k ih =>
            rw [List.range_succ, List.filterMap_append, List.length_append, ih (by omega)]
            obtain ⟨x', _, e, _⟩ := hf k (by omega)
            simp [e]
        exact this len (Nat.le_refl _)
      have hget : ∀ k, k < len → ((List.range len).filterMap f)[k]? = f k := by
        have : ∀ m, m ≤ len → ∀ k, k < m → ((List.range m).filterMap f)[k]? = f k ∧ ((List.range m).filterMap f).length = m := by
          intro m hm'
          induction m with
          | zero => intro k hk; omega
          | succ m ih =>
            intro k hk
            have hl' : ((List.range m).filterMap f).length = m := by
              rcases Nat.eq_zero_or_pos m with rfl | hp
              · rfl
              · exact (ih (by omega) 0 hp).2
            obtain ⟨x', _, e, _⟩ := hf m (by omega)
            rw [List.range_succ, List.filterMap_append]
            have es : [m].filterMap f = [x'] := by simp [e]
            rw [es]
            refine ⟨?_, by simp [hl']⟩
            by_cases hkm : k < m
            · rw [List.getElem?_append_left (by omega)]
              exact (ih (by omega) k hkm).1
            · obtain rfl : k = m := by omega
              rw [List.getElem?_append_right (by omega), hl', Nat.sub_self, e]; rfl
        exact fun k hk => (this len (Nat.le_refl _) k hk).1
      refine ⟨some ⟨b, o, none⟩, cap, by rw [hlen], by rw [hlen]; exact hl, hm, fun k x hx => ?_⟩
      have hk : k < len := by
        have := (List.getElem?_eq_some_iff.1 hx).1
        omega
      rw [hget k hk] at hx
      obtain ⟨x', us, e, hb, hul, hc, hR, _⟩ := hf k hk
      rw [hx] at e
      injection e with e
      subst e
      exact ⟨b, o, us, rfl, hb, hul, hc, hR⟩
    · intro x hx
      obtain ⟨i, hi', hfi⟩ := List.mem_filterMap.1 hx
      obtain ⟨x', _, e, _, _, _, _, hQ⟩ := hf i (by simpa using hi')
      rw [hfi] at e
      injection e with e
      rw [e]; exact hQ
theorem field_at {fs : Array Field} {n : Nat} {cs : List Value} {xs : List (DataW H × List MemPlace)}
    (hg : ∀ (i : Nat) (f : Field), fs[i]? = some f → DataW.trod enc Tryz.prog w 0 sp held n f.type ((cs.drop f.offset).take (Tryz.prog.cellsOf f.type)) = xs[i]?) (i : Nat) (T O C : Nat)
    (h1 : (fs[i]?).map (fun f => (f.type, f.offset)) = some (T, O)) (h2 : Tryz.prog.cellsOf T = C) : DataW.trod enc Tryz.prog w 0 sp held n T ((cs.drop O).take C) = xs[i]? := by
  obtain ⟨f, hf, e⟩ := Option.map_eq_some_iff.1 h1
  have e1 : f.type = T := congrArg Prod.fst e
  have e2 : f.offset = O := congrArg Prod.snd e
  have := hg i f hf
  rw [e1, e2, h2] at this
  exact this
theorem t_int {n : Nat} {cs : List Value} {y : DataW H × List MemPlace} (h : DataW.trod enc Tryz.prog w 0 sp held n 3 cs = some y) : ∃ x, rInt w (lt w) x cs ∧ I64 x := by
  obtain ⟨x, rfl, _, hw⟩ := DataW.trod_int Tryz.underlying3 h
  exact ⟨x, rfl, hw⟩
theorem t_ints {n : Nat} {cs : List Value} {y : DataW H × List MemPlace} (h : DataW.trod enc Tryz.prog w 0 sp held n 33 cs = some y) : ∃ xs, rInts w (lt w) xs cs ∧ wfInts xs :=
  t_slice Tryz.underlying33 (by kernel_rfl) (by omega) (fun _ _ _ h _ => t_int h) h
theorem t_intss {n : Nat} {cs : List Value} {y : DataW H × List MemPlace} (h : DataW.trod enc Tryz.prog w 0 sp held n 28 cs = some y) : ∃ xs, rIntss w (lt w) xs cs ∧ ∀ x ∈ xs, wfInts x :=
by
  have hE : ∀ n cs y, DataW.trod enc Tryz.prog w 0 sp held n 33 cs = some y → cs.length = 1 → ∃ x, rInts w (lt w) x cs ∧ wfInts x := fun _ _ _ h _ => t_ints h
  have hC : Tryz.prog.cellsOf 33 = 1 := by kernel_rfl
  have := t_slice Tryz.underlying28 hC (by omega) hE h
  exact this
def wfPair (p : GPair) : Prop := I64 p.fst ∧ I64 p.snd


def wfItem (x : GItem) : Prop := I64 x.id ∧ wfInts x.vals

def wfWish (x : GWish) : Prop := (I64 x.kind ∧ I64 x.field ∧ I64 x.value) ∧ wfInts x.list ∧ ∀ p ∈ x.pairs, wfPair p

def wfNode (x : GNode) : Prop := I64 x.op ∧ wfWish x.wish

def wfStanding (x : GStanding) : Prop := (∀ y ∈ x.items, wfItem y) ∧ (∀ y ∈ x.wanted, wfNode y) ∧ wfInts x.best ∧ I64 x.tests
def wfRewriting (x : GRewriting) : Prop := I64 x.rule ∧ I64 x.pos ∧ ∀ y ∈ x.after, wfNode y
end
end Go.Proofs.YthlaabaffbffkaaGreat

namespace Go.Proofs.YthlaabaffbffkaaGreat
open Go.RowKit Go.ChangeShapes Go.WideShapes Go.Deep
set_option linter.unusedVariables false
section
variable {H : Type} {enc : TypeId × Value → H} {w : World} {sp : Nat → Bool} {held : Bool}
theorem t_u8 {n : Nat} {cs : List Value} {y : DataW H × List MemPlace} (h : DataW.trod enc Tryz.prog w 0 sp held n 5 cs = some y) : ∃ x, rU8 w (lt w) x cs ∧ (0 ≤ x ∧ x ≤ 255) := by
  obtain ⟨x, rfl, _, hw⟩ := DataW.trod_int Tryz.underlying5 h
  exact ⟨x, rfl, bounds_u8 hw⟩
theorem t_bytes {n : Nat} {cs : List Value} {y : DataW H × List MemPlace} (h : DataW.trod enc Tryz.prog w 0 sp held n 22 cs = some y) : ∃ xs, rBytes w (lt w) xs cs ∧ wfBytes xs :=
  t_slice Tryz.underlying22 (by kernel_rfl) (by omega) (fun _ _ _ h _ => t_u8 h) h
end
end Go.Proofs.YthlaabaffbffkaaGreat
