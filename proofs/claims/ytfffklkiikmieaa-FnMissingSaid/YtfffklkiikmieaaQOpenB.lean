/- A slice of bytes among a law's arguments. -/
import Derived.Test.YtfffklkiikmieaaProg
import Derived.Test.YtfffklkiikmieaaQOwn
import Derived.Deep.Slices
import Derived.OpenShut
import Derived.ShutString
import Derived.ChangeOld
import Derived.Carry
import Derived.Test.YtfffklkiikmieaaQLawH
namespace Go.Proofs.Ytfffklkiikmieaa
open Go.RowKit Go.ChangeShapes Go.WideShapes Go.Deep
set_option linter.unusedVariables false

theorem own_knob : ownKnob Try.prog.godebug = none := by kernel_rfl
theorem laid_out : laidOutB Try.prog = true := by kernel_rfl
def wfInts (xs : List Int) : Prop := ∀ x ∈ xs, (Lit.int .i64 x).wf = true
def I64 (n : Int) : Prop := (Lit.int .i64 n).wf = true
theorem I64.bd {n : Int} (h : I64 n) : -9223372036854775808 ≤ n ∧ n ≤ 9223372036854775807 :=
  bounds_i64 h
theorem two_of {α : Type} : ∀ {l : List α}, l.length = 2 → ∃ a b, l = [a, b]
  | [a, b], _ => ⟨a, b, rfl⟩
theorem three_of {α : Type} : ∀ {l : List α}, l.length = 3 → ∃ a b c, l = [a, b, c]
  | [a, b, c], _ => ⟨a, b, c, rfl⟩
theorem four_of {α : Type} : ∀ {l : List α}, l.length = 4 → ∃ a b c d, l = [a, b, c, d]
  | [a, b, c, d], _ => ⟨a, b, c, d, rfl⟩
theorem five_of {α : Type} : ∀ {l : List α}, l.length = 5 → ∃ a b c d e, l = [a, b, c, d, e]
  | [a, b, c, d, e], _ => ⟨a, b, c, d, e, rfl⟩
theorem six_of {α : Type} : ∀ {l : List α}, l.length = 6 → ∃ a b c d e f, l = [a, b, c, d, e, f]
  | [a, b, c, d, e, f], _ => ⟨a, b, c, d, e, f, rfl⟩
section
variable {H : Type} {enc : TypeId × Value → H} {w : World} {sp : Nat → Bool} {held : Bool}
theorem t_slice {α : Type} {t e : TypeId} {sz : Nat} {R : Rep α} {Q : α → Prop} (ht : Try.prog.underlying t = some (.slice e)) (hC : Try.prog.cellsOf e = sz) (hsz : 0 < sz)
    (hE : ∀ n cs y, DataW.trod enc Try.prog w 0 sp held n e cs = some y → cs.length = sz → ∃ x, R w (lt w) x cs ∧ Q x) {fuel : Nat} {cs : List Value} {x : DataW H × List MemPlace}
    (h : DataW.trod enc Try.prog w 0 sp held fuel t cs = some x) : ∃ xs, Rd (rSl sz R) w xs cs ∧ ∀ x ∈ xs, Q x := by
  rcases open_slice ht h with ⟨rfl, _⟩ | ⟨a, len, cap, m, n, D, Pl, rfl, _, hl, hm, hmm, _, hi⟩
  · exact ⟨[], rSl_nil, fun x hx => by simp at hx⟩
  · have hml : len ≤ m := by rw [hmm]; split <;> omega
    by_cases hl0 : len = 0
    · subst hl0
      exact ⟨[], ⟨some a, cap, rfl, Nat.zero_le _, hm, fun k x hx => by simp at hx⟩, fun x hx => by simp at hx⟩
    obtain ⟨b, o, spot⟩ := a
    have hsp : spot = none := by
      obtain ⟨cs', hc, ht'⟩ := hi 0 (by omega)
      obtain ⟨_, hlen, hat⟩ := World.cells?_some hc
      rw [hC] at hlen hat
      have h0 := hat 0 hsz
      rw [List.getElem?_eq_getElem (by omega), Nat.zero_mul] at h0
      exact World.cell?_spot h0
    subst hsp
    have key : ∀ i : Nat, ∃ x : Option α, i < len → ∃ x' us, x = some x' ∧ b < w.heap.size ∧ us.length = sz ∧ (∀ j u, us[j]? = some u → w.cell? ⟨b, o + i * sz + j, none⟩ = some u) ∧ R w (lt w) x' us ∧ Q x' := by
      intro i
      by_cases hil : i < len
      · obtain ⟨cs', hc, ht'⟩ := hi i (by omega)
        obtain ⟨_, hlen, hat⟩ := World.cells?_some hc
        rw [hC] at hlen hat
        obtain ⟨x, hR, hQ⟩ := hE _ _ _ ht' hlen
        have h0 := hat 0 hsz
        rw [List.getElem?_eq_getElem (by omega)] at h0
        have hb := World.block_lt_of_cell? _ _ h0
        refine ⟨some x, fun _ => ⟨x, cs', rfl, by rw [Go.Proofs.Ytfffklkiikmieaa.add_block, Go.Proofs.Ytfffklkiikmieaa.add_block] at hb; exact hb, hlen, fun j u hu => ?_, hR, hQ⟩⟩
        have hj : j < sz := by rw [← hlen]; exact (List.getElem?_eq_some_iff.1 hu).1
        have := hat j hj
        have ea : ((⟨b, o, none⟩ : Addr).add (i * sz)).add j = ⟨b, o + i * sz + j, none⟩ := by
          rw [Go.Proofs.Ytfffklkiikmieaa.add_add, Nat.add_assoc]
          unfold Addr.add
          split
          · rename_i h; rw [h]; rfl
          · rfl
        rw [ea, hu] at this
        exact this
      · exact ⟨none, fun h => absurd h hil⟩
    obtain ⟨f, hf⟩ := Classical.axiomOfChoice key
    refine ⟨(List.range len).filterMap f, ?_, ?_⟩
    · have hlen : ((List.range len).filterMap f).length = len := by
        have : ∀ k, k ≤ len → ((List.range k).filterMap f).length = k := by
          intro k hk
          induction k with
          | zero => rfl
          | succ k ih =>
            rw [List.range_succ, List.filterMap_append, List.length_append, ih (by omega)]
            obtain ⟨x', _, e, _⟩ := hf k (by omega)
            simp [e]
        exact this len (Nat.le_refl _)
      have hget : ∀ k, k < len → ((List.range len).filterMap f)[k]? = f k := by
        have : ∀ m, m ≤ len → ∀ k, k < m → ((List.range m).filterMap f)[k]? = f k ∧ ((List.range m).filterMap f).length = m := by
          intro m hm'
          induction m with
          | zero => intro k hk; omega
          | succ m ih =>
            intro k hk
            have hl' : ((List.range m).filterMap f).length = m := by
              rcases Nat.eq_zero_or_pos m with rfl | hp
              · rfl
              · exact (ih (by omega) 0 hp).2
            obtain ⟨x', _, e, _⟩ := hf m (by omega)
            rw [List.range_succ, List.filterMap_append]
            have es : [m].filterMap f = [x'] := by simp [e]
            rw [es]
            refine ⟨?_, by simp [hl']⟩
            by_cases hkm : k < m
            · rw [List.getElem?_append_left (by omega)]
              exact (ih (by omega) k hkm).1
            · obtain rfl : k = m := by omega
              rw [List.getElem?_append_right (by omega), hl', Nat.sub_self, e]; rfl
        exact fun k hk => (this len (Nat.le_refl _) k hk).1
      refine ⟨some ⟨b, o, none⟩, cap, by rw [hlen], by rw [hlen]; exact hl, hm, fun k x hx => ?_⟩
      have hk : k < len := by
        have := (List.getElem?_eq_some_iff.1 hx).1
        omega
      rw [hget k hk] at hx
      obtain ⟨x', us, e, hb, hul, hc, hR, _⟩ := hf k hk
      rw [hx] at e
      injection e with e
      subst e
      exact ⟨b, o, us, rfl, hb, hul, hc, hR⟩
    · intro x hx
      obtain ⟨i, hi', hfi⟩ := List.mem_filterMap.1 hx
      obtain ⟨x', _, e, _, _, _, _, hQ⟩ := hf i (by simpa using hi')
      rw [hfi] at e
      injection e with e
      rw [e]; exact hQ
theorem field_at {fs : Array Field} {n : Nat} {cs : List Value} {xs : List (DataW H × List MemPlace)}
    (hg : ∀ (i : Nat) (f : Field), fs[i]? = some f → DataW.trod enc Try.prog w 0 sp held n f.type ((cs.drop f.offset).take (Try.prog.cellsOf f.type)) = xs[i]?) (i : Nat) (T O C : Nat)
    (h1 : (fs[i]?).map (fun f => (f.type, f.offset)) = some (T, O)) (h2 : Try.prog.cellsOf T = C) : DataW.trod enc Try.prog w 0 sp held n T ((cs.drop O).take C) = xs[i]? := by
  obtain ⟨f, hf, e⟩ := Option.map_eq_some_iff.1 h1
  have e1 : f.type = T := congrArg Prod.fst e
  have e2 : f.offset = O := congrArg Prod.snd e
  have := hg i f hf
  rw [e1, e2, h2] at this
  exact this
theorem t_int {n : Nat} {cs : List Value} {y : DataW H × List MemPlace} (h : DataW.trod enc Try.prog w 0 sp held n 3 cs = some y) : ∃ x, rInt w (lt w) x cs ∧ I64 x := by
  obtain ⟨x, rfl, _, hw⟩ := DataW.trod_int Try.underlying3 h
  exact ⟨x, rfl, hw⟩
theorem t_ints {n : Nat} {cs : List Value} {y : DataW H × List MemPlace} (h : DataW.trod enc Try.prog w 0 sp held n 42 cs = some y) : ∃ xs, rInts w (lt w) xs cs ∧ wfInts xs :=
  t_slice Try.underlying42 (by kernel_rfl) (by omega) (fun _ _ _ h _ => t_int h) h
theorem t_intss {n : Nat} {cs : List Value} {y : DataW H × List MemPlace} (h : DataW.trod enc Try.prog w 0 sp held n 98 cs = some y) : ∃ xs, rIntss w (lt w) xs cs ∧ ∀ x ∈ xs, wfInts x :=
by
  have hE : ∀ n cs y, DataW.trod enc Try.prog w 0 sp held n 42 cs = some y → cs.length = 1 → ∃ x, rInts w (lt w) x cs ∧ wfInts x := fun _ _ _ h _ => t_ints h
  have hC : Try.prog.cellsOf 42 = 1 := by kernel_rfl
  have := t_slice Try.underlying98 hC (by omega) hE h
  exact this
def wfPair (p : GPair) : Prop := I64 p.fst ∧ I64 p.snd
theorem t_pair {n : Nat} {cs : List Value} {y : DataW H × List MemPlace} (h : DataW.trod enc Try.prog w 0 sp held n 194 cs = some y) : ∃ x, rPair w (lt w) x cs ∧ wfPair x := by
  obtain ⟨xs, n', _, _, hlen, hxl, hg⟩ := DataW.trod_struct Try.underlying194 h
  have hC : Try.prog.cellsOf 194 = 2 := by kernel_rfl
  replace hlen : cs.length = 2 := hlen.trans hC
  obtain ⟨c0, c1, rfl⟩ := two_of hlen
  obtain ⟨y0, y1, rfl⟩ := two_of (show xs.length = 2 from hxl)
  have h0 : DataW.trod enc Try.prog w 0 sp held n' 3 [c0] = some y0 := field_at hg 0 3 0 1 rfl (by kernel_rfl)
  have h1 : DataW.trod enc Try.prog w 0 sp held n' 3 [c1] = some y1 := field_at hg 1 3 1 1 rfl (by kernel_rfl)
  obtain ⟨x0, e0, w0⟩ := t_int h0
  obtain ⟨x1, e1, w1⟩ := t_int h1
  cases e0
  cases e1
  exact ⟨⟨x0, x1⟩, rfl, w0, w1⟩
theorem t_pairs {n : Nat} {cs : List Value} {y : DataW H × List MemPlace} (h : DataW.trod enc Try.prog w 0 sp held n 104 cs = some y) : ∃ xs, rPairs w (lt w) xs cs ∧ ∀ x ∈ xs, wfPair x :=
  t_slice (sz := 2) (R := rPair) (Q := wfPair) Try.underlying104 (by kernel_rfl) (by omega) (fun _ _ _ h _ => t_pair h) h
def wfItem (x : GItem) : Prop := I64 x.id ∧ wfInts x.vals
theorem t_item {n : Nat} {cs : List Value} {y : DataW H × List MemPlace} (h : DataW.trod enc Try.prog w 0 sp held n 102 cs = some y) : ∃ x, rItem w (lt w) x cs ∧ wfItem x := by
  obtain ⟨xs, n', _, _, hlen, hxl, hg⟩ := DataW.trod_struct Try.underlying102 h
  have hC : Try.prog.cellsOf 102 = 2 := by kernel_rfl
  replace hlen : cs.length = 2 := hlen.trans hC
  obtain ⟨c0, c1, rfl⟩ := two_of hlen
  obtain ⟨y0, y1, rfl⟩ := two_of (show xs.length = 2 from hxl)
  have h0 : DataW.trod enc Try.prog w 0 sp held n' 3 [c0] = some y0 := field_at hg 0 3 0 1 rfl (by kernel_rfl)
  have h1 : DataW.trod enc Try.prog w 0 sp held n' 42 [c1] = some y1 := field_at hg 1 42 1 1 rfl (by kernel_rfl)
  obtain ⟨x0, e0, w0⟩ := t_int h0
  obtain ⟨x1, e1, w1⟩ := t_ints h1
  cases e0
  exact ⟨⟨x0, x1⟩, ⟨c1, rfl, e1⟩, w0, w1⟩
theorem t_items {n : Nat} {cs : List Value} {y : DataW H × List MemPlace} (h : DataW.trod enc Try.prog w 0 sp held n 22 cs = some y) : ∃ xs, rItems w (lt w) xs cs ∧ ∀ x ∈ xs, wfItem x :=
  t_slice (sz := 2) (R := rItem) (Q := wfItem) Try.underlying22 (by kernel_rfl) (by omega) (fun _ _ _ h _ => t_item h) h
def wfWish (x : GWish) : Prop := (I64 x.kind ∧ I64 x.field ∧ I64 x.value) ∧ wfInts x.list ∧ ∀ p ∈ x.pairs, wfPair p
theorem t_wish {n : Nat} {cs : List Value} {y : DataW H × List MemPlace} (h : DataW.trod enc Try.prog w 0 sp held n 106 cs = some y) : ∃ x, rWish w (lt w) x cs ∧ wfWish x := by
  obtain ⟨xs, n', _, _, hlen, hxl, hg⟩ := DataW.trod_struct Try.underlying106 h
  have hC : Try.prog.cellsOf 106 = 5 := by kernel_rfl
  replace hlen : cs.length = 5 := hlen.trans hC
  obtain ⟨c0, c1, c2, c3, c4, rfl⟩ := five_of hlen
  obtain ⟨y0, y1, y2, y3, y4, rfl⟩ := five_of (show xs.length = 5 from hxl)
  have h0 : DataW.trod enc Try.prog w 0 sp held n' 3 [c0] = some y0 := field_at hg 0 3 0 1 rfl (by kernel_rfl)
  have h1 : DataW.trod enc Try.prog w 0 sp held n' 3 [c1] = some y1 := field_at hg 1 3 1 1 rfl (by kernel_rfl)
  have h2 : DataW.trod enc Try.prog w 0 sp held n' 3 [c2] = some y2 := field_at hg 2 3 2 1 rfl (by kernel_rfl)
  have h3 : DataW.trod enc Try.prog w 0 sp held n' 42 [c3] = some y3 := field_at hg 3 42 3 1 rfl (by kernel_rfl)
  have h4 : DataW.trod enc Try.prog w 0 sp held n' 104 [c4] = some y4 := field_at hg 4 104 4 1 rfl (by kernel_rfl)
  obtain ⟨x0, e0, w0⟩ := t_int h0
  obtain ⟨x1, e1, w1⟩ := t_int h1
  obtain ⟨x2, e2, w2⟩ := t_int h2
  obtain ⟨x3, e3, w3⟩ := t_ints h3
  obtain ⟨x4, e4, w4⟩ := t_pairs h4
  cases e0
  cases e1
  cases e2
  exact ⟨⟨x0, x1, x2, x3, x4⟩, ⟨c3, c4, rfl, e3, e4⟩, ⟨w0, w1, w2⟩, w3, w4⟩
def wfNode (x : GNode) : Prop := I64 x.op ∧ wfWish x.wish
theorem t_node {n : Nat} {cs : List Value} {y : DataW H × List MemPlace} (h : DataW.trod enc Try.prog w 0 sp held n 108 cs = some y) : ∃ x, rNode w (lt w) x cs ∧ wfNode x := by
  obtain ⟨xs, n', _, _, hlen, hxl, hg⟩ := DataW.trod_struct Try.underlying108 h
  have hC : Try.prog.cellsOf 108 = 6 := by kernel_rfl
  replace hlen : cs.length = 6 := hlen.trans hC
  obtain ⟨c0, c1, c2, c3, c4, c5, rfl⟩ := six_of hlen
  obtain ⟨y0, y1, rfl⟩ := two_of (show xs.length = 2 from hxl)
  have h0 : DataW.trod enc Try.prog w 0 sp held n' 3 [c0] = some y0 := field_at hg 0 3 0 1 rfl (by kernel_rfl)
  have h1 : DataW.trod enc Try.prog w 0 sp held n' 106 [c1, c2, c3, c4, c5] = some y1 := field_at hg 1 106 1 5 rfl (by kernel_rfl)
  obtain ⟨x0, e0, w0⟩ := t_int h0
  obtain ⟨x1, e1, w1⟩ := t_wish h1
  cases e0
  exact ⟨⟨x0, x1⟩, ⟨_, rfl, e1⟩, w0, w1⟩
theorem t_nodes {n : Nat} {cs : List Value} {y : DataW H × List MemPlace} (h : DataW.trod enc Try.prog w 0 sp held n 23 cs = some y) : ∃ xs, rNodes w (lt w) xs cs ∧ ∀ x ∈ xs, wfNode x :=
  t_slice (sz := 6) (R := rNode) (Q := wfNode) Try.underlying23 (by kernel_rfl) (by omega) (fun _ _ _ h _ => t_node h) h
theorem t_nodess {n : Nat} {cs : List Value} {y : DataW H × List MemPlace} (h : DataW.trod enc Try.prog w 0 sp held n 54 cs = some y) : ∃ xs, rNodess w (lt w) xs cs ∧ ∀ x ∈ xs, ∀ y ∈ x, wfNode y := by
  have hE : ∀ n cs y, DataW.trod enc Try.prog w 0 sp held n 23 cs = some y → cs.length = 1 → ∃ x, rNodes w (lt w) x cs ∧ ∀ y ∈ x, wfNode y := fun _ _ _ h _ => t_nodes h
  have hC : Try.prog.cellsOf 23 = 1 := by kernel_rfl
  have := t_slice Try.underlying54 hC (by omega) hE h
  exact this
end
end Go.Proofs.Ytfffklkiikmieaa

namespace Go.Proofs.Ytfffklkiikmieaa
open Go.RowKit Go.ChangeShapes Go.WideShapes Go.Deep
set_option linter.unusedVariables false
section
variable {H : Type} {enc : TypeId × Value → H} {w : World} {sp : Nat → Bool} {held : Bool}
theorem t_u8 {n : Nat} {cs : List Value} {y : DataW H × List MemPlace} (h : DataW.trod enc Try.prog w 0 sp held n 5 cs = some y) : ∃ x, rU8 w (lt w) x cs ∧ (0 ≤ x ∧ x ≤ 255) := by
  obtain ⟨x, rfl, _, hw⟩ := DataW.trod_int Try.underlying5 h
  exact ⟨x, rfl, bounds_u8 hw⟩
theorem t_bytes {n : Nat} {cs : List Value} {y : DataW H × List MemPlace} (h : DataW.trod enc Try.prog w 0 sp held n 61 cs = some y) : ∃ xs, rBytes w (lt w) xs cs ∧ wfBytes xs :=
  t_slice Try.underlying61 (by kernel_rfl) (by omega) (fun _ _ _ h _ => t_u8 h) h
end
end Go.Proofs.Ytfffklkiikmieaa
