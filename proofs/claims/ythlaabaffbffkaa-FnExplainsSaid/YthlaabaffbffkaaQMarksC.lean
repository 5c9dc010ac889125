/- What the laws write into couples (or pairs), and what they find again. -/
import Derived.Test.YthlaabaffbffkaaQMarks
import Derived.Test.YthlaabaffbffkaaQItems
namespace Go.Proofs.Ythlaabaffbffkaa
open Go.RowKit
set_option linter.unusedVariables false
theorem all3_upd2 {α : Type} {R R' : α → List Value → List Nat → Prop} {x' : α} {u u' : List Value} {f : List Nat} (hR' : R' x' u' f) (hi : ∀ x u f', (∀ a ∈ f', a ∉ f) → R x u f' → R' x u f') :
    ∀ {xs : List α} {us : List (List Value)} {Fs : List (List Nat)} {i : Nat}, all3 R xs us Fs → us[i]? = some u → Fs[i]? = some f → Fs.flatten.Nodup → all3 R' (xs.set i x') (us.set i u') Fs
  | x :: xs, v :: us, g :: Fs, 0, h, hu, hf, hn => by
    simp at hu hf
    subst hu hf
    rw [List.flatten_cons, List.nodup_append] at hn
    exact ⟨hR', all3_imp (fun x u f' hf' hx => hi x u f' (fun a ha hb => hn.2.2 a hb a (List.mem_flatten.2 ⟨_, hf', ha⟩) rfl) hx) h.2⟩
  | x :: xs, v :: us, g :: Fs, i + 1, h, hu, hf, hn => by
    simp at hu hf
    rw [List.flatten_cons, List.nodup_append] at hn
    refine ⟨hi _ _ _ (fun a ha hb => hn.2.2 a ha a (List.mem_flatten.2 ⟨f, List.mem_iff_getElem?.2 ⟨i, hf⟩, hb⟩) rfl) h.1, all3_upd2 hR' hi (xs := xs) h.2 hu hf hn.2.1⟩
  | [], [], [], _, _, hu, _, _ => by simp at hu
  | [], _ :: _, _, _, h, _, _, _ | [], [], _ :: _, _, h, _, _, _ | _ :: _, [], _, _, h, _, _, _ | _ :: _, _ :: _, [], _, h, _, _, _ => h.elim
theorem nodup_part {f : List Nat} : ∀ {Fs : List (List Nat)}, Fs.flatten.Nodup → f ∈ Fs → f.Nodup
  | g :: Fs, h, hm => by
    rw [List.flatten_cons, List.nodup_append] at h
    rcases List.mem_cons.1 hm with rfl | hm
    · exact h.1
    · exact nodup_part h.2.1 hm
theorem set_same {α : Type} {l : List α} {i : Nat} {x : α} (h : l[i]? = some x) : l.set i x = l := by
  apply List.ext_getElem?
  intro j
  rw [List.getElem?_set]
  by_cases hj : i = j
  · subst hj; rw [if_pos rfl, if_pos (List.getElem?_eq_some_iff.1 h).1, h]
  · rw [if_neg hj]
/-- an item among owned ones: its cells, its values, and the way back -/
theorem fItems_focus {B g n c i : Nat} {w : World} {xs : List GItem} {F : List Nat} (hv : fItems w xs [.slice (some ⟨g, 0, none⟩) n c] F) (hF : Fresh B F) {x : GItem} (hx : xs[i]? = some x) :
    ∃ A' c' f, w.cell? ⟨g, i * 2, none⟩ = some (.int .i64 x.id) ∧ w.cell? ⟨g, i * 2 + 1, none⟩ = some (.slice A' x.vals.length c') ∧ fInts w x.vals [.slice A' x.vals.length c'] f ∧ Fresh B f ∧ (∀ b ∈ f, b ∈ F ∧ b ≠ g) ∧
      (∀ w' ys, Only f w w' → fInts w' ys [.slice A' x.vals.length c'] f → fItems w' (xs.set i ⟨x.id, ys⟩) [.slice (some ⟨g, 0, none⟩) n c] F) ∧
      (∀ z : Int, w.grownBy (w.setCell ⟨g, i * 2, none⟩ (.int .i64 z)) (some g) ∧ fItems (w.setCell ⟨g, i * 2, none⟩ (.int .i64 z)) (xs.set i ⟨z, x.vals⟩) [.slice (some ⟨g, 0, none⟩) n c] F) := by
  have hlt := (fItems_good (B := 0)).lt hv
  obtain ⟨v, us, Fs, hv0, hown, hall, hFe⟩ := hv
  injection hv0 with hv0
  subst hv0
  obtain ⟨u, f, hu, hf, ⟨vv, rfl, hin⟩, hul⟩ := all3_at hall hx
  obtain ⟨A', c', rfl, _⟩ := rSl_shape (fInts_Rd hin)
  have hfF : ∀ a ∈ f, a ∈ F := fun a ha => by rw [hFe]; exact List.mem_append_right _ (List.mem_flatten.2 ⟨f, List.mem_iff_getElem?.2 ⟨i, hf⟩, ha⟩)
  have hnd := hF.nodup
  rw [hFe, List.nodup_append] at hnd
  have hFg : ∀ b ∈ Fs.flatten, b ≠ g := fun b hb e => hnd.2.2 g (by simp [Value.ownBlock]) b hb e.symm
  have hgF : g ∈ F := by rw [hFe]; simp [Value.ownBlock]
  have hfn : ∀ a ∈ f, a ∈ Fs.flatten := fun a ha => List.mem_flatten.2 ⟨f, List.mem_iff_getElem?.2 ⟨i, hf⟩, ha⟩
  have hfd : f.Nodup := nodup_part hnd.2.1 (List.mem_iff_getElem?.2 ⟨i, hf⟩)
  have hus : ∀ u ∈ us, u.length = 2 := fun u hu => by obtain ⟨x, f, hr⟩ := all3_mem_us hall hu; exact hr.2
  have hl := all3_len hall
  have hil : i < us.length := (List.getElem?_eq_some_iff.1 hu).1
  obtain ⟨A, cc, eA, _, _, hcells⟩ := ownsRow_rSl hown hl.1 hus
  injection eA with eA _ _
  subst eA
  obtain ⟨b1, eb, _, hc⟩ := hcells i _ hu
  injection eb with eb
  injection eb with eb _ _
  subst eb
  have hc0 := hc 0 _ rfl
  have hc1 := hc 1 _ rfl
  rw [Nat.zero_add] at hc0 hc1
  have hn : n = xs.length := by
    rcases hown.2 with ⟨h, _⟩ | ⟨g', cap, cur, h, _⟩
    · cases h
    · injection h
  subst hn
  have hallb : all3 (fun x u f => (fItem w x u f ∧ u.length = 2) ∧ ∀ a ∈ f, a ∈ Fs.flatten) xs us Fs := all3_imp (fun x u f' hf' hx => ⟨hx, fun a ha => List.mem_flatten.2 ⟨f', hf', ha⟩⟩) hall
  have hFlt : ∀ a ∈ Fs.flatten, a < w.heap.size := fun a ha => hlt a (by rw [hFe]; exact List.mem_append_right _ ha)
  refine ⟨A', c', f, by simpa using hc0, hc1, hin, ⟨hfd, fun a ha => hF.ge a (hfF a ha)⟩, fun b hb => ⟨hfF b hb, hFg b (hfn b hb)⟩, ?_, ?_⟩
  · intro w' ys hO hys
    refine ⟨_, us, Fs, rfl, ?_, ?_, hFe⟩
    · rw [List.length_set]
      exact ownsRow_heap hown fun a ha => by
        have : a = g := by simpa [Value.ownBlock] using ha.symm
        subst this
        exact hO.2 _ (hlt _ hgF) (fun hm => hFg _ (hfn _ hm) rfl)
    · have hset : us.set i [.int .i64 x.id, .slice A' x.vals.length c'] = us := set_same hu
      rw [← hset]
      refine all3_upd2 (R := fun x u f => (fItem w x u f ∧ u.length = 2) ∧ ∀ a ∈ f, a ∈ Fs.flatten) (f := f) (u := [.int .i64 x.id, .slice A' x.vals.length c']) ⟨⟨_, rfl, hys⟩, rfl⟩ (fun x u f' hd hx => ⟨hO.keeps (fItem_good (B := 0)) hx.1.1 (fun b hb => hd b hb), hx.1.2⟩) hallb hu hf hnd.2.1
  · intro z
    obtain ⟨hs1, hgr⟩ := hown.stored (i * 2) (.int .i64 z)
    have e2 : us.flatten.set (i * 2) (.int .i64 z) = (us.set i [.int .i64 z, .slice A' x.vals.length c']).flatten := by
      rw [← setMany_flatten hus rfl hil]
      simp only [setMany]
      refine (set_same ?_).symm
      rw [List.getElem?_set, if_neg (by omega)]
      exact flatten_at (j := 1) hus hu (by omega)
    rw [e2] at hs1
    refine ⟨hgr, ⟨_, us.set i [.int .i64 z, .slice A' x.vals.length c'], Fs, rfl, by rw [List.length_set]; exact hs1, ?_, hFe⟩⟩
    have hkeep : ∀ {x : GItem} {u : List Value} {f' : List Nat}, (∀ a ∈ f', a ∈ Fs.flatten) → fItem w x u f' → fItem (w.setCell ⟨g, i * 2, none⟩ (.int .i64 z)) x u f' := fun ha hx => (fItem_good (B := 0)).step (fun b hb => by
      rcases hb with hb | hb
      · exact hgr.block _ (hFlt _ (ha b hb)) (fun e => by injection e with e; exact hFg b (ha b hb) e)
      · omega) hx
    have hin2 : fInts (w.setCell ⟨g, i * 2, none⟩ (.int .i64 z)) x.vals [.slice A' x.vals.length c'] f := (fInts_good (B := 0)).step (fun b hb => by
      rcases hb with hb | hb
      · exact hgr.block _ (hFlt _ (hfn b hb)) (fun e => by injection e with e; exact hFg b (hfn b hb) e)
      · omega) hin
    exact all3_upd2 (R := fun x u f => (fItem w x u f ∧ u.length = 2) ∧ ∀ a ∈ f, a ∈ Fs.flatten) (f := f) (u := [.int .i64 x.id, .slice A' x.vals.length c']) ⟨⟨_, rfl, hin2⟩, rfl⟩ (fun x u f' hd hx => ⟨hkeep hx.2 hx.1.1, hx.1.2⟩) hallb hu hf hnd.2.1
def mkItems : List GItem → Nat → List GItem
  | [], _ => []
  | x :: xs, k => ⟨k, mkInts x.vals (k + 1)⟩ :: mkItems xs (k + 1 + x.vals.length)
theorem mkItems_length : ∀ (xs : List GItem) (k : Nat), (mkItems xs k).length = xs.length
  | [], _ => rfl
  | _ :: xs, k => by rw [mkItems, List.length_cons, mkItems_length xs, List.length_cons]
theorem mkItems_at : ∀ {xs : List GItem} {k j : Nat} {x : GItem}, xs[j]? = some x → (mkItems xs k)[j]? = some ⟨((k + totItems (xs.take j) : Nat) : Int), mkInts x.vals (k + totItems (xs.take j) + 1)⟩
  | y :: xs, k, 0, x, h => by simp at h; subst h; simp [mkItems, totItems, sumL]
  | y :: xs, k, j + 1, x, h => by
    simp only [mkItems, List.getElem?_cons_succ]
    rw [mkItems_at (by simpa using h)]
    have e : k + 1 + y.vals.length + totItems (xs.take j) = k + totItems ((y :: xs).take (j + 1)) := by
      simp only [totItems, List.take_succ_cons, List.length_cons, sumL]; omega
    rw [e]
  | [], _, _, _, h => by simp at h
theorem tot_take_succ {xs : List GItem} {j : Nat} {x : GItem} (h : xs[j]? = some x) : totItems (xs.take (j + 1)) = totItems (xs.take j) + (1 + x.vals.length) := by
  have hs : ∀ (l : List GItem) (y : GItem), sumL (fun x => x.vals.length) (l ++ [y]) = sumL (fun x => x.vals.length) l + y.vals.length := fun l y => by
    induction l with
    | nil => simp [sumL]
    | cons a l ih => simp only [List.cons_append, sumL, ih]; omega
  rw [List.take_add_one, h]
  simp only [totItems, Option.toList_some, List.length_append, List.length_singleton, hs]; omega
theorem tot_take_le (xs : List GItem) (j : Nat) : totItems (xs.take j) ≤ totItems xs := by
  have : ∀ (l m : List GItem), sumL (fun x => x.vals.length) l ≤ sumL (fun x => x.vals.length) (l ++ m) := fun l m => by
    induction l with
    | nil => simp [sumL]
    | cons a l ih => simp only [List.cons_append, sumL]; omega
  have h1 := this (xs.take j) (xs.drop j)
  rw [List.take_append_drop] at h1
  unfold totItems
  have : (xs.take j).length ≤ xs.length := by rw [List.length_take]; omega
  omega


end Go.Proofs.Ythlaabaffbffkaa

namespace Go.Proofs.Ythlaabaffbffkaa
open Go.RowKit
set_option linter.unusedVariables false
def mkPairs : List GPair → Nat → List GPair
  | [], _ => []
  | _ :: xs, k => ⟨(k : Int), ((k + 1 : Nat) : Int)⟩ :: mkPairs xs (k + 2)
theorem mkPairs_length : ∀ (xs : List GPair) (k : Nat), (mkPairs xs k).length = xs.length
  | [], _ => rfl
  | _ :: xs, k => by rw [mkPairs, List.length_cons, mkPairs_length xs, List.length_cons]
theorem mkPairs_at : ∀ {xs : List GPair} {k j : Nat}, j < xs.length → (mkPairs xs k)[j]? = some ⟨((k + 2 * j : Nat) : Int), ((k + 2 * j + 1 : Nat) : Int)⟩
  | [], _, _, h => by simp at h
  | _ :: xs, k, 0, _ => rfl
  | _ :: xs, k, j + 1, h => by
    simp only [mkPairs, List.getElem?_cons_succ]; rw [mkPairs_at (by simpa using h)]
    rw [show k + 2 + 2 * j = k + 2 * (j + 1) by omega]
theorem all3_nilsP {w : World} : ∀ {xs : List GPair} {us : List (List Value)} {Fs : List (List Nat)}, all3 (fun x u f => fPair w x u f ∧ u.length = 2) xs us Fs → Fs.flatten = []
  | [], [], [], _ => rfl
  | _ :: xs, _ :: us, f :: Fs, h => by rw [List.flatten_cons, h.1.1.2, all3_nilsP (xs := xs) h.2]; rfl
  | [], _ :: _, _, h | [], [], _ :: _, h | _ :: _, [], _, h | _ :: _, _ :: _, [], h => h.elim
theorem fPairs_foot {e : TypeId} {w : World} {xs : List GPair} {v : Value} {f : List Nat} (h : fSl e 2 fPair w xs [v] f) : f = v.ownBlock.toList := by
  obtain ⟨v', us, Fs, hv, _, hall, hF⟩ := h
  injection hv with hv
  subst hv
  rw [hF, all3_nilsP hall, List.append_nil]
end Go.Proofs.Ythlaabaffbffkaa
