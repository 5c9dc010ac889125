/- Standings as owned results: what the laws write into them and look for. -/
import Derived.Test.YthlaabaffbffkaaGreatQOwn3
import Derived.Test.YthlaabaffbffkaaGreatQItems
import Derived.Test.YthlaabaffbffkaaGreatQWishes3
import Derived.Test.YthlaabaffbffkaaGreatQStand
namespace Go.Proofs.YthlaabaffbffkaaGreat
open Go.RowKit
set_option linter.unusedVariables false
theorem all3_upd2 {α : Type} {R R' : α → List Value → List Nat → Prop} {x' : α} {u u' : List Value} {f : List Nat} (hR' : R' x' u' f) (hi : ∀ x u f', (∀ a ∈ f', a ∉ f) → R x u f' → R' x u f') :
    ∀ {xs : List α} {us : List (List Value)} {Fs : List (List Nat)} {i : Nat}, all3 R xs us Fs → us[i]? = some u → Fs[i]? = some f → Fs.flatten.Nodup → all3 R' (xs.set i x') (us.set i u') Fs
  | x :: xs, v :: us, g :: Fs, 0, h, hu, hf, hn => by
    simp at hu hf
    subst hu hf
    rw [List.flatten_cons, List.nodup_append] at hn
    exact ⟨hR', all3_imp (fun x u f' hf' hx => hi x u f' (fun a ha hb => hn.2.2 a hb a (List.mem_flatten.2 ⟨_, hf', ha⟩) rfl) hx) h.2⟩
  | x :: xs, v :: us, g :: Fs, i + 1, h, hu, hf, hn => by
    simp at hu hf
    rw [List.flatten_cons, List.nodup_append] at hn
    refine ⟨hi _ _ _ (fun a ha hb => hn.2.2 a ha a (List.mem_flatten.2 ⟨f, List.mem_iff_getElem?.2 ⟨i, hf⟩, hb⟩) rfl) h.1, all3_upd2 hR' hi (xs := xs) h.2 hu hf hn.2.1⟩
  | [], [], [], _, _, hu, _, _ => by simp at hu
  | [], _ :: _, _, _, h, _, _, _ | [], [], _ :: _, _, h, _, _, _ | _ :: _, [], _, _, h, _, _, _ | _ :: _, _ :: _, [], _, h, _, _, _ => h.elim
theorem nodup_part {f : List Nat} : ∀ {Fs : List (List Nat)}, Fs.flatten.Nodup → f ∈ Fs → f.Nodup
  | g :: Fs, h, hm => by
    rw [List.flatten_cons, List.nodup_append] at h
    rcases List.mem_cons.1 hm with rfl | hm
    · exact h.1
    · exact nodup_part h.2.1 hm
theorem set_same {α : Type} {l : List α} {i : Nat} {x : α} (h : l[i]? = some x) : l.set i x = l := by
  apply List.ext_getElem?
  intro j
  rw [List.getElem?_set]
  by_cases hj : i = j
  · subst hj; rw [if_pos rfl, if_pos (List.getElem?_eq_some_iff.1 h).1, h]
  · rw [if_neg hj]
/-- an item among owned ones: its cells, its values, and the way back -/
theorem fItems_focus {B g n c i : Nat} {w : World} {xs : List GItem} {F : List Nat} (hv : fItems w xs [.slice (some ⟨g, 0, none⟩) n c] F) (hF : Fresh B F) {x : GItem} (hx : xs[i]? = some x) :
    ∃ A' c' f, w.cell? ⟨g, i * 2, none⟩ = some (.int .i64 x.id) ∧ w.cell? ⟨g, i * 2 + 1, none⟩ = some (.slice A' x.vals.length c') ∧ fInts w x.vals [.slice A' x.vals.length c'] f ∧ Fresh B f ∧ (∀ b ∈ f, b ∈ F ∧ b ≠ g) ∧
      (∀ w' ys, Only f w w' → fInts w' ys [.slice A' x.vals.length c'] f → fItems w' (xs.set i ⟨x.id, ys⟩) [.slice (some ⟨g, 0, none⟩) n c] F) ∧
      (∀ z : Int, w.grownBy (w.setCell ⟨g, i * 2, none⟩ (.int .i64 z)) (some g) ∧ fItems (w.setCell ⟨g, i * 2, none⟩ (.int .i64 z)) (xs.set i ⟨z, x.vals⟩) [.slice (some ⟨g, 0, none⟩) n c] F) := by
  have hlt := (fItems_good (B := 0)).lt hv
  obtain ⟨v, us, Fs, hv0, hown, hall, hFe⟩ := hv
  injection hv0 with hv0
  subst hv0
  obtain ⟨u, f, hu, hf, ⟨vv, rfl, hin⟩, hul⟩ := all3_at hall hx
  obtain ⟨A', c', rfl, _⟩ := rSl_shape (fInts_Rd hin)
  have hfF : ∀ a ∈ f, a ∈ F := fun a ha => by rw [hFe]; exact List.mem_append_right _ (List.mem_flatten.2 ⟨f, List.mem_iff_getElem?.2 ⟨i, hf⟩, ha⟩)
  have hnd := hF.nodup
  rw [hFe, List.nodup_append] at hnd
  have hFg : ∀ b ∈ Fs.flatten, b ≠ g := fun b hb e => hnd.2.2 g (by simp [Value.ownBlock]) b hb e.symm
  have hgF : g ∈ F := by rw [hFe]; simp [Value.ownBlock]
  have hfn : ∀ a ∈ f, a ∈ Fs.flatten := fun a ha => List.mem_flatten.2 ⟨f, List.mem_iff_getElem?.2 ⟨i, hf⟩, ha⟩
  have hfd : f.Nodup := nodup_part hnd.2.1 (List.mem_iff_getElem?.2 ⟨i, hf⟩)
  have hus : ∀ u ∈ us, u.length = 2 := fun u hu => by obtain ⟨x, f, hr⟩ := all3_mem_us hall hu; exact hr.2
  have hl := all3_len hall
  have hil : i < us.length := (List.getElem?_eq_some_iff.1 hu).1
  obtain ⟨A, cc, eA, _, _, hcells⟩ := ownsRow_rSl hown hl.1 hus
  injection eA with eA _ _
  subst eA
  obtain ⟨b1, eb, _, hc⟩ := hcells i _ hu
  injection eb with eb
  injection eb with eb _ _
  subst eb
  have hc0 := hc 0 _ rfl
  have hc1 := hc 1 _ rfl
  rw [Nat.zero_add] at hc0 hc1
  have hn : n = xs.length := by
    rcases hown.2 with ⟨h, _⟩ | ⟨g', cap, cur, h, _⟩
    · cases h
    · injection h
  subst hn
  have hallb : all3 (fun x u f => (fItem w x u f ∧ u.length = 2) ∧ ∀ a ∈ f, a ∈ Fs.flatten) xs us Fs := all3_imp (fun x u f' hf' hx => ⟨hx, fun a ha => List.mem_flatten.2 ⟨f', hf', ha⟩⟩) hall
  have hFlt : ∀ a ∈ Fs.flatten, a < w.heap.size := fun a ha => hlt a (by rw [hFe]; exact List.mem_append_right _ ha)
  refine ⟨A', c', f, by simpa using hc0, hc1, hin, ⟨hfd, fun a ha => hF.ge a (hfF a ha)⟩, fun b hb => ⟨hfF b hb, hFg b (hfn b hb)⟩, ?_, ?_⟩
  · intro w' ys hO hys
    refine ⟨_, us, Fs, rfl, ?_, ?_, hFe⟩
    · rw [List.length_set]
      exact ownsRow_heap hown fun a ha => by
        have : a = g := by simpa [Value.ownBlock] using ha.symm
        subst this
        exact hO.2 _ (hlt _ hgF) (fun hm => hFg _ (hfn _ hm) rfl)
    · have hset : us.set i [.int .i64 x.id, .slice A' x.vals.length c'] = us := set_same hu
      rw [← hset]
      refine all3_upd2 (R := fun x u f => (fItem w x u f ∧ u.length = 2) ∧ ∀ a ∈ f, a ∈ Fs.flatten) (f := f) (u := [.int .i64 x.id, .slice A' x.vals.length c']) ⟨⟨_, rfl, hys⟩, rfl⟩ (fun x u f' hd hx => ⟨hO.keeps (fItem_good (B := 0)) hx.1.1 (fun b hb => hd b hb), hx.1.2⟩) hallb hu hf hnd.2.1
  · intro z
    obtain ⟨hs1, hgr⟩ := hown.stored (i * 2) (.int .i64 z)
    have e2 : us.flatten.set (i * 2) (.int .i64 z) = (us.set i [.int .i64 z, .slice A' x.vals.length c']).flatten := by
      rw [← setMany_flatten hus rfl hil]
      simp only [setMany]
      refine (set_same ?_).symm
      rw [List.getElem?_set, if_neg (by omega)]
      exact flatten_at (j := 1) hus hu (by omega)
    rw [e2] at hs1
    refine ⟨hgr, ⟨_, us.set i [.int .i64 z, .slice A' x.vals.length c'], Fs, rfl, by rw [List.length_set]; exact hs1, ?_, hFe⟩⟩
    have hkeep : ∀ {x : GItem} {u : List Value} {f' : List Nat}, (∀ a ∈ f', a ∈ Fs.flatten) → fItem w x u f' → fItem (w.setCell ⟨g, i * 2, none⟩ (.int .i64 z)) x u f' := fun ha hx => (fItem_good (B := 0)).step (fun b hb => by
      rcases hb with hb | hb
      · exact hgr.block _ (hFlt _ (ha b hb)) (fun e => by injection e with e; exact hFg b (ha b hb) e)
      · omega) hx
    have hin2 : fInts (w.setCell ⟨g, i * 2, none⟩ (.int .i64 z)) x.vals [.slice A' x.vals.length c'] f := (fInts_good (B := 0)).step (fun b hb => by
      rcases hb with hb | hb
      · exact hgr.block _ (hFlt _ (hfn b hb)) (fun e => by injection e with e; exact hFg b (hfn b hb) e)
      · omega) hin
    exact all3_upd2 (R := fun x u f => (fItem w x u f ∧ u.length = 2) ∧ ∀ a ∈ f, a ∈ Fs.flatten) (f := f) (u := [.int .i64 x.id, .slice A' x.vals.length c']) ⟨⟨_, rfl, hin2⟩, rfl⟩ (fun x u f' hd hx => ⟨hkeep hx.2 hx.1.1, hx.1.2⟩) hallb hu hf hnd.2.1
def mkItems : List GItem → Nat → List GItem
  | [], _ => []
  | x :: xs, k => ⟨k, mkInts x.vals (k + 1)⟩ :: mkItems xs (k + 1 + x.vals.length)
theorem mkItems_length : ∀ (xs : List GItem) (k : Nat), (mkItems xs k).length = xs.length
  | [], _ => rfl
  | _ :: xs, k => by rw [mkItems, List.length_cons, mkItems_length xs, List.length_cons]
theorem mkItems_at : ∀ {xs : List GItem} {k j : Nat} {x : GItem}, xs[j]? = some x → (mkItems xs k)[j]? = some ⟨((k + totItems (xs.take j) : Nat) : Int), mkInts x.vals (k + totItems (xs.take j) + 1)⟩
  | y :: xs, k, 0, x, h => by simp at h; subst h; simp [mkItems, totItems, sumL]
  | y :: xs, k, j + 1, x, h => by
    simp only [mkItems, List.getElem?_cons_succ]
    rw [mkItems_at (by simpa using h)]
    have e : k + 1 + y.vals.length + totItems (xs.take j) = k + totItems ((y :: xs).take (j + 1)) := by
      simp only [totItems, List.take_succ_cons, List.length_cons, sumL]; omega
    rw [e]
  | [], _, _, _, h => by simp at h
theorem tot_take_succ {xs : List GItem} {j : Nat} {x : GItem} (h : xs[j]? = some x) : totItems (xs.take (j + 1)) = totItems (xs.take j) + (1 + x.vals.length) := by
  have hs : ∀ (l : List GItem) (y : GItem), sumL (fun x => x.vals.length) (l ++ [y]) = sumL (fun x => x.vals.length) l + y.vals.length := fun l y => by
    induction l with
    | nil => simp [sumL]
    | cons a l ih => simp only [List.cons_append, sumL, ih]; omega
  rw [List.take_add_one, h]
  simp only [totItems, Option.toList_some, List.length_append, List.length_singleton, hs]; omega
theorem tot_take_le (xs : List GItem) (j : Nat) : totItems (xs.take j) ≤ totItems xs := by
  have : ∀ (l m : List GItem), sumL (fun x => x.vals.length) l ≤ sumL (fun x => x.vals.length) (l ++ m) := fun l m => by
    induction l with
    | nil => simp [sumL]
    | cons a l ih => simp only [List.cons_append, sumL]; omega
  have h1 := this (xs.take j) (xs.drop j)
  rw [List.take_append_drop] at h1
  unfold totItems
  have : (xs.take j).length ≤ xs.length := by rw [List.length_take]; omega
  omega


end Go.Proofs.YthlaabaffbffkaaGreat

namespace Go.Proofs.YthlaabaffbffkaaGreat
open Go.RowKit
set_option linter.unusedVariables false
def mkPairs : List GPair → Nat → List GPair
  | [], _ => []
  | _ :: xs, k => ⟨(k : Int), ((k + 1 : Nat) : Int)⟩ :: mkPairs xs (k + 2)
theorem mkPairs_length : ∀ (xs : List GPair) (k : Nat), (mkPairs xs k).length = xs.length
  | [], _ => rfl
  | _ :: xs, k => by rw [mkPairs, List.length_cons, mkPairs_length xs, List.length_cons]
theorem mkPairs_at : ∀ {xs : List GPair} {k j : Nat}, j < xs.length → (mkPairs xs k)[j]? = some ⟨((k + 2 * j : Nat) : Int), ((k + 2 * j + 1 : Nat) : Int)⟩
  | [], _, _, h => by simp at h
  | _ :: xs, k, 0, _ => rfl
  | _ :: xs, k, j + 1, h => by
    simp only [mkPairs, List.getElem?_cons_succ]; rw [mkPairs_at (by simpa using h)]
    rw [show k + 2 + 2 * j = k + 2 * (j + 1) by omega]
theorem all3_nilsP {w : World} : ∀ {xs : List GPair} {us : List (List Value)} {Fs : List (List Nat)}, all3 (fun x u f => fPair w x u f ∧ u.length = 2) xs us Fs → Fs.flatten = []
  | [], [], [], _ => rfl
  | _ :: xs, _ :: us, f :: Fs, h => by rw [List.flatten_cons, h.1.1.2, all3_nilsP (xs := xs) h.2]; rfl
  | [], _ :: _, _, h | [], [], _ :: _, h | _ :: _, [], _, h | _ :: _, _ :: _, [], h => h.elim
theorem fPairs_foot {e : TypeId} {w : World} {xs : List GPair} {v : Value} {f : List Nat} (h : fSl e 2 fPair w xs [v] f) : f = v.ownBlock.toList := by
  obtain ⟨v', us, Fs, hv, _, hall, hF⟩ := h
  injection hv with hv
  subst hv
  rw [hF, all3_nilsP hall, List.append_nil]
end Go.Proofs.YthlaabaffbffkaaGreat

namespace Go.Proofs.YthlaabaffbffkaaGreat
open Go.RowKit
set_option linter.unusedVariables false
theorem flatten_set {sz : Nat} : ∀ {us : List (List Value)} {i j : Nat} {u : List Value} {t : Value}, (∀ u ∈ us, u.length = sz) → us[i]? = some u → j < sz → us.flatten.set (i * sz + j) t = (us.set i (u.set j t)).flatten
  | v :: us, 0, j, u, t, hl, hu, hj => by
    simp at hu; subst hu
    rw [List.flatten_cons, List.set_cons_zero, List.flatten_cons, Nat.zero_mul, Nat.zero_add, List.set_append_left _ _ (by rw [hl v (by simp)]; exact hj)]
  | v :: us, i + 1, j, u, t, hl, hu, hj => by
    have hv := hl v (by simp)
    rw [List.flatten_cons, List.set_cons_succ, List.flatten_cons, List.set_append_right _ _ (by rw [hv, Nat.succ_mul]; omega)]
    rw [← flatten_set (us := us) (fun u hu => hl u (by simp [hu])) (by simpa using hu) hj]
    congr 2
    rw [hv, Nat.succ_mul]; omega
  | [], i, j, u, t, hl, hu, hj => by simp at hu
def putsW (g o : Nat) (l : List (Nat × Value)) (w : World) : World := l.foldl (fun w p => w.setCell ⟨g, o + p.1, none⟩ p.2) w
def putsL (l : List (Nat × Value)) (u : List Value) : List Value := l.foldl (fun u p => u.set p.1 p.2) u
theorem putsL_length : ∀ (l : List (Nat × Value)) (u : List Value), (putsL l u).length = u.length
  | [], _ => rfl
  | p :: l, u => by unfold putsL; rw [List.foldl_cons]; exact (putsL_length l (u.set p.1 p.2)).trans (List.length_set ..)
theorem puts_row {e : TypeId} {sz g n c i : Nat} : ∀ (l : List (Nat × Value)) {w : World} {us : List (List Value)} {u : List Value}, w.ownsRow 0 e sz (.slice (some ⟨g, 0, none⟩) n c) n us.flatten → (∀ u ∈ us, u.length = sz) → us[i]? = some u → (∀ p ∈ l, p.1 < sz) →
    (putsW g (i * sz) l w).ownsRow 0 e sz (.slice (some ⟨g, 0, none⟩) n c) n (us.set i (putsL l u)).flatten ∧ (∀ b, b ≠ g → (putsW g (i * sz) l w).heap[b]? = w.heap[b]?) ∧ (putsW g (i * sz) l w).heap.size = w.heap.size
  | [], w, us, u, h, hl, hu, _ => ⟨by unfold putsW putsL; rw [List.foldl_nil, List.foldl_nil, set_same hu]; exact h, fun b _ => rfl, rfl⟩
  | p :: l, w, us, u, h, hl, hu, hp => by
    have hj := hp p (by simp)
    obtain ⟨h1, _⟩ := h.stored (i * sz + p.1) p.2
    rw [flatten_set hl hu hj] at h1
    have hil : i < us.length := (List.getElem?_eq_some_iff.1 hu).1
    have hul : (u.set p.1 p.2).length = sz := by rw [List.length_set]; exact hl u (List.mem_of_getElem? hu)
    obtain ⟨h2, h3, h4⟩ := puts_row l h1 (fun v hv => by
      obtain ⟨k, hk⟩ := List.mem_iff_getElem?.1 hv
      rw [List.getElem?_set] at hk
      split at hk
      · injection hk with hk; rw [← hk]; exact hul
      · exact hl v (List.mem_of_getElem? hk)) (List.getElem?_set_self hil) (fun q hq => hp q (by simp [hq]))
    rw [List.set_set] at h2
    refine ⟨h2, fun b hb => (h3 b hb).trans (Below.heap_setCell _ _ _ _ (by dsimp only; exact hb)), h4.trans (by simp)⟩
/-- an element among owned ones: its cells, some of them written, and the way back -/
theorem fSl_focus {α : Type} {B : Nat} {e : TypeId} {sz g n c i : Nat} {R : Fp α} (hR : GoodF 0 R) {w : World} {xs : List α} {F : List Nat} (hv : fSl e sz R w xs [.slice (some ⟨g, 0, none⟩) n c] F) (hF : Fresh B F) {x : α} (hx : xs[i]? = some x) :
    ∃ u f, R w x u f ∧ u.length = sz ∧ (∀ j t, u[j]? = some t → w.cell? ⟨g, i * sz + j, none⟩ = some t) ∧ Fresh B f ∧ (∀ b ∈ f, b ∈ F ∧ b ≠ g) ∧ g ∈ F ∧
      (∀ l : List (Nat × Value), (∀ p ∈ l, p.1 < sz) → (∀ b, b ≠ g → (putsW g (i * sz) l w).heap[b]? = w.heap[b]?) ∧ (putsW g (i * sz) l w).heap.size = w.heap.size ∧
        ∀ w' y, Only f (putsW g (i * sz) l w) w' → R w' y (putsL l u) f → fSl e sz R w' (xs.set i y) [.slice (some ⟨g, 0, none⟩) n c] F) := by
  have hlt := (fSl_good hR (e := e) (sz := sz)).lt hv
  obtain ⟨v, us, Fs, hv0, hown, hall, hFe⟩ := hv
  injection hv0 with hv0
  subst hv0
  obtain ⟨u, f, hu, hf, hin, hul⟩ := all3_at hall hx
  have hfn : ∀ a ∈ f, a ∈ Fs.flatten := fun a ha => List.mem_flatten.2 ⟨f, List.mem_iff_getElem?.2 ⟨i, hf⟩, ha⟩
  have hfF : ∀ a ∈ f, a ∈ F := fun a ha => by rw [hFe]; exact List.mem_append_right _ (hfn a ha)
  have hnd := hF.nodup
  rw [hFe, List.nodup_append] at hnd
  have hFg : ∀ b ∈ Fs.flatten, b ≠ g := fun b hb e => hnd.2.2 g (by simp [Value.ownBlock]) b hb e.symm
  have hgF : g ∈ F := by rw [hFe]; simp [Value.ownBlock]
  have hfd : f.Nodup := nodup_part hnd.2.1 (List.mem_iff_getElem?.2 ⟨i, hf⟩)
  have hus : ∀ u ∈ us, u.length = sz := fun u hu => by obtain ⟨x, f, hr⟩ := all3_mem_us hall hu; exact hr.2
  have hl := all3_len hall
  obtain ⟨A, cc, eA, _, _, hcells⟩ := ownsRow_rSl hown hl.1 hus
  injection eA with eA _ _
  subst eA
  obtain ⟨b1, eb, _, hc⟩ := hcells i _ hu
  injection eb with eb
  injection eb with eb _ _
  subst eb
  have hn : n = xs.length := by
    rcases hown.2 with ⟨h, _⟩ | ⟨g', cap, cur, h, _⟩
    · cases h
    · injection h
  subst hn
  have hallb : all3 (fun x u f => (R w x u f ∧ u.length = sz) ∧ ∀ a ∈ f, a ∈ Fs.flatten) xs us Fs := all3_imp (fun x u f' hf' hx => ⟨hx, fun a ha => List.mem_flatten.2 ⟨f', hf', ha⟩⟩) hall
  have hFlt : ∀ a ∈ Fs.flatten, a < w.heap.size := fun a ha => hlt a (by rw [hFe]; exact List.mem_append_right _ ha)
  refine ⟨u, f, hin, hul, fun j t ht => by have := hc j t ht; rwa [Nat.zero_add] at this, ⟨hfd, fun a ha => hF.ge a (hfF a ha)⟩, fun b hb => ⟨hfF b hb, hFg b (hfn b hb)⟩, hgF, fun l hp => ?_⟩
  obtain ⟨h1, h2, h3⟩ := puts_row l hown hus hu hp
  refine ⟨h2, h3, fun w' y hO hy => ⟨_, us.set i (putsL l u), Fs, rfl, ?_, ?_, hFe⟩⟩
  · rw [List.length_set]
    exact ownsRow_heap h1 fun a ha => by
      have : a = g := by simpa [Value.ownBlock] using ha.symm
      subst this
      exact hO.2 _ (by rw [h3]; exact hlt _ hgF) (fun hm => hFg _ (hfn _ hm) rfl)
  · refine all3_upd2 (R := fun x u f => (R w x u f ∧ u.length = sz) ∧ ∀ a ∈ f, a ∈ Fs.flatten) (f := f) (u := u) ⟨hy, by rw [putsL_length]; exact hul⟩ (fun x u f' hd hx => ⟨hR.step (fun b hb => ?_) hx.1.1, hx.1.2⟩) hallb hu hf hnd.2.1
    rcases hb with hb | hb
    · exact (hO.2 b (by rw [h3]; exact hFlt _ (hx.2 b hb)) (hd b hb)).trans (h2 b (hFg b (hx.2 b hb)))
    · omega
def markN (x : GNode) : Nat := 4 + x.wish.list.length + 2 * x.wish.pairs.length
def markNodes (xs : List GNode) : Nat := sumL markN xs
def mkNodes : List GNode → Nat → List GNode
  | [], _ => []
  | x :: xs, k => ⟨k, ⟨((k + 1 : Nat) : Int), ((k + 2 : Nat) : Int), ((k + 3 : Nat) : Int), mkInts x.wish.list (k + 4), mkPairs x.wish.pairs (k + 4 + x.wish.list.length)⟩⟩ :: mkNodes xs (k + markN x)
theorem markNodes_le : ∀ xs : List GNode, markNodes xs ≤ 4 * totNodes xs
  | [] => by simp [markNodes, sumL]
  | x :: xs => by
    have := markNodes_le xs
    unfold markNodes totNodes at *
    simp only [sumL, List.length_cons, markN, totNode, totWish] at *
    omega
theorem markNodes_take_succ {xs : List GNode} {j : Nat} {x : GNode} (h : xs[j]? = some x) : markNodes (xs.take (j + 1)) = markNodes (xs.take j) + markN x := by
  have hs : ∀ (l : List GNode) (y : GNode), sumL markN (l ++ [y]) = sumL markN l + markN y := fun l y => by
    induction l with
    | nil => simp [sumL]
    | cons a l ih => simp only [List.cons_append, sumL, ih]; omega
  rw [List.take_add_one, h]
  simp only [markNodes, Option.toList_some, hs]
theorem markNodes_take_le (xs : List GNode) (j : Nat) : markNodes (xs.take j) ≤ markNodes xs := by
  have : ∀ (l m : List GNode), sumL markN l ≤ sumL markN (l ++ m) := fun l m => by
    induction l with
    | nil => simp [sumL]
    | cons a l ih => simp only [List.cons_append, sumL]; omega
  have h1 := this (xs.take j) (xs.drop j)
  rwa [List.take_append_drop] at h1
/-- one node's owned parts -/
theorem fNode_open {w : World} {x : GNode} {u : List Value} {f : List Nat} (h : fNode w x u f) : ∃ Al cl Ap cp G H, u = [.int .i64 x.op, .int .i64 x.wish.kind, .int .i64 x.wish.field, .int .i64 x.wish.value, .slice Al x.wish.list.length cl, .slice Ap x.wish.pairs.length cp] ∧
    fInts w x.wish.list [.slice Al x.wish.list.length cl] G ∧ fPairs w x.wish.pairs [.slice Ap x.wish.pairs.length cp] H ∧ f = G ++ H := by
  obtain ⟨us, e, v, t, G, H, e2, h1, h2, hf⟩ := h
  obtain ⟨Al, cl, rfl, _⟩ := rSl_shape (fInts_Rd h1)
  obtain ⟨Ap, cp, rfl, _⟩ := rSl_shape (fPairs_Rd h2)
  exact ⟨Al, cl, Ap, cp, G, H, by rw [e, e2], h1, h2, hf⟩
theorem fNode_mk {w w' : World} {l : List Int} {p : List GPair} {sl sp : Value} {G H : List Nat} (h1 : fInts w l [sl] G) (h2 : fPairs w p [sp] H) (hw : ∀ b ∈ G ++ H, w'.heap[b]? = w.heap[b]?) (o k f v : Int) :
    fNode w' ⟨o, ⟨k, f, v, l, p⟩⟩ [.int .i64 o, .int .i64 k, .int .i64 f, .int .i64 v, sl, sp] (G ++ H) := by
  have g1 : fInts w' l [sl] G := (fInts_good (B := 0)).step (fun b hb => by
    rcases hb with hb | hb
    · exact hw b (List.mem_append_left _ hb)
    · omega) h1
  have g2 : fPairs w' p [sp] H := (fPairs_good (B := 0)).step (fun b hb => by
    rcases hb with hb | hb
    · exact hw b (List.mem_append_right _ hb)
    · omega) h2
  exact ⟨_, rfl, _, _, G, H, rfl, g1, g2, rfl⟩
/-- the four numbers of a node are written -/
theorem fNodes_four {B g n c i : Nat} {w : World} {xs : List GNode} {F : List Nat} (hv : fNodes w xs [.slice (some ⟨g, 0, none⟩) n c] F) (hF : Fresh B F) {x : GNode} (hx : xs[i]? = some x) (a0 a1 a2 a3 : Int) :
    ∃ W Al cl Ap cp G H, W = (((w.setCell ⟨g, i * 6, none⟩ (.int .i64 a0)).setCell ⟨g, i * 6 + 1, none⟩ (.int .i64 a1)).setCell ⟨g, i * 6 + 2, none⟩ (.int .i64 a2)).setCell ⟨g, i * 6 + 3, none⟩ (.int .i64 a3) ∧
      w.cell? ⟨g, i * 6, none⟩ = some (.int .i64 x.op) ∧ w.cell? ⟨g, i * 6 + 1, none⟩ = some (.int .i64 x.wish.kind) ∧ w.cell? ⟨g, i * 6 + 2, none⟩ = some (.int .i64 x.wish.field) ∧ w.cell? ⟨g, i * 6 + 3, none⟩ = some (.int .i64 x.wish.value) ∧
      w.cell? ⟨g, i * 6 + 4, none⟩ = some (.slice Al x.wish.list.length cl) ∧ w.cell? ⟨g, i * 6 + 5, none⟩ = some (.slice Ap x.wish.pairs.length cp) ∧
      fInts W x.wish.list [.slice Al x.wish.list.length cl] G ∧ fPairs W x.wish.pairs [.slice Ap x.wish.pairs.length cp] H ∧ Fresh B (G ++ H) ∧ (∀ b ∈ G ++ H, b ∈ F ∧ b ≠ g) ∧ g ∈ F ∧ (∀ b, b ≠ g → W.heap[b]? = w.heap[b]?) ∧ W.heap.size = w.heap.size ∧
      (∀ w' l p, Only (G ++ H) W w' → l.length = x.wish.list.length → p.length = x.wish.pairs.length → fInts w' l [.slice Al x.wish.list.length cl] G → fPairs w' p [.slice Ap x.wish.pairs.length cp] H →
        fNodes w' (xs.set i ⟨a0, ⟨a1, a2, a3, l, p⟩⟩) [.slice (some ⟨g, 0, none⟩) n c] F) := by
  obtain ⟨u, f, hin, hul, hc, hf, hfF, hgF, hst⟩ := fSl_focus (fNode_good (B := 0)) hv hF hx
  obtain ⟨Al, cl, Ap, cp, G, H, rfl, h1, h2, rfl⟩ := fNode_open hin
  obtain ⟨k1, k2, k3⟩ := hst [(0, .int .i64 a0), (1, .int .i64 a1), (2, .int .i64 a2), (3, .int .i64 a3)] (by simp)
  have hWb : ∀ b ∈ G ++ H, (putsW g (i * 6) [(0, Value.int .i64 a0), (1, .int .i64 a1), (2, .int .i64 a2), (3, .int .i64 a3)] w).heap[b]? = w.heap[b]? := fun b hb => k1 b (hfF b hb).2
  refine ⟨_, Al, cl, Ap, cp, G, H, rfl, hc 0 _ rfl, hc 1 _ rfl, hc 2 _ rfl, hc 3 _ rfl, hc 4 _ rfl, hc 5 _ rfl, ?_, ?_, hf, hfF, hgF, k1, k2, ?_⟩
  · exact (fInts_good (B := 0)).step (fun b hb => by
      rcases hb with hb | hb
      · exact hWb b (List.mem_append_left _ hb)
      · omega) h1
  · exact (fPairs_good (B := 0)).step (fun b hb => by
      rcases hb with hb | hb
      · exact hWb b (List.mem_append_right _ hb)
      · omega) h2
  · intro w' l p hO _ _ hl hp
    exact k3 w' _ hO ⟨_, rfl, _, _, G, H, rfl, hl, hp, rfl⟩
end Go.Proofs.YthlaabaffbffkaaGreat

namespace Go.Proofs.YthlaabaffbffkaaGreat
open Go.RowKit
set_option linter.unusedVariables false
theorem mkNodes_length : ∀ (xs : List GNode) (k : Nat), (mkNodes xs k).length = xs.length
  | [], _ => rfl
  | _ :: xs, k => by rw [mkNodes, List.length_cons, mkNodes_length xs, List.length_cons]
theorem mkNodes_at : ∀ {xs : List GNode} {k j : Nat} {x : GNode}, xs[j]? = some x → (mkNodes xs k)[j]? = some ⟨((k + markNodes (xs.take j) : Nat) : Int), ⟨((k + markNodes (xs.take j) + 1 : Nat) : Int), ((k + markNodes (xs.take j) + 2 : Nat) : Int), ((k + markNodes (xs.take j) + 3 : Nat) : Int), mkInts x.wish.list (k + markNodes (xs.take j) + 4), mkPairs x.wish.pairs (k + markNodes (xs.take j) + 4 + x.wish.list.length)⟩⟩
  | y :: xs, k, 0, x, h => by simp at h; subst h; simp [mkNodes, markNodes, sumL]
  | y :: xs, k, j + 1, x, h => by
    simp only [mkNodes, List.getElem?_cons_succ]
    rw [mkNodes_at (by simpa using h)]
    have e : k + markN y + markNodes (xs.take j) = k + markNodes ((y :: xs).take (j + 1)) := by
      simp only [markNodes, List.take_succ_cons, sumL]; omega
    rw [e]
  | [], _, _, _, h => by simp at h

end Go.Proofs.YthlaabaffbffkaaGreat

namespace Go.Proofs.YthlaabaffbffkaaGreat
open Go.RowKit
set_option linter.unusedVariables false
set_option linter.unusedSimpArgs false
theorem fStanding_good {B : Nat} : GoodF B fStanding :=
  ⟨fun hw ⟨v, u, t, G, H, I, e, h, k, l, hF⟩ => ⟨v, u, t, G, H, I, e, fItems_good.step (fun b hb => hw b (hb.imp (fun hb => by rw [hF]; exact List.mem_append_left _ hb) id)) h, fNodes_good.step (fun b hb => hw b (hb.imp (fun hb => by rw [hF]; exact List.mem_append_right _ (List.mem_append_left _ hb)) id)) k, fInts_good.step (fun b hb => hw b (hb.imp (fun hb => by rw [hF]; exact List.mem_append_right _ (List.mem_append_right _ hb)) id)) l, hF⟩,
   fun ⟨v, u, t, G, H, I, e, h, k, l, hF⟩ b hb => by
    rw [hF] at hb
    exact (List.mem_append.1 hb).elim ((fItems_good (B := B)).lt h b) fun hb => (List.mem_append.1 hb).elim ((fNodes_good (B := B)).lt k b) ((fInts_good (B := B)).lt l b),
   fun ⟨v, u, t, G, H, I, e, h, k, l, hF⟩ s hs => by
    rw [e] at hs
    simp at hs
    rcases hs with rfl | rfl | rfl | rfl
    · exact (fItems_good (B := B)).one h _ (by simp)
    · exact (fNodes_good (B := B)).one k _ (by simp)
    · exact (fInts_good (B := B)).one l _ (by simp)
    · rfl⟩
theorem fStanding_Rds {w : World} {x : GStanding} {a b c d : Value} {F : List Nat} (h : fStanding w x [a, b, c, d] F) : Rd rItems w x.items [a] ∧ Rd rNodes w x.wanted [b] ∧ Rd rInts w x.best [c] ∧ d = .int .i64 x.tests := by
  obtain ⟨v, u, t, G, H, I, e, h, k, l, hF⟩ := h
  injection e with e1 e; injection e with e2 e; injection e with e3 e; injection e with e4 e
  subst e1 e2 e3 e4
  exact ⟨fItems_Rd h, fNodes_Rd k, fInts_Rd l, rfl⟩
theorem fStanding_shape {w : World} {x : GStanding} {cs : List Value} {F : List Nat} (h : fStanding w x cs F) : ∃ A1 c1 A2 c2 A3 c3, cs = [.slice A1 x.items.length c1, .slice A2 x.wanted.length c2, .slice A3 x.best.length c3, .int .i64 x.tests] := by
  obtain ⟨v, u, t, G, H, I, e, h, k, l, hF⟩ := h
  obtain ⟨A1, c1, rfl, _⟩ := rSl_shape (fItems_Rd h)
  obtain ⟨A2, c2, rfl, _⟩ := rSl_shape (fNodes_Rd k)
  obtain ⟨A3, c3, rfl, _⟩ := rSl_shape (fInts_Rd l)
  exact ⟨A1, c1, A2, c2, A3, c3, e⟩
def mkStanding (x : GStanding) (k : Nat) : GStanding := ⟨mkItems x.items k, mkNodes x.wanted (k + totItems x.items), mkInts x.best (k + totItems x.items + markNodes x.wanted), x.tests⟩
def markSt (x : GStanding) : Nat := totItems x.items + markNodes x.wanted + x.best.length
def smallSt (x : GStanding) : Prop := totItems x.items ≤ 1048576 ∧ totNodes x.wanted ≤ 1048576 ∧ x.best.length ≤ 1048576
theorem smallSt_of {x : GStanding} (h : totStanding x ≤ 1048576) : smallSt x := by unfold totStanding at h; unfold smallSt; omega
theorem markSt_le {x : GStanding} (h : smallSt x) : markSt x ≤ 6291456 := by
  obtain ⟨h1, h2, h3⟩ := h
  have := markNodes_le x.wanted
  unfold markSt; omega
def RetMs {α : Type} (f : Fp α) (w0 w : World) (x : α) (cs : List Value) (F : List Nat) (k : Nat) (e : Ending) (w' : World) : Prop := e = .returned (.int .i64 k) ∧ f w' x cs F ∧ Only F w w' ∧ Bw w0 w'



end Go.Proofs.YthlaabaffbffkaaGreat
