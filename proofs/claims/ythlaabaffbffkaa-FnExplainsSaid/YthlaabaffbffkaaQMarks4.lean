/- What the laws write into nodes. -/
import Derived.Test.YthlaabaffbffkaaQMarksC
import Derived.Test.YthlaabaffbffkaaQCopyW
namespace Go.Proofs.Ythlaabaffbffkaa
open Go.RowKit
set_option linter.unusedVariables false
theorem flatten_set {sz : Nat} : ∀ {us : List (List Value)} {i j : Nat} {u : List Value} {t : Value}, (∀ u ∈ us, u.length = sz) → us[i]? = some u → j < sz → us.flatten.set (i * sz + j) t = (us.set i (u.set j t)).flatten
  | v :: us, 0, j, u, t, hl, hu, hj => by
    simp at hu; subst hu
    rw [List.flatten_cons, List.set_cons_zero, List.flatten_cons, Nat.zero_mul, Nat.zero_add, List.set_append_left _ _ (by rw [hl v (by simp)]; exact hj)]
  | v :: us, i + 1, j, u, t, hl, hu, hj => by
    have hv := hl v (by simp)
    rw [List.flatten_cons, List.set_cons_succ, List.flatten_cons, List.set_append_right _ _ (by rw [hv, Nat.succ_mul]; omega)]
    rw [← flatten_set (us := us) (fun u hu => hl u (by simp [hu])) (by simpa using hu) hj]
    congr 2
    rw [hv, Nat.succ_mul]; omega
  | [], i, j, u, t, hl, hu, hj => by simp at hu
def putsW (g o : Nat) (l : List (Nat × Value)) (w : World) : World := l.foldl (fun w p => w.setCell ⟨g, o + p.1, none⟩ p.2) w
def putsL (l : List (Nat × Value)) (u : List Value) : List Value := l.foldl (fun u p => u.set p.1 p.2) u
theorem putsL_length : ∀ (l : List (Nat × Value)) (u : List Value), (putsL l u).length = u.length
  | [], _ => rfl
  | p :: l, u => by unfold putsL; rw [List.foldl_cons]; exact (putsL_length l (u.set p.1 p.2)).trans (List.length_set ..)
theorem puts_row {e : TypeId} {sz g n c i : Nat} : ∀ (l : List (Nat × Value)) {w : World} {us : List (List Value)} {u : List Value}, w.ownsRow 0 e sz (.slice (some ⟨g, 0, none⟩) n c) n us.flatten → (∀ u ∈ us, u.length = sz) → us[i]? = some u → (∀ p ∈ l, p.1 < sz) →
    (putsW g (i * sz) l w).ownsRow 0 e sz (.slice (some ⟨g, 0, none⟩) n c) n (us.set i (putsL l u)).flatten ∧ (∀ b, b ≠ g → (putsW g (i * sz) l w).heap[b]? = w.heap[b]?) ∧ (putsW g (i * sz) l w).heap.size = w.heap.size
  | [], w, us, u, h, hl, hu, _ => ⟨by unfold putsW putsL; rw [List.foldl_nil, List.foldl_nil, set_same hu]; exact h, fun b _ => rfl, rfl⟩
  | p :: l, w, us, u, h, hl, hu, hp => by
    have hj := hp p (by simp)
    obtain ⟨h1, _⟩ := h.stored (i * sz + p.1) p.2
    rw [flatten_set hl hu hj] at h1
    have hil : i < us.length := (List.getElem?_eq_some_iff.1 hu).1
    have hul : (u.set p.1 p.2).length = sz := by rw [List.length_set]; exact hl u (List.mem_of_getElem? hu)
    obtain ⟨h2, h3, h4⟩ := puts_row l h1 (fun v hv => by
      obtain ⟨k, hk⟩ := List.mem_iff_getElem?.1 hv
      rw [List.getElem?_set] at hk
      split at hk
      · injection hk with hk; rw [← hk]; exact hul
      · exact hl v (List.mem_of_getElem? hk)) (List.getElem?_set_self hil) (fun q hq => hp q (by simp [hq]))
    rw [List.set_set] at h2
    refine ⟨h2, fun b hb => (h3 b hb).trans (Below.heap_setCell _ _ _ _ (by dsimp only; exact hb)), h4.trans (by simp)⟩
/-- an element among owned ones: its cells, some of them written, and the way back -/
theorem fSl_focus {α : Type} {B : Nat} {e : TypeId} {sz g n c i : Nat} {R : Fp α} (hR : GoodF 0 R) {w : World} {xs : List α} {F : List Nat} (hv : fSl e sz R w xs [.slice (some ⟨g, 0, none⟩) n c] F) (hF : Fresh B F) {x : α} (hx : xs[i]? = some x) :
    ∃ u f, R w x u f ∧ u.length = sz ∧ (∀ j t, u[j]? = some t → w.cell? ⟨g, i * sz + j, none⟩ = some t) ∧ Fresh B f ∧ (∀ b ∈ f, b ∈ F ∧ b ≠ g) ∧ g ∈ F ∧
      (∀ l : List (Nat × Value), (∀ p ∈ l, p.1 < sz) → (∀ b, b ≠ g → (putsW g (i * sz) l w).heap[b]? = w.heap[b]?) ∧ (putsW g (i * sz) l w).heap.size = w.heap.size ∧
        ∀ w' y, Only f (putsW g (i * sz) l w) w' → R w' y (putsL l u) f → fSl e sz R w' (xs.set i y) [.slice (some ⟨g, 0, none⟩) n c] F) := by
  have hlt := (fSl_good hR (e := e) (sz := sz)).lt hv
  obtain ⟨v, us, Fs, hv0, hown, hall, hFe⟩ := hv
  injection hv0 with hv0
  subst hv0
  obtain ⟨u, f, hu, hf, hin, hul⟩ := all3_at hall hx
  have hfn : ∀ a ∈ f, a ∈ Fs.flatten := fun a ha => List.mem_flatten.2 ⟨f, List.mem_iff_getElem?.2 ⟨i, hf⟩, ha⟩
  have hfF : ∀ a ∈ f, a ∈ F := fun a ha => by rw [hFe]; exact List.mem_append_right _ (hfn a ha)
  have hnd := hF.nodup
  rw [hFe, List.nodup_append] at hnd
  have hFg : ∀ b ∈ Fs.flatten, b ≠ g := fun b hb e => hnd.2.2 g (by simp [Value.ownBlock]) b hb e.symm
  have hgF : g ∈ F := by rw [hFe]; simp [Value.ownBlock]
  have hfd : f.Nodup := nodup_part hnd.2.1 (List.mem_iff_getElem?.2 ⟨i, hf⟩)
  have hus : ∀ u ∈ us, u.length = sz := fun u hu => by obtain ⟨x, f, hr⟩ := all3_mem_us hall hu; exact hr.2
  have hl := all3_len hall
  obtain ⟨A, cc, eA, _, _, hcells⟩ := ownsRow_rSl hown hl.1 hus
  injection eA with eA _ _
  subst eA
  obtain ⟨b1, eb, _, hc⟩ := hcells i _ hu
  injection eb with eb
  injection eb with eb _ _
  subst eb
  have hn : n = xs.length := by
    rcases hown.2 with ⟨h, _⟩ | ⟨g', cap, cur, h, _⟩
    · cases h
    · injection h
  subst hn
  have hallb : all3 (fun x u f => (R w x u f ∧ u.length = sz) ∧ ∀ a ∈ f, a ∈ Fs.flatten) xs us Fs := all3_imp (fun x u f' hf' hx => ⟨hx, fun a ha => List.mem_flatten.2 ⟨f', hf', ha⟩⟩) hall
  have hFlt : ∀ a ∈ Fs.flatten, a < w.heap.size := fun a ha => hlt a (by rw [hFe]; exact List.mem_append_right _ ha)
  refine ⟨u, f, hin, hul, fun j t ht => by have := hc j t ht; rwa [Nat.zero_add] at this, ⟨hfd, fun a ha => hF.ge a (hfF a ha)⟩, fun b hb => ⟨hfF b hb, hFg b (hfn b hb)⟩, hgF, fun l hp => ?_⟩
  obtain ⟨h1, h2, h3⟩ := puts_row l hown hus hu hp
  refine ⟨h2, h3, fun w' y hO hy => ⟨_, us.set i (putsL l u), Fs, rfl, ?_, ?_, hFe⟩⟩
  · rw [List.length_set]
    exact ownsRow_heap h1 fun a ha => by
      have : a = g := by simpa [Value.ownBlock] using ha.symm
      subst this
      exact hO.2 _ (by rw [h3]; exact hlt _ hgF) (fun hm => hFg _ (hfn _ hm) rfl)
  · refine all3_upd2 (R := fun x u f => (R w x u f ∧ u.length = sz) ∧ ∀ a ∈ f, a ∈ Fs.flatten) (f := f) (u := u) ⟨hy, by rw [putsL_length]; exact hul⟩ (fun x u f' hd hx => ⟨hR.step (fun b hb => ?_) hx.1.1, hx.1.2⟩) hallb hu hf hnd.2.1
    rcases hb with hb | hb
    · exact (hO.2 b (by rw [h3]; exact hFlt _ (hx.2 b hb)) (hd b hb)).trans (h2 b (hFg b (hx.2 b hb)))
    · omega
def markN (x : GNode) : Nat := 4 + x.wish.list.length + 2 * x.wish.pairs.length
def markNodes (xs : List GNode) : Nat := sumL markN xs
def mkNodes : List GNode → Nat → List GNode
  | [], _ => []
  | x :: xs, k => ⟨k, ⟨((k + 1 : Nat) : Int), ((k + 2 : Nat) : Int), ((k + 3 : Nat) : Int), mkInts x.wish.list (k + 4), mkPairs x.wish.pairs (k + 4 + x.wish.list.length)⟩⟩ :: mkNodes xs (k + markN x)
theorem markNodes_le : ∀ xs : List GNode, markNodes xs ≤ 4 * totNodes xs
  | [] => by simp [markNodes, sumL]
  | x :: xs => by
    have := markNodes_le xs
    unfold markNodes totNodes at *
    simp only [sumL, List.length_cons, markN, totNode, totWish] at *
    omega
theorem markNodes_take_succ {xs : List GNode} {j : Nat} {x : GNode} (h : xs[j]? = some x) : markNodes (xs.take (j + 1)) = markNodes (xs.take j) + markN x := by
  have hs : ∀ (l : List GNode) (y : GNode), sumL markN (l ++ [y]) = sumL markN l + markN y := fun l y => by
    induction l with
    | nil => simp [sumL]
    | cons a l ih => simp only [List.cons_append, sumL, ih]; omega
  rw [List.take_add_one, h]
  simp only [markNodes, Option.toList_some, hs]
theorem markNodes_take_le (xs : List GNode) (j : Nat) : markNodes (xs.take j) ≤ markNodes xs := by
  have : ∀ (l m : List GNode), sumL markN l ≤ sumL markN (l ++ m) := fun l m => by
    induction l with
    | nil => simp [sumL]
    | cons a l ih => simp only [List.cons_append, sumL]; omega
  have h1 := this (xs.take j) (xs.drop j)
  rwa [List.take_append_drop] at h1
/-- one node's owned parts -/
theorem fNode_open {w : World} {x : GNode} {u : List Value} {f : List Nat} (h : fNode w x u f) : ∃ Al cl Ap cp G H, u = [.int .i64 x.op, .int .i64 x.wish.kind, .int .i64 x.wish.field, .int .i64 x.wish.value, .slice Al x.wish.list.length cl, .slice Ap x.wish.pairs.length cp] ∧
    fInts w x.wish.list [.slice Al x.wish.list.length cl] G ∧ fPairs w x.wish.pairs [.slice Ap x.wish.pairs.length cp] H ∧ f = G ++ H := by
  obtain ⟨us, e, v, t, G, H, e2, h1, h2, hf⟩ := h
  obtain ⟨Al, cl, rfl, _⟩ := rSl_shape (fInts_Rd h1)
  obtain ⟨Ap, cp, rfl, _⟩ := rSl_shape (fPairs_Rd h2)
  exact ⟨Al, cl, Ap, cp, G, H, by rw [e, e2], h1, h2, hf⟩
theorem fNode_mk {w w' : World} {l : List Int} {p : List GPair} {sl sp : Value} {G H : List Nat} (h1 : fInts w l [sl] G) (h2 : fPairs w p [sp] H) (hw : ∀ b ∈ G ++ H, w'.heap[b]? = w.heap[b]?) (o k f v : Int) :
    fNode w' ⟨o, ⟨k, f, v, l, p⟩⟩ [.int .i64 o, .int .i64 k, .int .i64 f, .int .i64 v, sl, sp] (G ++ H) := by
  have g1 : fInts w' l [sl] G := (fInts_good (B := 0)).step (fun b hb => by
    rcases hb with hb | hb
    · exact hw b (List.mem_append_left _ hb)
    · omega) h1
  have g2 : fPairs w' p [sp] H := (fPairs_good (B := 0)).step (fun b hb => by
    rcases hb with hb | hb
    · exact hw b (List.mem_append_right _ hb)
    · omega) h2
  exact ⟨_, rfl, _, _, G, H, rfl, g1, g2, rfl⟩
/-- the four numbers of a node are written -/
theorem fNodes_four {B g n c i : Nat} {w : World} {xs : List GNode} {F : List Nat} (hv : fNodes w xs [.slice (some ⟨g, 0, none⟩) n c] F) (hF : Fresh B F) {x : GNode} (hx : xs[i]? = some x) (a0 a1 a2 a3 : Int) :
    ∃ W Al cl Ap cp G H, W = (((w.setCell ⟨g, i * 6, none⟩ (.int .i64 a0)).setCell ⟨g, i * 6 + 1, none⟩ (.int .i64 a1)).setCell ⟨g, i * 6 + 2, none⟩ (.int .i64 a2)).setCell ⟨g, i * 6 + 3, none⟩ (.int .i64 a3) ∧
      w.cell? ⟨g, i * 6, none⟩ = some (.int .i64 x.op) ∧ w.cell? ⟨g, i * 6 + 1, none⟩ = some (.int .i64 x.wish.kind) ∧ w.cell? ⟨g, i * 6 + 2, none⟩ = some (.int .i64 x.wish.field) ∧ w.cell? ⟨g, i * 6 + 3, none⟩ = some (.int .i64 x.wish.value) ∧
      w.cell? ⟨g, i * 6 + 4, none⟩ = some (.slice Al x.wish.list.length cl) ∧ w.cell? ⟨g, i * 6 + 5, none⟩ = some (.slice Ap x.wish.pairs.length cp) ∧
      fInts W x.wish.list [.slice Al x.wish.list.length cl] G ∧ fPairs W x.wish.pairs [.slice Ap x.wish.pairs.length cp] H ∧ Fresh B (G ++ H) ∧ (∀ b ∈ G ++ H, b ∈ F ∧ b ≠ g) ∧ g ∈ F ∧ (∀ b, b ≠ g → W.heap[b]? = w.heap[b]?) ∧ W.heap.size = w.heap.size ∧
      (∀ w' l p, Only (G ++ H) W w' → l.length = x.wish.list.length → p.length = x.wish.pairs.length → fInts w' l [.slice Al x.wish.list.length cl] G → fPairs w' p [.slice Ap x.wish.pairs.length cp] H →
        fNodes w' (xs.set i ⟨a0, ⟨a1, a2, a3, l, p⟩⟩) [.slice (some ⟨g, 0, none⟩) n c] F) := by
  obtain ⟨u, f, hin, hul, hc, hf, hfF, hgF, hst⟩ := fSl_focus (fNode_good (B := 0)) hv hF hx
  obtain ⟨Al, cl, Ap, cp, G, H, rfl, h1, h2, rfl⟩ := fNode_open hin
  obtain ⟨k1, k2, k3⟩ := hst [(0, .int .i64 a0), (1, .int .i64 a1), (2, .int .i64 a2), (3, .int .i64 a3)] (by simp)
  have hWb : ∀ b ∈ G ++ H, (putsW g (i * 6) [(0, Value.int .i64 a0), (1, .int .i64 a1), (2, .int .i64 a2), (3, .int .i64 a3)] w).heap[b]? = w.heap[b]? := fun b hb => k1 b (hfF b hb).2
  refine ⟨_, Al, cl, Ap, cp, G, H, rfl, hc 0 _ rfl, hc 1 _ rfl, hc 2 _ rfl, hc 3 _ rfl, hc 4 _ rfl, hc 5 _ rfl, ?_, ?_, hf, hfF, hgF, k1, k2, ?_⟩
  · exact (fInts_good (B := 0)).step (fun b hb => by
      rcases hb with hb | hb
      · exact hWb b (List.mem_append_left _ hb)
      · omega) h1
  · exact (fPairs_good (B := 0)).step (fun b hb => by
      rcases hb with hb | hb
      · exact hWb b (List.mem_append_right _ hb)
      · omega) h2
  · intro w' l p hO _ _ hl hp
    exact k3 w' _ hO ⟨_, rfl, _, _, G, H, rfl, hl, hp, rfl⟩
end Go.Proofs.Ythlaabaffbffkaa
