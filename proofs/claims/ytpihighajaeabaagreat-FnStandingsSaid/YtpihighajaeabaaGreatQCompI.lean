/- Comparisons of values and items in the program. -/
import Derived.Test.YtpihighajaeabaaGreatQMarksC
import Derived.Test.YtpihighajaeabaaGreatQWishes3
import Derived.Test.YtpihighajaeabaaGreatQBoxT
import Derived.Test.YtpihighajaeabaaGreatQExprS
namespace Go.Proofs.YtpihighajaeabaaGreat
open Go.RowKit
set_option linter.unusedVariables false
theorem flatten_set {sz : Nat} : ∀ {us : List (List Value)} {i j : Nat} {u : List Value} {t : Value}, (∀ u ∈ us, u.length = sz) → us[i]? = some u → j < sz → us.flatten.set (i * sz + j) t = (us.set i (u.set j t)).flatten
  | v :: us, 0, j, u, t, hl, hu, hj => by
    simp at hu; subst hu
    rw [List.flatten_cons, List.set_cons_zero, List.flatten_cons, Nat.zero_mul, Nat.zero_add, List.set_append_left _ _ (by rw [hl v (by simp)]; exact hj)]
  | v :: us, i + 1, j, u, t, hl, hu, hj => by
    have hv := hl v (by simp)
    rw [List.flatten_cons, List.set_cons_succ, List.flatten_cons, List.set_append_right _ _ (by rw [hv, Nat.succ_mul]; omega)]
    rw [← flatten_set (us := us) (fun u hu => hl u (by simp [hu])) (by simpa using hu) hj]
    congr 2
    rw [hv, Nat.succ_mul]; omega
  | [], i, j, u, t, hl, hu, hj => by simp at hu
def putsW (g o : Nat) (l : List (Nat × Value)) (w : World) : World := l.foldl (fun w p => w.setCell ⟨g, o + p.1, none⟩ p.2) w
def putsL (l : List (Nat × Value)) (u : List Value) : List Value := l.foldl (fun u p => u.set p.1 p.2) u
theorem putsL_length : ∀ (l : List (Nat × Value)) (u : List Value), (putsL l u).length = u.length
  | [], _ => rfl
  | p :: l, u => by unfold putsL; rw [List.foldl_cons]; exact (putsL_length l (u.set p.1 p.2)).trans (List.length_set ..)
theorem puts_row {e : TypeId} {sz g n c i : Nat} : ∀ (l : List (Nat × Value)) {w : World} {us : List (List Value)} {u : List Value}, w.ownsRow 0 e sz (.slice (some ⟨g, 0, none⟩) n c) n us.flatten → (∀ u ∈ us, u.length = sz) → us[i]? = some u → (∀ p ∈ l, p.1 < sz) →
    (putsW g (i * sz) l w).ownsRow 0 e sz (.slice (some ⟨g, 0, none⟩) n c) n (us.set i (putsL l u)).flatten ∧ (∀ b, b ≠ g → (putsW g (i * sz) l w).heap[b]? = w.heap[b]?) ∧ (putsW g (i * sz) l w).heap.size = w.heap.size
  | [], w, us, u, h, hl, hu, _ => ⟨by unfold putsW putsL; rw [List.foldl_nil, List.foldl_nil, set_same hu]; exact h, fun b _ => rfl, rfl⟩
  | p :: l, w, us, u, h, hl, hu, hp => by
    have hj := hp p (by simp)
    obtain ⟨h1, _⟩ := h.stored (i * sz + p.1) p.2
    rw [flatten_set hl hu hj] at h1
    have hil : i < us.length := (List.getElem?_eq_some_iff.1 hu).1
    have hul : (u.set p.1 p.2).length = sz := by rw [List.length_set]; exact hl u (List.mem_of_getElem? hu)
    obtain ⟨h2, h3, h4⟩ := puts_row l h1 (fun v hv => by
      obtain ⟨k, hk⟩ := List.mem_iff_getElem?.1 hv
      rw [List.getElem?_set] at hk
      split at hk
      · injection hk with hk; rw [← hk]; exact hul
      · exact hl v (List.mem_of_getElem? hk)) (List.getElem?_set_self hil) (fun q hq => hp q (by simp [hq]))
    rw [List.set_set] at h2
    refine ⟨h2, fun b hb => (h3 b hb).trans (Below.heap_setCell _ _ _ _ (by dsimp only; exact hb)), h4.trans (by simp)⟩
/-- an element among owned ones: its cells, some of them written, and the way back -/
theorem fSl_focus {α : Type} {B : Nat} {e : TypeId} {sz g n c i : Nat} {R : Fp α} (hR : GoodF 0 R) {w : World} {xs : List α} {F : List Nat} (hv : fSl e sz R w xs [.slice (some ⟨g, 0, none⟩) n c] F) (hF : Fresh B F) {x : α} (hx : xs[i]? = some x) :
    ∃ u f, R w x u f ∧ u.length = sz ∧ (∀ j t, u[j]? = some t → w.cell? ⟨g, i * sz + j, none⟩ = some t) ∧ Fresh B f ∧ (∀ b ∈ f, b ∈ F ∧ b ≠ g) ∧ g ∈ F ∧
      (∀ l : List (Nat × Value), (∀ p ∈ l, p.1 < sz) → (∀ b, b ≠ g → (putsW g (i * sz) l w).heap[b]? = w.heap[b]?) ∧ (putsW g (i * sz) l w).heap.size = w.heap.size ∧
        ∀ w' y, Only f (putsW g (i * sz) l w) w' → R w' y (putsL l u) f → fSl e sz R w' (xs.set i y) [.slice (some ⟨g, 0, none⟩) n c] F) := by
  have hlt := (fSl_good hR (e := e) (sz := sz)).lt hv
  obtain ⟨v, us, Fs, hv0, hown, hall, hFe⟩ := hv
  injection hv0 with hv0
  subst hv0
  obtain ⟨u, f, hu, hf, hin, hul⟩ := all3_at hall hx
  have hfn : ∀ a ∈ f, a ∈ Fs.flatten := fun a ha => List.mem_flatten.2 ⟨f, List.mem_iff_getElem?.2 ⟨i, hf⟩, ha⟩
  have hfF : ∀ a ∈ f, a ∈ F := fun a ha => by rw [hFe]; exact List.mem_append_right _ (hfn a ha)
  have hnd := hF.nodup
  rw [hFe, List.nodup_append] at hnd
  have hFg : ∀ b ∈ Fs.flatten, b ≠ g := fun b hb e => hnd.2.2 g (by simp [Value.ownBlock]) b hb e.symm
  have hgF : g ∈ F := by rw [hFe]; simp [Value.ownBlock]
  have hfd : f.Nodup := nodup_part hnd.2.1 (List.mem_iff_getElem?.2 ⟨i, hf⟩)
  have hus : ∀ u ∈ us, u.length = sz := fun u hu => by obtain ⟨x, f, hr⟩ := all3_mem_us hall hu; exact hr.2
  have hl := all3_len hall
  obtain ⟨A, cc, eA, _, _, hcells⟩ := ownsRow_rSl hown hl.1 hus
  injection eA with eA _ _
  subst eA
  obtain ⟨b1, eb, _, hc⟩ := hcells i _ hu
  injection eb with eb
  injection eb with eb _ _
  subst eb
  have hn : n = xs.length := by
    rcases hown.2 with ⟨h, _⟩ | ⟨g', cap, cur, h, _⟩
    · cases h
    · injection h
  subst hn
  have hallb : all3 (fun x u f => (R w x u f ∧ u.length = sz) ∧ ∀ a ∈ f, a ∈ Fs.flatten) xs us Fs := all3_imp (fun x u f' hf' hx => ⟨hx, fun a ha => List.mem_flatten.2 ⟨f', hf', ha⟩⟩) hall
  have hFlt : ∀ a ∈ Fs.flatten, a < w.heap.size := fun a ha => hlt a (by rw [hFe]; exact List.mem_append_right _ ha)
  refine ⟨u, f, hin, hul, fun j t ht => by have := hc j t ht; rwa [Nat.zero_add] at this, ⟨hfd, fun a ha => hF.ge a (hfF a ha)⟩, fun b hb => ⟨hfF b hb, hFg b (hfn b hb)⟩, hgF, fun l hp => ?_⟩
  obtain ⟨h1, h2, h3⟩ := puts_row l hown hus hu hp
  refine ⟨h2, h3, fun w' y hO hy => ⟨_, us.set i (putsL l u), Fs, rfl, ?_, ?_, hFe⟩⟩
  · rw [List.length_set]
    exact ownsRow_heap h1 fun a ha => by
      have : a = g := by simpa [Value.ownBlock] using ha.symm
      subst this
      exact hO.2 _ (by rw [h3]; exact hlt _ hgF) (fun hm => hFg _ (hfn _ hm) rfl)
  · refine all3_upd2 (R := fun x u f => (R w x u f ∧ u.length = sz) ∧ ∀ a ∈ f, a ∈ Fs.flatten) (f := f) (u := u) ⟨hy, by rw [putsL_length]; exact hul⟩ (fun x u f' hd hx => ⟨hR.step (fun b hb => ?_) hx.1.1, hx.1.2⟩) hallb hu hf hnd.2.1
    rcases hb with hb | hb
    · exact (hO.2 b (by rw [h3]; exact hFlt _ (hx.2 b hb)) (hd b hb)).trans (h2 b (hFg b (hx.2 b hb)))
    · omega
def markN (x : GNode) : Nat := 4 + x.wish.list.length + 2 * x.wish.pairs.length
def markNodes (xs : List GNode) : Nat := sumL markN xs
def mkNodes : List GNode → Nat → List GNode
  | [], _ => []
  | x :: xs, k => ⟨k, ⟨((k + 1 : Nat) : Int), ((k + 2 : Nat) : Int), ((k + 3 : Nat) : Int), mkInts x.wish.list (k + 4), mkPairs x.wish.pairs (k + 4 + x.wish.list.length)⟩⟩ :: mkNodes xs (k + markN x)
theorem markNodes_le : ∀ xs : List GNode, markNodes xs ≤ 4 * totNodes xs
  | [] => by simp [markNodes, sumL]
  | x :: xs => by
    have := markNodes_le xs
    unfold markNodes totNodes at *
    simp only [sumL, List.length_cons, markN, totNode, totWish] at *
    omega
theorem markNodes_take_succ {xs : List GNode} {j : Nat} {x : GNode} (h : xs[j]? = some x) : markNodes (xs.take (j + 1)) = markNodes (xs.take j) + markN x := by
  have hs : ∀ (l : List GNode) (y : GNode), sumL markN (l ++ [y]) = sumL markN l + markN y := fun l y => by
    induction l with
    | nil => simp [sumL]
    | cons a l ih => simp only [List.cons_append, sumL, ih]; omega
  rw [List.take_add_one, h]
  simp only [markNodes, Option.toList_some, hs]
theorem markNodes_take_le (xs : List GNode) (j : Nat) : markNodes (xs.take j) ≤ markNodes xs := by
  have : ∀ (l m : List GNode), sumL markN l ≤ sumL markN (l ++ m) := fun l m => by
    induction l with
    | nil => simp [sumL]
    | cons a l ih => simp only [List.cons_append, sumL]; omega
  have h1 := this (xs.take j) (xs.drop j)
  rwa [List.take_append_drop] at h1
/-- one node's owned parts -/
theorem fNode_open {w : World} {x : GNode} {u : List Value} {f : List Nat} (h : fNode w x u f) : ∃ Al cl Ap cp G H, u = [.int .i64 x.op, .int .i64 x.wish.kind, .int .i64 x.wish.field, .int .i64 x.wish.value, .slice Al x.wish.list.length cl, .slice Ap x.wish.pairs.length cp] ∧
    fInts w x.wish.list [.slice Al x.wish.list.length cl] G ∧ fPairs w x.wish.pairs [.slice Ap x.wish.pairs.length cp] H ∧ f = G ++ H := by
  obtain ⟨us, e, v, t, G, H, e2, h1, h2, hf⟩ := h
  obtain ⟨Al, cl, rfl, _⟩ := rSl_shape (fInts_Rd h1)
  obtain ⟨Ap, cp, rfl, _⟩ := rSl_shape (fPairs_Rd h2)
  exact ⟨Al, cl, Ap, cp, G, H, by rw [e, e2], h1, h2, hf⟩
theorem fNode_mk {w w' : World} {l : List Int} {p : List GPair} {sl sp : Value} {G H : List Nat} (h1 : fInts w l [sl] G) (h2 : fPairs w p [sp] H) (hw : ∀ b ∈ G ++ H, w'.heap[b]? = w.heap[b]?) (o k f v : Int) :
    fNode w' ⟨o, ⟨k, f, v, l, p⟩⟩ [.int .i64 o, .int .i64 k, .int .i64 f, .int .i64 v, sl, sp] (G ++ H) := by
  have g1 : fInts w' l [sl] G := (fInts_good (B := 0)).step (fun b hb => by
    rcases hb with hb | hb
    · exact hw b (List.mem_append_left _ hb)
    · omega) h1
  have g2 : fPairs w' p [sp] H := (fPairs_good (B := 0)).step (fun b hb => by
    rcases hb with hb | hb
    · exact hw b (List.mem_append_right _ hb)
    · omega) h2
  exact ⟨_, rfl, _, _, G, H, rfl, g1, g2, rfl⟩
/-- the four numbers of a node are written -/
theorem fNodes_four {B g n c i : Nat} {w : World} {xs : List GNode} {F : List Nat} (hv : fNodes w xs [.slice (some ⟨g, 0, none⟩) n c] F) (hF : Fresh B F) {x : GNode} (hx : xs[i]? = some x) (a0 a1 a2 a3 : Int) :
    ∃ W Al cl Ap cp G H, W = (((w.setCell ⟨g, i * 6, none⟩ (.int .i64 a0)).setCell ⟨g, i * 6 + 1, none⟩ (.int .i64 a1)).setCell ⟨g, i * 6 + 2, none⟩ (.int .i64 a2)).setCell ⟨g, i * 6 + 3, none⟩ (.int .i64 a3) ∧
      w.cell? ⟨g, i * 6, none⟩ = some (.int .i64 x.op) ∧ w.cell? ⟨g, i * 6 + 1, none⟩ = some (.int .i64 x.wish.kind) ∧ w.cell? ⟨g, i * 6 + 2, none⟩ = some (.int .i64 x.wish.field) ∧ w.cell? ⟨g, i * 6 + 3, none⟩ = some (.int .i64 x.wish.value) ∧
      w.cell? ⟨g, i * 6 + 4, none⟩ = some (.slice Al x.wish.list.length cl) ∧ w.cell? ⟨g, i * 6 + 5, none⟩ = some (.slice Ap x.wish.pairs.length cp) ∧
      fInts W x.wish.list [.slice Al x.wish.list.length cl] G ∧ fPairs W x.wish.pairs [.slice Ap x.wish.pairs.length cp] H ∧ Fresh B (G ++ H) ∧ (∀ b ∈ G ++ H, b ∈ F ∧ b ≠ g) ∧ g ∈ F ∧ (∀ b, b ≠ g → W.heap[b]? = w.heap[b]?) ∧ W.heap.size = w.heap.size ∧
      (∀ w' l p, Only (G ++ H) W w' → l.length = x.wish.list.length → p.length = x.wish.pairs.length → fInts w' l [.slice Al x.wish.list.length cl] G → fPairs w' p [.slice Ap x.wish.pairs.length cp] H →
        fNodes w' (xs.set i ⟨a0, ⟨a1, a2, a3, l, p⟩⟩) [.slice (some ⟨g, 0, none⟩) n c] F) := by
  obtain ⟨u, f, hin, hul, hc, hf, hfF, hgF, hst⟩ := fSl_focus (fNode_good (B := 0)) hv hF hx
  obtain ⟨Al, cl, Ap, cp, G, H, rfl, h1, h2, rfl⟩ := fNode_open hin
  obtain ⟨k1, k2, k3⟩ := hst [(0, .int .i64 a0), (1, .int .i64 a1), (2, .int .i64 a2), (3, .int .i64 a3)] (by simp)
  have hWb : ∀ b ∈ G ++ H, (putsW g (i * 6) [(0, Value.int .i64 a0), (1, .int .i64 a1), (2, .int .i64 a2), (3, .int .i64 a3)] w).heap[b]? = w.heap[b]? := fun b hb => k1 b (hfF b hb).2
  refine ⟨_, Al, cl, Ap, cp, G, H, rfl, hc 0 _ rfl, hc 1 _ rfl, hc 2 _ rfl, hc 3 _ rfl, hc 4 _ rfl, hc 5 _ rfl, ?_, ?_, hf, hfF, hgF, k1, k2, ?_⟩
  · exact (fInts_good (B := 0)).step (fun b hb => by
      rcases hb with hb | hb
      · exact hWb b (List.mem_append_left _ hb)
      · omega) h1
  · exact (fPairs_good (B := 0)).step (fun b hb => by
      rcases hb with hb | hb
      · exact hWb b (List.mem_append_right _ hb)
      · omega) h2
  · intro w' l p hO _ _ hl hp
    exact k3 w' _ hO ⟨_, rfl, _, _, G, H, rfl, hl, hp, rfl⟩
end Go.Proofs.YtpihighajaeabaaGreat

namespace Go.Proofs.YtpihighajaeabaaGreat
open Go.RowKit
set_option linter.unusedVariables false
theorem mkNodes_length : ∀ (xs : List GNode) (k : Nat), (mkNodes xs k).length = xs.length
  | [], _ => rfl
  | _ :: xs, k => by rw [mkNodes, List.length_cons, mkNodes_length xs, List.length_cons]
theorem mkNodes_at : ∀ {xs : List GNode} {k j : Nat} {x : GNode}, xs[j]? = some x → (mkNodes xs k)[j]? = some ⟨((k + markNodes (xs.take j) : Nat) : Int), ⟨((k + markNodes (xs.take j) + 1 : Nat) : Int), ((k + markNodes (xs.take j) + 2 : Nat) : Int), ((k + markNodes (xs.take j) + 3 : Nat) : Int), mkInts x.wish.list (k + markNodes (xs.take j) + 4), mkPairs x.wish.pairs (k + markNodes (xs.take j) + 4 + x.wish.list.length)⟩⟩
  | y :: xs, k, 0, x, h => by simp at h; subst h; simp [mkNodes, markNodes, sumL]
  | y :: xs, k, j + 1, x, h => by
    simp only [mkNodes, List.getElem?_cons_succ]
    rw [mkNodes_at (by simpa using h)]
    have e : k + markN y + markNodes (xs.take j) = k + markNodes ((y :: xs).take (j + 1)) := by
      simp only [markNodes, List.take_succ_cons, sumL]; omega
    rw [e]
  | [], _, _, _, h => by simp at h

end Go.Proofs.YtpihighajaeabaaGreat

namespace Go.Proofs.YtpihighajaeabaaGreat
open Go.RowKit
set_option linter.unusedVariables false
set_option linter.unusedSimpArgs false
theorem fStanding_good {B : Nat} : GoodF B fStanding :=
  ⟨fun hw ⟨v, u, t, G, H, I, e, h, k, l, hF⟩ => ⟨v, u, t, G, H, I, e, fItems_good.step (fun b hb => hw b (hb.imp (fun hb => by rw [hF]; exact List.mem_append_left _ hb) id)) h, fNodes_good.step (fun b hb => hw b (hb.imp (fun hb => by rw [hF]; exact List.mem_append_right _ (List.mem_append_left _ hb)) id)) k, fInts_good.step (fun b hb => hw b (hb.imp (fun hb => by rw [hF]; exact List.mem_append_right _ (List.mem_append_right _ hb)) id)) l, hF⟩,
   fun ⟨v, u, t, G, H, I, e, h, k, l, hF⟩ b hb => by
    rw [hF] at hb
    exact (List.mem_append.1 hb).elim ((fItems_good (B := B)).lt h b) fun hb => (List.mem_append.1 hb).elim ((fNodes_good (B := B)).lt k b) ((fInts_good (B := B)).lt l b),
   fun ⟨v, u, t, G, H, I, e, h, k, l, hF⟩ s hs => by
    rw [e] at hs
    simp at hs
    rcases hs with rfl | rfl | rfl | rfl
    · exact (fItems_good (B := B)).one h _ (by simp)
    · exact (fNodes_good (B := B)).one k _ (by simp)
    · exact (fInts_good (B := B)).one l _ (by simp)
    · rfl⟩
theorem fStanding_Rds {w : World} {x : GStanding} {a b c d : Value} {F : List Nat} (h : fStanding w x [a, b, c, d] F) : Rd rItems w x.items [a] ∧ Rd rNodes w x.wanted [b] ∧ Rd rInts w x.best [c] ∧ d = .int .i64 x.tests := by
  obtain ⟨v, u, t, G, H, I, e, h, k, l, hF⟩ := h
  injection e with e1 e; injection e with e2 e; injection e with e3 e; injection e with e4 e
  subst e1 e2 e3 e4
  exact ⟨fItems_Rd h, fNodes_Rd k, fInts_Rd l, rfl⟩
theorem fStanding_shape {w : World} {x : GStanding} {cs : List Value} {F : List Nat} (h : fStanding w x cs F) : ∃ A1 c1 A2 c2 A3 c3, cs = [.slice A1 x.items.length c1, .slice A2 x.wanted.length c2, .slice A3 x.best.length c3, .int .i64 x.tests] := by
  obtain ⟨v, u, t, G, H, I, e, h, k, l, hF⟩ := h
  obtain ⟨A1, c1, rfl, _⟩ := rSl_shape (fItems_Rd h)
  obtain ⟨A2, c2, rfl, _⟩ := rSl_shape (fNodes_Rd k)
  obtain ⟨A3, c3, rfl, _⟩ := rSl_shape (fInts_Rd l)
  exact ⟨A1, c1, A2, c2, A3, c3, e⟩
def mkStanding (x : GStanding) (k : Nat) : GStanding := ⟨mkItems x.items k, mkNodes x.wanted (k + totItems x.items), mkInts x.best (k + totItems x.items + markNodes x.wanted), x.tests⟩
def markSt (x : GStanding) : Nat := totItems x.items + markNodes x.wanted + x.best.length
def smallSt (x : GStanding) : Prop := totItems x.items ≤ 1048576 ∧ totNodes x.wanted ≤ 1048576 ∧ x.best.length ≤ 1048576
theorem smallSt_of {x : GStanding} (h : totStanding x ≤ 1048576) : smallSt x := by unfold totStanding at h; unfold smallSt; omega
theorem markSt_le {x : GStanding} (h : smallSt x) : markSt x ≤ 6291456 := by
  obtain ⟨h1, h2, h3⟩ := h
  have := markNodes_le x.wanted
  unfold markSt; omega
def RetMs {α : Type} (f : Fp α) (w0 w : World) (x : α) (cs : List Value) (F : List Nat) (k : Nat) (e : Ending) (w' : World) : Prop := e = .returned (.int .i64 k) ∧ f w' x cs F ∧ Only F w w' ∧ Bw w0 w'



end Go.Proofs.YtpihighajaeabaaGreat

namespace Go.Proofs.YtpihighajaeabaaGreat
open Go.RowKit
set_option linter.unusedVariables false
set_option linter.unusedSimpArgs false
def idxI (x : Int) : List Int → Nat → Int
  | [], _ => -1
  | y :: l, i => if x = y then (i : Int) else idxI x l (i + 1)
theorem idxI_step {xs : List Int} {k : Nat} {x y : Int} (h : xs[k]? = some y) : idxI x (xs.drop k) k = if x = y then (k : Int) else idxI x (xs.drop (k + 1)) (k + 1) := by rw [drop_cons h, idxI]
theorem idxI_contains (x : Int) : ∀ (l : List Int) (i : Nat), decide (0 ≤ idxI x l i) = l.contains x
  | [], i => by simp [idxI]
  | y :: l, i => by
    rw [idxI, List.contains_cons]
    by_cases h : x = y
    · rw [if_pos h]; simp [h]
    · rw [if_neg h, idxI_contains x l (i + 1)]; simp [h]
theorem idxI_lt (x : Int) : ∀ (l : List Int) (i : Nat), -1 ≤ idxI x l i ∧ idxI x l i ≤ i + l.length
  | [], i => by simp [idxI]; try omega
  | y :: l, i => by
    have := idxI_lt x l (i + 1)
    rw [idxI]; split
    · simp; try omega
    · simp at this ⊢; omega
set_option maxHeartbeats 800000 in
theorem slices_Index_ints (w : World) (xs : List Int) (x : Int) (v : Value) (h : Rd rInts w xs [v]) : Calls Tryz.prog 95 #[v, .int .i64 x] w (Ret w (.int .i64 (idxI x xs 0))) := by
  obtain ⟨A, n, c, rfl, L0, Lc, Lm⟩ := rSl_open h
  unfold maxLen at Lm
  have L := Lib.hid L0
  clear L0
  go_enter Tryz.func95, Tryz.ntmps95
  go_wp2
  go_loopg [8] n (fun g i w' => ∃ k : Nat, k ≤ n ∧ g = n - k ∧ i = .int .i64 k ∧ Hid (idxI x xs 0 = idxI x (xs.drop k) k) ∧ Bw w w')
  case atStart => exact ⟨0, by omega, rfl, rfl, Lib.hid rfl, Bw.refl _⟩
  case round =>
    obtain ⟨k, hk, rfl, rfl, HE, hb⟩ := hrel
    by_cases hlt : k < n
    · obtain ⟨y, hy⟩ := get_of_lt (xs := xs) (k := k) (by have := L.out; omega)
      obtain ⟨ba, oa, rfl, _, hc0⟩ := rInts_at h hy
      have hc := hb.cell hc0
      have HS := Lib.hid (idxI_step (x := x) hy)
      have i1 : (0 : Int) ≤ (k : Int) := by omega
      have i2 : (k : Int) < (n : Int) := by omega
      clear hy h hc0
      by_cases he : x = y
      · have e1 : (x == y) = true := by simpa using he
        have HX := Lib.hid (show idxI x xs 0 = k by rw [HE.out, HS.out, if_pos he])
        clear he
        go_wp2
        go_ret
        exact Ret.int (HX.out.symm) (hb)
      · have e1 : (x == y) = false := by simpa using he
        have HX := Lib.hid (show idxI x xs 0 = idxI x (xs.drop (k + 1)) (k + 1) by rw [HE.out, HS.out, if_neg he])
        clear he
        go_wp2
        go_roundg (n - (k + 1))
        case measure => omega
        case rel => exact ⟨k + 1, by omega, rfl, by go_num, HX, hb⟩
    · have HX := Lib.hid (show idxI x xs 0 = -1 by rw [HE.out, List.drop_of_length_le (by have := L.out; omega)]; rfl)
      go_wp2
      go_ret
      exact Ret.int (HX.out.symm) (hb)
set_option maxHeartbeats 400000 in
theorem slices_Contains_ints (w : World) (xs : List Int) (x : Int) (v : Value) (h : Rd rInts w xs [v]) : Calls Tryz.prog 104 #[v, .int .i64 x] w (Ret w (.bool (xs.contains x))) := by
  have HC := Lib.hid (idxI_contains x xs 0)
  go_enter Tryz.func104, Tryz.ntmps104
  go_wp2_with fail
  refine (slices_Index_ints _ xs x _ h).mono ?_
  rintro e w2 ⟨rfl, hb2⟩
  go_wp2
  go_ret
  exact Ret.bool (HC.out) (hb2)
end Go.Proofs.YtpihighajaeabaaGreat

namespace Go.Proofs.YtpihighajaeabaaGreat
open Go.RowKit
set_option linter.unusedVariables false
set_option linter.unusedSimpArgs false
theorem max_intI (a b : Int) : max a b = if a ≤ b then b else a := by by_cases h : a ≤ b <;> simp [h] <;> omega
theorem rank_near (x : GWish) (v : Int) (k0 : ¬ x.kind = 0) (k1 : ¬ x.kind = 1) (k2 : x.kind = 2) : rankV x v = if v - x.value < x.value - v then x.value - v else v - x.value := by
  rw [rankV, if_neg k0, if_neg k1, if_pos k2, max_intI]
  by_cases h : v - x.value ≤ x.value - v
  · rw [if_pos h]; split <;> omega
  · rw [if_neg h, if_neg (by omega)]
def Same (w : World) (v : Value) (e : Ending) (w' : World) : Prop := e = .returned v ∧ w' = w
theorem Same.int {w : World} {a b : Int} (h : b = a) : Same w (.int .i64 b) (.returned (.int .i64 a)) w := ⟨by rw [h], rfl⟩
set_option maxRecDepth 100000 in
theorem I_combined_pareto (w : World) (a b : Int) (ha : -1 ≤ a ∧ a ≤ 2) (hb : -1 ≤ b ∧ b ≤ 2) : Calls Tryz.prog 161 #[.int .i64 1, .int .i64 a, .int .i64 b] w (Same w (.int .i64 (comb 1 a b))) := by
  have ea : a = -1 ∨ a = 0 ∨ a = 1 ∨ a = 2 := by omega
  have eb : b = -1 ∨ b = 0 ∨ b = 1 ∨ b = 2 := by omega
  clear ha hb
  rcases ea with rfl | rfl | rfl | rfl <;> rcases eb with rfl | rfl | rfl | rfl
  all_goals
    go_enter Tryz.func161, Tryz.ntmps161
    go_wp2
    go_ret
    exact Same.int rfl
set_option maxRecDepth 100000 in
theorem I_combined_same (w : World) (op a b : Int) (hop : op = 1 ∨ op = 2 ∨ op = 4) (ha : -1 ≤ a ∧ a ≤ 2) (hb : -1 ≤ b ∧ b ≤ 2) : Calls Tryz.prog 161 #[.int .i64 op, .int .i64 a, .int .i64 b] w (Same w (.int .i64 (comb op a b))) := by
  rcases hop with rfl | rfl | rfl
  · exact I_combined_pareto w a b ha hb
  · by_cases h : a = 0
    · have e1 : (a != 0) = false := by simpa using h
      have H := Lib.hid (show comb 2 a b = b by rw [comb, if_neg (by omega), if_pos rfl, if_pos h])
      clear h
      go_enter Tryz.func161, Tryz.ntmps161
      go_wp2
      go_ret
      exact Same.int H.out
    · have e1 : (a != 0) = true := by simpa using h
      have H := Lib.hid (show comb 2 a b = a by rw [comb, if_neg (by omega), if_pos rfl, if_neg h])
      clear h
      go_enter Tryz.func161, Tryz.ntmps161
      go_wp2
      go_ret
      exact Same.int H.out
  · by_cases h : a = b
    · have e1 : (a == b) = true := by simpa using h
      have H := Lib.hid (show comb 4 a b = a by rw [comb, if_neg (by omega), if_neg (by omega), if_pos h])
      clear h
      go_enter Tryz.func161, Tryz.ntmps161
      go_wp2
      go_ret
      exact Same.int H.out
    · have e1 : (a == b) = false := by simpa using h
      have H := Lib.hid (show comb 4 a b = 2 by rw [comb, if_neg (by omega), if_neg (by omega), if_neg h])
      clear h
      go_enter Tryz.func161, Tryz.ntmps161
      go_wp2
      go_ret
      exact Same.int H.out
theorem I_combined (w : World) (op a b : Int) (hop : op = 1 ∨ op = 2 ∨ op = 4) (ha : -1 ≤ a ∧ a ≤ 2) (hb : -1 ≤ b ∧ b ≤ 2) : Calls Tryz.prog 161 #[.int .i64 op, .int .i64 a, .int .i64 b] w (Ret w (.int .i64 (comb op a b))) :=
  (I_combined_same w op a b hop ha hb).mono fun _ _ h => ⟨h.1, by rw [h.2]; exact Bw.refl _⟩
theorem Ret.two {w w' : World} {a b : Int} {c : Value} (h : a = b) (hb : Bw w w') : Ret w (.tuple #[.int .i64 b, c]) (.returned (.tuple #[.int .i64 a, c])) w' := ⟨by rw [h], hb⟩
set_option maxRecDepth 100000 in
set_option maxHeartbeats 1600000 in
theorem I_RankOfValue (w : World) (x : GWish) (a u : Value) (v : Int) (h : Rd rInts w x.list [a]) (h' : Rd rPairs w x.pairs [u]) (hx : isWish x = true) (h4 : ¬ x.kind = 4) (hv : 0 ≤ v ∧ v ≤ 9) :
    Calls Tryz.prog 260 #[.agg #[.int .i64 x.kind, .int .i64 x.field, .int .i64 x.value, a, u], .int .i64 v] w (Ret w (.tuple #[.int .i64 (rankV x v), .bool true])) := by
  have B0 : Bw w (w.alloc (.cells #[.int .i64 x.kind, .int .i64 x.field, .int .i64 x.value, a, u] 109)) := (Bw.refl w).alloc _
  have HX := Lib.hid hx
  have HV := Lib.hid (inB_iff.2 hv)
  have hval := isWish_value hx
  have hk := isWish_kind hx
  clear hx
  go_enter Tryz.func260, Tryz.ntmps260
  go_wp2_with fail
  refine (I_IsWish _ x _ _ (h.bw rInts_good B0) (h'.bw rPairs_good B0)).mono ?_
  rintro e w1 ⟨rfl, hb1⟩
  rw [HX.out]
  have p0 : w1.cell? ⟨w.heap.size, 0, none⟩ = some (.int .i64 x.kind) := hb1.cell (by go_simp)
  have p1 : w1.cell? ⟨w.heap.size, 1, none⟩ = some (.int .i64 x.field) := hb1.cell (by go_simp)
  have p2 : w1.cell? ⟨w.heap.size, 2, none⟩ = some (.int .i64 x.value) := hb1.cell (by go_simp)
  have p3 : w1.cell? ⟨w.heap.size, 3, none⟩ = some (a) := hb1.cell (by go_simp)
  have p4 : w1.cell? ⟨w.heap.size, 4, none⟩ = some (u) := hb1.cell (by go_simp)
  have B1 := B0.then hb1
  go_wp2_with fail
  refine (I_within _ _ _ _).mono ?_
  rintro e w2 ⟨rfl, hb2⟩
  rw [HV.out]
  replace p0 := hb2.cell p0
  replace p2 := hb2.cell p2
  replace p3 := hb2.cell p3
  replace B1 := B1.then hb2
  clear p1 p4
  by_cases k0 : x.kind = 0
  · have q0 : (x.kind == 0) = true := by simpa using k0
    have E := Lib.hid (show v = rankV x v by rw [rankV, if_pos k0])
    clear k0 h4
    go_wp2
    refine bodyPost_ret (v := .tuple #[.int .i64 v, .bool true]) (by simp [results, Tryz.results260, go_sem]) rfl (Ret.two (E.out) (B1))
  have q0 : (x.kind == 0) = false := by simpa using k0
  by_cases k1 : x.kind = 1
  · have q1 : (x.kind == 1) = true := by simpa using k1
    have E := Lib.hid (show 9 - v = rankV x v by rw [rankV, if_neg k0, if_pos k1])
    clear k0 k1 h4
    go_wp2
    refine bodyPost_ret (v := .tuple #[.int .i64 (9 - v), .bool true]) (by simp [results, Tryz.results260, go_sem]) rfl (Ret.two (E.out) (B1))
  have q1 : (x.kind == 1) = false := by simpa using k1
  by_cases k2 : x.kind = 2
  · have q2 : (x.kind == 2) = true := by simpa using k2
    have K := rank_near x v k0 k1 k2
    by_cases hlt : v - x.value < x.value - v
    · rw [if_pos hlt] at K
      have E := Lib.hid K
      clear k0 k1 k2 h4 K
      go_wp2
      refine bodyPost_ret (v := .tuple #[.int .i64 (x.value - v), .bool true]) (by simp [results, Tryz.results260, go_sem]) rfl (Ret.two (E.out.symm) (B1))
    · rw [if_neg hlt] at K
      have E := Lib.hid K
      clear k0 k1 k2 h4 K
      go_wp2
      refine bodyPost_ret (v := .tuple #[.int .i64 (v - x.value), .bool true]) (by simp [results, Tryz.results260, go_sem]) rfl (Ret.two (E.out.symm) (B1))
  have q2 : (x.kind == 2) = false := by simpa using k2
  have k3 : x.kind = 3 := by omega
  have q3 : (x.kind == 3) = true := by simpa using k3
  have E := Lib.hid (show rankV x v = if x.list.contains v then 0 else 1 by rw [rankV, if_neg k0, if_neg k1, if_neg k2])
  clear k0 k1 k2 k3 h4 hk
  go_wp2_with fail
  refine (slices_Contains_ints _ x.list v _ (h.bw rInts_good B1)).mono ?_
  rintro e w3 ⟨rfl, hb3⟩
  rcases Bool.eq_false_or_eq_true (x.list.contains v) with e1 | e1
  · have R := Lib.hid e1
    rw [e1]
    clear e1
    go_wp2
    refine bodyPost_ret (v := .tuple #[.int .i64 0, .bool true]) (by simp [results, Tryz.results260, go_sem]) rfl (Ret.two ((by rw [E.out, R.out]; rfl)) ((B1.then hb3)))
  · have R := Lib.hid e1
    rw [e1]
    clear e1
    go_wp2
    refine bodyPost_ret (v := .tuple #[.int .i64 1, .bool true]) (by simp [results, Tryz.results260, go_sem]) rfl (Ret.two ((by rw [E.out, R.out]; rfl)) ((B1.then hb3)))
end Go.Proofs.YtpihighajaeabaaGreat
