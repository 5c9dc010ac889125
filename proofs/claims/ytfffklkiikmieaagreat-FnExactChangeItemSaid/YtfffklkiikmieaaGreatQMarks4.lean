/- What the laws write into nodes. -/
import Derived.Test.YtfffklkiikmieaaGreatQMarksC
import Derived.Test.YtfffklkiikmieaaGreatQWishes3
namespace Go.Proofs.YtfffklkiikmieaaGreat
open Go.RowKit
set_option linter.unusedVariables false
theorem flatten_set {sz : Nat} : ∀ {us : List (List Value)} {i j : Nat} {u : List Value} {t : Value}, (∀ u ∈ us, u.length = sz) → us[i]? = some u → j < sz → us.flatten.set (i * sz + j) t = (us.set i (u.set j t)).flatten
  | v :: us, 0, j, u, t, hl, hu, hj => by
    simp at hu; subst hu
    rw [List.flatten_cons, List.set_cons_zero, List.flatten_cons, Nat.zero_mul, Nat.zero_add, List.set_append_left _ _ (by rw [hl v (by simp)]; exact hj)]
  | v :: us, i + 1, j, u, t, hl, hu, hj => by
    have hv := hl v (by simp)
    rw [List.flatten_cons, List.set_cons_succ, List.flatten_cons, List.set_append_right _ _ (by rw [hv, Nat.succ_mul]; omega)]
    rw [← flatten_set (us := us) (fun u hu => hl u (by simp [hu])) (by simpa using hu) hj]
    congr 2
    rw [hv, Nat.succ_mul]; omega
  | [], i, j, u, t, hl, hu, hj => by simp at hu
def putsW (g o : Nat) (l : List (Nat × Value)) (w : World) : World := l.foldl (fun w p => w.setCell ⟨g, o + p.1, none⟩ p.2) w
def putsL (l : List (Nat × Value)) (u : List Value) : List Value := l.foldl (fun u p => u.set p.1 p.2) u
theorem putsL_length : ∀ (l : List (Nat × Value)) (u : List Value), (putsL l u).length = u.length
  | [], _ => rfl
  | p :: l, u => by unfold putsL; rw [List.foldl_cons]; exact (putsL_length l (u.set p.1 p.2)).trans (List.length_set ..)
theorem puts_row {e : TypeId} {sz g n c i : Nat} : ∀ (l : List (Nat × Value)) {w : World} {us : List (List Value)} {u : List Value}, w.ownsRow 0 e sz (.slice (some ⟨g, 0, none⟩) n c) n us.flatten → (∀ u ∈ us, u.length = sz) → us[i]? = some u → (∀ p ∈ l, p.1 < sz) →
    (putsW g (i * sz) l w).ownsRow 0 e sz (.slice (some ⟨g, 0, none⟩) n c) n (us.set i (putsL l u)).flatten ∧ (∀ b, b ≠ g → (putsW g (i * sz) l w).heap[b]? = w.heap[b]?) ∧ (putsW g (i * sz) l w).heap.size = w.heap.size
  | [], w, us, u, h, hl, hu, _ => ⟨by unfold putsW putsL; rw [List.foldl_nil, List.foldl_nil, set_same hu]; exact h, fun b _ => rfl, rfl⟩
  | p :: l, w, us, u, h, hl, hu, hp => by
    have hj := hp p (by simp)
    obtain ⟨h1, _⟩ := h.stored (i * sz + p.1) p.2
    rw [flatten_set hl hu hj] at h1
    have hil : i < us.length := (List.getElem?_eq_some_iff.1 hu).1
    have hul : (u.set p.1 p.2).length = sz := by rw [List.length_set]; exact hl u (List.mem_of_getElem? hu)
    obtain ⟨h2, h3, h4⟩ := puts_row l h1 (fun v hv => by
      obtain ⟨k, hk⟩ := List.mem_iff_getElem?.1 hv
      rw [List.getElem?_set] at hk
      split at hk
      · injection hk with hk; rw [← hk]; exact hul
      · exact hl v (List.mem_of_getElem? hk)) (List.getElem?_set_self hil) (fun q hq => hp q (by simp [hq]))
    rw [List.set_set] at h2
    refine ⟨h2, fun b hb => (h3 b hb).trans (Below.heap_setCell _ _ _ _ (by dsimp only; exact hb)), h4.trans (by simp)⟩
/-- an element among owned ones: its cells, some of them written, and the way back -/
theorem fSl_focus {α : Type} {B : Nat} {e : TypeId} {sz g n c i : Nat} {R : Fp α} (hR : GoodF 0 R) {w : World} {xs : List α} {F : List Nat} (hv : fSl e sz R w xs [.slice (some ⟨g, 0, none⟩) n c] F) (hF : Fresh B F) {x : α} (hx : xs[i]? = some x) :
    ∃ u f, R w x u f ∧ u.length = sz ∧ (∀ j t, u[j]? = some t → w.cell? ⟨g, i * sz + j, none⟩ = some t) ∧ Fresh B f ∧ (∀ b ∈ f, b ∈ F ∧ b ≠ g) ∧ g ∈ F ∧
      (∀ l : List (Nat × Value), (∀ p ∈ l, p.1 < sz) → (∀ b, b ≠ g → (putsW g (i * sz) l w).heap[b]? = w.heap[b]?) ∧ (putsW g (i * sz) l w).heap.size = w.heap.size ∧
        ∀ w' y, Only f (putsW g (i * sz) l w) w' → R w' y (putsL l u) f → fSl e sz R w' (xs.set i y) [.slice (some ⟨g, 0, none⟩) n c] F) := by
  have hlt := (fSl_good hR (e := e) (sz := sz)).lt hv
  obtain ⟨v, us, Fs, hv0, hown, hall, hFe⟩ := hv
  injection hv0 with hv0
  subst hv0
  obtain ⟨u, f, hu, hf, hin, hul⟩ := all3_at hall hx
  have hfn : ∀ a ∈ f, a ∈ Fs.flatten := fun a ha => List.mem_flatten.2 ⟨f, List.mem_iff_getElem?.2 ⟨i, hf⟩, ha⟩
  have hfF : ∀ a ∈ f, a ∈ F := fun a ha => by rw [hFe]; exact List.mem_append_right _ (hfn a ha)
  have hnd := hF.nodup
  rw [hFe, List.nodup_append] at hnd
  have hFg : ∀ b ∈ Fs.flatten, b ≠ g := fun b hb e => hnd.2.2 g (by simp [Value.ownBlock]) b hb e.symm
  have hgF : g ∈ F := by rw [hFe]; simp [Value.ownBlock]
  have hfd : f.Nodup := nodup_part hnd.2.1 (List.mem_iff_getElem?.2 ⟨i, hf⟩)
  have hus : ∀ u ∈ us, u.length = sz := fun u hu => by obtain ⟨x, f, hr⟩ := all3_mem_us hall hu; exact hr.2
  have hl := all3_len hall
  obtain ⟨A, cc, eA, _, _, hcells⟩ := ownsRow_rSl hown hl.1 hus
  injection eA with eA _ _
  subst eA
  obtain ⟨b1, eb, _, hc⟩ := hcells i _ hu
  injection eb with eb
  injection eb with eb _ _
  subst eb
  have hn : n = xs.length := by
    rcases hown.2 with ⟨h, _⟩ | ⟨g', cap, cur, h, _⟩
    · cases h
    · injection h
  subst hn
  have hallb : all3 (fun x u f => (R w x u f ∧ u.length = sz) ∧ ∀ a ∈ f, a ∈ Fs.flatten) xs us Fs := all3_imp (fun x u f' hf' hx => ⟨hx, fun a ha => List.mem_flatten.2 ⟨f', hf', ha⟩⟩) hall
  have hFlt : ∀ a ∈ Fs.flatten, a < w.heap.size := fun a ha => hlt a (by rw [hFe]; exact List.mem_append_right _ ha)
  refine ⟨u, f, hin, hul, fun j t ht => by have := hc j t ht; rwa [Nat.zero_add] at this, ⟨hfd, fun a ha => hF.ge a (hfF a ha)⟩, fun b hb => ⟨hfF b hb, hFg b (hfn b hb)⟩, hgF, fun l hp => ?_⟩
  obtain ⟨h1, h2, h3⟩ := puts_row l hown hus hu hp
  refine ⟨h2, h3, fun w' y hO hy => ⟨_, us.set i (putsL l u), Fs, rfl, ?_, ?_, hFe⟩⟩
  · rw [List.length_set]
    exact ownsRow_heap h1 fun a ha => by
      have : a = g := by simpa [Value.ownBlock] using ha.symm
      subst this
      exact hO.2 _ (by rw [h3]; exact hlt _ hgF) (fun hm => hFg _ (hfn _ hm) rfl)
  · refine all3_upd2 (R := fun x u f => (R w x u f ∧ u.length = sz) ∧ ∀ a ∈ f, a ∈ Fs.flatten) (f := f) (u := u) ⟨hy, by rw [putsL_length]; exact hul⟩ (fun x u f' hd hx => ⟨hR.step (fun b hb => ?_) hx.1.1, hx.1.2⟩) hallb hu hf hnd.2.1
    rcases hb with hb | hb
    · exact (hO.2 b (by rw [h3]; exact hFlt _ (hx.2 b hb)) (hd b hb)).trans (h2 b (hFg b (hx.2 b hb)))
    · omega
def markN (x : GNode) : Nat := 4 + x.wish.list.length + 2 * x.wish.pairs.length
def markNodes (xs : List GNode) : Nat := sumL markN xs
def mkNodes : List GNode → Nat → List GNode
  | [], _ => []
  | x :: xs, k => ⟨k, ⟨((k + 1 : Nat) : Int), ((k + 2 : Nat) : Int), ((k + 3 : Nat) : Int), mkInts x.wish.list (k + 4), mkPairs x.wish.pairs (k + 4 + x.wish.list.length)⟩⟩ :: mkNodes xs (k + markN x)
theorem markNodes_le : ∀ xs : List GNode, markNodes xs ≤ 4 * totNodes xs
  | [] => by simp [markNodes, sumL]
  | x :: xs => by
    have := markNodes_le xs
    unfold markNodes totNodes at *
    simp only [sumL, List.length_cons, markN, totNode, totWish] at *
    omega
theorem markNodes_take_succ {xs : List GNode} {j : Nat} {x : GNode} (h : xs[j]? = some x) : markNodes (xs.take (j + 1)) = markNodes (xs.take j) + markN x := by
  have hs : ∀ (l : List GNode) (y : GNode), sumL markN (l ++ [y]) = sumL markN l + markN y := fun l y => by
    induction l with
    | nil => simp [sumL]
    | cons a l ih => simp only [List.cons_append, sumL, ih]; omega
  rw [List.take_add_one, h]
  simp only [markNodes, Option.toList_some, hs]
theorem markNodes_take_le (xs : List GNode) (j : Nat) : markNodes (xs.take j) ≤ markNodes xs := by
  have : ∀ (l m : List GNode), sumL markN l ≤ sumL markN (l ++ m) := fun l m => by
    induction l with
    | nil => simp [sumL]
    | cons a l ih => simp only [List.cons_append, sumL]; omega
  have h1 := this (xs.take j) (xs.drop j)
  rwa [List.take_append_drop] at h1
/-- one node's owned parts -/
theorem fNode_open {w : World} {x : GNode} {u : List Value} {f : List Nat} (h : fNode w x u f) : ∃ Al cl Ap cp G H, u = [.int .i64 x.op, .int .i64 x.wish.kind, .int .i64 x.wish.field, .int .i64 x.wish.value, .slice Al x.wish.list.length cl, .slice Ap x.wish.pairs.length cp] ∧
    fInts w x.wish.list [.slice Al x.wish.list.length cl] G ∧ fPairs w x.wish.pairs [.slice Ap x.wish.pairs.length cp] H ∧ f = G ++ H := by
  obtain ⟨us, e, v, t, G, H, e2, h1, h2, hf⟩ := h
  obtain ⟨Al, cl, rfl, _⟩ := rSl_shape (fInts_Rd h1)
  obtain ⟨Ap, cp, rfl, _⟩ := rSl_shape (fPairs_Rd h2)
  exact ⟨Al, cl, Ap, cp, G, H, by rw [e, e2], h1, h2, hf⟩
theorem fNode_mk {w w' : World} {l : List Int} {p : List GPair} {sl sp : Value} {G H : List Nat} (h1 : fInts w l [sl] G) (h2 : fPairs w p [sp] H) (hw : ∀ b ∈ G ++ H, w'.heap[b]? = w.heap[b]?) (o k f v : Int) :
    fNode w' ⟨o, ⟨k, f, v, l, p⟩⟩ [.int .i64 o, .int .i64 k, .int .i64 f, .int .i64 v, sl, sp] (G ++ H) := by
  have g1 : fInts w' l [sl] G := (fInts_good (B := 0)).step (fun b hb => by
    rcases hb with hb | hb
    · exact hw b (List.mem_append_left _ hb)
    · omega) h1
  have g2 : fPairs w' p [sp] H := (fPairs_good (B := 0)).step (fun b hb => by
    rcases hb with hb | hb
    · exact hw b (List.mem_append_right _ hb)
    · omega) h2
  exact ⟨_, rfl, _, _, G, H, rfl, g1, g2, rfl⟩
/-- the four numbers of a node are written -/
theorem fNodes_four {B g n c i : Nat} {w : World} {xs : List GNode} {F : List Nat} (hv : fNodes w xs [.slice (some ⟨g, 0, none⟩) n c] F) (hF : Fresh B F) {x : GNode} (hx : xs[i]? = some x) (a0 a1 a2 a3 : Int) :
    ∃ W Al cl Ap cp G H, W = (((w.setCell ⟨g, i * 6, none⟩ (.int .i64 a0)).setCell ⟨g, i * 6 + 1, none⟩ (.int .i64 a1)).setCell ⟨g, i * 6 + 2, none⟩ (.int .i64 a2)).setCell ⟨g, i * 6 + 3, none⟩ (.int .i64 a3) ∧
      w.cell? ⟨g, i * 6, none⟩ = some (.int .i64 x.op) ∧ w.cell? ⟨g, i * 6 + 1, none⟩ = some (.int .i64 x.wish.kind) ∧ w.cell? ⟨g, i * 6 + 2, none⟩ = some (.int .i64 x.wish.field) ∧ w.cell? ⟨g, i * 6 + 3, none⟩ = some (.int .i64 x.wish.value) ∧
      w.cell? ⟨g, i * 6 + 4, none⟩ = some (.slice Al x.wish.list.length cl) ∧ w.cell? ⟨g, i * 6 + 5, none⟩ = some (.slice Ap x.wish.pairs.length cp) ∧
      fInts W x.wish.list [.slice Al x.wish.list.length cl] G ∧ fPairs W x.wish.pairs [.slice Ap x.wish.pairs.length cp] H ∧ Fresh B (G ++ H) ∧ (∀ b ∈ G ++ H, b ∈ F ∧ b ≠ g) ∧ g ∈ F ∧ (∀ b, b ≠ g → W.heap[b]? = w.heap[b]?) ∧ W.heap.size = w.heap.size ∧
      (∀ w' l p, Only (G ++ H) W w' → l.length = x.wish.list.length → p.length = x.wish.pairs.length → fInts w' l [.slice Al x.wish.list.length cl] G → fPairs w' p [.slice Ap x.wish.pairs.length cp] H →
        fNodes w' (xs.set i ⟨a0, ⟨a1, a2, a3, l, p⟩⟩) [.slice (some ⟨g, 0, none⟩) n c] F) := by
  obtain ⟨u, f, hin, hul, hc, hf, hfF, hgF, hst⟩ := fSl_focus (fNode_good (B := 0)) hv hF hx
  obtain ⟨Al, cl, Ap, cp, G, H, rfl, h1, h2, rfl⟩ := fNode_open hin
  obtain ⟨k1, k2, k3⟩ := hst [(0, .int .i64 a0), (1, .int .i64 a1), (2, .int .i64 a2), (3, .int .i64 a3)] (by simp)
  have hWb : ∀ b ∈ G ++ H, (putsW g (i * 6) [(0, Value.int .i64 a0), (1, .int .i64 a1), (2, .int .i64 a2), (3, .int .i64 a3)] w).heap[b]? = w.heap[b]? := fun b hb => k1 b (hfF b hb).2
  refine ⟨_, Al, cl, Ap, cp, G, H, rfl, hc 0 _ rfl, hc 1 _ rfl, hc 2 _ rfl, hc 3 _ rfl, hc 4 _ rfl, hc 5 _ rfl, ?_, ?_, hf, hfF, hgF, k1, k2, ?_⟩
  · exact (fInts_good (B := 0)).step (fun b hb => by
      rcases hb with hb | hb
      · exact hWb b (List.mem_append_left _ hb)
      · omega) h1
  · exact (fPairs_good (B := 0)).step (fun b hb => by
      rcases hb with hb | hb
      · exact hWb b (List.mem_append_right _ hb)
      · omega) h2
  · intro w' l p hO _ _ hl hp
    exact k3 w' _ hO ⟨_, rfl, _, _, G, H, rfl, hl, hp, rfl⟩
set_option maxRecDepth 100000 in
set_option maxHeartbeats 3200000 in
theorem L_markNodeS (w0 w : World) (xs : List GNode) (v : Value) (F : List Nat) (k : Nat) (hv : fNodes w xs [v] F) (hF : Fresh w0.heap.size F) (hb : Bw w0 w) (htn : totNodes xs ≤ 1048576) (hk : k + markNodes xs ≤ 8388608) : Calls Tryz.prog 48 #[v, .int .i64 k] w (RetM fNodes w0 w (mkNodes xs k) v F (k + markNodes xs)) := by
  obtain ⟨A, n, c, rfl, l1, l2, l3⟩ := rSl_open (fNodes_Rd hv)
  have ht : markNodes xs ≤ 4194304 := by have := markNodes_le xs; omega
  have hnn : n ≤ 1048576 := by unfold totNodes at htn; rw [l1]; omega
  have HTN := Lib.hid htn
  clear htn
  have L1 := Lib.hid l1
  have HT := Lib.hid ht
  unfold maxLen at l3
  clear l1 ht
  go_enter Tryz.func48, Tryz.ntmps48
  go_wp2
  go_loopg [1, 5] n (fun gg s i w' => ∃ (j m : Nat) (cur : List GNode), j ≤ n ∧ gg = n - j ∧ i = .int .i64 j ∧ s = .int .i64 m ∧ Hid (m = k + markNodes (xs.take j)) ∧ m ≤ 8388608 ∧ fNodes w' cur [.slice A n c] F ∧ Hid (cur.length = n) ∧ Hid (cur.drop j = xs.drop j) ∧ Hid (cur.take j ++ mkNodes (cur.drop j) m = mkNodes xs k) ∧ Only F w w' ∧ Bw w0 w')
  case atStart => exact ⟨0, k, xs, by omega, rfl, rfl, rfl, Lib.hid (by simp [markNodes, sumL]), by omega, hv, Lib.hid L1.out.symm, Lib.hid rfl, Lib.hid rfl, Only.refl _ _, hb⟩
  case round =>
    clear hv hb
    obtain ⟨j, m, cur, hj, rfl, rfl, rfl, HM, hm9, hv1, HL, HD, HE, hO, hb1⟩ := hrel
    by_cases hlt : j < n
    · obtain ⟨x, hy⟩ := get_of_lt (xs := cur) (k := j) (by rw [HL.out]; exact hlt)
      have hx : xs[j]? = some x := by
        have h1 : (cur.drop j)[0]? = (xs.drop j)[0]? := by rw [HD.out]
        rw [List.getElem?_drop, List.getElem?_drop, Nat.add_zero, hy] at h1
        exact h1.symm
      obtain ⟨g, rfl, hz9, hgF⟩ := fSl_lit2 hv1 (by rw [HL.out]; omega)
      clear hz9
      have hff := fun o => fSl_frozen hv1 o
      obtain ⟨W, Al, cl, Ap, cp, G, H, hW, c0, c1, c2, c3, c4, c5, o1, o2, fGH, hsub, _, hblk, hsz, hback⟩ := fNodes_four hv1 hF hy (m : Int) ((m : Int) + 1) ((m : Int) + 1 + 1) ((m : Int) + 1 + 1 + 1)
      have hN : markN x = 4 + x.wish.list.length + 2 * x.wish.pairs.length := rfl
      have HM' := Lib.hid (show m + 4 + x.wish.list.length + 2 * x.wish.pairs.length = k + markNodes (xs.take (j + 1)) by rw [markNodes_take_succ hx]; have := HM.out; omega)
      have hbnd : m + 4 + x.wish.list.length + 2 * x.wish.pairs.length ≤ 8388608 := by rw [HM'.out]; have h1 := markNodes_take_le xs (j + 1); have h3 := HT.out; omega
      have htot : 4 + x.wish.list.length + 2 * x.wish.pairs.length ≤ 4194304 := by have h1 := markNodes_take_le xs (j + 1); rw [markNodes_take_succ hx] at h1; have h3 := HT.out; omega
      have hxl : x.wish.list.length ≤ 1048576 := by
        have h1 := le_sum totNode (List.mem_of_getElem? hx)
        have h3 := HTN.out
        have h2 : totNode x = x.wish.list.length + x.wish.pairs.length := rfl
        unfold totNodes at h3
        omega
      have hbW : Bw w0 W := by rw [hW]; have hg := hF.ge g hgF; exact (((hb1.set hg _).set hg _).set hg _).set hg _
      have hOW : Only F wr W := ⟨by rw [hsz]; exact Nat.le_refl _, fun b _ hn => hblk b (fun e => hn (e ▸ hgF))⟩
      have hnd := fGH.nodup
      rw [List.nodup_append] at hnd
      have c4W : W.cell? ⟨g, j * 6 + 4, none⟩ = some (.slice Al x.wish.list.length cl) := by rw [hW]; go_simp
      have c5W : W.cell? ⟨g, j * 6 + 5, none⟩ = some (.slice Ap x.wish.pairs.length cp) := by rw [hW]; go_simp
      have fG : Fresh w0.heap.size G := ⟨hnd.1, fun b hb => fGH.ge b (List.mem_append_left _ hb)⟩
      have fH : Fresh w0.heap.size H := ⟨hnd.2.1, fun b hb => fGH.ge b (List.mem_append_right _ hb)⟩
      have gG : g ∉ G := fun h => (hsub g (List.mem_append_left _ h)).2 rfl
      have dGH : ∀ b ∈ H, b ∉ G := fun b hb hb2 => hnd.2.2 b hb2 b hb rfl
      have dHG : ∀ b ∈ G, b ∉ H := fun b hb hb2 => hnd.2.2 b hb b hb2 rfl
      have hcall := L_markIntS w0 W x.wish.list _ G (m + 4) o1 fG hbW (by omega) (by omega)
      have hcall2 : ∀ w2, fPairs w2 x.wish.pairs [.slice Ap x.wish.pairs.length cp] H → Bw w0 w2 → Calls Tryz.prog 95 #[.slice Ap x.wish.pairs.length cp, .int .i64 ((m + 4 + x.wish.list.length : Nat) : Int)] w2 (RetM fPairs w0 w2 (mkPairs x.wish.pairs (m + 4 + x.wish.list.length)) (.slice Ap x.wish.pairs.length cp) H (m + 4 + x.wish.list.length + 2 * x.wish.pairs.length)) := fun w2 o c => L_markPairS w0 w2 x.wish.pairs _ H (m + 4 + x.wish.list.length) o fH c (by omega) (by omega)
      have HD' := Lib.hid (show (cur.set j (⟨m, ⟨(m : Int) + 1, (m : Int) + 1 + 1, (m : Int) + 1 + 1 + 1, mkInts x.wish.list (m + 4), mkPairs x.wish.pairs (m + 4 + x.wish.list.length)⟩⟩ : GNode)).drop (j + 1) = xs.drop (j + 1) by
        rw [set_drop]
        have h1 : (cur.drop j).drop 1 = (xs.drop j).drop 1 := by rw [HD.out]
        simpa [List.drop_drop] using h1)
      have HL' := Lib.hid (show (cur.set j (⟨m, ⟨(m : Int) + 1, (m : Int) + 1 + 1, (m : Int) + 1 + 1 + 1, mkInts x.wish.list (m + 4), mkPairs x.wish.pairs (m + 4 + x.wish.list.length)⟩⟩ : GNode)).length = n by rw [List.length_set]; exact HL.out)
      have HE' := Lib.hid (show (cur.set j (⟨m, ⟨(m : Int) + 1, (m : Int) + 1 + 1, (m : Int) + 1 + 1 + 1, mkInts x.wish.list (m + 4), mkPairs x.wish.pairs (m + 4 + x.wish.list.length)⟩⟩ : GNode)).take (j + 1) ++ mkNodes ((cur.set j (⟨m, ⟨(m : Int) + 1, (m : Int) + 1 + 1, (m : Int) + 1 + 1 + 1, mkInts x.wish.list (m + 4), mkPairs x.wish.pairs (m + 4 + x.wish.list.length)⟩⟩ : GNode)).drop (j + 1)) (m + 4 + x.wish.list.length + 2 * x.wish.pairs.length) = mkNodes xs k by
        rw [set_take (by rw [HL.out]; exact hlt), set_drop, ← HE.out, drop_cons hy, mkNodes, List.append_assoc, hN]
        congr 1
        rw [show m + (4 + x.wish.list.length + 2 * x.wish.pairs.length) = m + 4 + x.wish.list.length + 2 * x.wish.pairs.length by omega]
        rfl)
      have hback2 := fun w' (hO : Only (G ++ H) W w') h1 h2 => hback w' (mkInts x.wish.list (m + 4)) (mkPairs x.wish.pairs (m + 4 + x.wish.list.length)) hO (mkInts_length _ _) (mkPairs_length _ _) h1 h2
      have hO2 := hO.then hOW (fun _ h => h)
      obtain ⟨M, hM⟩ : ∃ M, M = x.wish.list.length := ⟨_, rfl⟩
      obtain ⟨N, hN2⟩ : ∃ N, N = x.wish.pairs.length := ⟨_, rfl⟩
      rw [← hM] at c4 c4W hcall hcall2 hback2 HM' hbnd HE' HD' HL' o1
      rw [← hN2] at c5 c5W hcall2 hback2 HM' hbnd HE' o2
      have k1 : ((m + 4 : Nat) : Int) = (m : Int) + 1 + 1 + 1 + 1 := by omega
      have k3 : ((m + 4 + M + 2 * N : Nat) : Int) = (m : Int) + 4 + M + 2 * N := by omega
      rw [k1] at hcall
      have f0 := hff (j * 6)
      have f1 := hff (j * 6 + 1)
      have f2 := hff (j * 6 + 1 + 1)
      have f3 := hff (j * 6 + 1 + 2)
      have hsub' : ∀ b ∈ G ++ H, b ∈ F := fun b hb => (hsub b hb).1
      have HW := Lib.hid (show W = (((wr.setCell ⟨g, j * 6, none⟩ (.int .i64 m)).setCell ⟨g, j * 6 + 1, none⟩ (.int .i64 ((m : Int) + 1))).setCell ⟨g, j * 6 + 1 + 1, none⟩ (.int .i64 ((m : Int) + 1 + 1))).setCell ⟨g, j * 6 + 1 + 2, none⟩ (.int .i64 ((m : Int) + 1 + 1 + 1)) by rw [hW])
      clear hx hy hv1 HM HL HD HE hO hback hM hN hN2 hgF hbW hOW hblk hsz o1 hff hnd fGH fG fH hsub htot hb1 k1 hxl
      go_wp2_with fail
      rw [← HW.out]
      refine hcall.mono ?_
      rintro e w2 ⟨rfl, n1, hO3, hb3⟩
      have c5' := hO3.cell c5W gG
      have o2' := hO3.keeps (fPairs_good (B := 0)) o2 dGH
      clear hcall c4W c5W
      go_wp2_with fail
      refine (hcall2 _ o2' hb3).mono ?_
      rintro e w3 ⟨rfl, n2, hO4, hb4⟩
      have n1' := hO4.keeps (fInts_good (B := 0)) n1 dHG
      have hOW3 : Only (G ++ H) W w3 := Only.then ⟨hO3.1, fun b hb hn => hO3.2 b hb (fun h => hn (List.mem_append_left _ h))⟩ hO4 (fun b h => List.mem_append_right _ h)
      have hv3 := hback2 w3 hOW3 n1' n2
      have hO5 := hO2.then hOW3 hsub'
      clear hback2 n1 n2 n1' hO3 hO4 hO2 hOW3 hsub' o2 o2' c5' hcall2
      go_wp2
      go_roundg (n - (j + 1))
      case measure => omega
      case rel => exact ⟨j + 1, m + 4 + M + 2 * N, _, by omega, rfl, by go_num, by rw [k3], HM', hbnd, hv3, HL', HD', HE', hO5, hb4⟩
    · obtain rfl : j = n := by omega
      have HF := Lib.hid (show cur = mkNodes xs k by rw [← HE.out, show cur.drop j = [] from List.drop_of_length_le (by rw [HL.out]; exact Nat.le_refl _), mkNodes, List.append_nil, List.take_of_length_le (by rw [HL.out]; exact Nat.le_refl _)])
      have HN := Lib.hid (show ((m : Nat) : Int) = ((k + markNodes xs : Nat) : Int) by rw [HM.out, List.take_of_length_le (by rw [← L1.out]; exact Nat.le_refl _)])
      clear HE HL HD HM
      go_wp2
      go_ret
      exact RetM.mk HN.out HF.out hv1 hO hb1
end Go.Proofs.YtfffklkiikmieaaGreat
