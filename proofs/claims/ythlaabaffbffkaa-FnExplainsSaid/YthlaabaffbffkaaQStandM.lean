/- Standing answers that change: plain model. No program in sight. -/
import Derived.Test.YthlaabaffbffkaaQMarks4
import Derived.Test.YthlaabaffbffkaaQStand
import Derived.Test.YthlaabaffbffkaaQMarksC
import Derived.Test.YthlaabaffbffkaaQCopyW
import Derived.Test.YthlaabaffbffkaaQBestS
namespace Go.Proofs.Ythlaabaffbffkaa
open Go.RowKit
set_option linter.unusedVariables false
theorem mkNodes_length : ∀ (xs : List GNode) (k : Nat), (mkNodes xs k).length = xs.length
  | [], _ => rfl
  | _ :: xs, k => by rw [mkNodes, List.length_cons, mkNodes_length xs, List.length_cons]
theorem mkNodes_at : ∀ {xs : List GNode} {k j : Nat} {x : GNode}, xs[j]? = some x → (mkNodes xs k)[j]? = some ⟨((k + markNodes (xs.take j) : Nat) : Int), ⟨((k + markNodes (xs.take j) + 1 : Nat) : Int), ((k + markNodes (xs.take j) + 2 : Nat) : Int), ((k + markNodes (xs.take j) + 3 : Nat) : Int), mkInts x.wish.list (k + markNodes (xs.take j) + 4), mkPairs x.wish.pairs (k + markNodes (xs.take j) + 4 + x.wish.list.length)⟩⟩
  | y :: xs, k, 0, x, h => by simp at h; subst h; simp [mkNodes, markNodes, sumL]
  | y :: xs, k, j + 1, x, h => by
    simp only [mkNodes, List.getElem?_cons_succ]
    rw [mkNodes_at (by simpa using h)]
    have e : k + markN y + markNodes (xs.take j) = k + markNodes ((y :: xs).take (j + 1)) := by
      simp only [markNodes, List.take_succ_cons, sumL]; omega
    rw [e]
  | [], _, _, _, h => by simp at h

end Go.Proofs.Ythlaabaffbffkaa

namespace Go.Proofs.Ythlaabaffbffkaa
open Go.RowKit
set_option linter.unusedVariables false
set_option linter.unusedSimpArgs false
theorem fStanding_good {B : Nat} : GoodF B fStanding :=
  ⟨fun hw ⟨v, u, t, G, H, I, e, h, k, l, hF⟩ => ⟨v, u, t, G, H, I, e, fItems_good.step (fun b hb => hw b (hb.imp (fun hb => by rw [hF]; exact List.mem_append_left _ hb) id)) h, fNodes_good.step (fun b hb => hw b (hb.imp (fun hb => by rw [hF]; exact List.mem_append_right _ (List.mem_append_left _ hb)) id)) k, fInts_good.step (fun b hb => hw b (hb.imp (fun hb => by rw [hF]; exact List.mem_append_right _ (List.mem_append_right _ hb)) id)) l, hF⟩,
   fun ⟨v, u, t, G, H, I, e, h, k, l, hF⟩ b hb => by
    rw [hF] at hb
    exact (List.mem_append.1 hb).elim ((fItems_good (B := B)).lt h b) fun hb => (List.mem_append.1 hb).elim ((fNodes_good (B := B)).lt k b) ((fInts_good (B := B)).lt l b),
   fun ⟨v, u, t, G, H, I, e, h, k, l, hF⟩ s hs => by
    rw [e] at hs
    simp at hs
    rcases hs with rfl | rfl | rfl | rfl
    · exact (fItems_good (B := B)).one h _ (by simp)
    · exact (fNodes_good (B := B)).one k _ (by simp)
    · exact (fInts_good (B := B)).one l _ (by simp)
    · rfl⟩
theorem fStanding_Rds {w : World} {x : GStanding} {a b c d : Value} {F : List Nat} (h : fStanding w x [a, b, c, d] F) : Rd rItems w x.items [a] ∧ Rd rNodes w x.wanted [b] ∧ Rd rInts w x.best [c] ∧ d = .int .i64 x.tests := by
  obtain ⟨v, u, t, G, H, I, e, h, k, l, hF⟩ := h
  injection e with e1 e; injection e with e2 e; injection e with e3 e; injection e with e4 e
  subst e1 e2 e3 e4
  exact ⟨fItems_Rd h, fNodes_Rd k, fInts_Rd l, rfl⟩
theorem fStanding_shape {w : World} {x : GStanding} {cs : List Value} {F : List Nat} (h : fStanding w x cs F) : ∃ A1 c1 A2 c2 A3 c3, cs = [.slice A1 x.items.length c1, .slice A2 x.wanted.length c2, .slice A3 x.best.length c3, .int .i64 x.tests] := by
  obtain ⟨v, u, t, G, H, I, e, h, k, l, hF⟩ := h
  obtain ⟨A1, c1, rfl, _⟩ := rSl_shape (fItems_Rd h)
  obtain ⟨A2, c2, rfl, _⟩ := rSl_shape (fNodes_Rd k)
  obtain ⟨A3, c3, rfl, _⟩ := rSl_shape (fInts_Rd l)
  exact ⟨A1, c1, A2, c2, A3, c3, e⟩
def mkStanding (x : GStanding) (k : Nat) : GStanding := ⟨mkItems x.items k, mkNodes x.wanted (k + totItems x.items), mkInts x.best (k + totItems x.items + markNodes x.wanted), x.tests⟩
def markSt (x : GStanding) : Nat := totItems x.items + markNodes x.wanted + x.best.length
def smallSt (x : GStanding) : Prop := totItems x.items ≤ 1048576 ∧ totNodes x.wanted ≤ 1048576 ∧ x.best.length ≤ 1048576
theorem smallSt_of {x : GStanding} (h : totStanding x ≤ 1048576) : smallSt x := by unfold totStanding at h; unfold smallSt; omega
theorem markSt_le {x : GStanding} (h : smallSt x) : markSt x ≤ 6291456 := by
  obtain ⟨h1, h2, h3⟩ := h
  have := markNodes_le x.wanted
  unfold markSt; omega
def RetMs {α : Type} (f : Fp α) (w0 w : World) (x : α) (cs : List Value) (F : List Nat) (k : Nat) (e : Ending) (w' : World) : Prop := e = .returned (.int .i64 k) ∧ f w' x cs F ∧ Only F w w' ∧ Bw w0 w'



end Go.Proofs.Ythlaabaffbffkaa

namespace Go.Proofs.Ythlaabaffbffkaa
open Go.RowKit
set_option linter.unusedVariables false
set_option linter.unusedSimpArgs false
/-- a struct and one more -/
def TwoA {α : Type} (f : Fp α) (B : Nat) (x : α) (z : Value) (w : World) (u : Value) : Prop := ∃ cs, u = .tuple #[.agg cs.toArray, z] ∧ ∃ F, f w x cs F ∧ Fresh B F
def newSt (l : List GItem) (e : List GNode) : GStanding := if areBoth l e then ⟨l, e, bestItems l e, 0⟩ else ⟨[], [], [], 0⟩
theorem newSt_yes {l : List GItem} {e : List GNode} (h : areBoth l e = true) : newSt l e = ⟨l, e, bestItems l e, 0⟩ := by unfold newSt; rw [h]; rfl
theorem newSt_no {l : List GItem} {e : List GNode} (h : areBoth l e = false) : newSt l e = ⟨[], [], [], 0⟩ := by unfold newSt; rw [h]; rfl
theorem bestItems_len (l : List GItem) (e : List GNode) : (bestItems l e).length ≤ l.length := by
  unfold bestItems; split
  · exact bestM_len l e
  · exact Nat.zero_le _
theorem newSt_small {l : List GItem} {e : List GNode} (h1 : totItems l ≤ 1048576) (h2 : totNodes e ≤ 1048576) : smallSt (newSt l e) := by
  unfold newSt smallSt; split
  · refine ⟨h1, h2, ?_⟩
    have h3 := bestItems_len l e
    unfold totItems at h1
    dsimp only; omega
  · simp [totItems, totNodes, sumL]
theorem fSt_none (w : World) : fStanding w ⟨[], [], [], 0⟩ [.slice none 0 0, .slice none 0 0, .slice none 0 0, .int .i64 0] [] :=
  ⟨_, _, _, [], [], [], rfl, ⟨_, [], [], rfl, World.ownsRow_nil _ _ _ _, trivial, by simp [Value.ownBlock]⟩, ⟨_, [], [], rfl, World.ownsRow_nil _ _ _ _, trivial, by simp [Value.ownBlock]⟩, ⟨_, [], [], rfl, World.ownsRow_nil _ _ _ _, trivial, by simp [Value.ownBlock]⟩, rfl⟩
theorem best_both {l : List GItem} {e : List GNode} (h : areBoth l e = true) : bestM l e = bestItems l e := by unfold bestItems; rw [h]; rfl


end Go.Proofs.Ythlaabaffbffkaa

namespace Go.Proofs.Ythlaabaffbffkaa
open Go.RowKit
set_option linter.unusedVariables false
set_option linter.unusedSimpArgs false
/-- an item is put in its place -/
def putM : List GItem → GItem → List GItem
  | [], x => [x]
  | y :: l, x => if x.id < y.id then x :: y :: l else y :: putM l x
theorem putM_len : ∀ (l : List GItem) (x : GItem), (putM l x).length = l.length + 1
  | [], x => rfl
  | y :: l, x => by
    rw [putM]; split
    · simp
    · rw [List.length_cons, putM_len l x, List.length_cons]
theorem putM_perm : ∀ (l : List GItem) (x : GItem), (putM l x).Perm (l ++ [x])
  | [], x => List.Perm.refl _
  | y :: l, x => by
    rw [putM]; split
    · exact (List.perm_append_comm (l₁ := [x]) (l₂ := y :: l))
    · exact (putM_perm l x).cons y
theorem putM_mem {l : List GItem} {x z : GItem} (h : z ∈ putM l x) : z ∈ l ∨ z = x := by
  have := (putM_perm l x).mem_iff.1 h
  simpa using this
theorem from_le {l : List GItem} {o : Option Int} (h : areItemsFrom o l = true) : l.Pairwise (fun a b => a.id < b.id) := by
  induction l generalizing o with
  | nil => exact List.Pairwise.nil
  | cons z l ih =>
    have h2 : areItemsFrom (some z.id) l = true := by
      cases o <;> simp only [areItemsFrom, Bool.and_eq_true] at h <;> exact h.2
    exact List.Pairwise.cons (fun y hy => from_gt h2 y hy) (ih h2)
theorem items_sorted {l : List GItem} (h : areItems l = true) : l.Pairwise (fun a b => a.id < b.id) := by
  unfold areItems at h; rw [Bool.and_eq_true] at h; exact from_le h.1
theorem from_of : ∀ {l : List GItem} (o : Option Int), (∀ x ∈ l, isItem x = true) → l.Pairwise (fun a b => a.id < b.id) → (∀ n, o = some n → ∀ x ∈ l, n < x.id) → areItemsFrom o l = true
  | [], o, _, _, _ => by cases o <;> rfl
  | z :: l, o, h1, h2, h3 => by
    have ih := from_of (l := l) (some z.id) (fun x hx => h1 x (by simp [hx])) (List.pairwise_cons.1 h2).2 (fun n hn x hx => by injection hn with hn; rw [← hn]; exact (List.pairwise_cons.1 h2).1 x hx)
    cases o with
    | none => rw [areItemsFrom, h1 z (by simp), ih]; rfl
    | some n => rw [areItemsFrom, h1 z (by simp), ih, decide_eq_true (h3 n rfl z (by simp))]; rfl
theorem areItems_of {l : List GItem} (h1 : ∀ x ∈ l, isItem x = true) (h2 : l.Pairwise (fun a b => a.id < b.id)) (h3 : l.length ≤ 16) : areItems l = true := by
  unfold areItems; rw [from_of none h1 h2 (fun n hn => by cases hn)]; simpa using h3
theorem putM_sorted {x : GItem} : ∀ {l : List GItem}, l.Pairwise (fun a b => a.id < b.id) → (∀ y ∈ l, y.id ≠ x.id) → (putM l x).Pairwise (fun a b => a.id < b.id)
  | [], _, _ => List.pairwise_singleton _ _
  | y :: l, h, hn => by
    rw [List.pairwise_cons] at h
    rw [putM]; split
    · rename_i hlt
      refine List.Pairwise.cons (fun z hz => ?_) (List.Pairwise.cons h.1 h.2)
      rcases List.mem_cons.1 hz with rfl | hz
      · exact hlt
      · have := h.1 z hz; omega
    · rename_i hlt
      refine List.Pairwise.cons (fun z hz => ?_) (putM_sorted h.2 (fun z hz => hn z (by simp [hz])))
      rcases putM_mem hz with hz | rfl
      · exact h.1 z hz
      · have := hn y (by simp); omega
theorem find_none {l : List GItem} {id : Int} (h : findIdx l id < 0) : ∀ y ∈ l, y.id ≠ id := by
  rcases findIdx_cases l id with ⟨_, hn⟩ | ⟨j, y, hf, _, _⟩
  · exact hn
  · omega
/-- what the library's sort leaves is that -/
theorem put_uniq {l ys : List GItem} {x : GItem} (hp : ys.Perm (l ++ [x])) (hs : ys.Pairwise (fun a b => a.id ≤ b.id)) (hl : l.Pairwise (fun a b => a.id < b.id)) (hn : ∀ y ∈ l, y.id ≠ x.id) : ys = putM l x := by
  have hps := putM_sorted hl hn
  refine List.Perm.eq_of_pairwise (le := fun a b : GItem => a.id ≤ b.id) (fun a b ha hb h1 h2 => ?_) hs (hps.imp (fun h => Int.le_of_lt h)) (hp.trans (putM_perm l x).symm)
  have ha' := hp.mem_iff.1 ha
  have hb' := (putM_perm l x).mem_iff.1 hb
  have e : a.id = b.id := by omega
  have key : ∀ {l : List GItem}, l.Pairwise (fun a b => a.id < b.id) → ∀ a ∈ l, ∀ b ∈ l, a.id = b.id → a = b := by
    intro l hl
    induction hl with
    | nil => intro a ha; simp at ha
    | cons h1 _ ih =>
      intro a ha b hb e
      rcases List.mem_cons.1 ha with ea | ka
      · rcases List.mem_cons.1 hb with eb | kb
        · rw [ea, eb]
        · have := h1 b kb; rw [ea] at e; omega
      · rcases List.mem_cons.1 hb with eb | kb
        · have := h1 a ka; rw [eb] at e; omega
        · exact ih a ka b kb e
  exact key hps a ((putM_perm l x).mem_iff.2 ha') b ((putM_perm l x).mem_iff.2 hb') e
theorem putM_app {x y : GItem} : ∀ {a : List GItem}, a.any (fun z => decide (x.id < z.id)) = true → putM (a ++ [y]) x = putM a x ++ [y]
  | [], h => by simp at h
  | z :: a, h => by
    rw [List.cons_append, putM, putM]
    split
    · rfl
    · rename_i hlt
      rw [List.any_cons, decide_eq_false hlt, Bool.false_or] at h
      rw [putM_app h]; rfl
theorem putM_here {x y : GItem} (hy : x.id < y.id) : ∀ {a : List GItem}, a.any (fun z => decide (x.id < z.id)) = false → putM (a ++ [y]) x = a ++ [x, y]
  | [], _ => by rw [List.nil_append, putM, if_pos hy]; rfl
  | z :: a, h => by
    rw [List.any_cons, Bool.or_eq_false_iff, decide_eq_false_iff_not] at h
    rw [List.cons_append, putM, if_neg h.1, putM_here hy h.2]; rfl
theorem putM_last {x : GItem} : ∀ {a : List GItem}, a.any (fun z => decide (x.id < z.id)) = false → putM a x = a ++ [x]
  | [], _ => rfl
  | z :: a, h => by
    rw [List.any_cons, Bool.or_eq_false_iff, decide_eq_false_iff_not] at h
    rw [putM, if_neg h.1, putM_last h.2]; rfl
def putAny (l : List GItem) (x : GItem) (k : Nat) : Bool := (l.take k).any fun z => decide (x.id < z.id)
def putTo (l : List GItem) (x : GItem) (k : Nat) : List GItem := if putAny l x k then putM (l.take k) x else l.take k
theorem putAny_succ {l : List GItem} {x y : GItem} {k : Nat} (hy : l[k]? = some y) : putAny l x (k + 1) = (putAny l x k || decide (x.id < y.id)) := by
  unfold putAny; rw [List.take_add_one, hy, List.any_append]; simp
theorem putTo_yes {l : List GItem} {x y : GItem} {k : Nat} (hy : l[k]? = some y) (h : putAny l x k = true) : putTo l x (k + 1) = putTo l x k ++ [y] := by
  unfold putTo; rw [putAny_succ hy, h, Bool.true_or, if_pos rfl, if_pos rfl, List.take_add_one, hy]; exact putM_app h
theorem putTo_here {l : List GItem} {x y : GItem} {k : Nat} (hy : l[k]? = some y) (h : putAny l x k = false) (hlt : x.id < y.id) : putTo l x (k + 1) = putTo l x k ++ [x] ++ [y] := by
  unfold putTo; rw [putAny_succ hy, h, decide_eq_true hlt, Bool.false_or, if_pos rfl, if_neg (by simp), List.take_add_one, hy, List.append_assoc]; exact putM_here hlt h
theorem putTo_no {l : List GItem} {x y : GItem} {k : Nat} (hy : l[k]? = some y) (h : putAny l x k = false) (hlt : ¬ x.id < y.id) : putTo l x (k + 1) = putTo l x k ++ [y] := by
  unfold putTo; rw [putAny_succ hy, h, decide_eq_false hlt, Bool.false_or, if_neg (by simp), if_neg (by simp), List.take_add_one, hy]; rfl
theorem putTo_end {l : List GItem} {x : GItem} {k : Nat} (hk : l.length ≤ k) : putM l x = if putAny l x k then putTo l x k else putTo l x k ++ [x] := by
  unfold putTo putAny
  rw [List.take_of_length_le hk]
  cases h : l.any (fun z => decide (x.id < z.id)) with
  | true => rfl
  | false => exact putM_last h
theorem putTo_len (l : List GItem) (x : GItem) (k : Nat) : (putTo l x k).length ≤ k + 1 := by
  unfold putTo; split
  · rw [putM_len, List.length_take]; omega
  · rw [List.length_take]; omega
/-- insert -/
def insOk (s : GStanding) (x : GItem) : Bool := isStand s && (isItem x && (decide (findIdx s.items x.id < 0) && (decide (s.items.length < 16) && decide (s.tests ≤ 999900))))
def beatTo (s : GStanding) (x : GItem) (k : Nat) : Bool := (s.best.take k).any fun id => decide (cmpBy s.wanted (itemAt s.items id) x = 1)
def keptTo (s : GStanding) (x : GItem) (k : Nat) : List Int := (s.best.take k).filter fun id => !decide (cmpBy s.wanted (itemAt s.items id) x = -1)
def insertS (s : GStanding) (x : GItem) : GStanding := ⟨putM s.items x, s.wanted, if beatTo s x s.best.length then s.best else sortI (keptTo s x s.best.length ++ [x.id]), s.tests + s.best.length⟩
def insM (s : GStanding) (x : GItem) : GStanding := if insOk s x then insertS s x else s
theorem beatTo_succ {s : GStanding} {x : GItem} {k : Nat} {id : Int} (h : s.best[k]? = some id) : beatTo s x (k + 1) = (beatTo s x k || decide (cmpBy s.wanted (itemAt s.items id) x = 1)) := by
  unfold beatTo; rw [List.take_add_one, h, List.any_append]; simp
theorem keptTo_yes {s : GStanding} {x : GItem} {k : Nat} {id : Int} (h : s.best[k]? = some id) (hc : ¬ cmpBy s.wanted (itemAt s.items id) x = -1) : keptTo s x (k + 1) = keptTo s x k ++ [id] := by
  unfold keptTo; rw [List.take_add_one, h, List.filter_append]; simp [hc]
theorem keptTo_no {s : GStanding} {x : GItem} {k : Nat} {id : Int} (h : s.best[k]? = some id) (hc : cmpBy s.wanted (itemAt s.items id) x = -1) : keptTo s x (k + 1) = keptTo s x k := by
  unfold keptTo; rw [List.take_add_one, h, List.filter_append]; simp [hc]
theorem keptTo_len (s : GStanding) (x : GItem) (k : Nat) : (keptTo s x k).length ≤ s.best.length := by
  unfold keptTo
  exact Nat.le_trans (List.length_filter_le _ _) (by rw [List.length_take]; omega)
theorem stand_best_len {s : GStanding} (h : isStand s = true) : s.best.length ≤ 16 := by
  obtain ⟨h1, h2⟩ := stand_both h
  rw [h2]
  exact Nat.le_trans (bestM_len _ _) (areItems_len (areBoth_items h1))
theorem stand_tests {s : GStanding} (h : isStand s = true) : 0 ≤ s.tests ∧ s.tests ≤ 1000000 := by
  unfold isStand at h
  simp only [Bool.and_eq_true, decide_eq_true_iff, inB] at h
  exact h.2.2
theorem insOk_parts {s : GStanding} {x : GItem} (h : insOk s x = true) : isStand s = true ∧ isItem x = true ∧ findIdx s.items x.id < 0 ∧ s.items.length < 16 ∧ s.tests ≤ 999900 := by
  unfold insOk at h
  simp only [Bool.and_eq_true, decide_eq_true_iff] at h
  exact ⟨h.1, h.2.1, h.2.2.1, h.2.2.2.1, h.2.2.2.2⟩
end Go.Proofs.Ythlaabaffbffkaa
