/- An item is taken from a standing answer: what is computed, in plain Lean. -/
import Derived.Test.YtpihighajaeabaaGreatQSortL
import Derived.Test.YtpihighajaeabaaGreatQRuleR
import Derived.Sort.OwnSortedInts
import Derived.Test.YtpihighajaeabaaGreatQWishes3
import Derived.Test.YtpihighajaeabaaGreatQOwn3
import Derived.Test.YtpihighajaeabaaGreatQItems
import Derived.Test.YtpihighajaeabaaGreatQCopyW
import Derived.Test.YtpihighajaeabaaGreatQBestS
import Derived.Test.YtpihighajaeabaaGreatQCompI
namespace Go.Proofs.YtpihighajaeabaaGreat
open Go.RowKit
set_option linter.unusedVariables false
set_option linter.unusedSimpArgs false
def sortI (l : List Int) : List Int := l.mergeSort fun x y => decide (x ≤ y)
theorem sortI_perm (l : List Int) : (sortI l).Perm l := List.mergeSort_perm l _
theorem sortI_sorted (l : List Int) : (sortI l).Pairwise (· ≤ ·) := by
  have h := List.pairwise_mergeSort (le := fun x y : Int => decide (x ≤ y)) (fun a b c h1 h2 => by simp at *; omega) (fun a b => by simp; omega) l
  exact h.imp (fun h => by simpa using h)
theorem sortI_len (l : List Int) : (sortI l).length = l.length := (sortI_perm l).length_eq
theorem all3_intsQ : ∀ {xs : List Int} {us : List (List Value)} {fs : List (List Nat)} {w : World}, all3 (fun x u f => fInt w x u f ∧ u.length = 1) xs us fs → us.flatten = xs.map (Value.int .i64) ∧ fs.flatten = []
  | [], [], [], _, _ => ⟨rfl, rfl⟩
  | x :: xs, u :: us, f :: fs, w, h => by
    have ih := all3_intsQ (xs := xs) (w := w) h.2
    obtain ⟨⟨hu, hf⟩, _⟩ := h.1
    rw [List.flatten_cons, List.flatten_cons, ih.1, ih.2, hu, hf]
    exact ⟨rfl, rfl⟩
  | [], _ :: _, _, _, h | [], [], _ :: _, _, h | _ :: _, [], _, _, h | _ :: _, _ :: _, [], _, h => h.elim
theorem fInts_own {w : World} {xs : List Int} {v : Value} {F : List Nat} (h : fInts w xs [v] F) : w.ownsRow 0 3 1 v xs.length (xs.map (Value.int .i64)) ∧ F = v.ownBlock.toList := by
  obtain ⟨v', us, Fs, e, hown, hall, hF⟩ := h
  injection e with e
  subst e
  obtain ⟨h1, h2⟩ := all3_intsQ hall
  rw [h1] at hown
  rw [h2, List.append_nil] at hF
  exact ⟨hown, hF⟩
theorem own_fInts {w : World} {xs : List Int} {v : Value} (h : w.ownsRow 0 3 1 v xs.length (xs.map (Value.int .i64))) : fInts w xs [v] v.ownBlock.toList := by
  refine ⟨v, xs.map (fun x => [Value.int .i64 x]), List.replicate xs.length [], rfl, ?_, ?_, ?_⟩
  · have : (xs.map (fun x => [Value.int .i64 x])).flatten = xs.map (Value.int .i64) := by
      clear h
      induction xs with
      | nil => rfl
      | cons x xs ih => rw [List.map_cons, List.flatten_cons, List.map_cons]; simp_all
    rw [this]; exact h
  · clear h
    induction xs with
    | nil => trivial
    | cons x xs ih => exact ⟨⟨⟨rfl, rfl⟩, rfl⟩, ih⟩
  · rw [flatten_replicate_nil, List.append_nil]
/-- what a sort leaves -/
def RetSort (w : World) (xs : List Int) (v : Value) (F : List Nat) (e : Ending) (w' : World) : Prop := e = .returned (.tuple #[]) ∧ fInts w' (sortI xs) [v] F ∧ Only F w w' ∧ ∀ w0 : World, Bw w0 w → (∀ b ∈ F, w0.heap.size ≤ b) → Bw w0 w'
set_option maxRecDepth 100000 in
theorem I_Sort (w : World) (xs : List Int) (g c : Nat) (F : List Nat) (h : fInts w xs [.slice (some ⟨g, 0, none⟩) xs.length c] F) (hn : xs.length ≤ 1048576) :
    Calls Tryz.prog 79 #[.slice (some ⟨g, 0, none⟩) xs.length c] w (RetSort w xs (.slice (some ⟨g, 0, none⟩) xs.length c) F) := by
  obtain ⟨hown, rfl⟩ := fInts_own h
  rcases hown.2 with ⟨h0, _⟩ | ⟨g', cap, cur, hv, hbase, hb, h1, h2, h3, h4⟩
  · cases h0
  injection hv with hv1 hv2 hv3
  injection hv1 with hv1
  injection hv1 with hv1
  subst hv1 hv3
  have hcon := AnyM.slices_Sort_int layInts g 0 c xs w (Go.holds_of_blockI hb (by simpa using h4)) (Array.getElem?_eq_some_iff.1 hb).1 (by omega)
  change Calls Tryz.prog 79 _ _ _ at hcon
  refine hcon.mono ?_
  rintro e w' ⟨rfl, n, os, rfl⟩
  have hlen : (xs.mergeSort fun x y => decide (x ≤ y)).length = xs.length := by simp
  have ho := Go.ownsRow_sortedI (base := 0) (n := n) (os := os) hlen hbase hb h1 h2 h3
  have hg := Go.grownBy_sortedI (w := w) (g := g) (n := n) (os := os) (xs.mergeSort fun x y => decide (x ≤ y)).toArray
  refine ⟨rfl, ?_, Only.of_grown hg hg.size (by simp [Value.ownBlock]), fun w0 hbw hF => hbw.grown hg (fun k hk => hF k (by simpa [Value.ownBlock] using hk.symm))⟩
  have := own_fInts (w := Go.Sort.grow (Go.Sort.putRow (Value.int .i64) (Go.Sort.ahead w n) g 0 (xs.mergeSort fun x y => decide (x ≤ y)).toArray) os) (xs := sortI xs) (v := .slice (some ⟨g, 0, none⟩) xs.length c) (by rw [sortI_len]; exact ho)
  exact this
end Go.Proofs.YtpihighajaeabaaGreat

namespace Go.Proofs.YtpihighajaeabaaGreat
open Go.RowKit
set_option linter.unusedVariables false
set_option linter.unusedSimpArgs false
def fStanding : Fp GStanding := fun w x cs F => ∃ va vb vc Fa Fb Fc, cs = [va, vb, vc, .int .i64 x.tests] ∧ fItems w x.items [va] Fa ∧ fNodes w x.wanted [vb] Fb ∧ fInts w x.best [vc] Fc ∧ F = Fa ++ (Fb ++ Fc)
end Go.Proofs.YtpihighajaeabaaGreat

namespace Go.Proofs.YtpihighajaeabaaGreat
open Go.RowKit
set_option linter.unusedVariables false
end Go.Proofs.YtpihighajaeabaaGreat

namespace Go.Proofs.YtpihighajaeabaaGreat
open Go.RowKit
set_option linter.unusedVariables false
end Go.Proofs.YtpihighajaeabaaGreat

namespace Go.Proofs.YtpihighajaeabaaGreat
open Go.RowKit
set_option linter.unusedVariables false
end Go.Proofs.YtpihighajaeabaaGreat

namespace Go.Proofs.YtpihighajaeabaaGreat
open Go.RowKit
set_option linter.unusedVariables false
end Go.Proofs.YtpihighajaeabaaGreat

namespace Go.Proofs.YtpihighajaeabaaGreat
open Go.RowKit
set_option linter.unusedVariables false
set_option linter.unusedSimpArgs false
theorem fStanding_good {B : Nat} : GoodF B fStanding :=
  ⟨fun hw ⟨v, u, t, G, H, I, e, h, k, l, hF⟩ => ⟨v, u, t, G, H, I, e, fItems_good.step (fun b hb => hw b (hb.imp (fun hb => by rw [hF]; exact List.mem_append_left _ hb) id)) h, fNodes_good.step (fun b hb => hw b (hb.imp (fun hb => by rw [hF]; exact List.mem_append_right _ (List.mem_append_left _ hb)) id)) k, fInts_good.step (fun b hb => hw b (hb.imp (fun hb => by rw [hF]; exact List.mem_append_right _ (List.mem_append_right _ hb)) id)) l, hF⟩,
   fun ⟨v, u, t, G, H, I, e, h, k, l, hF⟩ b hb => by
    rw [hF] at hb
    exact (List.mem_append.1 hb).elim ((fItems_good (B := B)).lt h b) fun hb => (List.mem_append.1 hb).elim ((fNodes_good (B := B)).lt k b) ((fInts_good (B := B)).lt l b),
   fun ⟨v, u, t, G, H, I, e, h, k, l, hF⟩ s hs => by
    rw [e] at hs
    simp at hs
    rcases hs with rfl | rfl | rfl | rfl
    · exact (fItems_good (B := B)).one h _ (by simp)
    · exact (fNodes_good (B := B)).one k _ (by simp)
    · exact (fInts_good (B := B)).one l _ (by simp)
    · rfl⟩
theorem fStanding_Rds {w : World} {x : GStanding} {a b c d : Value} {F : List Nat} (h : fStanding w x [a, b, c, d] F) : Rd rItems w x.items [a] ∧ Rd rNodes w x.wanted [b] ∧ Rd rInts w x.best [c] ∧ d = .int .i64 x.tests := by
  obtain ⟨v, u, t, G, H, I, e, h, k, l, hF⟩ := h
  injection e with e1 e; injection e with e2 e; injection e with e3 e; injection e with e4 e
  subst e1 e2 e3 e4
  exact ⟨fItems_Rd h, fNodes_Rd k, fInts_Rd l, rfl⟩
theorem fStanding_shape {w : World} {x : GStanding} {cs : List Value} {F : List Nat} (h : fStanding w x cs F) : ∃ A1 c1 A2 c2 A3 c3, cs = [.slice A1 x.items.length c1, .slice A2 x.wanted.length c2, .slice A3 x.best.length c3, .int .i64 x.tests] := by
  obtain ⟨v, u, t, G, H, I, e, h, k, l, hF⟩ := h
  obtain ⟨A1, c1, rfl, _⟩ := rSl_shape (fItems_Rd h)
  obtain ⟨A2, c2, rfl, _⟩ := rSl_shape (fNodes_Rd k)
  obtain ⟨A3, c3, rfl, _⟩ := rSl_shape (fInts_Rd l)
  exact ⟨A1, c1, A2, c2, A3, c3, e⟩
def smallSt (x : GStanding) : Prop := totItems x.items ≤ 1048576 ∧ totNodes x.wanted ≤ 1048576 ∧ x.best.length ≤ 1048576
end Go.Proofs.YtpihighajaeabaaGreat

namespace Go.Proofs.YtpihighajaeabaaGreat
open Go.RowKit
set_option linter.unusedVariables false
set_option linter.unusedSimpArgs false
/-- a struct and one more -/
def TwoA {α : Type} (f : Fp α) (B : Nat) (x : α) (z : Value) (w : World) (u : Value) : Prop := ∃ cs, u = .tuple #[.agg cs.toArray, z] ∧ ∃ F, f w x cs F ∧ Fresh B F
def newSt (l : List GItem) (e : List GNode) : GStanding := if areBoth l e then ⟨l, e, bestItems l e, 0⟩ else ⟨[], [], [], 0⟩
theorem newSt_yes {l : List GItem} {e : List GNode} (h : areBoth l e = true) : newSt l e = ⟨l, e, bestItems l e, 0⟩ := by unfold newSt; rw [h]; rfl
theorem newSt_no {l : List GItem} {e : List GNode} (h : areBoth l e = false) : newSt l e = ⟨[], [], [], 0⟩ := by unfold newSt; rw [h]; rfl
theorem bestItems_len (l : List GItem) (e : List GNode) : (bestItems l e).length ≤ l.length := by
  unfold bestItems; split
  · exact bestM_len l e
  · exact Nat.zero_le _
theorem newSt_small {l : List GItem} {e : List GNode} (h1 : totItems l ≤ 1048576) (h2 : totNodes e ≤ 1048576) : smallSt (newSt l e) := by
  unfold newSt smallSt; split
  · refine ⟨h1, h2, ?_⟩
    have h3 := bestItems_len l e
    unfold totItems at h1
    dsimp only; omega
  · simp [totItems, totNodes, sumL]
theorem fSt_none (w : World) : fStanding w ⟨[], [], [], 0⟩ [.slice none 0 0, .slice none 0 0, .slice none 0 0, .int .i64 0] [] :=
  ⟨_, _, _, [], [], [], rfl, ⟨_, [], [], rfl, World.ownsRow_nil _ _ _ _, trivial, by simp [Value.ownBlock]⟩, ⟨_, [], [], rfl, World.ownsRow_nil _ _ _ _, trivial, by simp [Value.ownBlock]⟩, ⟨_, [], [], rfl, World.ownsRow_nil _ _ _ _, trivial, by simp [Value.ownBlock]⟩, rfl⟩
theorem best_both {l : List GItem} {e : List GNode} (h : areBoth l e = true) : bestM l e = bestItems l e := by unfold bestItems; rw [h]; rfl
set_option maxRecDepth 100000 in
set_option maxHeartbeats 1600000 in
theorem I_NewStanding (w : World) (l : List GItem) (e : List GNode) (v u : Value) (h : Rd rItems w l [v]) (h' : Rd rNodes w e [u]) (t1 : totItems l ≤ 1048576) (t2 : totNodes e ≤ 1048576) :
    Calls Tryz.prog 25 #[v, u] w (RetV w (TwoA fStanding w.heap.size (newSt l e) (.bool (areBoth l e)))) := by
  have A0 : Bw w (w.alloc (.cells #[.slice none 0 0, .slice none 0 0, .slice none 0 0, .int .i64 0] 28)) := (Bw.refl w).alloc _
  obtain ⟨Y, hY⟩ : ∃ Y, Y = newSt l e := ⟨_, rfl⟩
  obtain ⟨Z, hZ⟩ : ∃ Z, Z = areBoth l e := ⟨_, rfl⟩
  rw [← hY, ← hZ]
  have HY := Lib.hid hY
  have HZ := Lib.hid hZ
  clear hY hZ
  go_enter Tryz.func25, Tryz.ntmps25
  go_wp2_with fail
  refine (I_areBoth _ l e _ _ (h.bw rItems_good A0) (h'.bw rNodes_good A0)).mono ?_
  rintro e w1 ⟨rfl, hb1⟩
  have B1 := A0.then hb1
  have r0 : w1.cell? ⟨w.heap.size, 0, none⟩ = some (.slice none 0 0) := hb1.cell (by go_simp)
  have r1 : w1.cell? ⟨w.heap.size, 1, none⟩ = some (.slice none 0 0) := hb1.cell (by go_simp)
  have r2 : w1.cell? ⟨w.heap.size, 2, none⟩ = some (.slice none 0 0) := hb1.cell (by go_simp)
  have r3 : w1.cell? ⟨w.heap.size, 3, none⟩ = some (.int .i64 0) := hb1.cell (by go_simp)
  have hf1 : ∀ o, w1.frozen? ⟨w.heap.size, o, none⟩ = false := fun o => by rw [bw_frozen hb1 _ _ (by first | (simp; done) | (simp; omega))]; go_simp
  rcases Bool.eq_false_or_eq_true (areBoth l e) with e1 | e1
  · have E1 := Lib.hid e1
    rw [e1]
    clear e1
    go_wp2_with fail
    refine (I_copyItems _ l _ (h.bw rItems_good B1) t1).mono ?_
    rintro e w2 ⟨v2, rfl, ⟨F2, o2, f2⟩, hb2⟩
    have B2 := B1.then hb2
    obtain ⟨A2, c2, rfl, _⟩ := rSl_shape (fItems_Rd o2)
    go_wp2_with fail
    refine (I_copyNodes _ e _ (h'.bw rNodes_good B2) t2).mono ?_
    rintro e w3 ⟨v3, rfl, ⟨F3, o3, f3⟩, hb3⟩
    have B3 := B2.then hb3
    obtain ⟨A3, c3, rfl, _⟩ := rSl_shape (fNodes_Rd o3)
    go_wp2_with fail
    refine (I_BestItems _ l e _ _ (h.bw rItems_good B3) (h'.bw rNodes_good B3)).mono ?_
    rintro e w4 ⟨v4, rfl, ⟨F4, o4, f4⟩, hb4⟩
    skip
    obtain ⟨A4, c4, rfl, _⟩ := rSl_shape (fInts_Rd o4)
    have hbb := (hb2.then hb3).then hb4
    replace r0 := hbb.cell r0
    replace r1 := hbb.cell r1
    replace r2 := hbb.cell r2
    replace r3 := hbb.cell r3
    have hz1 : w.heap.size + 1 ≤ w1.heap.size := by have := hb1.size; simpa using this
    have hf4 : ∀ o, w4.frozen? ⟨w.heap.size, o, none⟩ = false := fun o => (bw_frozen hbb w.heap.size o (by omega)).trans (hf1 o)
    have lt2 := (fItems_good (B := 0)).lt o2
    have lt3 := (fNodes_good (B := 0)).lt o3
    have z2 := hb2.size
    have z3 := hb3.size
    have z4 := hb4.size
    have f2z : ∀ b ∈ F2, w.heap.size + 1 ≤ b := fun b hb => by have := f2.ge b hb; omega
    have f3z : ∀ b ∈ F3, w.heap.size + 1 ≤ b := fun b hb => by have := f3.ge b hb; omega
    have f4z : ∀ b ∈ F4, w.heap.size + 1 ≤ b := fun b hb => by have := f4.ge b hb; omega
    have o2' := (fItems_good (B := 0)).bw (hb3.then hb4) (Nat.zero_le _) o2
    have o3' := (fNodes_good (B := 0)).bw hb4 (Nat.zero_le _) o3
    have FF : Fresh w.heap.size (F2 ++ (F3 ++ F4)) := Fresh.append (m := w2.heap.size) (f2.mono (by omega)) lt2 (Fresh.append (m := w3.heap.size) f3 lt3 f4 (by omega)) (by omega)
    have B4 := B3.then hb4
    have HYY := Lib.hid (HY.out.trans (newSt_yes E1.out))
    have HZZ := Lib.hid (HZ.out.trans E1.out)
    clear HY HZ hb1 hb2 hb3 hb4 hf1 f2 f3 f4 lt2 lt3 hbb B1 B2 B3
    go_wp2
    obtain rfl := HYY.out
    obtain rfl := HZZ.out
    refine bodyPost_ret (v := .tuple #[.agg #[.slice A2 l.length c2, .slice A3 e.length c3, .slice A4 (bestItems l e).length c4, .int .i64 0], .bool true]) (by simp [results, Tryz.results25, go_sem, r0, r1, r2, r3]) rfl ⟨_, rfl, ⟨[.slice A2 l.length c2, .slice A3 e.length c3, .slice A4 (bestItems l e).length c4, .int .i64 0], rfl, F2 ++ (F3 ++ F4), ⟨_, _, _, F2, F3, F4, rfl, ?_, ?_, ?_, rfl⟩, FF⟩, ?_⟩
    · refine (fItems_good (B := 0)).step (fun b hb => ?_) o2'
      rcases hb with hb | hb
      · have := f2z b hb
        repeat rw [Below.heap_setCell _ _ _ _ (by dsimp only; omega)]
      · omega
    · refine (fNodes_good (B := 0)).step (fun b hb => ?_) o3'
      rcases hb with hb | hb
      · have := f3z b hb
        repeat rw [Below.heap_setCell _ _ _ _ (by dsimp only; omega)]
      · omega
    · refine (fInts_good (B := 0)).step (fun b hb => ?_) o4
      rcases hb with hb | hb
      · have := f4z b hb
        repeat rw [Below.heap_setCell _ _ _ _ (by dsimp only; omega)]
      · omega
    · repeat (first | with_reducible exact B4 | with_reducible refine Bw.set ?_ ?_ _)
      all_goals (dsimp only; omega)
  · have E1 := Lib.hid e1
    rw [e1]
    clear e1
    have HYY := Lib.hid (HY.out.trans (newSt_no E1.out))
    have HZZ := Lib.hid (HZ.out.trans E1.out)
    clear HY HZ
    go_wp2
    obtain rfl := HYY.out
    obtain rfl := HZZ.out
    refine bodyPost_ret (v := .tuple #[.agg #[.slice none 0 0, .slice none 0 0, .slice none 0 0, .int .i64 0], .bool false]) (by simp [results, Tryz.results25, go_sem, r0, r1, r2, r3]) rfl ⟨_, rfl, ⟨[.slice none 0 0, .slice none 0 0, .slice none 0 0, .int .i64 0], rfl, [], fSt_none _, Fresh.nil⟩, ?_⟩
    repeat (first | with_reducible exact B1 | with_reducible refine Bw.set ?_ ?_ _)
    all_goals (dsimp only; omega)
end Go.Proofs.YtpihighajaeabaaGreat

namespace Go.Proofs.YtpihighajaeabaaGreat
open Go.RowKit
set_option linter.unusedVariables false
set_option linter.unusedSimpArgs false
/-- an item is put in its place -/
def putM : List GItem → GItem → List GItem
  | [], x => [x]
  | y :: l, x => if x.id < y.id then x :: y :: l else y :: putM l x
theorem putM_len : ∀ (l : List GItem) (x : GItem), (putM l x).length = l.length + 1
  | [], x => rfl
  | y :: l, x => by
    rw [putM]; split
    · simp
    · rw [List.length_cons, putM_len l x, List.length_cons]
theorem putM_perm : ∀ (l : List GItem) (x : GItem), (putM l x).Perm (l ++ [x])
  | [], x => List.Perm.refl _
  | y :: l, x => by
    rw [putM]; split
    · exact (List.perm_append_comm (l₁ := [x]) (l₂ := y :: l))
    · exact (putM_perm l x).cons y
theorem putM_mem {l : List GItem} {x z : GItem} (h : z ∈ putM l x) : z ∈ l ∨ z = x := by
  have := (putM_perm l x).mem_iff.1 h
  simpa using this
theorem from_le {l : List GItem} {o : Option Int} (h : areItemsFrom o l = true) : l.Pairwise (fun a b => a.id < b.id) := by
  induction l generalizing o with
  | nil => exact List.Pairwise.nil
  | cons z l ih =>
    have h2 : areItemsFrom (some z.id) l = true := by
      cases o <;> simp only [areItemsFrom, Bool.and_eq_true] at h <;> exact h.2
    exact List.Pairwise.cons (fun y hy => from_gt h2 y hy) (ih h2)
theorem items_sorted {l : List GItem} (h : areItems l = true) : l.Pairwise (fun a b => a.id < b.id) := by
  unfold areItems at h; rw [Bool.and_eq_true] at h; exact from_le h.1
theorem from_of : ∀ {l : List GItem} (o : Option Int), (∀ x ∈ l, isItem x = true) → l.Pairwise (fun a b => a.id < b.id) → (∀ n, o = some n → ∀ x ∈ l, n < x.id) → areItemsFrom o l = true
  | [], o, _, _, _ => by cases o <;> rfl
  | z :: l, o, h1, h2, h3 => by
    have ih := from_of (l := l) (some z.id) (fun x hx => h1 x (by simp [hx])) (List.pairwise_cons.1 h2).2 (fun n hn x hx => by injection hn with hn; rw [← hn]; exact (List.pairwise_cons.1 h2).1 x hx)
    cases o with
    | none => rw [areItemsFrom, h1 z (by simp), ih]; rfl
    | some n => rw [areItemsFrom, h1 z (by simp), ih, decide_eq_true (h3 n rfl z (by simp))]; rfl
theorem areItems_of {l : List GItem} (h1 : ∀ x ∈ l, isItem x = true) (h2 : l.Pairwise (fun a b => a.id < b.id)) (h3 : l.length ≤ 16) : areItems l = true := by
  unfold areItems; rw [from_of none h1 h2 (fun n hn => by cases hn)]; simpa using h3
theorem putM_sorted {x : GItem} : ∀ {l : List GItem}, l.Pairwise (fun a b => a.id < b.id) → (∀ y ∈ l, y.id ≠ x.id) → (putM l x).Pairwise (fun a b => a.id < b.id)
  | [], _, _ => List.pairwise_singleton _ _
  | y :: l, h, hn => by
    rw [List.pairwise_cons] at h
    rw [putM]; split
    · rename_i hlt
      refine List.Pairwise.cons (fun z hz => ?_) (List.Pairwise.cons h.1 h.2)
      rcases List.mem_cons.1 hz with rfl | hz
      · exact hlt
      · have := h.1 z hz; omega
    · rename_i hlt
      refine List.Pairwise.cons (fun z hz => ?_) (putM_sorted h.2 (fun z hz => hn z (by simp [hz])))
      rcases putM_mem hz with hz | rfl
      · exact h.1 z hz
      · have := hn y (by simp); omega
theorem find_none {l : List GItem} {id : Int} (h : findIdx l id < 0) : ∀ y ∈ l, y.id ≠ id := by
  rcases findIdx_cases l id with ⟨_, hn⟩ | ⟨j, y, hf, _, _⟩
  · exact hn
  · omega
/-- what the library's sort leaves is that -/
theorem put_uniq {l ys : List GItem} {x : GItem} (hp : ys.Perm (l ++ [x])) (hs : ys.Pairwise (fun a b => a.id ≤ b.id)) (hl : l.Pairwise (fun a b => a.id < b.id)) (hn : ∀ y ∈ l, y.id ≠ x.id) : ys = putM l x := by
  have hps := putM_sorted hl hn
  refine List.Perm.eq_of_pairwise (le := fun a b : GItem => a.id ≤ b.id) (fun a b ha hb h1 h2 => ?_) hs (hps.imp (fun h => Int.le_of_lt h)) (hp.trans (putM_perm l x).symm)
  have ha' := hp.mem_iff.1 ha
  have hb' := (putM_perm l x).mem_iff.1 hb
  have e : a.id = b.id := by omega
  have key : ∀ {l : List GItem}, l.Pairwise (fun a b => a.id < b.id) → ∀ a ∈ l, ∀ b ∈ l, a.id = b.id → a = b := by
    intro l hl
    induction hl with
    | nil => intro a ha; simp at ha
    | cons h1 _ ih =>
      intro a ha b hb e
      rcases List.mem_cons.1 ha with ea | ka
      · rcases List.mem_cons.1 hb with eb | kb
        · rw [ea, eb]
        · have := h1 b kb; rw [ea] at e; omega
      · rcases List.mem_cons.1 hb with eb | kb
        · have := h1 a ka; rw [eb] at e; omega
        · exact ih a ka b kb e
  exact key hps a ((putM_perm l x).mem_iff.2 ha') b ((putM_perm l x).mem_iff.2 hb') e
/-- insert -/
def insOk (s : GStanding) (x : GItem) : Bool := isStand s && (isItem x && (decide (findIdx s.items x.id < 0) && (decide (s.items.length < 16) && decide (s.tests ≤ 999900))))
def beatTo (s : GStanding) (x : GItem) (k : Nat) : Bool := (s.best.take k).any fun id => decide (cmpBy s.wanted (itemAt s.items id) x = 1)
def keptTo (s : GStanding) (x : GItem) (k : Nat) : List Int := (s.best.take k).filter fun id => !decide (cmpBy s.wanted (itemAt s.items id) x = -1)
def insertS (s : GStanding) (x : GItem) : GStanding := ⟨putM s.items x, s.wanted, if beatTo s x s.best.length then s.best else sortI (keptTo s x s.best.length ++ [x.id]), s.tests + s.best.length⟩
def insM (s : GStanding) (x : GItem) : GStanding := if insOk s x then insertS s x else s
theorem beatTo_succ {s : GStanding} {x : GItem} {k : Nat} {id : Int} (h : s.best[k]? = some id) : beatTo s x (k + 1) = (beatTo s x k || decide (cmpBy s.wanted (itemAt s.items id) x = 1)) := by
  unfold beatTo; rw [List.take_add_one, h, List.any_append]; simp
theorem keptTo_yes {s : GStanding} {x : GItem} {k : Nat} {id : Int} (h : s.best[k]? = some id) (hc : ¬ cmpBy s.wanted (itemAt s.items id) x = -1) : keptTo s x (k + 1) = keptTo s x k ++ [id] := by
  unfold keptTo; rw [List.take_add_one, h, List.filter_append]; simp [hc]
theorem keptTo_no {s : GStanding} {x : GItem} {k : Nat} {id : Int} (h : s.best[k]? = some id) (hc : cmpBy s.wanted (itemAt s.items id) x = -1) : keptTo s x (k + 1) = keptTo s x k := by
  unfold keptTo; rw [List.take_add_one, h, List.filter_append]; simp [hc]
theorem keptTo_len (s : GStanding) (x : GItem) (k : Nat) : (keptTo s x k).length ≤ s.best.length := by
  unfold keptTo
  exact Nat.le_trans (List.length_filter_le _ _) (by rw [List.length_take]; omega)
theorem stand_best_len {s : GStanding} (h : isStand s = true) : s.best.length ≤ 16 := by
  obtain ⟨h1, h2⟩ := stand_both h
  rw [h2]
  exact Nat.le_trans (bestM_len _ _) (areItems_len (areBoth_items h1))
theorem stand_tests {s : GStanding} (h : isStand s = true) : 0 ≤ s.tests ∧ s.tests ≤ 1000000 := by
  unfold isStand at h
  simp only [Bool.and_eq_true, decide_eq_true_iff, inB] at h
  exact h.2.2
theorem insOk_parts {s : GStanding} {x : GItem} (h : insOk s x = true) : isStand s = true ∧ isItem x = true ∧ findIdx s.items x.id < 0 ∧ s.items.length < 16 ∧ s.tests ≤ 999900 := by
  unfold insOk at h
  simp only [Bool.and_eq_true, decide_eq_true_iff] at h
  exact ⟨h.1, h.2.1, h.2.2.1, h.2.2.2.1, h.2.2.2.2⟩
end Go.Proofs.YtpihighajaeabaaGreat

namespace Go.Proofs.YtpihighajaeabaaGreat
open Go.RowKit
set_option linter.unusedVariables false
def delOk (s : GStanding) (id : Int) : Bool := isStand s && (decide (0 ≤ findIdx s.items id) && decide (s.tests ≤ 999900))
def delLeft (s : GStanding) (id : Int) : List Int := s.best.filter fun b => !decide (b = id)
def delNew (s : GStanding) (id : Int) : List Int := bestM (onlyM s.items (exclM s id) true) s.wanted
def delS (s : GStanding) (id : Int) : GStanding := if s.best.contains id then ⟨onlyM s.items [id] false, s.wanted, sortI (delLeft s id ++ delNew s id), s.tests + ((exclM s id).length : Int)⟩ else ⟨onlyM s.items [id] false, s.wanted, s.best, s.tests⟩
def delM (s : GStanding) (id : Int) : GStanding := if delOk s id then delS s id else s
theorem delOk_parts {s : GStanding} {id : Int} (h : delOk s id = true) : isStand s = true ∧ 0 ≤ findIdx s.items id ∧ s.tests ≤ 999900 := by
  unfold delOk at h
  simp only [Bool.and_eq_true, decide_eq_true_iff] at h
  exact h
theorem delLeft_len (s : GStanding) (id : Int) : (delLeft s id).length ≤ s.best.length := List.length_filter_le _ _
theorem ids_sorted {l : List GItem} (h : areItems l = true) : (l.map (·.id)).Pairwise (· < ·) := List.pairwise_map.2 (items_sorted h)
theorem same_id {l : List GItem} (h : areItems l = true) {x y : GItem} (hx : x ∈ l) (hy : y ∈ l) (e : x.id = y.id) : x = y := by rw [← itemAt_mem h hx, ← itemAt_mem h hy, e]
theorem split_at {α : Type} {l : List α} {k : Nat} {x : α} (h : l[k]? = some x) : l = l.take k ++ x :: l.drop (k + 1) := by
  have h1 := List.take_append_drop k l
  rw [drop_cons h] at h1
  exact h1.symm
theorem without_items {l : List GItem} (h : areItems l = true) {id : Int} {k : Nat} (hk : findIdx l id = (k : Int)) : onlyM l [id] false = l.take k ++ l.drop (k + 1) := by
  rcases findIdx_cases l id with ⟨h1, _⟩ | ⟨j, x, h1, h2, h3⟩
  · omega
  · obtain rfl : j = k := by omega
    have hs := split_at h2
    have hp := items_sorted h
    rw [hs, List.pairwise_append, List.pairwise_cons] at hp
    unfold onlyM
    conv => lhs; rw [hs]
    rw [List.filter_append, List.filter_cons]
    have e0 : ([id].contains x.id == false) = false := by simp [h3]
    rw [e0]
    have e1 : (l.take j).filter (fun x => [id].contains x.id == false) = l.take j := List.filter_eq_self.2 (fun y hy => by
      have := hp.2.2 y hy x (by simp)
      have h4 : y.id ≠ id := by omega
      simp [h4])
    have e2 : (l.drop (j + 1)).filter (fun x => [id].contains x.id == false) = l.drop (j + 1) := List.filter_eq_self.2 (fun y hy => by
      have := hp.2.1.1 y hy
      have h4 : y.id ≠ id := by omega
      simp [h4])
    rw [e1, e2]; rfl
theorem idxI_at {x : Int} : ∀ {l : List Int} {i : Nat} {k : Int}, idxI x l i = k → 0 ≤ k → ∃ j : Nat, k = ((i + j : Nat) : Int) ∧ l[j]? = some x
  | [], i, k, h, h0 => by unfold idxI at h; omega
  | y :: l, i, k, h, h0 => by
    unfold idxI at h
    split at h
    · rename_i e; exact ⟨0, by omega, by simp [e]⟩
    · obtain ⟨j, e1, e2⟩ := idxI_at h h0
      exact ⟨j + 1, by omega, by simpa using e2⟩
theorem without_int {l : List Int} (h : l.Nodup) {x : Int} {k : Nat} (hk : l[k]? = some x) : l.filter (fun b => !decide (b = x)) = l.take k ++ l.drop (k + 1) := by
  have hs := split_at hk
  rw [hs, List.nodup_append, List.nodup_cons] at h
  conv => lhs; rw [hs]
  rw [List.filter_append, List.filter_cons]
  have e0 : (!decide (x = x)) = false := by simp
  rw [e0]
  have e1 : (l.take k).filter (fun b => !decide (b = x)) = l.take k := List.filter_eq_self.2 (fun y hy => by
    have := h.2.2 y hy x (by simp)
    simp [this])
  have e2 : (l.drop (k + 1)).filter (fun b => !decide (b = x)) = l.drop (k + 1) := List.filter_eq_self.2 (fun y hy => by
    have h4 : y ≠ x := fun e => h.2.1.1 (e ▸ hy)
    simp [h4])
  rw [e1, e2]; rfl
theorem best_nodup {s : GStanding} (h : isStand s = true) : s.best.Nodup := by
  obtain ⟨h1, h2⟩ := stand_both h
  rw [h2]
  unfold bestM
  have h3 := ids_sorted (areBoth_items h1)
  have h4 : ((s.items.filter (freeIn s.items s.wanted)).map (·.id)).Pairwise (· < ·) := h3.sublist ((List.filter_sublist).map _)
  exact h4.imp (fun h => by omega)
theorem without_best {s : GStanding} (h : isStand s = true) {id : Int} {k : Nat} (hk : s.best[k]? = some id) : delLeft s id = s.best.take k ++ s.best.drop (k + 1) := without_int (best_nodup h) hk
theorem onlyM_sub {l : List GItem} (ids : List Int) (b : Bool) : (onlyM l ids b).Sublist l := List.filter_sublist
theorem onlyM_items {l : List GItem} (h : areItems l = true) (ids : List Int) (b : Bool) : areItems (onlyM l ids b) = true :=
  areItems_of (fun x hx => areItems_mem h ((onlyM_sub ids b).subset hx)) ((items_sorted h).sublist (onlyM_sub ids b)) (Nat.le_trans (onlyM_len l ids b) (areItems_len h))
theorem delNew_len {s : GStanding} (h : areItems s.items = true) (id : Int) : (delNew s id).length ≤ 16 := by
  unfold delNew
  exact Nat.le_trans (bestM_len _ _) (Nat.le_trans (onlyM_len _ _ _) (areItems_len h))
end Go.Proofs.YtpihighajaeabaaGreat
