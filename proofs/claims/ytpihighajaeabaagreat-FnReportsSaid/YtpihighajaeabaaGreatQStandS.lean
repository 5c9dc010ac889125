/- Standing answers that change: the reference's helpers. -/
import Derived.Test.YtpihighajaeabaaGreatProg
import Derived.Shelf.SortM.Plain
import Derived.Shelf.SlSortCmp.WholeK
import Derived.Test.YtpihighajaeabaaGreatQBoxT
import Derived.Sort.OwnSortedInts
import Derived.Test.YtpihighajaeabaaGreatQExclS
import Derived.Test.YtpihighajaeabaaGreatQChangeM
import Derived.Test.YtpihighajaeabaaGreatQDrawD
namespace Go.Proofs.YtpihighajaeabaaGreat
open Go.Shelf
set_option linter.unusedVariables false
end Go.Proofs.YtpihighajaeabaaGreat

namespace Go.Proofs.YtpihighajaeabaaGreat
open Go.RowKit
set_option linter.unusedVariables false
set_option linter.unusedSimpArgs false
def sortI (l : List Int) : List Int := l.mergeSort fun x y => decide (x ≤ y)
theorem sortI_perm (l : List Int) : (sortI l).Perm l := List.mergeSort_perm l _
theorem sortI_sorted (l : List Int) : (sortI l).Pairwise (· ≤ ·) := by
  have h := List.pairwise_mergeSort (le := fun x y : Int => decide (x ≤ y)) (fun a b c h1 h2 => by simp at *; omega) (fun a b => by simp; omega) l
  exact h.imp (fun h => by simpa using h)
theorem sortI_len (l : List Int) : (sortI l).length = l.length := (sortI_perm l).length_eq
theorem sortI_uniq {l m : List Int} (hp : m.Perm l) (hs : m.Pairwise (· ≤ ·)) : m = sortI l :=
  List.Perm.eq_of_pairwise (fun a b _ _ h1 h2 => by omega) hs (sortI_sorted l) (hp.trans (sortI_perm l).symm)
end Go.Proofs.YtpihighajaeabaaGreat

namespace Go.Proofs.YtpihighajaeabaaGreat
open Go.RowKit
set_option linter.unusedVariables false
set_option linter.unusedSimpArgs false
/-- an item is put in its place -/
def putM : List GItem → GItem → List GItem
  | [], x => [x]
  | y :: l, x => if x.id < y.id then x :: y :: l else y :: putM l x
theorem putM_len : ∀ (l : List GItem) (x : GItem), (putM l x).length = l.length + 1
  | [], x => rfl
  | y :: l, x => by
    rw [putM]; split
    · simp
    · rw [List.length_cons, putM_len l x, List.length_cons]
theorem putM_perm : ∀ (l : List GItem) (x : GItem), (putM l x).Perm (l ++ [x])
  | [], x => List.Perm.refl _
  | y :: l, x => by
    rw [putM]; split
    · exact (List.perm_append_comm (l₁ := [x]) (l₂ := y :: l))
    · exact (putM_perm l x).cons y
theorem putM_mem {l : List GItem} {x z : GItem} (h : z ∈ putM l x) : z ∈ l ∨ z = x := by
  have := (putM_perm l x).mem_iff.1 h
  simpa using this
theorem from_le {l : List GItem} {o : Option Int} (h : areItemsFrom o l = true) : l.Pairwise (fun a b => a.id < b.id) := by
  induction l generalizing o with
  | nil => exact List.Pairwise.nil
  | cons z l ih =>
    have h2 : areItemsFrom (some z.id) l = true := by
      cases o <;> simp only [areItemsFrom, Bool.and_eq_true] at h <;> exact h.2
    exact List.Pairwise.cons (fun y hy => from_gt h2 y hy) (ih h2)
theorem items_sorted {l : List GItem} (h : areItems l = true) : l.Pairwise (fun a b => a.id < b.id) := by
  unfold areItems at h; rw [Bool.and_eq_true] at h; exact from_le h.1
theorem from_of : ∀ {l : List GItem} (o : Option Int), (∀ x ∈ l, isItem x = true) → l.Pairwise (fun a b => a.id < b.id) → (∀ n, o = some n → ∀ x ∈ l, n < x.id) → areItemsFrom o l = true
  | [], o, _, _, _ => by cases o <;> rfl
  | z :: l, o, h1, h2, h3 => by
    have ih := from_of (l := l) (some z.id) (fun x hx => h1 x (by simp [hx])) (List.pairwise_cons.1 h2).2 (fun n hn x hx => by injection hn with hn; rw [← hn]; exact (List.pairwise_cons.1 h2).1 x hx)
    cases o with
    | none => rw [areItemsFrom, h1 z (by simp), ih]; rfl
    | some n => rw [areItemsFrom, h1 z (by simp), ih, decide_eq_true (h3 n rfl z (by simp))]; rfl
theorem areItems_of {l : List GItem} (h1 : ∀ x ∈ l, isItem x = true) (h2 : l.Pairwise (fun a b => a.id < b.id)) (h3 : l.length ≤ 16) : areItems l = true := by
  unfold areItems; rw [from_of none h1 h2 (fun n hn => by cases hn)]; simpa using h3
theorem putM_sorted {x : GItem} : ∀ {l : List GItem}, l.Pairwise (fun a b => a.id < b.id) → (∀ y ∈ l, y.id ≠ x.id) → (putM l x).Pairwise (fun a b => a.id < b.id)
  | [], _, _ => List.pairwise_singleton _ _
  | y :: l, h, hn => by
    rw [List.pairwise_cons] at h
    rw [putM]; split
    · rename_i hlt
      refine List.Pairwise.cons (fun z hz => ?_) (List.Pairwise.cons h.1 h.2)
      rcases List.mem_cons.1 hz with rfl | hz
      · exact hlt
      · have := h.1 z hz; omega
    · rename_i hlt
      refine List.Pairwise.cons (fun z hz => ?_) (putM_sorted h.2 (fun z hz => hn z (by simp [hz])))
      rcases putM_mem hz with hz | rfl
      · exact h.1 z hz
      · have := hn y (by simp); omega
theorem find_none {l : List GItem} {id : Int} (h : findIdx l id < 0) : ∀ y ∈ l, y.id ≠ id := by
  rcases findIdx_cases l id with ⟨_, hn⟩ | ⟨j, y, hf, _, _⟩
  · exact hn
  · omega
theorem putM_app {x y : GItem} : ∀ {a : List GItem}, a.any (fun z => decide (x.id < z.id)) = true → putM (a ++ [y]) x = putM a x ++ [y]
  | [], h => by simp at h
  | z :: a, h => by
    rw [List.cons_append, putM, putM]
    split
    · rfl
    · rename_i hlt
      rw [List.any_cons, decide_eq_false hlt, Bool.false_or] at h
      rw [putM_app h]; rfl
theorem putM_here {x y : GItem} (hy : x.id < y.id) : ∀ {a : List GItem}, a.any (fun z => decide (x.id < z.id)) = false → putM (a ++ [y]) x = a ++ [x, y]
  | [], _ => by rw [List.nil_append, putM, if_pos hy]; rfl
  | z :: a, h => by
    rw [List.any_cons, Bool.or_eq_false_iff, decide_eq_false_iff_not] at h
    rw [List.cons_append, putM, if_neg h.1, putM_here hy h.2]; rfl
theorem putM_last {x : GItem} : ∀ {a : List GItem}, a.any (fun z => decide (x.id < z.id)) = false → putM a x = a ++ [x]
  | [], _ => rfl
  | z :: a, h => by
    rw [List.any_cons, Bool.or_eq_false_iff, decide_eq_false_iff_not] at h
    rw [putM, if_neg h.1, putM_last h.2]; rfl
def putAny (l : List GItem) (x : GItem) (k : Nat) : Bool := (l.take k).any fun z => decide (x.id < z.id)
def putTo (l : List GItem) (x : GItem) (k : Nat) : List GItem := if putAny l x k then putM (l.take k) x else l.take k
theorem putAny_succ {l : List GItem} {x y : GItem} {k : Nat} (hy : l[k]? = some y) : putAny l x (k + 1) = (putAny l x k || decide (x.id < y.id)) := by
  unfold putAny; rw [List.take_add_one, hy, List.any_append]; simp
theorem putTo_yes {l : List GItem} {x y : GItem} {k : Nat} (hy : l[k]? = some y) (h : putAny l x k = true) : putTo l x (k + 1) = putTo l x k ++ [y] := by
  unfold putTo; rw [putAny_succ hy, h, Bool.true_or, if_pos rfl, if_pos rfl, List.take_add_one, hy]; exact putM_app h
theorem putTo_here {l : List GItem} {x y : GItem} {k : Nat} (hy : l[k]? = some y) (h : putAny l x k = false) (hlt : x.id < y.id) : putTo l x (k + 1) = putTo l x k ++ [x] ++ [y] := by
  unfold putTo; rw [putAny_succ hy, h, decide_eq_true hlt, Bool.false_or, if_pos rfl, if_neg (by simp), List.take_add_one, hy, List.append_assoc]; exact putM_here hlt h
theorem putTo_no {l : List GItem} {x y : GItem} {k : Nat} (hy : l[k]? = some y) (h : putAny l x k = false) (hlt : ¬ x.id < y.id) : putTo l x (k + 1) = putTo l x k ++ [y] := by
  unfold putTo; rw [putAny_succ hy, h, decide_eq_false hlt, Bool.false_or, if_neg (by simp), if_neg (by simp), List.take_add_one, hy]; rfl
theorem putTo_end {l : List GItem} {x : GItem} {k : Nat} (hk : l.length ≤ k) : putM l x = if putAny l x k then putTo l x k else putTo l x k ++ [x] := by
  unfold putTo putAny
  rw [List.take_of_length_le hk]
  cases h : l.any (fun z => decide (x.id < z.id)) with
  | true => rfl
  | false => exact putM_last h
theorem putTo_len (l : List GItem) (x : GItem) (k : Nat) : (putTo l x k).length ≤ k + 1 := by
  unfold putTo; split
  · rw [putM_len, List.length_take]; omega
  · rw [List.length_take]; omega
/-- insert -/
def insOk (s : GStanding) (x : GItem) : Bool := isStand s && (isItem x && (decide (findIdx s.items x.id < 0) && (decide (s.items.length < 16) && decide (s.tests ≤ 999900))))
def beatTo (s : GStanding) (x : GItem) (k : Nat) : Bool := (s.best.take k).any fun id => decide (cmpBy s.wanted (itemAt s.items id) x = 1)
def keptTo (s : GStanding) (x : GItem) (k : Nat) : List Int := (s.best.take k).filter fun id => !decide (cmpBy s.wanted (itemAt s.items id) x = -1)
def insertS (s : GStanding) (x : GItem) : GStanding := ⟨putM s.items x, s.wanted, if beatTo s x s.best.length then s.best else sortI (keptTo s x s.best.length ++ [x.id]), s.tests + s.best.length⟩
def insM (s : GStanding) (x : GItem) : GStanding := if insOk s x then insertS s x else s
theorem beatTo_succ {s : GStanding} {x : GItem} {k : Nat} {id : Int} (h : s.best[k]? = some id) : beatTo s x (k + 1) = (beatTo s x k || decide (cmpBy s.wanted (itemAt s.items id) x = 1)) := by
  unfold beatTo; rw [List.take_add_one, h, List.any_append]; simp
theorem keptTo_yes {s : GStanding} {x : GItem} {k : Nat} {id : Int} (h : s.best[k]? = some id) (hc : ¬ cmpBy s.wanted (itemAt s.items id) x = -1) : keptTo s x (k + 1) = keptTo s x k ++ [id] := by
  unfold keptTo; rw [List.take_add_one, h, List.filter_append]; simp [hc]
theorem keptTo_no {s : GStanding} {x : GItem} {k : Nat} {id : Int} (h : s.best[k]? = some id) (hc : cmpBy s.wanted (itemAt s.items id) x = -1) : keptTo s x (k + 1) = keptTo s x k := by
  unfold keptTo; rw [List.take_add_one, h, List.filter_append]; simp [hc]
theorem keptTo_len (s : GStanding) (x : GItem) (k : Nat) : (keptTo s x k).length ≤ s.best.length := by
  unfold keptTo
  exact Nat.le_trans (List.length_filter_le _ _) (by rw [List.length_take]; omega)
theorem stand_best_len {s : GStanding} (h : isStand s = true) : s.best.length ≤ 16 := by
  obtain ⟨h1, h2⟩ := stand_both h
  rw [h2]
  exact Nat.le_trans (bestM_len _ _) (areItems_len (areBoth_items h1))
theorem stand_tests {s : GStanding} (h : isStand s = true) : 0 ≤ s.tests ∧ s.tests ≤ 1000000 := by
  unfold isStand at h
  simp only [Bool.and_eq_true, decide_eq_true_iff, inB] at h
  exact h.2.2
theorem insOk_parts {s : GStanding} {x : GItem} (h : insOk s x = true) : isStand s = true ∧ isItem x = true ∧ findIdx s.items x.id < 0 ∧ s.items.length < 16 ∧ s.tests ≤ 999900 := by
  unfold insOk at h
  simp only [Bool.and_eq_true, decide_eq_true_iff] at h
  exact ⟨h.1, h.2.1, h.2.2.1, h.2.2.2.1, h.2.2.2.2⟩
end Go.Proofs.YtpihighajaeabaaGreat

namespace Go.Proofs.YtpihighajaeabaaGreat
open Go.RowKit
set_option linter.unusedVariables false
set_option linter.unusedSimpArgs false
set_option maxRecDepth 100000 in
set_option maxHeartbeats 1600000 in
/-- one append of a copied item -/
theorem S_l15Put (w : World) (l : List GItem) (x : GItem) (v u : Value) (h : Rd rItems w l [v]) (hxr : Rd rInts w x.vals [u]) (hn : l.length ≤ 1048576) (hnn : ∀ y ∈ l, y.vals.length ≤ 1048576) (hxn : x.vals.length ≤ 1048576) :
    Calls Tryz.prog 87 #[v, .agg #[.int .i64 x.id, u]] w (RetV w (Made fItems w.heap.size (putM l x))) := by
  obtain ⟨i0, hi, hz0, hz1, hz2⟩ := info_parts info_Item
  obtain ⟨A, n, c, rfl, L0, Lc, Lm⟩ := rSl_open h
  unfold maxLen at Lm
  have L := Lib.hid L0
  clear L0
  rw [← L.out] at hn
  obtain ⟨W1, hW1⟩ : ∃ W1, W1 = w.alloc (.cells #[.int .i64 x.id, u] 30) := ⟨_, rfl⟩
  have A1 : Bw w W1 := by rw [hW1]; exact (Bw.refl w).alloc _
  have p0 : W1.cell? ⟨w.heap.size, 0, none⟩ = some (.int .i64 x.id) := by rw [hW1]; go_simp
  have p1 : W1.cell? ⟨w.heap.size, 1, none⟩ = some u := by rw [hW1]; go_simp
  have z1 : W1.heap.size = w.heap.size + 1 := by rw [hW1]; simp
  have hv0 := fSl_empty (e := 30) (sz := 2) (R := fItem) W1
  rw [z1] at hv0
  have B0 : Bw W1 (W1.alloc (.cells #[] 30)) := (Bw.refl _).alloc _
  have HW := Lib.hid hW1
  have HNN := Lib.hid hnn
  have HH := Lib.hid (h.bw rItems_good A1)
  have HXR := Lib.hid (hxr.bw rInts_good A1)
  obtain ⟨M, hM⟩ : ∃ M, M = x.vals.length := ⟨_, rfl⟩
  clear hW1 hnn h hxr hM
  go_enter Tryz.func87, Tryz.ntmps87
  go_wp2
  rw [← HW.out]
  go_loopg [5, 6, 7] n (fun g s q i w' => ∃ (k : Nat) (F : List Nat), k ≤ n ∧ g = n - k ∧ i = .int .i64 k ∧ q = .bool (putAny l x k) ∧ fItems w' (putTo l x k) [s] F ∧ Fresh W1.heap.size F ∧ Bw W1 w')
  case atStart => exact ⟨0, _, by omega, rfl, rfl, rfl, hv0, ⟨by simp, by simp [z1]⟩, B0⟩
  case round =>
    clear hv0 B0
    obtain ⟨k, F, hk, rfl, rfl, rfl, hv, hF, hb⟩ := hrel
    replace p0 := hb.cell p0
    replace p1 := hb.cell p1
    have HLEN := Lib.hid (putTo_len l x k)
    have hxm := hxn
    obtain ⟨Q, hQ⟩ : ∃ Q, Q = putAny l x k := ⟨_, rfl⟩
    rw [← hQ]
    have HQ := Lib.hid hQ
    clear hQ
    by_cases hlt : k < n
    · have h := HH.out
      obtain ⟨y, hy⟩ := get_of_lt (xs := l) (k := k) (by have := L.out; omega)
      have hym := HNN.out y (List.mem_of_getElem? hy)
      obtain ⟨ba, oa, A', c', rfl, _, hc0, hc1, hin⟩ := rItems_at h hy
      have hcx := hb.cell hc0
      have hcx1 := hb.cell hc1
      have i1 : (0 : Int) ≤ (k : Int) := by omega
      have i2 : (k : Int) < (n : Int) := by omega
      have HY := Lib.hid hy
      have HIN := Lib.hid hin
      have HC0 := Lib.hid hc0
      have HC1 := Lib.hid hc1
      have HSA := Lib.hid (putAny_succ (x := x) hy)
      have s0 := since_cell hcx
      have s1 := since_cell p0
      clear hy h hin hc0 hc1
      have H3 : Q = true ∨ (Q = false ∧ x.id < y.id) ∨ (Q = false ∧ ¬ x.id < y.id) := by
        cases Q with
        | true => exact .inl rfl
        | false => exact .inr ((Classical.em (x.id < y.id)).imp (fun h => ⟨rfl, h⟩) (fun h => ⟨rfl, h⟩))
      rcases H3 with rfl | ⟨rfl, hlt2⟩ | ⟨rfl, hlt2⟩
      · have HB := Lib.hid (putTo_yes HY.out HQ.out.symm)
        have HS := Lib.hid (show true = putAny l x (k + 1) by rw [HSA.out, ← HQ.out]; rfl)
        go_wp2_with fail
        refine wp_region_since (by kernel_rfl) (by kernel_rfl) ?_
        repeat (first | go_big_quiet_skip | (go_big_quiet_want; go_big_quiet_op; first | go_big_quiet_on | (apply Exists.intro; refine ⟨fun _ => ?_, ?_⟩; (· ((fail))); go_big_quiet_on)))
        refine wpQuiet_nil ?_
        rintro ⟨wq, hbq⟩
        dsimp only at *
        have hbX := hb.then hbq
        have hv1 := (fItems_good (B := W1.heap.size)).bw hbq hb.size hv
        clear hv hbq
        have hcy := hbX.cell HC0.out
        have hcy1 := hbX.cell HC1.out
        have hin' : Rd rInts wq.drew y.vals [.slice A' y.vals.length c'] := Rd.bw rInts_good HIN.out hbX.drew
        have D1 : Bw wq wq.drew := (Bw.refl _).drew
        have hFm := (fItems_good (B := 0)).lt hv1
        have hbs := hbX.size
        clear hcx hcx1 s0 s1
        go_wp2_with fail
        go_region_held3 (fun w' => w'.cell? ⟨ba, oa + k * 2, none⟩ = some (.int .i64 y.id) ∧ w'.cell? ⟨ba, oa + k * 2 + 1, none⟩ = some (.slice A' y.vals.length c')) (first | go_keep | exact ⟨hcy, hcy1⟩ | exact ⟨hAl.cell hcy, hAl.cell hcy1⟩ | exact ⟨hb'.cell HC0.out, hb'.cell HC1.out⟩ | fail)
          (first
            | (go_at_call 146; refine (S_l2One _ y _ hin' hym).mono ?_; rintro e w1 ⟨v1, rfl, ⟨F1, o1, f1⟩, hb1⟩; obtain ⟨Av, cv, rfl, _⟩ := rSl_shape (fInts_Rd o1); replace hcy := hb1.cell hcy; replace hcy1 := hb1.cell hcy1; have hb1' := D1.then hb1; have hbb := hbX.then hb1'; have hv5 := (fItems_good (B := W1.heap.size)).bw hb1' hbX.size hv1; have hAl := (Bw.refl w1).alloc (.cells #[.int .i64 y.id, .slice Av y.vals.length cv] 30); have hvW := (fItems_good (B := W1.heap.size)).bw hAl hbb.size hv5; have oW := (fInts_good (B := W1.heap.size)).bw hAl hbb.size o1; have hbW := hbb.then hAl; have f1' : Fresh wq.heap.size F1 := f1.mono (by simp); have hcl : ∀ j t, [Value.int .i64 y.id, .slice Av y.vals.length cv][j]? = some t → (w1.alloc (.cells #[.int .i64 y.id, .slice Av y.vals.length cv] 30)).cell? ((⟨w1.heap.size, 0, none⟩ : Addr).add j) = some t := World.news_of_block (cs := #[.int .i64 y.id, .slice Av y.vals.length cv]) (t := 30) (fr := (0, 0)) (heap_alloc_new w1 _))
            | (refine step_push _ (by rfl) (.tmp 35) (.tmp 47) 24 (by rfl) W1 30 i0 _ 2 32 Tryz.underlying24 hi hz0 hz1 hz2 rfl (by omega) fItem_good _ (putTo l x k) F (by rfl) hvW hF ⟨w1.heap.size, 0, none⟩ 1 (by rfl) y [.int .i64 y.id, .slice Av y.vals.length cv] F1 hcl ⟨_, rfl, oW⟩ rfl wq.heap.size hFm f1' hbs (by have := HLEN.out; omega) (by have := HLEN.out; omega) hbW ?_; intro v' w' F' hv' hF' hb')
            | fail)
        go_wp2
        go_roundg (n - (k + 1))
        case measure => omega
        case rel => exact ⟨k + 1, F', by omega, rfl, by go_num, by rw [← HS.out], by rw [HB.out]; exact hv', hF', hb'⟩
      · have HB := Lib.hid (putTo_here HY.out HQ.out.symm hlt2)
        have HS := Lib.hid (show true = putAny l x (k + 1) by rw [HSA.out, decide_eq_true hlt2, Bool.or_true])
        go_wp2_with fail
        refine wp_region_since (by kernel_rfl) (by kernel_rfl) ?_
        repeat (first | go_big_quiet_skip | (go_big_quiet_want; go_big_quiet_op; first | go_big_quiet_on | (apply Exists.intro; refine ⟨fun _ => ?_, ?_⟩; (· ((fail))); go_big_quiet_on)))
        refine wpQuiet_nil ?_
        rintro ⟨wq, hbq⟩
        dsimp only at *
        have hbX0 := hb.then hbq
        have hv2 := (fItems_good (B := W1.heap.size)).bw hbq hb.size hv
        have r0 := hbq.cell p0
        have r1 := hbq.cell p1
        have hcall := S_l2One wq x u (HXR.out.bw rInts_good hbX0) hxm
        clear hv hbq
        go_wp2_with fail
        refine hcall.mono ?_
        rintro e w2 ⟨v2, rfl, ⟨F2, o2, f2⟩, hb2⟩
        obtain ⟨Ax, cx, rfl, _⟩ := rSl_shape (fInts_Rd o2)
        obtain ⟨MX, hMX⟩ : ∃ MX, MX = x.vals.length := ⟨_, rfl⟩
        rw [← hMX] at o2 ⊢
        have hbb2 := hbX0.then hb2
        have hFm2 := (fItems_good (B := 0)).lt hv2
        have hAl2 := (Bw.refl w2).alloc (.cells #[.int .i64 x.id, .slice Ax MX cx] 30)
        have hvW2 := (fItems_good (B := W1.heap.size)).bw (hb2.then hAl2) hbX0.size hv2
        have oW2 := (fInts_good (B := W1.heap.size)).bw hAl2 hbb2.size o2
        have hbW2 := hbb2.then hAl2
        have hcl2 : ∀ j t, [Value.int .i64 x.id, .slice Ax MX cx][j]? = some t → (w2.alloc (.cells #[.int .i64 x.id, .slice Ax MX cx] 30)).cell? ((⟨w2.heap.size, 0, none⟩ : Addr).add j) = some t := World.news_of_block (cs := #[.int .i64 x.id, .slice Ax MX cx]) (t := 30) (fr := (0, 0)) (heap_alloc_new w2 _)
        have hbs2 := hbX0.size
        clear hv2 o2 hcall hMX
        go_wp2_with (at_builtin; refine wpList_push _ rfl (.tmp 27) (.tmp 33) 24 rfl W1 30 i0 _ 2 32 Tryz.underlying24 hi hz0 hz1 hz2 rfl (by omega) fItem_good _ (putTo l x k) F rfl hvW2 hF ⟨w2.heap.size, 0, none⟩ 1 rfl x [.int .i64 x.id, .slice Ax MX cx] F2 hcl2 ⟨_, rfl, oW2⟩ rfl wq.heap.size hFm2 f2 hbs2 (by have := HLEN.out; omega) (by have := HLEN.out; omega) hbW2 ?_; intro v3 w3 F3 hv3 hF3 hb3)
        have HLN2 := Lib.hid (show (putTo l x k ++ [x]).length ≤ k + 2 by have := HLEN.out; simp; omega)
        clear hvW2 oW2 hcl2 r0 r1
        have hcy := hb3.cell HC0.out
        have hcy1 := hb3.cell HC1.out
        have hin' : Rd rInts w3.drew y.vals [.slice A' y.vals.length c'] := Rd.bw rInts_good HIN.out hb3.drew
        have D1 : Bw w3 w3.drew := (Bw.refl _).drew
        have hFm := (fItems_good (B := 0)).lt hv3
        have hbs := hb3.size
        clear hcx hcx1 s0 s1
        go_wp2_with fail
        go_region_held3 (fun w' => w'.cell? ⟨ba, oa + k * 2, none⟩ = some (.int .i64 y.id) ∧ w'.cell? ⟨ba, oa + k * 2 + 1, none⟩ = some (.slice A' y.vals.length c')) (first | go_keep | exact ⟨hcy, hcy1⟩ | exact ⟨hAl.cell hcy, hAl.cell hcy1⟩ | exact ⟨hb'.cell HC0.out, hb'.cell HC1.out⟩ | fail)
          (first
            | (go_at_call 146; refine (S_l2One _ y _ hin' hym).mono ?_; rintro e w1 ⟨v1, rfl, ⟨F1, o1, f1⟩, hb1⟩; obtain ⟨Av, cv, rfl, _⟩ := rSl_shape (fInts_Rd o1); replace hcy := hb1.cell hcy; replace hcy1 := hb1.cell hcy1; have hb1' := D1.then hb1; have hbb := hb3.then hb1'; have hv1 := (fItems_good (B := W1.heap.size)).bw hb1' hb3.size hv3; have hAl := (Bw.refl w1).alloc (.cells #[.int .i64 y.id, .slice Av y.vals.length cv] 30); have hvW := (fItems_good (B := W1.heap.size)).bw hAl hbb.size hv1; have oW := (fInts_good (B := W1.heap.size)).bw hAl hbb.size o1; have hbW := hbb.then hAl; have f1' : Fresh w3.heap.size F1 := f1.mono (by simp); have hcl : ∀ j t, [Value.int .i64 y.id, .slice Av y.vals.length cv][j]? = some t → (w1.alloc (.cells #[.int .i64 y.id, .slice Av y.vals.length cv] 30)).cell? ((⟨w1.heap.size, 0, none⟩ : Addr).add j) = some t := World.news_of_block (cs := #[.int .i64 y.id, .slice Av y.vals.length cv]) (t := 30) (fr := (0, 0)) (heap_alloc_new w1 _))
            | (refine step_push _ (by rfl) (.tmp 35) (.tmp 47) 24 (by rfl) W1 30 i0 _ 2 32 Tryz.underlying24 hi hz0 hz1 hz2 rfl (by omega) fItem_good _ (putTo l x k ++ [x]) F3 (by rfl) hvW hF3 ⟨w1.heap.size, 0, none⟩ 1 (by rfl) y [.int .i64 y.id, .slice Av y.vals.length cv] F1 hcl ⟨_, rfl, oW⟩ rfl w3.heap.size hFm f1' hbs (by have := HLN2.out; omega) (by have := HLN2.out; omega) hbW ?_; intro v' w' F' hv' hF' hb')
            | fail)
        go_wp2
        go_roundg (n - (k + 1))
        case measure => omega
        case rel => exact ⟨k + 1, F', by omega, rfl, by go_num, by rw [← HS.out], by rw [HB.out]; exact hv', hF', hb'⟩
      · have HB := Lib.hid (putTo_no HY.out HQ.out.symm hlt2)
        have HS := Lib.hid (show false = putAny l x (k + 1) by rw [HSA.out, ← HQ.out, decide_eq_false hlt2]; rfl)
        go_wp2_with fail
        refine wp_region_since (by kernel_rfl) (by kernel_rfl) ?_
        repeat (first | go_big_quiet_skip | (go_big_quiet_want; go_big_quiet_op; first | go_big_quiet_on | (apply Exists.intro; refine ⟨fun _ => ?_, ?_⟩; (· ((fail))); go_big_quiet_on)))
        refine wpQuiet_nil ?_
        rintro ⟨wq, hbq⟩
        dsimp only at *
        have hbX := hb.then hbq
        have hv1 := (fItems_good (B := W1.heap.size)).bw hbq hb.size hv
        clear hv hbq
        have hcy := hbX.cell HC0.out
        have hcy1 := hbX.cell HC1.out
        have hin' : Rd rInts wq.drew y.vals [.slice A' y.vals.length c'] := Rd.bw rInts_good HIN.out hbX.drew
        have D1 : Bw wq wq.drew := (Bw.refl _).drew
        have hFm := (fItems_good (B := 0)).lt hv1
        have hbs := hbX.size
        clear hcx hcx1 s0 s1
        go_wp2_with fail
        go_region_held3 (fun w' => w'.cell? ⟨ba, oa + k * 2, none⟩ = some (.int .i64 y.id) ∧ w'.cell? ⟨ba, oa + k * 2 + 1, none⟩ = some (.slice A' y.vals.length c')) (first | go_keep | exact ⟨hcy, hcy1⟩ | exact ⟨hAl.cell hcy, hAl.cell hcy1⟩ | exact ⟨hb'.cell HC0.out, hb'.cell HC1.out⟩ | fail)
          (first
            | (go_at_call 146; refine (S_l2One _ y _ hin' hym).mono ?_; rintro e w1 ⟨v1, rfl, ⟨F1, o1, f1⟩, hb1⟩; obtain ⟨Av, cv, rfl, _⟩ := rSl_shape (fInts_Rd o1); replace hcy := hb1.cell hcy; replace hcy1 := hb1.cell hcy1; have hb1' := D1.then hb1; have hbb := hbX.then hb1'; have hv5 := (fItems_good (B := W1.heap.size)).bw hb1' hbX.size hv1; have hAl := (Bw.refl w1).alloc (.cells #[.int .i64 y.id, .slice Av y.vals.length cv] 30); have hvW := (fItems_good (B := W1.heap.size)).bw hAl hbb.size hv5; have oW := (fInts_good (B := W1.heap.size)).bw hAl hbb.size o1; have hbW := hbb.then hAl; have f1' : Fresh wq.heap.size F1 := f1.mono (by simp); have hcl : ∀ j t, [Value.int .i64 y.id, .slice Av y.vals.length cv][j]? = some t → (w1.alloc (.cells #[.int .i64 y.id, .slice Av y.vals.length cv] 30)).cell? ((⟨w1.heap.size, 0, none⟩ : Addr).add j) = some t := World.news_of_block (cs := #[.int .i64 y.id, .slice Av y.vals.length cv]) (t := 30) (fr := (0, 0)) (heap_alloc_new w1 _))
            | (refine step_push _ (by rfl) (.tmp 35) (.tmp 47) 24 (by rfl) W1 30 i0 _ 2 32 Tryz.underlying24 hi hz0 hz1 hz2 rfl (by omega) fItem_good _ (putTo l x k) F (by rfl) hvW hF ⟨w1.heap.size, 0, none⟩ 1 (by rfl) y [.int .i64 y.id, .slice Av y.vals.length cv] F1 hcl ⟨_, rfl, oW⟩ rfl wq.heap.size hFm f1' hbs (by have := HLEN.out; omega) (by have := HLEN.out; omega) hbW ?_; intro v' w' F' hv' hF' hb')
            | fail)
        go_wp2
        go_roundg (n - (k + 1))
        case measure => omega
        case rel => exact ⟨k + 1, F', by omega, rfl, by go_num, by rw [← HS.out], by rw [HB.out]; exact hv', hF', hb'⟩
    · obtain rfl : k = n := by omega
      have HE := Lib.hid (putTo_end (l := l) (x := x) (k := k) (by rw [← L.out]; exact Nat.le_refl _))
      rw [← HQ.out] at HE
      cases Q with
      | true =>
        have HE2 := Lib.hid (show putTo l x k = putM l x by rw [HE.out]; rfl)
        rw [HE2.out] at hv
        clear HE
        go_wp2
        go_ret
        exact ⟨_, rfl, ⟨F, hv, hF.mono A1.size⟩, A1.then hb⟩
      | false =>
        have HE2 := Lib.hid (show putTo l x k ++ [x] = putM l x by rw [HE.out]; rfl)
        have hcall := S_l2One wr x u (HXR.out.bw rInts_good hb) hxm
        clear HE
        go_wp2_with fail
        refine hcall.mono ?_
        rintro e w2 ⟨v2, rfl, ⟨F2, o2, f2⟩, hb2⟩
        obtain ⟨Ax, cx, rfl, _⟩ := rSl_shape (fInts_Rd o2)
        obtain ⟨MX, hMX⟩ : ∃ MX, MX = x.vals.length := ⟨_, rfl⟩
        rw [← hMX] at o2 ⊢
        have hbb2 := hb.then hb2
        have hFm2 := (fItems_good (B := 0)).lt hv
        have hAl2 := (Bw.refl w2).alloc (.cells #[.int .i64 x.id, .slice Ax MX cx] 30)
        have hvW2 := (fItems_good (B := W1.heap.size)).bw (hb2.then hAl2) hb.size hv
        have oW2 := (fInts_good (B := W1.heap.size)).bw hAl2 hbb2.size o2
        have hbW2 := hbb2.then hAl2
        have hcl2 : ∀ j t, [Value.int .i64 x.id, .slice Ax MX cx][j]? = some t → (w2.alloc (.cells #[.int .i64 x.id, .slice Ax MX cx] 30)).cell? ((⟨w2.heap.size, 0, none⟩ : Addr).add j) = some t := World.news_of_block (cs := #[.int .i64 x.id, .slice Ax MX cx]) (t := 30) (fr := (0, 0)) (heap_alloc_new w2 _)
        have hbs2 := hb.size
        clear hv o2 hcall hMX
        go_wp2_with (at_builtin; refine wpList_push _ rfl (.tmp 51) (.tmp 57) 24 rfl W1 30 i0 _ 2 32 Tryz.underlying24 hi hz0 hz1 hz2 rfl (by omega) fItem_good _ (putTo l x k) F rfl hvW2 hF ⟨w2.heap.size, 0, none⟩ 1 rfl x [.int .i64 x.id, .slice Ax MX cx] F2 hcl2 ⟨_, rfl, oW2⟩ rfl wr.heap.size hFm2 f2 hbs2 (by have := HLEN.out; omega) (by have := HLEN.out; omega) hbW2 ?_; intro v3 w3 F3 hv3 hF3 hb3)
        rw [HE2.out] at hv3
        go_ret
        exact ⟨_, rfl, ⟨F3, hv3, hF3.mono A1.size⟩, A1.then hb3⟩
end Go.Proofs.YtpihighajaeabaaGreat
