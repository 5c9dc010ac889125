/- A slice of bytes among a law's arguments. -/
import Derived.Test.YthlaabaffbffkaaQDom
import Derived.Test.YthlaabaffbffkaaQOrder
import Derived.Test.YthlaabaffbffkaaQCmpI
import Derived.Test.YthlaabaffbffkaaQCmpS
import Derived.Test.YthlaabaffbffkaaQBestS
import Derived.Test.YthlaabaffbffkaaQReach
import Derived.Test.YthlaabaffbffkaaQCostOf
import Derived.Test.YthlaabaffbffkaaQLawH
namespace Go.Proofs.Ythlaabaffbffkaa
open Go.RowKit
set_option linter.unusedVariables false
def areVotersTo (g : List (List GNode)) (k : Nat) : Bool := (g.take k).all isExpr
def areVoters (g : List (List GNode)) : Bool := g.all isExpr && (decide (1 ≤ g.length) && decide (g.length ≤ 5))
def isPoll (l : List GItem) (g : List (List GNode)) : Bool := areItems l && areVoters g
theorem areVoters_len {g : List (List GNode)} (h : areVoters g = true) : 1 ≤ g.length ∧ g.length ≤ 5 := by
  unfold areVoters at h
  rw [Bool.and_eq_true, Bool.and_eq_true, decide_eq_true_eq, decide_eq_true_eq] at h
  exact h.2
theorem areVoters_mem {g : List (List GNode)} (h : areVoters g = true) : ∀ e ∈ g, isExpr e = true := by
  unfold areVoters at h
  rw [Bool.and_eq_true, List.all_eq_true] at h
  exact h.1
theorem isPoll_items {l : List GItem} {g : List (List GNode)} (h : isPoll l g = true) : areItems l = true := by unfold isPoll at h; rw [Bool.and_eq_true] at h; exact h.1
theorem isPoll_voters {l : List GItem} {g : List (List GNode)} (h : isPoll l g = true) : areVoters g = true := by unfold isPoll at h; rw [Bool.and_eq_true] at h; exact h.2
theorem all_take_yes {α : Type} {f : α → Bool} {l : List α} {k : Nat} {x : α} (hx : l[k]? = some x) (h : f x = true) : (l.take (k + 1)).all f = (l.take k).all f := by
  rw [List.take_add_one, hx, List.all_append]; simp [h]
theorem all_take_no {α : Type} {f : α → Bool} {l : List α} {k : Nat} {x : α} (hx : l[k]? = some x) (h : f x = false) : l.all f = false := by
  rw [Bool.eq_false_iff]; intro h2; rw [List.all_eq_true] at h2; rw [h2 x (List.mem_of_getElem? hx)] at h; cases h
/-- how many voters say so -/
def cntTo (f : List GNode → Bool) (g : List (List GNode)) (k : Nat) : Int := (((g.take k).filter f).length : Int)
theorem cntTo_yes {f : List GNode → Bool} {g : List (List GNode)} {k : Nat} {e : List GNode} (hx : g[k]? = some e) (h : f e = true) : cntTo f g (k + 1) = cntTo f g k + 1 := by
  unfold cntTo; rw [List.take_add_one, hx, List.filter_append]; simp [h]
theorem cntTo_no {f : List GNode → Bool} {g : List (List GNode)} {k : Nat} {e : List GNode} (hx : g[k]? = some e) (h : f e = false) : cntTo f g (k + 1) = cntTo f g k := by
  unfold cntTo; rw [List.take_add_one, hx, List.filter_append]; simp [h]
theorem cntTo_bound (f : List GNode → Bool) (g : List (List GNode)) (k : Nat) : 0 ≤ cntTo f g k ∧ cntTo f g k ≤ k := by
  unfold cntTo
  have h1 := List.length_filter_le f (g.take k)
  rw [List.length_take] at h1
  omega
def votesIn (g : List (List GNode)) (x y : GItem) : Int := cntTo (fun e => decide (cmpBy e x y = 1)) g g.length
def votesFor (l : List GItem) (g : List (List GNode)) (a b : Int) : Int := if isPoll l g && (decide (0 ≤ findIdx l a) && decide (0 ≤ findIdx l b)) then votesIn g (itemAt l a) (itemAt l b) else 0
theorem from_pos : ∀ {l : List GItem} {o : Option Int}, areItemsFrom o l = true → ∀ {i k : Nat} {x y : GItem}, l[i]? = some x → l[k]? = some y → x.id = y.id → i = k
  | [], _, _, i, _, _, _, hx, _, _ => by simp at hx
  | z :: l, o, h, i, k, x, y, hx, hy, e => by
    have h2 : areItemsFrom (some z.id) l = true := by
      cases o with
      | none => rw [areItemsFrom, Bool.and_eq_true] at h; exact h.2
      | some p => rw [areItemsFrom, Bool.and_eq_true] at h; exact h.2
    cases i with
    | zero =>
      cases k with
      | zero => rfl
      | succ k =>
        rw [List.getElem?_cons_zero] at hx; rw [List.getElem?_cons_succ] at hy
        cases hx
        have := from_gt h2 y (List.mem_of_getElem? hy); omega
    | succ i =>
      rw [List.getElem?_cons_succ] at hx
      cases k with
      | zero =>
        rw [List.getElem?_cons_zero] at hy
        cases hy
        have := from_gt h2 x (List.mem_of_getElem? hx); omega
      | succ k =>
        rw [List.getElem?_cons_succ] at hy
        rw [from_pos h2 hx hy e]
theorem areItems_pos {l : List GItem} (h : areItems l = true) {i k : Nat} {x y : GItem} (hx : l[i]? = some x) (hy : l[k]? = some y) (e : x.id = y.id) : i = k := by
  unfold areItems at h; rw [Bool.and_eq_true] at h; exact from_pos h.1 hx hy e
theorem find_mem {l : List GItem} (hI : areItems l = true) {x : GItem} {k : Nat} (hx : l[k]? = some x) : findIdx l x.id = (k : Int) := by
  rcases findIdx_cases l x.id with ⟨_, h⟩ | ⟨j, y, hj, hy, hid⟩
  · exact absurd rfl (h x (List.mem_of_getElem? hx))
  · rw [hj]
    rw [areItems_pos hI hy hx hid]
theorem votesFor_in {l : List GItem} {g : List (List GNode)} (hP : isPoll l g = true) {x y : GItem} {i k : Nat} (hx : l[i]? = some x) (hy : l[k]? = some y) : votesFor l g x.id y.id = votesIn g x y := by
  have h1 := find_mem (isPoll_items hP) hx
  have h2 := find_mem (isPoll_items hP) hy
  unfold votesFor
  rw [hP, h1, h2, itemAt_of h1 hx, itemAt_of h2 hy]
  simp
theorem votesFor_bound (l : List GItem) (g : List (List GNode)) (a b : Int) : 0 ≤ votesFor l g a b ∧ votesFor l g a b ≤ 5 := by
  unfold votesFor votesIn
  split
  · rename_i h
    rw [Bool.and_eq_true] at h
    have h1 := cntTo_bound (fun e => decide (cmpBy e (itemAt l a) (itemAt l b) = 1)) g g.length
    have h2 := (areVoters_len (isPoll_voters h.1)).2
    omega
  · omega
/-- the item that wins against each other one -/
def winsOver (l : List GItem) (g : List (List GNode)) (x y : GItem) : Bool := decide (x.id = y.id) || decide (votesFor l g y.id x.id < votesFor l g x.id y.id)
def condo (l : List GItem) (g : List (List GNode)) : Int := if isPoll l g then (match l.find? (fun x => l.all (winsOver l g x)) with | some x => x.id | none => -1) else -1
theorem find_take_no {α : Type} {f : α → Bool} {l : List α} {k : Nat} {x : α} (hx : l[k]? = some x) (h : f x = false) : (l.take (k + 1)).find? f = (l.take k).find? f := by
  rw [List.take_add_one, hx, List.find?_append]; simp [h]
theorem find_take_yes {α : Type} {f : α → Bool} {l : List α} {k : Nat} {x : α} (hx : l[k]? = some x) (h : f x = true) (h0 : (l.take k).find? f = none) : l.find? f = some x := by
  have h1 : l.find? f = ((l.take k) ++ l.drop k).find? f := by rw [List.take_append_drop]
  rw [h1, List.find?_append, h0, drop_cons hx]; simp [h]
/-- sums over the voters -/
def sumTo (f : List GNode → Int) (g : List (List GNode)) : Nat → Int
  | 0 => 0
  | k + 1 => sumTo f g k + (match g[k]? with | some e => f e | none => 0)
theorem sumTo_succ {f : List GNode → Int} {g : List (List GNode)} {k : Nat} {e : List GNode} (hx : g[k]? = some e) : sumTo f g (k + 1) = sumTo f g k + f e := by rw [sumTo, hx]
theorem sumTo_bound {f : List GNode → Int} {g : List (List GNode)} (h : ∀ e, -16 ≤ f e ∧ f e ≤ 16) : ∀ k : Nat, -(16 * (k : Int)) ≤ sumTo f g k ∧ sumTo f g k ≤ 16 * k
  | 0 => by rw [sumTo]; omega
  | k + 1 => by
    have h1 := sumTo_bound (g := g) h k
    rw [sumTo]
    cases g[k]? with
    | none => dsimp only; omega
    | some e => have := h e; dsimp only; omega
def bordaOf (l : List GItem) (g : List (List GNode)) (x : GItem) : Int := sumTo (fun e => ((relM l e x.id (-1)).length : Int) - ((relM l e x.id 1).length : Int)) g g.length
def approvOf (l : List GItem) (g : List (List GNode)) (x : GItem) : Int := cntTo (fun e => (bestItems l e).contains x.id) g g.length
def bordaL (l : List GItem) (g : List (List GNode)) : List Int := if isPoll l g then l.map (bordaOf l g) else []
def approvL (l : List GItem) (g : List (List GNode)) : List Int := if isPoll l g then l.map (approvOf l g) else []
def mapTo (f : GItem → Int) (l : List GItem) (k : Nat) : List Int := (l.take k).map f
theorem mapTo_succ {f : GItem → Int} {l : List GItem} {k : Nat} {x : GItem} (hx : l[k]? = some x) : mapTo f l (k + 1) = mapTo f l k ++ [f x] := by unfold mapTo; rw [List.take_add_one, hx]; simp
theorem mapTo_len (f : GItem → Int) (l : List GItem) (k : Nat) : (mapTo f l k).length ≤ k := by unfold mapTo; rw [List.length_map, List.length_take]; omega
theorem mapTo_end {f : GItem → Int} {l : List GItem} {k : Nat} (h : l.length ≤ k) : mapTo f l k = l.map f := by unfold mapTo; rw [List.take_of_length_le h]
/-- the place of the first that is greatest -/
def posTo (s : List Int) : Nat → Nat
  | 0 => 0
  | k + 1 => match s[k]?, s[posTo s k]? with
    | some a, some b => if b < a then k else posTo s k
    | _, _ => posTo s k
theorem posTo_succ {s : List Int} {k : Nat} {a b : Int} (ha : s[k]? = some a) (hb : s[posTo s k]? = some b) : posTo s (k + 1) = if b < a then k else posTo s k := by rw [posTo, ha, hb]
theorem posTo_lt {s : List Int} (h : 0 < s.length) : ∀ k, k ≤ s.length → posTo s k < s.length
  | 0, _ => h
  | k + 1, hk => by
    have h1 := posTo_lt h k (by omega)
    rw [posTo]
    split
    · split <;> omega
    · exact h1
def idAt (l : List GItem) (k : Nat) : Int := match l[k]? with | some x => x.id | none => -1
def choice (l : List GItem) (g : List (List GNode)) (s : List Int) : Int := if isPoll l g && decide (0 < l.length) then idAt l (posTo s s.length) else -1
theorem idAt_bound {l : List GItem} (h : areItems l = true) (k : Nat) : -1 ≤ idAt l k ∧ idAt l k ≤ 99 := by
  unfold idAt
  cases hx : l[k]? with
  | none => dsimp only; omega
  | some x => have := isItem_id (areItems_mem h (List.mem_of_getElem? hx)); dsimp only; omega
theorem choice_bound (l : List GItem) (g : List (List GNode)) (s : List Int) : -1 ≤ choice l g s ∧ choice l g s ≤ 99 := by
  unfold choice; split
  · rename_i h
    rw [Bool.and_eq_true] at h
    exact idAt_bound (isPoll_items h.1) _
  · omega
theorem condo_bound (l : List GItem) (g : List (List GNode)) : -1 ≤ condo l g ∧ condo l g ≤ 99 := by
  unfold condo; split
  · rename_i h
    cases hx : l.find? (fun x => l.all (winsOver l g x)) with
    | none => dsimp only; omega
    | some x => have := isItem_id (areItems_mem (isPoll_items h) (List.mem_of_find?_eq_some hx)); dsimp only; omega
  · omega
end Go.Proofs.Ythlaabaffbffkaa

namespace Go.Proofs.Ythlaabaffbffkaa
open Go.RowKit
set_option linter.unusedVariables false
set_option linter.unusedSimpArgs false










end Go.Proofs.Ythlaabaffbffkaa

namespace Go.Proofs.Ythlaabaffbffkaa
open Go.RowKit
set_option linter.unusedVariables false
set_option linter.unusedSimpArgs false
theorem all_take_and {α : Type} {f : α → Bool} {l : List α} {k : Nat} {x : α} (hx : l[k]? = some x) : (l.take (k + 1)).all f = ((l.take k).all f && f x) := by
  rw [List.take_add_one, hx, List.all_append]; simp
theorem condo_yes {l : List GItem} {g : List (List GNode)} {x : GItem} (hP : isPoll l g = true) (h : l.find? (fun x => l.all (winsOver l g x)) = some x) : condo l g = x.id := by rw [condo, if_pos hP, h]
theorem condo_none {l : List GItem} {g : List (List GNode)} (hP : isPoll l g = true) (h : l.find? (fun x => l.all (winsOver l g x)) = none) : condo l g = -1 := by rw [condo, if_pos hP, h]




end Go.Proofs.Ythlaabaffbffkaa

namespace Go.Proofs.Ythlaabaffbffkaa
open Go.RowKit
set_option linter.unusedVariables false
set_option linter.unusedSimpArgs false
theorem rel_turn {e : List GNode} {p x : GItem} (hE : isExpr e = true) (hp : isItem p = true) (hx : isItem x = true) : relIn e p (-1) x = decide (cmpBy e p x = 1) := by
  unfold relIn
  rw [(cmpBy_PO hE).anti p x hp hx]
  unfold neg2
  rw [Bool.eq_iff_iff, decide_eq_true_eq, decide_eq_true_eq]
  split <;> omega




theorem wrap_near {x : Int} (h : -1000000 ≤ x ∧ x ≤ 1000000) : IntKind.i64.wrap x = x := by
  simp [IntKind.wrap, IntKind.bits, IntKind.signed]; omega
theorem borda_each (l : List GItem) (x : GItem) (hl : l.length ≤ 16) (e : List GNode) : -16 ≤ ((relM l e x.id (-1)).length : Int) - ((relM l e x.id 1).length : Int) ∧ ((relM l e x.id (-1)).length : Int) - ((relM l e x.id 1).length : Int) ≤ 16 := by
  have h1 := relM_len l e x.id (-1)
  have h2 := relM_len l e x.id 1
  omega

end Go.Proofs.Ythlaabaffbffkaa

namespace Go.Proofs.Ythlaabaffbffkaa
open Go.RowKit
set_option linter.unusedVariables false
set_option linter.unusedSimpArgs false
set_option maxHeartbeats 400000 in
theorem S_BestItems (w : World) (l : List GItem) (e : List GNode) (v u : Value) (h : Rd rItems w l [v]) (h' : Rd rNodes w e [u]) : Calls Try.prog 35 #[v, u] w (RetV w (Made fInts w.heap.size (bestItems l e))) := by
  go_enter Try.func35, Try.ntmps35
  go_wp2_with fail
  refine (S_l7Fine _ l e _ _ h h').mono ?_
  rintro e w2 ⟨rfl, hb2⟩
  rcases Bool.eq_false_or_eq_true (areBoth l e) with e1 | e1
  · have E := Lib.hid e1
    rw [e1]
    clear e1
    go_wp2_with fail
    refine (S_l7Best _ l e _ _ (h.bw rItems_good hb2) (h'.bw rNodes_good hb2) (areBoth_items E.out) (areBoth_expr E.out)).mono ?_
    rintro e w3 ⟨v3, rfl, ⟨F, o, f⟩, hb3⟩
    rw [show bestM l e = bestItems l e by rw [bestItems, if_pos E.out]] at o
    go_wp2
    go_ret
    exact ⟨_, rfl, ⟨F, o, f.mono hb2.size⟩, hb2.then hb3⟩
  · have E := Lib.hid e1
    rw [e1]
    clear e1
    have hv0 := fSl_empty (e := 3) (sz := 1) (R := fInt) w2
    rw [show ([] : List Int) = bestItems l e by rw [bestItems, E.out]; rfl] at hv0
    have hz := hb2.size
    go_wp2
    go_ret
    exact ⟨_, rfl, ⟨_, hv0, ⟨by simp, by simpa using hz⟩⟩, hb2.alloc _⟩
set_option maxHeartbeats 400000 in
theorem S_IsBest (w : World) (l : List GItem) (e : List GNode) (id : Int) (v u : Value) (h : Rd rItems w l [v]) (h' : Rd rNodes w e [u]) :
    Calls Try.prog 12 #[v, u, .int .i64 id] w (Ret w (.bool ((bestItems l e).contains id))) := by
  go_enter Try.func12, Try.ntmps12
  go_wp2_with fail
  refine (S_BestItems _ l e _ _ h h').mono ?_
  rintro e w1 ⟨v1, rfl, ⟨F1, o1, f1⟩, hb1⟩
  go_wp2_with fail
  refine (S_l2Has _ (bestItems l e) id _ (fInts_Rd o1)).mono ?_
  rintro e w2 ⟨rfl, hb2⟩
  go_wp2
  go_ret
  exact Ret.bool (by simp) (hb1.then hb2)











end Go.Proofs.Ythlaabaffbffkaa

namespace Go.Proofs.Ythlaabaffbffkaa
open Go.RowKit Go.ChangeShapes Go.WideShapes Go.Deep
set_option linter.unusedVariables false
section
variable {H : Type} {enc : TypeId × Value → H} {w : World} {sp : Nat → Bool} {held : Bool}
theorem t_u8 {n : Nat} {cs : List Value} {y : DataW H × List MemPlace} (h : DataW.trod enc Try.prog w 0 sp held n 5 cs = some y) : ∃ x, rU8 w (lt w) x cs ∧ (0 ≤ x ∧ x ≤ 255) := by
  obtain ⟨x, rfl, _, hw⟩ := DataW.trod_int Try.underlying5 h
  exact ⟨x, rfl, bounds_u8 hw⟩
theorem t_bytes {n : Nat} {cs : List Value} {y : DataW H × List MemPlace} (h : DataW.trod enc Try.prog w 0 sp held n 22 cs = some y) : ∃ xs, rBytes w (lt w) xs cs ∧ wfBytes xs :=
  t_slice Try.underlying22 (by kernel_rfl) (by omega) (fun _ _ _ h _ => t_u8 h) h
end
end Go.Proofs.Ythlaabaffbffkaa
