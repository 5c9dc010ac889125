/- Comparisons of lists of items and of expressions, and of standings, in both programs. -/
import Derived.Test.YthlaabaffbffkaaGreatQDom
import Derived.Test.YthlaabaffbffkaaGreatQOrder
import Derived.Test.YthlaabaffbffkaaGreatQWishes3
namespace Go.Proofs.YthlaabaffbffkaaGreat
open Go.RowKit
set_option linter.unusedVariables false
def areVotersTo (g : List (List GNode)) (k : Nat) : Bool := (g.take k).all isExpr
def areVoters (g : List (List GNode)) : Bool := g.all isExpr && (decide (1 ≤ g.length) && decide (g.length ≤ 5))
def isPoll (l : List GItem) (g : List (List GNode)) : Bool := areItems l && areVoters g
theorem areVoters_len {g : List (List GNode)} (h : areVoters g = true) : 1 ≤ g.length ∧ g.length ≤ 5 := by
  unfold areVoters at h
  rw [Bool.and_eq_true, Bool.and_eq_true, decide_eq_true_eq, decide_eq_true_eq] at h
  exact h.2
theorem areVoters_mem {g : List (List GNode)} (h : areVoters g = true) : ∀ e ∈ g, isExpr e = true := by
  unfold areVoters at h
  rw [Bool.and_eq_true, List.all_eq_true] at h
  exact h.1
theorem isPoll_items {l : List GItem} {g : List (List GNode)} (h : isPoll l g = true) : areItems l = true := by unfold isPoll at h; rw [Bool.and_eq_true] at h; exact h.1
theorem isPoll_voters {l : List GItem} {g : List (List GNode)} (h : isPoll l g = true) : areVoters g = true := by unfold isPoll at h; rw [Bool.and_eq_true] at h; exact h.2
theorem all_take_yes {α : Type} {f : α → Bool} {l : List α} {k : Nat} {x : α} (hx : l[k]? = some x) (h : f x = true) : (l.take (k + 1)).all f = (l.take k).all f := by
  rw [List.take_add_one, hx, List.all_append]; simp [h]
theorem all_take_no {α : Type} {f : α → Bool} {l : List α} {k : Nat} {x : α} (hx : l[k]? = some x) (h : f x = false) : l.all f = false := by
  rw [Bool.eq_false_iff]; intro h2; rw [List.all_eq_true] at h2; rw [h2 x (List.mem_of_getElem? hx)] at h; cases h
/-- how many voters say so -/
def cntTo (f : List GNode → Bool) (g : List (List GNode)) (k : Nat) : Int := (((g.take k).filter f).length : Int)
theorem cntTo_yes {f : List GNode → Bool} {g : List (List GNode)} {k : Nat} {e : List GNode} (hx : g[k]? = some e) (h : f e = true) : cntTo f g (k + 1) = cntTo f g k + 1 := by
  unfold cntTo; rw [List.take_add_one, hx, List.filter_append]; simp [h]
theorem cntTo_no {f : List GNode → Bool} {g : List (List GNode)} {k : Nat} {e : List GNode} (hx : g[k]? = some e) (h : f e = false) : cntTo f g (k + 1) = cntTo f g k := by
  unfold cntTo; rw [List.take_add_one, hx, List.filter_append]; simp [h]
theorem cntTo_bound (f : List GNode → Bool) (g : List (List GNode)) (k : Nat) : 0 ≤ cntTo f g k ∧ cntTo f g k ≤ k := by
  unfold cntTo
  have h1 := List.length_filter_le f (g.take k)
  rw [List.length_take] at h1
  omega
def votesIn (g : List (List GNode)) (x y : GItem) : Int := cntTo (fun e => decide (cmpBy e x y = 1)) g g.length
def votesFor (l : List GItem) (g : List (List GNode)) (a b : Int) : Int := if isPoll l g && (decide (0 ≤ findIdx l a) && decide (0 ≤ findIdx l b)) then votesIn g (itemAt l a) (itemAt l b) else 0
theorem from_pos : ∀ {l : List GItem} {o : Option Int}, areItemsFrom o l = true → ∀ {i k : Nat} {x y : GItem}, l[i]? = some x → l[k]? = some y → x.id = y.id → i = k
  | [], _, _, i, _, _, _, hx, _, _ => by simp at hx
  | z :: l, o, h, i, k, x, y, hx, hy, e => by
    have h2 : areItemsFrom (some z.id) l = true := by
      cases o with
      | none => rw [areItemsFrom, Bool.and_eq_true] at h; exact h.2
      | some p => rw [areItemsFrom, Bool.and_eq_true] at h; exact h.2
    cases i with
    | zero =>
      cases k with
      | zero => rfl
      | succ k =>
        rw [List.getElem?_cons_zero] at hx; rw [List.getElem?_cons_succ] at hy
        cases hx
        have := from_gt h2 y (List.mem_of_getElem? hy); omega
    | succ i =>
      rw [List.getElem?_cons_succ] at hx
      cases k with
      | zero =>
        rw [List.getElem?_cons_zero] at hy
        cases hy
        have := from_gt h2 x (List.mem_of_getElem? hx); omega
      | succ k =>
        rw [List.getElem?_cons_succ] at hy
        rw [from_pos h2 hx hy e]
theorem areItems_pos {l : List GItem} (h : areItems l = true) {i k : Nat} {x y : GItem} (hx : l[i]? = some x) (hy : l[k]? = some y) (e : x.id = y.id) : i = k := by
  unfold areItems at h; rw [Bool.and_eq_true] at h; exact from_pos h.1 hx hy e
theorem find_mem {l : List GItem} (hI : areItems l = true) {x : GItem} {k : Nat} (hx : l[k]? = some x) : findIdx l x.id = (k : Int) := by
  rcases findIdx_cases l x.id with ⟨_, h⟩ | ⟨j, y, hj, hy, hid⟩
  · exact absurd rfl (h x (List.mem_of_getElem? hx))
  · rw [hj]
    rw [areItems_pos hI hy hx hid]
theorem votesFor_in {l : List GItem} {g : List (List GNode)} (hP : isPoll l g = true) {x y : GItem} {i k : Nat} (hx : l[i]? = some x) (hy : l[k]? = some y) : votesFor l g x.id y.id = votesIn g x y := by
  have h1 := find_mem (isPoll_items hP) hx
  have h2 := find_mem (isPoll_items hP) hy
  unfold votesFor
  rw [hP, h1, h2, itemAt_of h1 hx, itemAt_of h2 hy]
  simp
theorem votesFor_bound (l : List GItem) (g : List (List GNode)) (a b : Int) : 0 ≤ votesFor l g a b ∧ votesFor l g a b ≤ 5 := by
  unfold votesFor votesIn
  split
  · rename_i h
    rw [Bool.and_eq_true] at h
    have h1 := cntTo_bound (fun e => decide (cmpBy e (itemAt l a) (itemAt l b) = 1)) g g.length
    have h2 := (areVoters_len (isPoll_voters h.1)).2
    omega
  · omega
/-- the item that wins against each other one -/
def winsOver (l : List GItem) (g : List (List GNode)) (x y : GItem) : Bool := decide (x.id = y.id) || decide (votesFor l g y.id x.id < votesFor l g x.id y.id)
def condo (l : List GItem) (g : List (List GNode)) : Int := if isPoll l g then (match l.find? (fun x => l.all (winsOver l g x)) with | some x => x.id | none => -1) else -1
theorem find_take_no {α : Type} {f : α → Bool} {l : List α} {k : Nat} {x : α} (hx : l[k]? = some x) (h : f x = false) : (l.take (k + 1)).find? f = (l.take k).find? f := by
  rw [List.take_add_one, hx, List.find?_append]; simp [h]
theorem find_take_yes {α : Type} {f : α → Bool} {l : List α} {k : Nat} {x : α} (hx : l[k]? = some x) (h : f x = true) (h0 : (l.take k).find? f = none) : l.find? f = some x := by
  have h1 : l.find? f = ((l.take k) ++ l.drop k).find? f := by rw [List.take_append_drop]
  rw [h1, List.find?_append, h0, drop_cons hx]; simp [h]
/-- sums over the voters -/
def sumTo (f : List GNode → Int) (g : List (List GNode)) : Nat → Int
  | 0 => 0
  | k + 1 => sumTo f g k + (match g[k]? with | some e => f e | none => 0)
theorem sumTo_succ {f : List GNode → Int} {g : List (List GNode)} {k : Nat} {e : List GNode} (hx : g[k]? = some e) : sumTo f g (k + 1) = sumTo f g k + f e := by rw [sumTo, hx]
theorem sumTo_bound {f : List GNode → Int} {g : List (List GNode)} (h : ∀ e, -16 ≤ f e ∧ f e ≤ 16) : ∀ k : Nat, -(16 * (k : Int)) ≤ sumTo f g k ∧ sumTo f g k ≤ 16 * k
  | 0 => by rw [sumTo]; omega
  | k + 1 => by
    have h1 := sumTo_bound (g := g) h k
    rw [sumTo]
    cases g[k]? with
    | none => dsimp only; omega
    | some e => have := h e; dsimp only; omega
def bordaOf (l : List GItem) (g : List (List GNode)) (x : GItem) : Int := sumTo (fun e => ((relM l e x.id (-1)).length : Int) - ((relM l e x.id 1).length : Int)) g g.length
def approvOf (l : List GItem) (g : List (List GNode)) (x : GItem) : Int := cntTo (fun e => (bestItems l e).contains x.id) g g.length
def bordaL (l : List GItem) (g : List (List GNode)) : List Int := if isPoll l g then l.map (bordaOf l g) else []
def approvL (l : List GItem) (g : List (List GNode)) : List Int := if isPoll l g then l.map (approvOf l g) else []
def mapTo (f : GItem → Int) (l : List GItem) (k : Nat) : List Int := (l.take k).map f
theorem mapTo_succ {f : GItem → Int} {l : List GItem} {k : Nat} {x : GItem} (hx : l[k]? = some x) : mapTo f l (k + 1) = mapTo f l k ++ [f x] := by unfold mapTo; rw [List.take_add_one, hx]; simp
theorem mapTo_len (f : GItem → Int) (l : List GItem) (k : Nat) : (mapTo f l k).length ≤ k := by unfold mapTo; rw [List.length_map, List.length_take]; omega
theorem mapTo_end {f : GItem → Int} {l : List GItem} {k : Nat} (h : l.length ≤ k) : mapTo f l k = l.map f := by unfold mapTo; rw [List.take_of_length_le h]
/-- the place of the first that is greatest -/
def posTo (s : List Int) : Nat → Nat
  | 0 => 0
  | k + 1 => match s[k]?, s[posTo s k]? with
    | some a, some b => if b < a then k else posTo s k
    | _, _ => posTo s k
theorem posTo_succ {s : List Int} {k : Nat} {a b : Int} (ha : s[k]? = some a) (hb : s[posTo s k]? = some b) : posTo s (k + 1) = if b < a then k else posTo s k := by rw [posTo, ha, hb]
theorem posTo_lt {s : List Int} (h : 0 < s.length) : ∀ k, k ≤ s.length → posTo s k < s.length
  | 0, _ => h
  | k + 1, hk => by
    have h1 := posTo_lt h k (by omega)
    rw [posTo]
    split
    · split <;> omega
    · exact h1
def idAt (l : List GItem) (k : Nat) : Int := match l[k]? with | some x => x.id | none => -1
def choice (l : List GItem) (g : List (List GNode)) (s : List Int) : Int := if isPoll l g && decide (0 < l.length) then idAt l (posTo s s.length) else -1
theorem idAt_bound {l : List GItem} (h : areItems l = true) (k : Nat) : -1 ≤ idAt l k ∧ idAt l k ≤ 99 := by
  unfold idAt
  cases hx : l[k]? with
  | none => dsimp only; omega
  | some x => have := isItem_id (areItems_mem h (List.mem_of_getElem? hx)); dsimp only; omega
theorem choice_bound (l : List GItem) (g : List (List GNode)) (s : List Int) : -1 ≤ choice l g s ∧ choice l g s ≤ 99 := by
  unfold choice; split
  · rename_i h
    rw [Bool.and_eq_true] at h
    exact idAt_bound (isPoll_items h.1) _
  · omega
theorem condo_bound (l : List GItem) (g : List (List GNode)) : -1 ≤ condo l g ∧ condo l g ≤ 99 := by
  unfold condo; split
  · rename_i h
    cases hx : l.find? (fun x => l.all (winsOver l g x)) with
    | none => dsimp only; omega
    | some x => have := isItem_id (areItems_mem (isPoll_items h) (List.mem_of_find?_eq_some hx)); dsimp only; omega
  · omega
end Go.Proofs.YthlaabaffbffkaaGreat

namespace Go.Proofs.YthlaabaffbffkaaGreat
open Go.RowKit
set_option linter.unusedVariables false

set_option maxRecDepth 100000 in
set_option maxHeartbeats 3200000 in
theorem slices_EqualFunc_nodes (w : World) (xs ys : List GNode) (v1 v2 : Value) (h1 : Rd rNodes w xs [v1]) (h2 : Rd rNodes w ys [v2]) :
    Calls Tryz.prog 143 #[v1, v2, .func (.func 144) #[] #[]] w (Ret w (.bool (decide (xs = ys)))) := by
  obtain ⟨A1, n1, c1, rfl, a1, a2, a3⟩ := rSl_open h1
  obtain ⟨A2, n2, c2, rfl, b1, b2, b3⟩ := rSl_open h2
  unfold maxLen at a3 b3
  have L1 := Lib.hid a1
  have L2 := Lib.hid b1
  clear a1 b1
  by_cases hl : n1 = n2
  · subst hl
    go_enter Tryz.func143, Tryz.ntmps143
    go_wp2
    go_loopw [17] (fun i w' => ∃ k : Nat, k ≤ n1 ∧ i = .int .i64 k ∧ xs.take k = ys.take k ∧ Bw w w') (fun i _ => n1 - (intOf i).toNat)
    case atStart => exact ⟨0, by omega, rfl, by simp, Bw.refl _⟩
    case round =>
      obtain ⟨k, hk, rfl, he, hb⟩ := hrel
      have HE := Lib.hid he
      clear he
      by_cases hlt : k < n1
      · obtain ⟨x, hx⟩ := get_of_lt (xs := xs) (k := k) (by rw [← L1.out]; exact hlt)
        obtain ⟨y, hy⟩ := get_of_lt (xs := ys) (k := k) (by rw [← L2.out]; exact hlt)
        obtain ⟨ba, oa, Alx, clx, Apx, cpx, rfl, _, p0, p1, p2, p3, p4, p5, hix, hjx⟩ := rNodes_at (h1.bw rNodes_good hb) hx
        obtain ⟨bb, ob, Aly, cly, Apy, cpy, rfl, _, q0, q1, q2, q3, q4, q5, hiy, hjy⟩ := rNodes_at (h2.bw rNodes_good hb) hy
        have HX := Lib.hid hx
        have HY := Lib.hid hy
        have D : Bw wr ((wr.alloc (.cells #[.int .i64 x.op, .int .i64 x.wish.kind, .int .i64 x.wish.field, .int .i64 x.wish.value, .slice Alx x.wish.list.length clx, .slice Apx x.wish.pairs.length cpx] 131)).alloc (.cells #[.int .i64 y.op, .int .i64 y.wish.kind, .int .i64 y.wish.field, .int .i64 y.wish.value, .slice Aly y.wish.list.length cly, .slice Apy y.wish.pairs.length cpy] 131)) := ((Bw.refl wr).alloc _).alloc _
        have hbx := World.block_lt_of_cell? _ _ p0
        have hby := World.block_lt_of_cell? _ _ q0
        clear hx hy h1 h2
        go_wp2_with fail
        refine (I_EqExpr1 _ x y _ _ _ _ (Rd.bw rInts_good hix D) (Rd.bw rInts_good hiy D) (Rd.bw rPairs_good hjx D) (Rd.bw rPairs_good hjy D)).mono ?_
        rintro e w2 ⟨rfl, hb2⟩
        have hbb : Bw w w2 := hb.then (D.then hb2)
        by_cases hxy : x = y
        · have HD : decide (x = y) = true := by simpa using hxy
          have HXY := Lib.hid hxy
          clear hxy
          go_wp2
          go_roundw
          case rel => exact ⟨k + 1, by omega, by go_num, take_step HE.out HX.out HY.out HXY.out, hbb⟩
          case measure => simp [intOf]; omega
        · have HD : decide (x = y) = false := by simpa using hxy
          go_wp2
          go_ret
          exact Ret.bool (by simpa using ne_of_at HX.out HY.out hxy) hbb
      · go_wp2
        go_ret
        exact Ret.bool (by simpa using eq_of_take HE.out (by rw [← L1.out]; omega) (by rw [← L2.out]; omega)) hb
  · go_enter Tryz.func143, Tryz.ntmps143
    go_wp2
    go_ret
    exact Ret.bool (by simp; intro e; exact hl (by rw [L1.out, L2.out, e])) (Bw.refl _)

set_option maxHeartbeats 400000 in
theorem I_EqualExpressions (w : World) (xs ys : List GNode) (v1 v2 : Value) (h1 : Rd rNodes w xs [v1]) (h2 : Rd rNodes w ys [v2]) :
    Calls Tryz.prog 72 #[v1, v2] w (Ret w (.bool (decide (xs = ys)))) := by
  go_enter Tryz.func72, Tryz.ntmps72
  go_wp2_with fail
  refine (slices_EqualFunc_nodes _ xs ys _ _ h1 h2).mono ?_
  rintro e w2 ⟨rfl, hb2⟩
  go_wp2
  go_ret
  exact Ret.bool (rfl) (hb2)
set_option maxRecDepth 100000 in
set_option maxHeartbeats 3200000 in
theorem S_EqualItems (w : World) (xs ys : List GItem) (v1 v2 : Value) (h1 : Rd rItems w xs [v1]) (h2 : Rd rItems w ys [v2]) :
    Calls Tryz.prog 103 #[v1, v2] w (Ret w (.bool (decide (xs = ys)))) := by
  obtain ⟨A1, n1, c1, rfl, a1, a2, a3⟩ := rSl_open h1
  obtain ⟨A2, n2, c2, rfl, b1, b2, b3⟩ := rSl_open h2
  unfold maxLen at a3 b3
  have L1 := Lib.hid a1
  have L2 := Lib.hid b1
  clear a1 b1
  by_cases hl : n1 = n2
  · subst hl
    go_enter Tryz.func103, Tryz.ntmps103
    go_wp2
    go_loopw [5] (fun i w' => ∃ k : Nat, k ≤ n1 ∧ i = .int .i64 k ∧ xs.take k = ys.take k ∧ Bw w w') (fun i _ => n1 - (intOf i).toNat)
    case atStart => exact ⟨0, by omega, rfl, by simp, Bw.refl _⟩
    case round =>
      obtain ⟨k, hk, rfl, he, hb⟩ := hrel
      have HE := Lib.hid he
      clear he
      by_cases hlt : k < n1
      · obtain ⟨x, hx⟩ := get_of_lt (xs := xs) (k := k) (by rw [← L1.out]; exact hlt)
        obtain ⟨y, hy⟩ := get_of_lt (xs := ys) (k := k) (by rw [← L2.out]; exact hlt)
        obtain ⟨ba, oa, Ax, cx, rfl, _, p0, p1, hix⟩ := rItems_at (h1.bw rItems_good hb) hx
        obtain ⟨bb, ob, Ay, cy, rfl, _, q0, q1, hiy⟩ := rItems_at (h2.bw rItems_good hb) hy
        have HX := Lib.hid hx
        have HY := Lib.hid hy
        have i1 : (0 : Int) ≤ (k : Int) := by omega
        have i2 : (k : Int) < (n1 : Int) := by omega
        have hbA := hb
        have hix' : Rd rInts wr _ _ := hix; have hiy' : Rd rInts wr _ _ := hiy; have s0 := since_cell p0; have s1 := since_cell p1; have s2 := since_cell q0; have s3 := since_cell q1; clear p0 p1 q0 q1
        clear hx hy h1 h2
        by_cases e1 : x.id = y.id
        · have a1 : (x.id == y.id) = true := by simpa using e1
          have b1 : (x.id != y.id) = false := by simpa using e1
          have E1 := Lib.hid e1
          clear e1
          rcases Bool.eq_false_or_eq_true (decide (x.vals = y.vals)) with hd | hd
          · have HD := Lib.hid hd
            have HXY := Lib.hid (show x = y by have := E1.out; have h2 := HD.out; cases x; cases y; simp_all)
            clear HD
            go_wp2
            refine wp_region_since (by kernel_rfl) (by kernel_rfl) ?_
            repeat (first | go_big_quiet_skip | (go_big_quiet_want; go_big_quiet_op; first | go_big_quiet_on | (apply Exists.intro; refine ⟨fun _ => ?_, ?_⟩; (· (((first | (go_at_call 85; exact Calls_since (Calls_weak (S_l2Ints _ x.vals y.vals _ _ (Rd.bw rInts_good hix' (Since.bw _)) (Rd.bw rInts_good hiy' (Since.bw _))) (congrArg Value.bool hd))))))); go_big_quiet_on)))
            refine wpQuiet_nil ?_
            rintro ⟨wq, hbq⟩
            dsimp only at *
            go_wp2
            go_roundw
            case rel => exact ⟨k + 1, by omega, by go_num, take_step HE.out HX.out HY.out HXY.out, hbA.then hbq⟩
            case measure => simp [intOf]; omega
          · have HD := Lib.hid hd
            have HXY := Lib.hid (show x ≠ y by rintro rfl; have h2 := HD.out; simp at h2)
            clear HD
            go_wp2
            refine wp_region_since (by kernel_rfl) (by kernel_rfl) ?_
            repeat (first | go_big_quiet_skip | (go_big_quiet_want; go_big_quiet_op; first | go_big_quiet_on | (apply Exists.intro; refine ⟨fun _ => ?_, ?_⟩; (· (((first | (go_at_call 85; exact Calls_since (Calls_weak (S_l2Ints _ x.vals y.vals _ _ (Rd.bw rInts_good hix' (Since.bw _)) (Rd.bw rInts_good hiy' (Since.bw _))) (congrArg Value.bool hd))))))); go_big_quiet_on)))
            refine wpQuiet_nil ?_
            rintro ⟨wq, hbq⟩
            dsimp only at *
            go_wp2
            go_ret
            exact Ret.bool (by simpa using ne_of_at HX.out HY.out HXY.out) (hbA.then hbq)
        · have a1 : (x.id == y.id) = false := by simpa using e1
          have b1 : (x.id != y.id) = true := by simpa using e1
          have HXY := Lib.hid (show x ≠ y by rintro rfl; exact e1 rfl)
          clear e1
          go_wp2
          refine wp_region_since (by kernel_rfl) (by kernel_rfl) ?_
          repeat (first | go_big_quiet_skip | (go_big_quiet_want; go_big_quiet_op; first | go_big_quiet_on | (apply Exists.intro; refine ⟨fun _ => ?_, ?_⟩; (· (((first | (go_at_call 85; exact Calls_since (S_l2Ints _ x.vals y.vals _ _ (Rd.bw rInts_good hix' (Since.bw _)) (Rd.bw rInts_good hiy' (Since.bw _)))))))); go_big_quiet_on)))
          refine wpQuiet_nil ?_
          rintro ⟨wq, hbq⟩
          dsimp only at *
          go_wp2
          go_ret
          exact Ret.bool (by simpa using ne_of_at HX.out HY.out HXY.out) (hbA.then hbq)
      · go_wp2
        go_ret
        exact Ret.bool (by simpa using eq_of_take HE.out (by rw [← L1.out]; omega) (by rw [← L2.out]; omega)) hb
  · go_enter Tryz.func103, Tryz.ntmps103
    go_wp2
    go_ret
    exact Ret.bool (by simp; intro e; exact hl (by rw [L1.out, L2.out, e])) (Bw.refl _)
set_option maxRecDepth 100000 in
set_option maxHeartbeats 3200000 in
theorem S_EqualExpressions (w : World) (xs ys : List GNode) (v1 v2 : Value) (h1 : Rd rNodes w xs [v1]) (h2 : Rd rNodes w ys [v2]) :
    Calls Tryz.prog 104 #[v1, v2] w (Ret w (.bool (decide (xs = ys)))) := by
  obtain ⟨A1, n1, c1, rfl, a1, a2, a3⟩ := rSl_open h1
  obtain ⟨A2, n2, c2, rfl, b1, b2, b3⟩ := rSl_open h2
  unfold maxLen at a3 b3
  have L1 := Lib.hid a1
  have L2 := Lib.hid b1
  clear a1 b1
  by_cases hl : n1 = n2
  · subst hl
    go_enter Tryz.func104, Tryz.ntmps104
    go_wp2
    go_loopw [5] (fun i w' => ∃ k : Nat, k ≤ n1 ∧ i = .int .i64 k ∧ xs.take k = ys.take k ∧ Bw w w') (fun i _ => n1 - (intOf i).toNat)
    case atStart => exact ⟨0, by omega, rfl, by simp, Bw.refl _⟩
    case round =>
      obtain ⟨k, hk, rfl, he, hb⟩ := hrel
      have HE := Lib.hid he
      clear he
      by_cases hlt : k < n1
      · obtain ⟨x, hx⟩ := get_of_lt (xs := xs) (k := k) (by rw [← L1.out]; exact hlt)
        obtain ⟨y, hy⟩ := get_of_lt (xs := ys) (k := k) (by rw [← L2.out]; exact hlt)
        obtain ⟨ba, oa, Alx, clx, Apx, cpx, rfl, _, p0, p1, p2, p3, p4, p5, hix, hjx⟩ := rNodes_at (h1.bw rNodes_good hb) hx
        obtain ⟨bb, ob, Aly, cly, Apy, cpy, rfl, _, q0, q1, q2, q3, q4, q5, hiy, hjy⟩ := rNodes_at (h2.bw rNodes_good hb) hy
        have HX := Lib.hid hx
        have HY := Lib.hid hy
        have i1 : (0 : Int) ≤ (k : Int) := by omega
        have i2 : (k : Int) < (n1 : Int) := by omega
        have hbA := hb
        have hix' : Rd rInts wr _ _ := hix; have hiy' : Rd rInts wr _ _ := hiy; have hjx' : Rd rPairs wr _ _ := hjx; have hjy' : Rd rPairs wr _ _ := hjy; have s0 := since_cell p0; have s1 := since_cell p1; have s2 := since_cell p2; have s3 := since_cell p3; have s4 := since_cell p4; have s5 := since_cell p5; have r0 := since_cell q0; have r1 := since_cell q1; have r2 := since_cell q2; have r3 := since_cell q3; have r4 := since_cell q4; have r5 := since_cell q5; clear p0 p1 p2 p3 p4 p5 q0 q1 q2 q3 q4 q5
        clear hx hy h1 h2
        by_cases e1 : x.op = y.op
        · have a1 : (x.op == y.op) = true := by simpa using e1
          have b1 : (x.op != y.op) = false := by simpa using e1
          have E1 := Lib.hid e1
          clear e1
          rcases Bool.eq_false_or_eq_true (decide (x.wish = y.wish)) with hd | hd
          · have HD := Lib.hid hd
            have HXY := Lib.hid (show x = y by have := E1.out; have h2 := HD.out; cases x; cases y; simp_all)
            clear HD
            go_wp2
            refine wp_region_since (by kernel_rfl) (by kernel_rfl) ?_
            repeat (first | go_big_quiet_skip | (go_big_quiet_want; go_big_quiet_op; first | go_big_quiet_on | (apply Exists.intro; refine ⟨fun _ => ?_, ?_⟩; (· (((first | (go_at_call 164; exact Calls_since (Calls_weak (S_l5SameWish _ x.wish y.wish _ _ _ _ (Rd.bw rInts_good hix' (Since.bw _)) (Rd.bw rInts_good hiy' (Since.bw _)) (Rd.bw rPairs_good hjx' (Since.bw _)) (Rd.bw rPairs_good hjy' (Since.bw _))) (congrArg Value.bool hd))))))); go_big_quiet_on)))
            refine wpQuiet_nil ?_
            rintro ⟨wq, hbq⟩
            dsimp only at *
            go_wp2
            go_roundw
            case rel => exact ⟨k + 1, by omega, by go_num, take_step HE.out HX.out HY.out HXY.out, hbA.then hbq⟩
            case measure => simp [intOf]; omega
          · have HD := Lib.hid hd
            have HXY := Lib.hid (show x ≠ y by rintro rfl; have h2 := HD.out; simp at h2)
            clear HD
            go_wp2
            refine wp_region_since (by kernel_rfl) (by kernel_rfl) ?_
            repeat (first | go_big_quiet_skip | (go_big_quiet_want; go_big_quiet_op; first | go_big_quiet_on | (apply Exists.intro; refine ⟨fun _ => ?_, ?_⟩; (· (((first | (go_at_call 164; exact Calls_since (Calls_weak (S_l5SameWish _ x.wish y.wish _ _ _ _ (Rd.bw rInts_good hix' (Since.bw _)) (Rd.bw rInts_good hiy' (Since.bw _)) (Rd.bw rPairs_good hjx' (Since.bw _)) (Rd.bw rPairs_good hjy' (Since.bw _))) (congrArg Value.bool hd))))))); go_big_quiet_on)))
            refine wpQuiet_nil ?_
            rintro ⟨wq, hbq⟩
            dsimp only at *
            go_wp2
            go_ret
            exact Ret.bool (by simpa using ne_of_at HX.out HY.out HXY.out) (hbA.then hbq)
        · have a1 : (x.op == y.op) = false := by simpa using e1
          have b1 : (x.op != y.op) = true := by simpa using e1
          have HXY := Lib.hid (show x ≠ y by rintro rfl; exact e1 rfl)
          clear e1
          go_wp2
          refine wp_region_since (by kernel_rfl) (by kernel_rfl) ?_
          repeat (first | go_big_quiet_skip | (go_big_quiet_want; go_big_quiet_op; first | go_big_quiet_on | (apply Exists.intro; refine ⟨fun _ => ?_, ?_⟩; (· (((first | (go_at_call 164; exact Calls_since (S_l5SameWish _ x.wish y.wish _ _ _ _ (Rd.bw rInts_good hix' (Since.bw _)) (Rd.bw rInts_good hiy' (Since.bw _)) (Rd.bw rPairs_good hjx' (Since.bw _)) (Rd.bw rPairs_good hjy' (Since.bw _)))))))); go_big_quiet_on)))
          refine wpQuiet_nil ?_
          rintro ⟨wq, hbq⟩
          dsimp only at *
          go_wp2
          go_ret
          exact Ret.bool (by simpa using ne_of_at HX.out HY.out HXY.out) (hbA.then hbq)
      · go_wp2
        go_ret
        exact Ret.bool (by simpa using eq_of_take HE.out (by rw [← L1.out]; omega) (by rw [← L2.out]; omega)) hb
  · go_enter Tryz.func104, Tryz.ntmps104
    go_wp2
    go_ret
    exact Ret.bool (by simp; intro e; exact hl (by rw [L1.out, L2.out, e])) (Bw.refl _)
end Go.Proofs.YthlaabaffbffkaaGreat
