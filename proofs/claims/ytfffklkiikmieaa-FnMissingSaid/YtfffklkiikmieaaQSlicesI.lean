/- Go's library: slices.Index and slices.Contains at whole numbers. -/
import Derived.Test.YtfffklkiikmieaaQStack
import Derived.Test.YtfffklkiikmieaaQCouples
import Derived.Test.YtfffklkiikmieaaQBoxT
namespace Go.Proofs.Ytfffklkiikmieaa
open Go.RowKit
set_option linter.unusedVariables false

def beats (e : List GNode) (y x : GItem) : Bool := decide (cmpBy e y x = 1)
def freeIn (l : List GItem) (e : List GNode) (x : GItem) : Bool := !(l.any fun y => beats e y x)
def bestM (l : List GItem) (e : List GNode) : List Int := (l.filter (freeIn l e)).map (·.id)
def areBoth (l : List GItem) (e : List GNode) : Bool := areItems l && isExpr e
def bestItems (l : List GItem) (e : List GNode) : List Int := if areBoth l e then bestM l e else []
def onlyM (l : List GItem) (ids : List Int) (b : Bool) : List GItem := l.filter fun x => ids.contains x.id == b
theorem areItemsFrom_none : ∀ {l : List GItem} {p : Option Int}, areItemsFrom p l = true → areItemsFrom none l = true
  | [], _, _ => rfl
  | x :: l, none, h => h
  | x :: l, some p, h => by
    simp only [areItemsFrom, Bool.and_eq_true] at h ⊢
    exact ⟨h.1.1, h.2⟩
theorem areItemsFrom_low {p q : Int} (hpq : p ≤ q) : ∀ {l : List GItem}, areItemsFrom (some q) l = true → areItemsFrom (some p) l = true
  | [], _ => rfl
  | x :: l, h => by
    simp only [areItemsFrom, Bool.and_eq_true, decide_eq_true_iff] at h ⊢
    exact ⟨⟨h.1.1, by omega⟩, h.2⟩
theorem areItemsFrom_filter (f : GItem → Bool) : ∀ {l : List GItem} {p : Option Int}, areItemsFrom p l = true → areItemsFrom p (l.filter f) = true
  | [], _, _ => by simp [areItemsFrom]
  | x :: l, none, h => by
    have hh := h
    simp only [areItemsFrom, Bool.and_eq_true] at h
    by_cases hf : f x = true
    · rw [List.filter_cons_of_pos hf]
      simp only [areItemsFrom, Bool.and_eq_true]
      exact ⟨h.1, areItemsFrom_filter f h.2⟩
    · rw [List.filter_cons_of_neg hf]
      exact areItemsFrom_filter f (areItemsFrom_none h.2)
  | x :: l, some p, h => by
    simp only [areItemsFrom, Bool.and_eq_true, decide_eq_true_iff] at h
    by_cases hf : f x = true
    · rw [List.filter_cons_of_pos hf]
      simp only [areItemsFrom, Bool.and_eq_true, decide_eq_true_iff]
      exact ⟨h.1, areItemsFrom_filter f h.2⟩
    · rw [List.filter_cons_of_neg hf]
      exact areItemsFrom_filter f (areItemsFrom_low (by omega) h.2)
theorem areItems_filter {l : List GItem} (f : GItem → Bool) (h : areItems l = true) : areItems (l.filter f) = true := by
  unfold areItems at h ⊢
  simp only [Bool.and_eq_true, decide_eq_true_iff] at h ⊢
  exact ⟨areItemsFrom_filter f h.1, Nat.le_trans (List.length_filter_le _ _) h.2⟩
theorem areBoth_items {l : List GItem} {e : List GNode} (h : areBoth l e = true) : areItems l = true := by unfold areBoth at h; simp only [Bool.and_eq_true] at h; exact h.1
theorem areBoth_expr {l : List GItem} {e : List GNode} (h : areBoth l e = true) : isExpr e = true := by unfold areBoth at h; simp only [Bool.and_eq_true] at h; exact h.2
theorem bestM_len (l : List GItem) (e : List GNode) : (bestM l e).length ≤ l.length := by unfold bestM; rw [List.length_map]; exact List.length_filter_le _ _
/-- the best of the first items -/
def bestTo (l : List GItem) (e : List GNode) (k : Nat) : List Int := ((l.take k).filter (freeIn l e)).map (·.id)
theorem bestTo_yes {l : List GItem} {e : List GNode} {k : Nat} {x : GItem} (hx : l[k]? = some x) (h : freeIn l e x = true) : bestTo l e (k + 1) = bestTo l e k ++ [x.id] := by
  unfold bestTo; rw [List.take_add_one, hx, List.filter_append, List.map_append]; simp [h]
theorem bestTo_no {l : List GItem} {e : List GNode} {k : Nat} {x : GItem} (hx : l[k]? = some x) (h : freeIn l e x = false) : bestTo l e (k + 1) = bestTo l e k := by
  unfold bestTo; rw [List.take_add_one, hx, List.filter_append, List.map_append]; simp [h]
theorem bestTo_end {l : List GItem} {e : List GNode} {k : Nat} (h : l.length ≤ k) : bestTo l e k = bestM l e := by unfold bestTo bestM; rw [List.take_of_length_le h]
theorem bestTo_len {l : List GItem} {e : List GNode} {k : Nat} : (bestTo l e k).length ≤ k := by
  unfold bestTo; rw [List.length_map]
  exact Nat.le_trans (List.length_filter_le _ _) (by rw [List.length_take]; omega)
theorem any_take_succ {α : Type} (f : α → Bool) {l : List α} {k : Nat} {y : α} (h : l[k]? = some y) : (l.take (k + 1)).any f = ((l.take k).any f || f y) := by
  rw [List.take_add_one, h, List.any_append]; simp
theorem any_take_end {α : Type} (f : α → Bool) {l : List α} {k : Nat} (h : l.length ≤ k) : (l.take k).any f = l.any f := by rw [List.take_of_length_le h]
def onlyTo (l : List GItem) (ids : List Int) (b : Bool) (k : Nat) : List GItem := (l.take k).filter fun x => ids.contains x.id == b
theorem onlyTo_yes {l : List GItem} {ids : List Int} {b : Bool} {k : Nat} {x : GItem} (hx : l[k]? = some x) (h : ids.contains x.id = b) : onlyTo l ids b (k + 1) = onlyTo l ids b k ++ [x] := by
  have hb : (ids.contains x.id == b) = true := by rw [h]; simp
  unfold onlyTo; rw [List.take_add_one, hx, List.filter_append]
  simp only [Option.toList_some, List.filter_cons, List.filter_nil, hb, if_true]
theorem onlyTo_no {l : List GItem} {ids : List Int} {b : Bool} {k : Nat} {x : GItem} (hx : l[k]? = some x) (h : ids.contains x.id = !b) : onlyTo l ids b (k + 1) = onlyTo l ids b k := by
  have hb : (ids.contains x.id == b) = false := by rw [h]; cases b <;> rfl
  unfold onlyTo; rw [List.take_add_one, hx, List.filter_append]
  simp only [Option.toList_some, List.filter_cons, List.filter_nil, hb, List.append_nil, Bool.false_eq_true, if_false]
theorem onlyTo_end {l : List GItem} {ids : List Int} {b : Bool} {k : Nat} (h : l.length ≤ k) : onlyTo l ids b k = onlyM l ids b := by unfold onlyTo onlyM; rw [List.take_of_length_le h]
theorem onlyTo_len {l : List GItem} {ids : List Int} {b : Bool} {k : Nat} : (onlyTo l ids b k).length ≤ k := by
  unfold onlyTo
  exact Nat.le_trans (List.length_filter_le _ _) (by rw [List.length_take]; omega)
theorem onlyM_len (l : List GItem) (ids : List Int) (b : Bool) : (onlyM l ids b).length ≤ l.length := List.length_filter_le _ _

/-! ### several laws' answers -/
def codeB (c : Int) : Int := c
def refineM (l : List GItem) (ids : List Int) (q : List GNode) : List Int := if areBoth l q then bestM (onlyM l ids true) q else []
def localFree (a : List GItem) (f : Int) (p : List GNode) (x : GItem) : Bool := !(a.any fun y => decide (valAt x f = valAt y f) && beats p y x)
def localM (a : List GItem) (f : Int) (p : List GNode) : List Int := if areBoth a p && inB f 0 2 then (a.filter (localFree a f p)).map (·.id) else []
def isStand (s : GStanding) : Bool := areBoth s.items s.wanted && (decide (s.best = bestM s.items s.wanted) && inB s.tests 0 1000000)
end Go.Proofs.Ytfffklkiikmieaa

namespace Go.Proofs.Ytfffklkiikmieaa
open Go.RowKit
set_option linter.unusedVariables false
def itemOf (l : List GItem) (id : Int) : GItem := (l[(findIdx l id).toNat]?).getD ⟨0, []⟩
theorem itemOf_at {l : List GItem} {id : Int} (h : ∃ x ∈ l, x.id = id) : ∃ (k : Nat) (x : GItem), findIdx l id = (k : Int) ∧ l[k]? = some x ∧ itemOf l id = x := by
  rcases findIdx_cases l id with ⟨_, h2⟩ | ⟨k, x, h1, h2, _⟩
  · obtain ⟨x, hx, e⟩ := h
    exact absurd e (h2 x hx)
  · exact ⟨k, x, h1, h2, by rw [itemOf, h1]; simp [h2]⟩
def beatsC (a b : List GItem) (p q : List GNode) (d c : GPair) : Bool := decide (comb 1 (cmpBy p (itemOf a d.fst) (itemOf a c.fst)) (cmpBy q (itemOf b d.snd) (itemOf b c.snd)) = 1)
def freeC (a b : List GItem) (p q : List GNode) (l : List GPair) (c : GPair) : Bool := !(l.any fun d => beatsC a b p q d c)
def bestC (a b : List GItem) (p q : List GNode) (l : List GPair) : List GPair := l.filter (freeC a b p q l)
def bestCTo (a b : List GItem) (p q : List GNode) (l : List GPair) (k : Nat) : List GPair := (l.take k).filter (freeC a b p q l)
theorem bestCTo_yes {a b : List GItem} {p q : List GNode} {l : List GPair} {k : Nat} {c : GPair} (hc : l[k]? = some c) (h : freeC a b p q l c = true) : bestCTo a b p q l (k + 1) = bestCTo a b p q l k ++ [c] := by
  unfold bestCTo; rw [List.take_add_one, hc, List.filter_append]; simp [h]
theorem bestCTo_no {a b : List GItem} {p q : List GNode} {l : List GPair} {k : Nat} {c : GPair} (hc : l[k]? = some c) (h : freeC a b p q l c = false) : bestCTo a b p q l (k + 1) = bestCTo a b p q l k := by
  unfold bestCTo; rw [List.take_add_one, hc, List.filter_append]; simp [h]
theorem bestCTo_end {a b : List GItem} {p q : List GNode} {l : List GPair} {k : Nat} (h : l.length ≤ k) : bestCTo a b p q l k = bestC a b p q l := by unfold bestCTo bestC; rw [List.take_of_length_le h]
theorem bestCTo_len {a b : List GItem} {p q : List GNode} {l : List GPair} {k : Nat} : (bestCTo a b p q l k).length ≤ k := by
  unfold bestCTo
  exact Nat.le_trans (List.length_filter_le _ _) (by rw [List.length_take]; omega)
def fitC (a b : List GItem) (c : GPair) : Prop := (areItems a = true ∧ areItems b = true) ∧ (∃ x ∈ a, x.id = c.fst) ∧ ∃ y ∈ b, y.id = c.snd
theorem coupL_mem {x : GItem} {f g : Int} : ∀ {b : List GItem} {c : GPair}, c ∈ coupL x f g b → c.fst = x.id ∧ ∃ y ∈ b, y.id = c.snd
  | y :: b, c, h => by
    unfold coupL at h
    split at h
    · rcases List.mem_cons.1 h with rfl | h
      · exact ⟨rfl, y, by simp, rfl⟩
      · obtain ⟨h1, z, hz, e⟩ := coupL_mem h; exact ⟨h1, z, by simp [hz], e⟩
    · obtain ⟨h1, z, hz, e⟩ := coupL_mem h; exact ⟨h1, z, by simp [hz], e⟩
  | [], c, h => by simp [coupL] at h
theorem coupA_mem {f g : Int} {b : List GItem} : ∀ {a : List GItem} {c : GPair}, c ∈ coupA f g b a → (∃ x ∈ a, x.id = c.fst) ∧ ∃ y ∈ b, y.id = c.snd
  | x :: a, c, h => by
    rcases List.mem_append.1 h with h | h
    · obtain ⟨h1, h2⟩ := coupL_mem h; exact ⟨⟨x, by simp, h1.symm⟩, h2⟩
    · obtain ⟨⟨z, hz, e⟩, h2⟩ := coupA_mem h; exact ⟨⟨z, by simp [hz], e⟩, h2⟩
  | [], c, h => by simp [coupA] at h
theorem couples_fit {a b : List GItem} {f g : Int} : ∀ c ∈ couples a b f g, fitC a b c := fun c hc => by
  unfold couples at hc
  split at hc
  · rename_i h
    simp only [coupOk, Bool.and_eq_true] at h
    obtain ⟨h1, h2⟩ := coupA_mem hc
    exact ⟨⟨h.1, h.2.1⟩, h1, h2⟩
  · simp at hc
def bestCoup (a b : List GItem) (f g : Int) (p q : List GNode) : List GPair := if isExpr p && isExpr q then bestC a b p q (couples a b f g) else []
theorem bestCoup_len (a b : List GItem) (f g : Int) (p q : List GNode) : (bestCoup a b f g p q).length ≤ 256 := by
  unfold bestCoup; split
  · exact Nat.le_trans (List.length_filter_le _ _) (couples_len _ _ _ _)
  · simp
end Go.Proofs.Ytfffklkiikmieaa

namespace Go.Proofs.Ytfffklkiikmieaa
open Go.RowKit
set_option linter.unusedVariables false
set_option linter.unusedSimpArgs false
def idxI (x : Int) : List Int → Nat → Int
  | [], _ => -1
  | y :: l, i => if x = y then (i : Int) else idxI x l (i + 1)
theorem idxI_step {xs : List Int} {k : Nat} {x y : Int} (h : xs[k]? = some y) : idxI x (xs.drop k) k = if x = y then (k : Int) else idxI x (xs.drop (k + 1)) (k + 1) := by rw [drop_cons h, idxI]
theorem idxI_contains (x : Int) : ∀ (l : List Int) (i : Nat), decide (0 ≤ idxI x l i) = l.contains x
  | [], i => by simp [idxI]
  | y :: l, i => by
    rw [idxI, List.contains_cons]
    by_cases h : x = y
    · rw [if_pos h]; simp [h]
    · rw [if_neg h, idxI_contains x l (i + 1)]; simp [h]
theorem idxI_lt (x : Int) : ∀ (l : List Int) (i : Nat), -1 ≤ idxI x l i ∧ idxI x l i ≤ i + l.length
  | [], i => by simp [idxI]; try omega
  | y :: l, i => by
    have := idxI_lt x l (i + 1)
    rw [idxI]; split
    · simp; try omega
    · simp at this ⊢; omega
set_option maxHeartbeats 800000 in
theorem slices_Index_ints (w : World) (xs : List Int) (x : Int) (v : Value) (h : Rd rInts w xs [v]) : Calls Try.prog 168 #[v, .int .i64 x] w (Ret w (.int .i64 (idxI x xs 0))) := by
  obtain ⟨A, n, c, rfl, L0, Lc, Lm⟩ := rSl_open h
  unfold maxLen at Lm
  have L := Lib.hid L0
  clear L0
  go_enter Try.func168, Try.ntmps168
  go_wp2
  go_loopg [8] n (fun g i w' => ∃ k : Nat, k ≤ n ∧ g = n - k ∧ i = .int .i64 k ∧ Hid (idxI x xs 0 = idxI x (xs.drop k) k) ∧ Bw w w')
  case atStart => exact ⟨0, by omega, rfl, rfl, Lib.hid rfl, Bw.refl _⟩
  case round =>
    obtain ⟨k, hk, rfl, rfl, HE, hb⟩ := hrel
    by_cases hlt : k < n
    · obtain ⟨y, hy⟩ := get_of_lt (xs := xs) (k := k) (by have := L.out; omega)
      obtain ⟨ba, oa, rfl, _, hc0⟩ := rInts_at h hy
      have hc := hb.cell hc0
      have HS := Lib.hid (idxI_step (x := x) hy)
      have i1 : (0 : Int) ≤ (k : Int) := by omega
      have i2 : (k : Int) < (n : Int) := by omega
      clear hy h hc0
      by_cases he : x = y
      · have e1 : (x == y) = true := by simpa using he
        have HX := Lib.hid (show idxI x xs 0 = k by rw [HE.out, HS.out, if_pos he])
        clear he
        go_wp2
        go_ret
        exact Ret.int (HX.out.symm) (hb)
      · have e1 : (x == y) = false := by simpa using he
        have HX := Lib.hid (show idxI x xs 0 = idxI x (xs.drop (k + 1)) (k + 1) by rw [HE.out, HS.out, if_neg he])
        clear he
        go_wp2
        go_roundg (n - (k + 1))
        case measure => omega
        case rel => exact ⟨k + 1, by omega, rfl, by go_num, HX, hb⟩
    · have HX := Lib.hid (show idxI x xs 0 = -1 by rw [HE.out, List.drop_of_length_le (by have := L.out; omega)]; rfl)
      go_wp2
      go_ret
      exact Ret.int (HX.out.symm) (hb)
set_option maxHeartbeats 400000 in
theorem slices_Contains_ints (w : World) (xs : List Int) (x : Int) (v : Value) (h : Rd rInts w xs [v]) : Calls Try.prog 89 #[v, .int .i64 x] w (Ret w (.bool (xs.contains x))) := by
  have HC := Lib.hid (idxI_contains x xs 0)
  go_enter Try.func89, Try.ntmps89
  go_wp2_with fail
  refine (slices_Index_ints _ xs x _ h).mono ?_
  rintro e w2 ⟨rfl, hb2⟩
  go_wp2
  go_ret
  exact Ret.bool (HC.out) (hb2)
end Go.Proofs.Ytfffklkiikmieaa
