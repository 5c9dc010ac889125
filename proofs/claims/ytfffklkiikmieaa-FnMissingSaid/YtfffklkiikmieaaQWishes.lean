/- Wishes and nodes: readings, copies, counts, comparisons. -/
import Derived.Test.YtfffklkiikmieaaQItems
namespace Go.Proofs.Ytfffklkiikmieaa
open Go.RowKit
set_option linter.unusedVariables false
def totWish (x : GWish) : Nat := x.list.length + x.pairs.length
def totNode (x : GNode) : Nat := totWish x.wish
def totNodes (xs : List GNode) : Nat := xs.length + sumL totNode xs
def totWishes (xs : List GWish) : Nat := xs.length + sumL totWish xs
def totNodess (xs : List (List GNode)) : Nat := xs.length + sumL totNodes xs
def totStanding (s : GStanding) : Nat := totItems s.items + totNodes s.wanted + s.best.length
section
variable {w : World} {S : Blocks} {A : Option Addr} {n c k : Nat}
theorem rWishes_at {xs : List GWish} (h : rWishes w S xs [.slice A n c]) {x : GWish} (hx : xs[k]? = some x) : ∃ b o Al cl Ap cp, A = some ⟨b, o, none⟩ ∧ S b ∧
    w.cell? ⟨b, o + k * 5, none⟩ = some (.int .i64 x.kind) ∧ w.cell? ⟨b, o + k * 5 + 1, none⟩ = some (.int .i64 x.field) ∧ w.cell? ⟨b, o + k * 5 + 2, none⟩ = some (.int .i64 x.value) ∧
    w.cell? ⟨b, o + k * 5 + 3, none⟩ = some (.slice Al x.list.length cl) ∧ w.cell? ⟨b, o + k * 5 + 4, none⟩ = some (.slice Ap x.pairs.length cp) ∧ rInts w S x.list [.slice Al x.list.length cl] ∧ rPairs w S x.pairs [.slice Ap x.pairs.length cp] := by
  obtain ⟨b, o, us, e, hS, _, hc, v, u, rfl, hv, hu⟩ := rSl_at h hx
  obtain ⟨Al, cl, rfl, _⟩ := rSl_shape hv
  obtain ⟨Ap, cp, rfl, _⟩ := rSl_shape hu
  exact ⟨b, o, Al, cl, Ap, cp, e, hS, hc 0 _ rfl, hc 1 _ rfl, hc 2 _ rfl, hc 3 _ rfl, hc 4 _ rfl, hv, hu⟩
theorem rNodes_at {xs : List GNode} (h : rNodes w S xs [.slice A n c]) {x : GNode} (hx : xs[k]? = some x) : ∃ b o Al cl Ap cp, A = some ⟨b, o, none⟩ ∧ S b ∧
    w.cell? ⟨b, o + k * 6, none⟩ = some (.int .i64 x.op) ∧ w.cell? ⟨b, o + k * 6 + 1, none⟩ = some (.int .i64 x.wish.kind) ∧ w.cell? ⟨b, o + k * 6 + 2, none⟩ = some (.int .i64 x.wish.field) ∧ w.cell? ⟨b, o + k * 6 + 3, none⟩ = some (.int .i64 x.wish.value) ∧
    w.cell? ⟨b, o + k * 6 + 4, none⟩ = some (.slice Al x.wish.list.length cl) ∧ w.cell? ⟨b, o + k * 6 + 5, none⟩ = some (.slice Ap x.wish.pairs.length cp) ∧ rInts w S x.wish.list [.slice Al x.wish.list.length cl] ∧ rPairs w S x.wish.pairs [.slice Ap x.wish.pairs.length cp] := by
  obtain ⟨b, o, us, e, hS, _, hc, us', rfl, v, u, rfl, hv, hu⟩ := rSl_at h hx
  obtain ⟨Al, cl, rfl, _⟩ := rSl_shape hv
  obtain ⟨Ap, cp, rfl, _⟩ := rSl_shape hu
  exact ⟨b, o, Al, cl, Ap, cp, e, hS, hc 0 _ rfl, hc 1 _ rfl, hc 2 _ rfl, hc 3 _ rfl, hc 4 _ rfl, hc 5 _ rfl, hv, hu⟩
theorem rNodess_at {xs : List (List GNode)} (h : rNodess w S xs [.slice A n c]) {x : List GNode} (hx : xs[k]? = some x) : ∃ b o A' c', A = some ⟨b, o, none⟩ ∧ S b ∧
    w.cell? ⟨b, o + k, none⟩ = some (.slice A' x.length c') ∧ rNodes w S x [.slice A' x.length c'] := by
  obtain ⟨b, o, us, e, hS, _, hc, hv⟩ := rSl_at h hx
  obtain ⟨A', c', e', _⟩ := hv
  subst e'
  exact ⟨b, o, A', c', e, hS, by simpa using hc 0 _ rfl, ⟨A', c', rfl, by assumption⟩⟩
end
theorem eqWish_dec (x y : GWish) : decide (x = y) = (decide (x.kind = y.kind) && (decide (x.field = y.field) && (decide (x.value = y.value) && (decide (x.list = y.list) && decide (x.pairs = y.pairs))))) := by rw [Bool.eq_iff_iff]; simp [GWish.eq_iff]
theorem eqNode_dec (x y : GNode) : decide (x = y) = (decide (x.op = y.op) && decide (x.wish = y.wish)) := by rw [Bool.eq_iff_iff]; simp [GNode.eq_iff]
set_option maxRecDepth 100000 in
set_option maxHeartbeats 1600000 in
theorem L_eqWish (w : World) (x y : GWish) (v1 v2 u1 u2 : Value) (h1 : Rd rInts w x.list [v1]) (h2 : Rd rInts w y.list [v2]) (k1 : Rd rPairs w x.pairs [u1]) (k2 : Rd rPairs w y.pairs [u2]) :
    Calls Try.prog 170 #[.agg #[.int .i64 x.kind, .int .i64 x.field, .int .i64 x.value, v1, u1], .agg #[.int .i64 y.kind, .int .i64 y.field, .int .i64 y.value, v2, u2]] w (Ret w (.bool (decide (x = y)))) := by
  have B0 : Bw w ((w.alloc (.cells #[.int .i64 x.kind, .int .i64 x.field, .int .i64 x.value, v1, u1] 75)).alloc (.cells #[.int .i64 y.kind, .int .i64 y.field, .int .i64 y.value, v2, u2] 75)) := ((Bw.refl w).alloc _).alloc _
  rw [eqWish_dec]
  by_cases e1 : x.kind = y.kind
  · by_cases e2 : x.field = y.field
    · by_cases e3 : x.value = y.value
      · have H := Lib.hid (show decide (x.kind = y.kind) = true ∧ decide (x.field = y.field) = true ∧ decide (x.value = y.value) = true by simp [e1, e2, e3])
        have a1 : (x.kind == y.kind) = true := by simpa using e1
        have b1 : (x.kind != y.kind) = false := by simpa using e1
        have a2 : (x.field == y.field) = true := by simpa using e2
        have b2 : (x.field != y.field) = false := by simpa using e2
        have a3 : (x.value == y.value) = true := by simpa using e3
        have b3 : (x.value != y.value) = false := by simpa using e3
        clear e1 e2 e3
        go_enter Try.func170, Try.ntmps170
        go_wp2_with fail
        refine (L_eqIntS _ x.list y.list _ _ (h1.bw rInts_good B0) (h2.bw rInts_good B0)).mono ?_
        rintro e w2 ⟨rfl, hb2⟩
        have hc := bw_cell hb2
        have B2 := B0.then hb2
        by_cases e4 : x.list = y.list
        · have H4 := Lib.hid (show decide (x.list = y.list) = true by simpa using e4)
          rw [show decide (x.list = y.list) = true from H4.out]
          clear e4
          go_wp2_with fail
          refine (L_eqPairS _ x.pairs y.pairs _ _ (k1.bw rPairs_good B2) (k2.bw rPairs_good B2)).mono ?_
          rintro e w3 ⟨rfl, hb3⟩
          by_cases e5 : x.pairs = y.pairs
          · have H5 := Lib.hid (show decide (x.pairs = y.pairs) = true by simpa using e5)
            rw [show decide (x.pairs = y.pairs) = true from H5.out]
            clear e5
            go_wp2
            go_ret
            exact Ret.bool (by simp [H.out.1, H.out.2.1, H.out.2.2, H4.out, H5.out]) (B2.then hb3)
          · have H5 := Lib.hid (show decide (x.pairs = y.pairs) = false by simpa using e5)
            rw [show decide (x.pairs = y.pairs) = false from H5.out]
            clear e5
            go_wp2
            go_ret
            exact Ret.bool (by simp [H5.out]) (B2.then hb3)
        · have H4 := Lib.hid (show decide (x.list = y.list) = false by simpa using e4)
          rw [show decide (x.list = y.list) = false from H4.out]
          clear e4
          go_wp2
          go_ret
          exact Ret.bool (by simp [H4.out]) (B2)
      · have H := Lib.hid (show decide (x.value = y.value) = false by simpa using e3)
        have a1 : (x.kind == y.kind) = true := by simpa using e1
        have b1 : (x.kind != y.kind) = false := by simpa using e1
        have a2 : (x.field == y.field) = true := by simpa using e2
        have b2 : (x.field != y.field) = false := by simpa using e2
        have a3 : (x.value == y.value) = false := by simpa using e3
        have b3 : (x.value != y.value) = true := by simpa using e3
        clear e1 e2 e3
        go_enter Try.func170, Try.ntmps170
        go_wp2
        go_ret
        exact Ret.bool (by rw [H.out]; simp) (B0)
    · have H := Lib.hid (show decide (x.field = y.field) = false by simpa using e2)
      have a1 : (x.kind == y.kind) = true := by simpa using e1
      have b1 : (x.kind != y.kind) = false := by simpa using e1
      have a2 : (x.field == y.field) = false := by simpa using e2
      have b2 : (x.field != y.field) = true := by simpa using e2
      clear e1 e2
      go_enter Try.func170, Try.ntmps170
      go_wp2
      go_ret
      exact Ret.bool (by rw [H.out]; simp) (B0)
  · have H := Lib.hid (show decide (x.kind = y.kind) = false by simpa using e1)
    have a1 : (x.kind == y.kind) = false := by simpa using e1
    have b1 : (x.kind != y.kind) = true := by simpa using e1
    clear e1
    go_enter Try.func170, Try.ntmps170
    go_wp2
    go_ret
    exact Ret.bool (by rw [H.out]; simp) (B0)
set_option maxRecDepth 100000 in
set_option maxHeartbeats 1600000 in
theorem I_equalWish (w : World) (x y : GWish) (v1 v2 u1 u2 : Value) (h1 : Rd rInts w x.list [v1]) (h2 : Rd rInts w y.list [v2]) (k1 : Rd rPairs w x.pairs [u1]) (k2 : Rd rPairs w y.pairs [u2]) :
    Calls Try.prog 167 #[.agg #[.int .i64 x.kind, .int .i64 x.field, .int .i64 x.value, v1, u1], .agg #[.int .i64 y.kind, .int .i64 y.field, .int .i64 y.value, v2, u2]] w (Ret w (.bool (decide (x = y)))) := by
  have B0 : Bw w ((w.alloc (.cells #[.int .i64 x.kind, .int .i64 x.field, .int .i64 x.value, v1, u1] 75)).alloc (.cells #[.int .i64 y.kind, .int .i64 y.field, .int .i64 y.value, v2, u2] 75)) := ((Bw.refl w).alloc _).alloc _
  rw [eqWish_dec]
  by_cases e1 : x.kind = y.kind
  · by_cases e2 : x.field = y.field
    · by_cases e3 : x.value = y.value
      · have H := Lib.hid (show decide (x.kind = y.kind) = true ∧ decide (x.field = y.field) = true ∧ decide (x.value = y.value) = true by simp [e1, e2, e3])
        have a1 : (x.kind == y.kind) = true := by simpa using e1
        have b1 : (x.kind != y.kind) = false := by simpa using e1
        have a2 : (x.field == y.field) = true := by simpa using e2
        have b2 : (x.field != y.field) = false := by simpa using e2
        have a3 : (x.value == y.value) = true := by simpa using e3
        have b3 : (x.value != y.value) = false := by simpa using e3
        clear e1 e2 e3
        go_enter Try.func167, Try.ntmps167
        go_wp2_with fail
        refine (slices_Equal_ints _ x.list y.list _ _ (h1.bw rInts_good B0) (h2.bw rInts_good B0)).mono ?_
        rintro e w2 ⟨rfl, hb2⟩
        have hc := bw_cell hb2
        have B2 := B0.then hb2
        by_cases e4 : x.list = y.list
        · have H4 := Lib.hid (show decide (x.list = y.list) = true by simpa using e4)
          rw [show decide (x.list = y.list) = true from H4.out]
          clear e4
          go_wp2_with fail
          refine (slices_Equal_pairs _ x.pairs y.pairs _ _ (k1.bw rPairs_good B2) (k2.bw rPairs_good B2)).mono ?_
          rintro e w3 ⟨rfl, hb3⟩
          by_cases e5 : x.pairs = y.pairs
          · have H5 := Lib.hid (show decide (x.pairs = y.pairs) = true by simpa using e5)
            rw [show decide (x.pairs = y.pairs) = true from H5.out]
            clear e5
            go_wp2
            go_ret
            exact Ret.bool (by simp [H.out.1, H.out.2.1, H.out.2.2, H4.out, H5.out]) (B2.then hb3)
          · have H5 := Lib.hid (show decide (x.pairs = y.pairs) = false by simpa using e5)
            rw [show decide (x.pairs = y.pairs) = false from H5.out]
            clear e5
            go_wp2
            go_ret
            exact Ret.bool (by simp [H5.out]) (B2.then hb3)
        · have H4 := Lib.hid (show decide (x.list = y.list) = false by simpa using e4)
          rw [show decide (x.list = y.list) = false from H4.out]
          clear e4
          go_wp2
          go_ret
          exact Ret.bool (by simp [H4.out]) (B2)
      · have H := Lib.hid (show decide (x.value = y.value) = false by simpa using e3)
        have a1 : (x.kind == y.kind) = true := by simpa using e1
        have b1 : (x.kind != y.kind) = false := by simpa using e1
        have a2 : (x.field == y.field) = true := by simpa using e2
        have b2 : (x.field != y.field) = false := by simpa using e2
        have a3 : (x.value == y.value) = false := by simpa using e3
        have b3 : (x.value != y.value) = true := by simpa using e3
        clear e1 e2 e3
        go_enter Try.func167, Try.ntmps167
        go_wp2
        go_ret
        exact Ret.bool (by rw [H.out]; simp) (B0)
    · have H := Lib.hid (show decide (x.field = y.field) = false by simpa using e2)
      have a1 : (x.kind == y.kind) = true := by simpa using e1
      have b1 : (x.kind != y.kind) = false := by simpa using e1
      have a2 : (x.field == y.field) = false := by simpa using e2
      have b2 : (x.field != y.field) = true := by simpa using e2
      clear e1 e2
      go_enter Try.func167, Try.ntmps167
      go_wp2
      go_ret
      exact Ret.bool (by rw [H.out]; simp) (B0)
  · have H := Lib.hid (show decide (x.kind = y.kind) = false by simpa using e1)
    have a1 : (x.kind == y.kind) = false := by simpa using e1
    have b1 : (x.kind != y.kind) = true := by simpa using e1
    clear e1
    go_enter Try.func167, Try.ntmps167
    go_wp2
    go_ret
    exact Ret.bool (by rw [H.out]; simp) (B0)
set_option maxRecDepth 100000 in
set_option maxHeartbeats 1600000 in
theorem S_l5SameWish (w : World) (x y : GWish) (v1 v2 u1 u2 : Value) (h1 : Rd rInts w x.list [v1]) (h2 : Rd rInts w y.list [v2]) (k1 : Rd rPairs w x.pairs [u1]) (k2 : Rd rPairs w y.pairs [u2]) :
    Calls Try.prog 141 #[.agg #[.int .i64 x.kind, .int .i64 x.field, .int .i64 x.value, v1, u1], .agg #[.int .i64 y.kind, .int .i64 y.field, .int .i64 y.value, v2, u2]] w (Ret w (.bool (decide (x = y)))) := by
  have B0 : Bw w ((w.alloc (.cells #[.int .i64 x.kind, .int .i64 x.field, .int .i64 x.value, v1, u1] 75)).alloc (.cells #[.int .i64 y.kind, .int .i64 y.field, .int .i64 y.value, v2, u2] 75)) := ((Bw.refl w).alloc _).alloc _
  rw [eqWish_dec]
  by_cases e1 : x.kind = y.kind
  · by_cases e2 : x.field = y.field
    · by_cases e3 : x.value = y.value
      · have H := Lib.hid (show decide (x.kind = y.kind) = true ∧ decide (x.field = y.field) = true ∧ decide (x.value = y.value) = true by simp [e1, e2, e3])
        have a1 : (x.kind == y.kind) = true := by simpa using e1
        have b1 : (x.kind != y.kind) = false := by simpa using e1
        have a2 : (x.field == y.field) = true := by simpa using e2
        have b2 : (x.field != y.field) = false := by simpa using e2
        have a3 : (x.value == y.value) = true := by simpa using e3
        have b3 : (x.value != y.value) = false := by simpa using e3
        clear e1 e2 e3
        go_enter Try.func141, Try.ntmps141
        go_wp2_with fail
        refine (S_l2Ints _ x.list y.list _ _ (h1.bw rInts_good B0) (h2.bw rInts_good B0)).mono ?_
        rintro e w2 ⟨rfl, hb2⟩
        have hc := bw_cell hb2
        have B2 := B0.then hb2
        by_cases e4 : x.list = y.list
        · have H4 := Lib.hid (show decide (x.list = y.list) = true by simpa using e4)
          rw [show decide (x.list = y.list) = true from H4.out]
          clear e4
          go_wp2_with fail
          refine (S_l5SamePairs _ x.pairs y.pairs _ _ (k1.bw rPairs_good B2) (k2.bw rPairs_good B2)).mono ?_
          rintro e w3 ⟨rfl, hb3⟩
          by_cases e5 : x.pairs = y.pairs
          · have H5 := Lib.hid (show decide (x.pairs = y.pairs) = true by simpa using e5)
            rw [show decide (x.pairs = y.pairs) = true from H5.out]
            clear e5
            go_wp2
            go_ret
            exact Ret.bool (by simp [H.out.1, H.out.2.1, H.out.2.2, H4.out, H5.out]) (B2.then hb3)
          · have H5 := Lib.hid (show decide (x.pairs = y.pairs) = false by simpa using e5)
            rw [show decide (x.pairs = y.pairs) = false from H5.out]
            clear e5
            go_wp2
            go_ret
            exact Ret.bool (by simp [H5.out]) (B2.then hb3)
        · have H4 := Lib.hid (show decide (x.list = y.list) = false by simpa using e4)
          rw [show decide (x.list = y.list) = false from H4.out]
          clear e4
          go_wp2
          go_ret
          exact Ret.bool (by simp [H4.out]) (B2)
      · have H := Lib.hid (show decide (x.value = y.value) = false by simpa using e3)
        have a1 : (x.kind == y.kind) = true := by simpa using e1
        have b1 : (x.kind != y.kind) = false := by simpa using e1
        have a2 : (x.field == y.field) = true := by simpa using e2
        have b2 : (x.field != y.field) = false := by simpa using e2
        have a3 : (x.value == y.value) = false := by simpa using e3
        have b3 : (x.value != y.value) = true := by simpa using e3
        clear e1 e2 e3
        go_enter Try.func141, Try.ntmps141
        go_wp2
        go_ret
        exact Ret.bool (by rw [H.out]; simp) (B0)
    · have H := Lib.hid (show decide (x.field = y.field) = false by simpa using e2)
      have a1 : (x.kind == y.kind) = true := by simpa using e1
      have b1 : (x.kind != y.kind) = false := by simpa using e1
      have a2 : (x.field == y.field) = false := by simpa using e2
      have b2 : (x.field != y.field) = true := by simpa using e2
      clear e1 e2
      go_enter Try.func141, Try.ntmps141
      go_wp2
      go_ret
      exact Ret.bool (by rw [H.out]; simp) (B0)
  · have H := Lib.hid (show decide (x.kind = y.kind) = false by simpa using e1)
    have a1 : (x.kind == y.kind) = false := by simpa using e1
    have b1 : (x.kind != y.kind) = true := by simpa using e1
    clear e1
    go_enter Try.func141, Try.ntmps141
    go_wp2
    go_ret
    exact Ret.bool (by rw [H.out]; simp) (B0)
set_option maxRecDepth 100000 in
set_option maxHeartbeats 1600000 in
theorem L_eqNode (w : World) (x y : GNode) (v1 v2 u1 u2 : Value) (h1 : Rd rInts w x.wish.list [v1]) (h2 : Rd rInts w y.wish.list [v2]) (k1 : Rd rPairs w x.wish.pairs [u1]) (k2 : Rd rPairs w y.wish.pairs [u2]) :
    Calls Try.prog 93 #[.agg #[.int .i64 x.op, .int .i64 x.wish.kind, .int .i64 x.wish.field, .int .i64 x.wish.value, v1, u1], .agg #[.int .i64 y.op, .int .i64 y.wish.kind, .int .i64 y.wish.field, .int .i64 y.wish.value, v2, u2]] w (Ret w (.bool (decide (x = y)))) := by
  have B0 : Bw w ((w.alloc (.cells #[.int .i64 x.op, .int .i64 x.wish.kind, .int .i64 x.wish.field, .int .i64 x.wish.value, v1, u1] 113)).alloc (.cells #[.int .i64 y.op, .int .i64 y.wish.kind, .int .i64 y.wish.field, .int .i64 y.wish.value, v2, u2] 113)) := ((Bw.refl w).alloc _).alloc _
  rw [eqNode_dec]
  by_cases e1 : x.op = y.op
  · have H := Lib.hid (show decide (x.op = y.op) = true by simpa using e1)
    have a1 : (x.op == y.op) = true := by simpa using e1
    have b1 : (x.op != y.op) = false := by simpa using e1
    clear e1
    go_enter Try.func93, Try.ntmps93
    go_wp2_with fail
    refine (L_eqWish _ x.wish y.wish _ _ _ _ (h1.bw rInts_good B0) (h2.bw rInts_good B0) (k1.bw rPairs_good B0) (k2.bw rPairs_good B0)).mono ?_
    rintro e w2 ⟨rfl, hb2⟩
    rcases Bool.eq_false_or_eq_true (decide (x.wish = y.wish)) with e4 | e4
    · have H4 := Lib.hid e4
      rw [e4]
      clear e4
      go_wp2
      go_ret
      exact Ret.bool (by simp [H.out, H4.out]) (B0.then hb2)
    · have H4 := Lib.hid e4
      rw [e4]
      clear e4
      go_wp2
      go_ret
      exact Ret.bool (by simp [H4.out]) (B0.then hb2)
  · have H := Lib.hid (show decide (x.op = y.op) = false by simpa using e1)
    have a1 : (x.op == y.op) = false := by simpa using e1
    have b1 : (x.op != y.op) = true := by simpa using e1
    clear e1
    go_enter Try.func93, Try.ntmps93
    go_wp2
    go_ret
    exact Ret.bool (by rw [H.out]; simp) (B0)
end Go.Proofs.Ytfffklkiikmieaa
