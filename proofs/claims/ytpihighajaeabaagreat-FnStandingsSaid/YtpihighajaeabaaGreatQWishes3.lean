/- Owned wishes, nodes, standings; the laws' conversions of them. -/
import Derived.Test.YtpihighajaeabaaGreatQItems
import Derived.Test.YtpihighajaeabaaGreatQOwn3
namespace Go.Proofs.YtpihighajaeabaaGreat
open Go.RowKit
set_option linter.unusedVariables false
def totWish (x : GWish) : Nat := x.list.length + x.pairs.length
def totNode (x : GNode) : Nat := totWish x.wish
def totNodes (xs : List GNode) : Nat := xs.length + sumL totNode xs
def totWishes (xs : List GWish) : Nat := xs.length + sumL totWish xs
def totNodess (xs : List (List GNode)) : Nat := xs.length + sumL totNodes xs
def totStanding (s : GStanding) : Nat := totItems s.items + totNodes s.wanted + s.best.length
section
variable {w : World} {S : Blocks} {A : Option Addr} {n c k : Nat}
theorem rWishes_at {xs : List GWish} (h : rWishes w S xs [.slice A n c]) {x : GWish} (hx : xs[k]? = some x) : ∃ b o Al cl Ap cp, A = some ⟨b, o, none⟩ ∧ S b ∧
    w.cell? ⟨b, o + k * 5, none⟩ = some (.int .i64 x.kind) ∧ w.cell? ⟨b, o + k * 5 + 1, none⟩ = some (.int .i64 x.field) ∧ w.cell? ⟨b, o + k * 5 + 2, none⟩ = some (.int .i64 x.value) ∧
    w.cell? ⟨b, o + k * 5 + 3, none⟩ = some (.slice Al x.list.length cl) ∧ w.cell? ⟨b, o + k * 5 + 4, none⟩ = some (.slice Ap x.pairs.length cp) ∧ rInts w S x.list [.slice Al x.list.length cl] ∧ rPairs w S x.pairs [.slice Ap x.pairs.length cp] := by
  obtain ⟨b, o, us, e, hS, _, hc, v, u, rfl, hv, hu⟩ := rSl_at h hx
  obtain ⟨Al, cl, rfl, _⟩ := rSl_shape hv
  obtain ⟨Ap, cp, rfl, _⟩ := rSl_shape hu
  exact ⟨b, o, Al, cl, Ap, cp, e, hS, hc 0 _ rfl, hc 1 _ rfl, hc 2 _ rfl, hc 3 _ rfl, hc 4 _ rfl, hv, hu⟩
theorem rNodes_at {xs : List GNode} (h : rNodes w S xs [.slice A n c]) {x : GNode} (hx : xs[k]? = some x) : ∃ b o Al cl Ap cp, A = some ⟨b, o, none⟩ ∧ S b ∧
    w.cell? ⟨b, o + k * 6, none⟩ = some (.int .i64 x.op) ∧ w.cell? ⟨b, o + k * 6 + 1, none⟩ = some (.int .i64 x.wish.kind) ∧ w.cell? ⟨b, o + k * 6 + 2, none⟩ = some (.int .i64 x.wish.field) ∧ w.cell? ⟨b, o + k * 6 + 3, none⟩ = some (.int .i64 x.wish.value) ∧
    w.cell? ⟨b, o + k * 6 + 4, none⟩ = some (.slice Al x.wish.list.length cl) ∧ w.cell? ⟨b, o + k * 6 + 5, none⟩ = some (.slice Ap x.wish.pairs.length cp) ∧ rInts w S x.wish.list [.slice Al x.wish.list.length cl] ∧ rPairs w S x.wish.pairs [.slice Ap x.wish.pairs.length cp] := by
  obtain ⟨b, o, us, e, hS, _, hc, us', rfl, v, u, rfl, hv, hu⟩ := rSl_at h hx
  obtain ⟨Al, cl, rfl, _⟩ := rSl_shape hv
  obtain ⟨Ap, cp, rfl, _⟩ := rSl_shape hu
  exact ⟨b, o, Al, cl, Ap, cp, e, hS, hc 0 _ rfl, hc 1 _ rfl, hc 2 _ rfl, hc 3 _ rfl, hc 4 _ rfl, hc 5 _ rfl, hv, hu⟩
theorem rNodess_at {xs : List (List GNode)} (h : rNodess w S xs [.slice A n c]) {x : List GNode} (hx : xs[k]? = some x) : ∃ b o A' c', A = some ⟨b, o, none⟩ ∧ S b ∧
    w.cell? ⟨b, o + k, none⟩ = some (.slice A' x.length c') ∧ rNodes w S x [.slice A' x.length c'] := by
  obtain ⟨b, o, us, e, hS, _, hc, hv⟩ := rSl_at h hx
  obtain ⟨A', c', e', _⟩ := hv
  subst e'
  exact ⟨b, o, A', c', e, hS, by simpa using hc 0 _ rfl, ⟨A', c', rfl, by assumption⟩⟩
end
theorem eqWish_dec (x y : GWish) : decide (x = y) = (decide (x.kind = y.kind) && (decide (x.field = y.field) && (decide (x.value = y.value) && (decide (x.list = y.list) && decide (x.pairs = y.pairs))))) := by rw [Bool.eq_iff_iff]; simp [GWish.eq_iff]
theorem eqNode_dec (x y : GNode) : decide (x = y) = (decide (x.op = y.op) && decide (x.wish = y.wish)) := by rw [Bool.eq_iff_iff]; simp [GNode.eq_iff]

set_option maxRecDepth 100000 in
set_option maxHeartbeats 1600000 in
theorem I_equalWish (w : World) (x y : GWish) (v1 v2 u1 u2 : Value) (h1 : Rd rInts w x.list [v1]) (h2 : Rd rInts w y.list [v2]) (k1 : Rd rPairs w x.pairs [u1]) (k2 : Rd rPairs w y.pairs [u2]) :
    Calls Tryz.prog 186 #[.agg #[.int .i64 x.kind, .int .i64 x.field, .int .i64 x.value, v1, u1], .agg #[.int .i64 y.kind, .int .i64 y.field, .int .i64 y.value, v2, u2]] w (Ret w (.bool (decide (x = y)))) := by
  have B0 : Bw w ((w.alloc (.cells #[.int .i64 x.kind, .int .i64 x.field, .int .i64 x.value, v1, u1] 109)).alloc (.cells #[.int .i64 y.kind, .int .i64 y.field, .int .i64 y.value, v2, u2] 109)) := ((Bw.refl w).alloc _).alloc _
  rw [eqWish_dec]
  by_cases e1 : x.kind = y.kind
  · by_cases e2 : x.field = y.field
    · by_cases e3 : x.value = y.value
      · have H := Lib.hid (show decide (x.kind = y.kind) = true ∧ decide (x.field = y.field) = true ∧ decide (x.value = y.value) = true by simp [e1, e2, e3])
        have a1 : (x.kind == y.kind) = true := by simpa using e1
        have b1 : (x.kind != y.kind) = false := by simpa using e1
        have a2 : (x.field == y.field) = true := by simpa using e2
        have b2 : (x.field != y.field) = false := by simpa using e2
        have a3 : (x.value == y.value) = true := by simpa using e3
        have b3 : (x.value != y.value) = false := by simpa using e3
        clear e1 e2 e3
        go_enter Tryz.func186, Tryz.ntmps186
        go_wp2_with fail
        refine (slices_Equal_ints _ x.list y.list _ _ (h1.bw rInts_good B0) (h2.bw rInts_good B0)).mono ?_
        rintro e w2 ⟨rfl, hb2⟩
        have hc := bw_cell hb2
        have B2 := B0.then hb2
        by_cases e4 : x.list = y.list
        · have H4 := Lib.hid (show decide (x.list = y.list) = true by simpa using e4)
          rw [show decide (x.list = y.list) = true from H4.out]
          clear e4
          go_wp2_with fail
          refine (slices_Equal_pairs _ x.pairs y.pairs _ _ (k1.bw rPairs_good B2) (k2.bw rPairs_good B2)).mono ?_
          rintro e w3 ⟨rfl, hb3⟩
          by_cases e5 : x.pairs = y.pairs
          · have H5 := Lib.hid (show decide (x.pairs = y.pairs) = true by simpa using e5)
            rw [show decide (x.pairs = y.pairs) = true from H5.out]
            clear e5
            go_wp2
            go_ret
            exact Ret.bool (by simp [H.out.1, H.out.2.1, H.out.2.2, H4.out, H5.out]) (B2.then hb3)
          · have H5 := Lib.hid (show decide (x.pairs = y.pairs) = false by simpa using e5)
            rw [show decide (x.pairs = y.pairs) = false from H5.out]
            clear e5
            go_wp2
            go_ret
            exact Ret.bool (by simp [H5.out]) (B2.then hb3)
        · have H4 := Lib.hid (show decide (x.list = y.list) = false by simpa using e4)
          rw [show decide (x.list = y.list) = false from H4.out]
          clear e4
          go_wp2
          go_ret
          exact Ret.bool (by simp [H4.out]) (B2)
      · have H := Lib.hid (show decide (x.value = y.value) = false by simpa using e3)
        have a1 : (x.kind == y.kind) = true := by simpa using e1
        have b1 : (x.kind != y.kind) = false := by simpa using e1
        have a2 : (x.field == y.field) = true := by simpa using e2
        have b2 : (x.field != y.field) = false := by simpa using e2
        have a3 : (x.value == y.value) = false := by simpa using e3
        have b3 : (x.value != y.value) = true := by simpa using e3
        clear e1 e2 e3
        go_enter Tryz.func186, Tryz.ntmps186
        go_wp2
        go_ret
        exact Ret.bool (by rw [H.out]; simp) (B0)
    · have H := Lib.hid (show decide (x.field = y.field) = false by simpa using e2)
      have a1 : (x.kind == y.kind) = true := by simpa using e1
      have b1 : (x.kind != y.kind) = false := by simpa using e1
      have a2 : (x.field == y.field) = false := by simpa using e2
      have b2 : (x.field != y.field) = true := by simpa using e2
      clear e1 e2
      go_enter Tryz.func186, Tryz.ntmps186
      go_wp2
      go_ret
      exact Ret.bool (by rw [H.out]; simp) (B0)
  · have H := Lib.hid (show decide (x.kind = y.kind) = false by simpa using e1)
    have a1 : (x.kind == y.kind) = false := by simpa using e1
    have b1 : (x.kind != y.kind) = true := by simpa using e1
    clear e1
    go_enter Tryz.func186, Tryz.ntmps186
    go_wp2
    go_ret
    exact Ret.bool (by rw [H.out]; simp) (B0)
set_option maxRecDepth 100000 in
set_option maxHeartbeats 1600000 in
theorem S_l5SameWish (w : World) (x y : GWish) (v1 v2 u1 u2 : Value) (h1 : Rd rInts w x.list [v1]) (h2 : Rd rInts w y.list [v2]) (k1 : Rd rPairs w x.pairs [u1]) (k2 : Rd rPairs w y.pairs [u2]) :
    Calls Tryz.prog 167 #[.agg #[.int .i64 x.kind, .int .i64 x.field, .int .i64 x.value, v1, u1], .agg #[.int .i64 y.kind, .int .i64 y.field, .int .i64 y.value, v2, u2]] w (Ret w (.bool (decide (x = y)))) := by
  have B0 : Bw w ((w.alloc (.cells #[.int .i64 x.kind, .int .i64 x.field, .int .i64 x.value, v1, u1] 109)).alloc (.cells #[.int .i64 y.kind, .int .i64 y.field, .int .i64 y.value, v2, u2] 109)) := ((Bw.refl w).alloc _).alloc _
  rw [eqWish_dec]
  by_cases e1 : x.kind = y.kind
  · by_cases e2 : x.field = y.field
    · by_cases e3 : x.value = y.value
      · have H := Lib.hid (show decide (x.kind = y.kind) = true ∧ decide (x.field = y.field) = true ∧ decide (x.value = y.value) = true by simp [e1, e2, e3])
        have a1 : (x.kind == y.kind) = true := by simpa using e1
        have b1 : (x.kind != y.kind) = false := by simpa using e1
        have a2 : (x.field == y.field) = true := by simpa using e2
        have b2 : (x.field != y.field) = false := by simpa using e2
        have a3 : (x.value == y.value) = true := by simpa using e3
        have b3 : (x.value != y.value) = false := by simpa using e3
        clear e1 e2 e3
        go_enter Tryz.func167, Tryz.ntmps167
        go_wp2_with fail
        refine (S_l2Ints _ x.list y.list _ _ (h1.bw rInts_good B0) (h2.bw rInts_good B0)).mono ?_
        rintro e w2 ⟨rfl, hb2⟩
        have hc := bw_cell hb2
        have B2 := B0.then hb2
        by_cases e4 : x.list = y.list
        · have H4 := Lib.hid (show decide (x.list = y.list) = true by simpa using e4)
          rw [show decide (x.list = y.list) = true from H4.out]
          clear e4
          go_wp2_with fail
          refine (S_l5SamePairs _ x.pairs y.pairs _ _ (k1.bw rPairs_good B2) (k2.bw rPairs_good B2)).mono ?_
          rintro e w3 ⟨rfl, hb3⟩
          by_cases e5 : x.pairs = y.pairs
          · have H5 := Lib.hid (show decide (x.pairs = y.pairs) = true by simpa using e5)
            rw [show decide (x.pairs = y.pairs) = true from H5.out]
            clear e5
            go_wp2
            go_ret
            exact Ret.bool (by simp [H.out.1, H.out.2.1, H.out.2.2, H4.out, H5.out]) (B2.then hb3)
          · have H5 := Lib.hid (show decide (x.pairs = y.pairs) = false by simpa using e5)
            rw [show decide (x.pairs = y.pairs) = false from H5.out]
            clear e5
            go_wp2
            go_ret
            exact Ret.bool (by simp [H5.out]) (B2.then hb3)
        · have H4 := Lib.hid (show decide (x.list = y.list) = false by simpa using e4)
          rw [show decide (x.list = y.list) = false from H4.out]
          clear e4
          go_wp2
          go_ret
          exact Ret.bool (by simp [H4.out]) (B2)
      · have H := Lib.hid (show decide (x.value = y.value) = false by simpa using e3)
        have a1 : (x.kind == y.kind) = true := by simpa using e1
        have b1 : (x.kind != y.kind) = false := by simpa using e1
        have a2 : (x.field == y.field) = true := by simpa using e2
        have b2 : (x.field != y.field) = false := by simpa using e2
        have a3 : (x.value == y.value) = false := by simpa using e3
        have b3 : (x.value != y.value) = true := by simpa using e3
        clear e1 e2 e3
        go_enter Tryz.func167, Tryz.ntmps167
        go_wp2
        go_ret
        exact Ret.bool (by rw [H.out]; simp) (B0)
    · have H := Lib.hid (show decide (x.field = y.field) = false by simpa using e2)
      have a1 : (x.kind == y.kind) = true := by simpa using e1
      have b1 : (x.kind != y.kind) = false := by simpa using e1
      have a2 : (x.field == y.field) = false := by simpa using e2
      have b2 : (x.field != y.field) = true := by simpa using e2
      clear e1 e2
      go_enter Tryz.func167, Tryz.ntmps167
      go_wp2
      go_ret
      exact Ret.bool (by rw [H.out]; simp) (B0)
  · have H := Lib.hid (show decide (x.kind = y.kind) = false by simpa using e1)
    have a1 : (x.kind == y.kind) = false := by simpa using e1
    have b1 : (x.kind != y.kind) = true := by simpa using e1
    clear e1
    go_enter Tryz.func167, Tryz.ntmps167
    go_wp2
    go_ret
    exact Ret.bool (by rw [H.out]; simp) (B0)

set_option maxRecDepth 100000 in
set_option maxHeartbeats 1600000 in
theorem I_EqExpr1 (w : World) (x y : GNode) (v1 v2 u1 u2 : Value) (h1 : Rd rInts w x.wish.list [v1]) (h2 : Rd rInts w y.wish.list [v2]) (k1 : Rd rPairs w x.wish.pairs [u1]) (k2 : Rd rPairs w y.wish.pairs [u2]) :
    Calls Tryz.prog 272 #[.agg #[.int .i64 x.op, .int .i64 x.wish.kind, .int .i64 x.wish.field, .int .i64 x.wish.value, v1, u1], .agg #[.int .i64 y.op, .int .i64 y.wish.kind, .int .i64 y.wish.field, .int .i64 y.wish.value, v2, u2]] w (Ret w (.bool (decide (x = y)))) := by
  have B0 : Bw w ((w.alloc (.cells #[.int .i64 x.op, .int .i64 x.wish.kind, .int .i64 x.wish.field, .int .i64 x.wish.value, v1, u1] 111)).alloc (.cells #[.int .i64 y.op, .int .i64 y.wish.kind, .int .i64 y.wish.field, .int .i64 y.wish.value, v2, u2] 111)) := ((Bw.refl w).alloc _).alloc _
  rw [eqNode_dec]
  by_cases e1 : x.op = y.op
  · have H := Lib.hid (show decide (x.op = y.op) = true by simpa using e1)
    have a1 : (x.op == y.op) = true := by simpa using e1
    have b1 : (x.op != y.op) = false := by simpa using e1
    clear e1
    go_enter Tryz.func272, Tryz.ntmps272
    go_wp2_with fail
    refine (I_equalWish _ x.wish y.wish _ _ _ _ (h1.bw rInts_good B0) (h2.bw rInts_good B0) (k1.bw rPairs_good B0) (k2.bw rPairs_good B0)).mono ?_
    rintro e w2 ⟨rfl, hb2⟩
    rcases Bool.eq_false_or_eq_true (decide (x.wish = y.wish)) with e4 | e4
    · have H4 := Lib.hid e4
      rw [e4]
      clear e4
      go_wp2
      go_ret
      exact Ret.bool (by simp [H.out, H4.out]) (B0.then hb2)
    · have H4 := Lib.hid e4
      rw [e4]
      clear e4
      go_wp2
      go_ret
      exact Ret.bool (by simp [H4.out]) (B0.then hb2)
  · have H := Lib.hid (show decide (x.op = y.op) = false by simpa using e1)
    have a1 : (x.op == y.op) = false := by simpa using e1
    have b1 : (x.op != y.op) = true := by simpa using e1
    clear e1
    go_enter Tryz.func272, Tryz.ntmps272
    go_wp2
    go_ret
    exact Ret.bool (by rw [H.out]; simp) (B0)
end Go.Proofs.YtpihighajaeabaaGreat

namespace Go.Proofs.YtpihighajaeabaaGreat
open Go.RowKit
set_option linter.unusedVariables false











end Go.Proofs.YtpihighajaeabaaGreat

namespace Go.Proofs.YtpihighajaeabaaGreat
open Go.RowKit
set_option linter.unusedVariables false
set_option linter.unusedSimpArgs false
def fWish : Fp GWish := fun w x cs F => ∃ v u G H, cs = [.int .i64 x.kind, .int .i64 x.field, .int .i64 x.value, v, u] ∧ fInts w x.list [v] G ∧ fPairs w x.pairs [u] H ∧ F = G ++ H
theorem fWish_good {B : Nat} : GoodF B fWish :=
  ⟨fun hw ⟨v, u, G, H, e, h, k, hF⟩ => ⟨v, u, G, H, e, fInts_good.step (fun b hb => hw b (hb.imp (fun hb => by rw [hF]; exact List.mem_append_left _ hb) id)) h, fPairs_good.step (fun b hb => hw b (hb.imp (fun hb => by rw [hF]; exact List.mem_append_right _ hb) id)) k, hF⟩,
   fun ⟨v, u, G, H, e, h, k, hF⟩ b hb => by
    rw [hF] at hb
    exact (List.mem_append.1 hb).elim ((fInts_good (B := B)).lt h b) ((fPairs_good (B := B)).lt k b),
   fun ⟨v, u, G, H, e, h, k, hF⟩ t ht => by
    rw [e] at ht
    simp at ht
    rcases ht with rfl | rfl | rfl | rfl | rfl
    · rfl
    · rfl
    · rfl
    · exact (fInts_good (B := B)).one h _ (by simp)
    · exact (fPairs_good (B := B)).one k _ (by simp)⟩
theorem fWish_rd {B : Nat} {w : World} {x : GWish} {cs : List Value} {F : List Nat} (h : fWish w x cs F) : rWish w (fun b => b ∈ F ∨ b < B) x cs := by
  obtain ⟨v, u, G, H, e, h, k, hF⟩ := h
  refine ⟨v, u, e, rInts_good.step ⟨fun b hb => ?_, fun _ _ => rfl⟩ (fInts_rd (B := B) h), rPairs_good.step ⟨fun b hb => ?_, fun _ _ => rfl⟩ (fPairs_rd (B := B) k)⟩
  · exact hb.imp (fun hb => by rw [hF]; exact List.mem_append_left _ hb) id
  · exact hb.imp (fun hb => by rw [hF]; exact List.mem_append_right _ hb) id
theorem fWish_Rd {w : World} {x : GWish} {cs : List Value} {F : List Nat} (h : fWish w x cs F) : Rd rWish w x cs := Rd.of rWish_good (B := 0) (fWish_rd h) ((fWish_good (B := 0)).lt h) (Nat.zero_le _)
def fNode : Fp GNode := fun w x cs F => ∃ us, cs = .int .i64 x.op :: us ∧ fWish w x.wish us F
theorem fNode_good {B : Nat} : GoodF B fNode :=
  ⟨fun hw ⟨us, e, h⟩ => ⟨us, e, fWish_good.step hw h⟩, fun ⟨us, e, h⟩ => (fWish_good (B := B)).lt h, fun ⟨us, e, h⟩ t ht => by
    rw [e] at ht
    rcases List.mem_cons.1 ht with rfl | ht
    · rfl
    · exact (fWish_good (B := B)).one h _ ht⟩
theorem fNode_rd {B : Nat} {w : World} {x : GNode} {cs : List Value} {F : List Nat} (h : fNode w x cs F) : rNode w (fun b => b ∈ F ∨ b < B) x cs := by
  obtain ⟨us, e, h⟩ := h
  exact ⟨us, e, fWish_rd h⟩
abbrev fNodes : Fp (List GNode) := fSl 111 6 fNode
theorem fNodes_good {B : Nat} : GoodF B fNodes := fSl_good fNode_good
theorem fNodes_rd {B : Nat} {w : World} {xs : List GNode} {cs : List Value} {F : List Nat} (h : fNodes w xs cs F) : rNodes w (fun b => b ∈ F ∨ b < B) xs cs := fSl_rd rNode_good (fun _ _ _ h => fNode_rd h) h
theorem fNodes_Rd {w : World} {xs : List GNode} {cs : List Value} {F : List Nat} (h : fNodes w xs cs F) : Rd rNodes w xs cs := Rd.of rNodes_good (B := 0) (fNodes_rd h) ((fNodes_good (B := 0)).lt h) (Nat.zero_le _)
theorem info_Node : (Tryz.prog.info? 111).map (fun i => (i.zero, i.size, i.bytes)) = some (some (.agg #[.int .i64 0, .int .i64 0, .int .i64 0, .int .i64 0, .slice none 0 0, .slice none 0 0]), 6, 80) := by kernel_rfl
abbrev fWishes : Fp (List GWish) := fSl 109 5 fWish
theorem fWishes_good {B : Nat} : GoodF B fWishes := fSl_good fWish_good
theorem fWishes_rd {B : Nat} {w : World} {xs : List GWish} {cs : List Value} {F : List Nat} (h : fWishes w xs cs F) : rWishes w (fun b => b ∈ F ∨ b < B) xs cs := fSl_rd rWish_good (fun _ _ _ h => fWish_rd h) h
theorem fWishes_Rd {w : World} {xs : List GWish} {cs : List Value} {F : List Nat} (h : fWishes w xs cs F) : Rd rWishes w xs cs := Rd.of rWishes_good (B := 0) (fWishes_rd h) ((fWishes_good (B := 0)).lt h) (Nat.zero_le _)
theorem info_Wish : (Tryz.prog.info? 109).map (fun i => (i.zero, i.size, i.bytes)) = some (some (.agg #[.int .i64 0, .int .i64 0, .int .i64 0, .slice none 0 0, .slice none 0 0]), 5, 72) := by kernel_rfl
abbrev fNodess : Fp (List (List GNode)) := fSl 25 1 fNodes
theorem fNodess_good {B : Nat} : GoodF B fNodess := fSl_good fNodes_good
theorem fNodess_rd {B : Nat} {w : World} {xs : List (List GNode)} {cs : List Value} {F : List Nat} (h : fNodess w xs cs F) : rNodess w (fun b => b ∈ F ∨ b < B) xs cs := fSl_rd rNodes_good (fun _ _ _ h => fNodes_rd h) h
theorem fNodess_Rd {w : World} {xs : List (List GNode)} {cs : List Value} {F : List Nat} (h : fNodess w xs cs F) : Rd rNodess w xs cs := Rd.of rNodess_good (B := 0) (fNodess_rd h) ((fNodess_good (B := 0)).lt h) (Nat.zero_le _)
theorem info_Nodes : (Tryz.prog.info? 25).map (fun i => (i.zero, i.size, i.bytes)) = some (some (.slice none 0 0), 1, 24) := by kernel_rfl
/-- the call returned a struct in new memory -/
def RetA {α : Type} (f : Fp α) (w : World) (x : α) (e : Ending) (w' : World) : Prop := ∃ cs F, e = .returned (.agg cs.toArray) ∧ f w' x cs F ∧ Fresh w.heap.size F ∧ Bw w w'
theorem Fresh.append {B m : Nat} {F G : List Nat} (h : Fresh B F) (hlt : ∀ b ∈ F, b < m) (k : Fresh m G) (hm : B ≤ m) : Fresh B (F ++ G) :=
  ⟨nodup_push h.nodup k hlt, fun b hb => (List.mem_append.1 hb).elim (h.ge b) (fun hb => Nat.le_trans hm (k.ge b hb))⟩
theorem Fresh.left {B : Nat} {F G : List Nat} (h : Fresh B (F ++ G)) : Fresh B F := ⟨(List.nodup_append.1 h.nodup).1, fun b hb => h.ge b (List.mem_append_left _ hb)⟩
theorem Fresh.right {B : Nat} {F G : List Nat} (h : Fresh B (F ++ G)) : Fresh B G := ⟨(List.nodup_append.1 h.nodup).2.1, fun b hb => h.ge b (List.mem_append_right _ hb)⟩





end Go.Proofs.YtpihighajaeabaaGreat
