/- The wishes that count alike: ParetoOf in both programs. -/
import Derived.Test.YtfffklkiikmieaaQCopyW
import Derived.Test.YtfffklkiikmieaaQBoxT
import Derived.Test.YtfffklkiikmieaaQExprI
namespace Go.Proofs.Ytfffklkiikmieaa
open Go.RowKit
set_option linter.unusedVariables false
set_option linter.unusedSimpArgs false
def opNode : GNode := ⟨1, ⟨0, 0, 0, [], []⟩⟩
def parTo (w : List GWish) : Nat → List GNode
  | 0 => []
  | k + 1 => parTo w k ++ (match w[k]? with | some x => ⟨0, x⟩ :: (if k = 0 then [] else [opNode]) | none => [])
def parL (w : List GWish) : List GNode := if isExpr (parTo w w.length) then parTo w w.length else []
def parOk (w : List GWish) : Bool := isExpr (parTo w w.length)
theorem parTo_one {w : List GWish} {x : GWish} (h : w[0]? = some x) : parTo w 1 = parTo w 0 ++ [⟨0, x⟩] := by rw [show parTo w 1 = parTo w 0 ++ (match w[0]? with | some x => ⟨0, x⟩ :: (if (0 : Nat) = 0 then [] else [opNode]) | none => []) from rfl, h]; rfl
theorem parTo_more {w : List GWish} {k : Nat} {x : GWish} (h : w[k]? = some x) (hk : 0 < k) : parTo w (k + 1) = (parTo w k ++ [⟨0, x⟩]) ++ [opNode] := by
  rw [parTo, h, List.append_assoc]
  simp only [if_neg (Nat.ne_of_gt hk), List.cons_append, List.nil_append]
theorem parTo_len (w : List GWish) : ∀ k, (parTo w k).length ≤ 2 * k
  | 0 => Nat.le_refl _
  | k + 1 => by
    have := parTo_len w k
    rw [parTo, List.length_append]
    cases w[k]? with
    | none => simp; omega
    | some x =>
      dsimp only
      split
      · simp; omega
      · simp; omega
theorem asc_len : ∀ {l : List Int} {p : Int}, ascFrom (some p) l = true → p ≤ 9 → (l.length : Int) ≤ 9 - p
  | [], p, _, h => by simp; omega
  | v :: l, p, h, hp => by
    simp only [ascFrom, Bool.and_eq_true, decide_eq_true_eq] at h
    have hv := inB_iff.1 h.1.1
    have := asc_len h.2 hv.2
    simp only [List.length_cons]
    omega
theorem wish_small {x : GWish} (h : isWish x = true) : x.list.length ≤ 10 ∧ x.pairs.length ≤ 8 := by
  unfold isWish at h
  simp only [Bool.and_eq_true] at h
  refine ⟨?_, ?_⟩
  · have ha := h.2.2.2.1
    match hl : x.list, ha with
    | [], _ => simp
    | v :: l, ha =>
      simp only [ascFrom, Bool.and_eq_true] at ha
      have hv := inB_iff.1 ha.1
      have := asc_len ha.2 hv.2
      simp only [List.length_cons]
      omega
  · have hp := h.2.2.2.2.2.2
    split at hp
    · unfold arePairs at hp
      simp only [Bool.and_eq_true, decide_eq_true_eq] at hp
      exact hp.2.1
    · rw [decide_eq_true_eq] at hp; omega
theorem depth_small : ∀ {e : List GNode} {d r : Int}, depthOf e d = some r → ∀ n ∈ e, totNode n ≤ 18
  | [], _, _, _, n, hn => by simp at hn
  | m :: e, d, r, h, n, hn => by
    rw [depthOf] at h
    split at h
    · rename_i hk
      rcases List.mem_cons.1 hn with h1 | h1
      · subst h1
        unfold nodeOk at hk
        simp only [Bool.and_eq_true] at hk
        have hw := hk.2.2
        split at hw
        · have := wish_small hw
          unfold totNode totWish; omega
        · rw [decide_eq_true_eq] at hw
          unfold totNode totWish; rw [hw]; simp [noWish]
      · exact depth_small h n h1
    · cases h
theorem sum_le {α : Type} (f : α → Nat) (B : Nat) : ∀ {l : List α}, (∀ x ∈ l, f x ≤ B) → sumL f l ≤ B * l.length
  | [], _ => by simp [sumL]
  | x :: l, h => by
    have h1 := h x (by simp)
    have h2 := sum_le f B (l := l) (fun y hy => h y (by simp [hy]))
    simp only [sumL, List.length_cons, Nat.mul_add]
    omega
theorem expr_small {e : List GNode} (h : isExpr e = true) : totNodes e ≤ 171 := by
  unfold isExpr at h
  rw [Bool.and_eq_true, decide_eq_true_eq, decide_eq_true_eq] at h
  have := sum_le totNode 18 (depth_small h.1)
  unfold totNodes
  omega
theorem par_tot (w : List GWish) : totNodes (parL w) ≤ 171 := by
  unfold parL
  split
  · rename_i he; exact expr_small he
  · simp [totNodes, sumL]
theorem fNode_op (w : World) : fNode w opNode [.int .i64 1, .int .i64 0, .int .i64 0, .int .i64 0, .slice none 0 0, .slice none 0 0] [] :=
  ⟨_, rfl, _, _, [], [], rfl, ⟨_, [], [], rfl, World.ownsRow_nil _ _ _ _, trivial, by simp [Value.ownBlock]⟩, ⟨_, [], [], rfl, World.ownsRow_nil _ _ _ _, trivial, by simp [Value.ownBlock]⟩, rfl⟩
theorem wish_lens {xs : List GWish} (ht : totWishes xs ≤ 1048576) : xs.length ≤ 1048576 ∧ ∀ x ∈ xs, x.list.length ≤ 1048576 ∧ x.pairs.length ≤ 1048576 := by
  unfold totWishes at ht
  refine ⟨by omega, fun x hx => ?_⟩
  have h1 := le_sum totWish hx
  have h2 : totWish x = x.list.length + x.pairs.length := rfl
  omega
set_option maxRecDepth 100000 in
set_option maxHeartbeats 6400000 in
theorem I_ParetoOf (w : World) (xs : List GWish) (v : Value) (h : Rd rWishes w xs [v]) (ht : totWishes xs ≤ 1048576) :
    Calls Try.prog 47 #[v] w (RetV w (Two fNodes w.heap.size (parL xs) (.bool (parOk xs)))) := by
  obtain ⟨hn, hnn⟩ := wish_lens ht
  clear ht
  obtain ⟨i0, hi, hz0, hz1, hz2⟩ := info_parts info_Node
  obtain ⟨A, n, c, rfl, L0, Lc, Lm⟩ := rSl_open h
  unfold maxLen at Lm
  have L := Lib.hid L0
  clear L0
  rw [← L.out] at hn
  have hv0 := fSl_empty (e := 113) (sz := 6) (R := fNode) w
  obtain ⟨Y, hY⟩ : ∃ Y, Y = parL xs := ⟨_, rfl⟩
  obtain ⟨Z, hZ⟩ : ∃ Z, Z = parOk xs := ⟨_, rfl⟩
  rw [← hY, ← hZ]
  have HY := Lib.hid hY
  have HZ := Lib.hid hZ
  have HNN := Lib.hid hnn
  clear hY hZ hnn
  go_enter Try.func47, Try.ntmps47
  go_wp2
  go_loopg [4, 10] n (fun g s i w' => ∃ (k : Nat) (F : List Nat), k ≤ n ∧ g = n - k ∧ i = .int .i64 k ∧ fNodes w' (parTo xs k) [s] F ∧ Fresh w.heap.size F ∧ Bw w w')
  case atStart => exact ⟨0, _, by omega, rfl, rfl, hv0, ⟨by simp, by simp⟩, (Bw.refl _).alloc _⟩
  case round =>
    clear hv0
    obtain ⟨k, F, hk, rfl, rfl, hv, hF, hb⟩ := hrel
    by_cases hlt : k < n
    · obtain ⟨x, hx⟩ := get_of_lt (xs := xs) (k := k) (by have := L.out; omega)
      have hxm := HNN.out x (List.mem_of_getElem? hx)
      obtain ⟨ba, oa, Al, cl, Ap, cp, rfl, _, d0, d1, d2, d3, d4, hi1, hi2⟩ := rWishes_at h hx
      replace d0 := hb.cell d0
      replace d1 := hb.cell d1
      replace d2 := hb.cell d2
      replace d3 := hb.cell d3
      replace d4 := hb.cell d4
      have i1 : (0 : Int) ≤ (k : Int) := by omega
      have i2 : (k : Int) < (n : Int) := by omega
      have HONE := Lib.hid (show k = 0 → parTo xs (k + 1) = parTo xs k ++ [⟨0, x⟩] from fun h0 => by subst h0; exact parTo_one hx)
      have HMORE := Lib.hid (fun (h0 : 0 < k) => parTo_more hx h0)
      obtain ⟨W, hW⟩ : ∃ W, W = wr.alloc (.cells #[.int .i64 x.kind, .int .i64 x.field, .int .i64 x.value, .slice Al x.list.length cl, .slice Ap x.pairs.length cp] 75) := ⟨_, rfl⟩
      have D1 : Bw wr W := by rw [hW]; first | exact Bw.refl wr | exact (Bw.refl wr).alloc _
      have hWs : wr.heap.size ≤ W.heap.size := D1.size
      have hin1 : Rd rInts W x.list [.slice Al x.list.length cl] := Rd.bw rInts_good hi1 (hb.then D1)
      have hin2 : Rd rPairs W x.pairs [.slice Ap x.pairs.length cp] := Rd.bw rPairs_good hi2 (hb.then D1)
      have hcall := I_copyWish W x _ _ hin1 hin2 hxm.1 hxm.2
      have hFm := (fNodes_good (B := 0)).lt hv
      have HH := Lib.hid h
      have HW := Lib.hid hW
      clear hx hin1 hin2 hi1 hi2 h hW hxm
      go_wp2_with fail
      (try rw [← HW.out])
      (try (have hWr : wr = W := HW.out.symm; subst hWr))
      refine hcall.mono ?_
      rintro e w1 ⟨cs, F1, rfl, ⟨v2, u2, G2, H2, rfl, o21, o22, rfl⟩, f1, hb1⟩
      obtain ⟨Al2, cl2, rfl, _⟩ := rSl_shape (fInts_Rd o21)
      obtain ⟨Ap2, cp2, rfl, _⟩ := rSl_shape (fPairs_Rd o22)
      have o1 : fWish w1 x [.int .i64 x.kind, .int .i64 x.field, .int .i64 x.value, .slice Al2 x.list.length cl2, .slice Ap2 x.pairs.length cp2] (G2 ++ H2) := ⟨_, _, G2, H2, rfl, o21, o22, rfl⟩
      have hbb := hb.then (D1.then hb1)
      have hv1 := (fNodes_good (B := w.heap.size)).bw (D1.then hb1) hb.size hv
      have hAl := (Bw.refl w1).alloc (.cells #[.int .i64 0, .int .i64 x.kind, .int .i64 x.field, .int .i64 x.value, .slice Al2 x.list.length cl2, .slice Ap2 x.pairs.length cp2] 113)
      have hvW := (fNodes_good (B := w.heap.size)).bw hAl hbb.size hv1
      have oW := (fWish_good (B := w.heap.size)).bw hAl hbb.size o1
      have oN : fNode (w1.alloc (.cells #[.int .i64 0, .int .i64 x.kind, .int .i64 x.field, .int .i64 x.value, .slice Al2 x.list.length cl2, .slice Ap2 x.pairs.length cp2] 113)) ⟨0, x⟩ [.int .i64 0, .int .i64 x.kind, .int .i64 x.field, .int .i64 x.value, .slice Al2 x.list.length cl2, .slice Ap2 x.pairs.length cp2] (G2 ++ H2) := ⟨_, rfl, oW⟩
      have hbW := hbb.then hAl
      have f1' : Fresh wr.heap.size (G2 ++ H2) := f1.mono hWs
      have hcl : ∀ j t, [Value.int .i64 0, .int .i64 x.kind, .int .i64 x.field, .int .i64 x.value, .slice Al2 x.list.length cl2, .slice Ap2 x.pairs.length cp2][j]? = some t → (w1.alloc (.cells #[.int .i64 0, .int .i64 x.kind, .int .i64 x.field, .int .i64 x.value, .slice Al2 x.list.length cl2, .slice Ap2 x.pairs.length cp2] 113)).cell? ((⟨w1.heap.size, 0, none⟩ : Addr).add j) = some t := World.news_of_block (cs := #[.int .i64 0, .int .i64 x.kind, .int .i64 x.field, .int .i64 x.value, .slice Al2 x.list.length cl2, .slice Ap2 x.pairs.length cp2]) (t := 113) (fr := (0, 0)) (heap_alloc_new w1 _)
      have HPL := Lib.hid (parTo_len xs k)
      have hbs := hb.size
      clear hv1 hcall hv oW o1 o21 o22 d0 d1 d2 d3 d4
      by_cases hk0 : k = 0
      · have HB := Lib.hid (HONE.out hk0)
        have k0 : ¬ (0 : Int) < (k : Int) := by omega
        clear hk0
        go_wp2_with (at_builtin; refine wpList_push _ rfl (.tmp 15) (.tmp 19) 31 rfl w 113 i0 _ 6 80 Try.underlying31 hi hz0 hz1 hz2 rfl (by omega) fNode_good _ (parTo xs k) F rfl hvW hF ⟨w1.heap.size, 0, none⟩ 1 rfl ⟨0, x⟩ [.int .i64 0, .int .i64 x.kind, .int .i64 x.field, .int .i64 x.value, .slice Al2 x.list.length cl2, .slice Ap2 x.pairs.length cp2] (G2 ++ H2) hcl oN rfl wr.heap.size hFm f1' hbs (by have := HPL.out; omega) (by have := HPL.out; omega) hbW ?_; intro v' w' F' hv' hF' hb')
        have h := HH.out
        go_wp2
        go_roundg (n - (k + 1))
        case measure => omega
        case rel => exact ⟨k + 1, F', by omega, rfl, by go_num, by rw [HB.out]; exact hv', hF', hb'⟩
      · have k0 : (0 : Int) < (k : Int) := by omega
        have HB := Lib.hid (HMORE.out (Nat.pos_of_ne_zero hk0))
        have HPL2 := Lib.hid (show (parTo xs k ++ [(⟨0, x⟩ : GNode)]).length ≤ 2 * k + 1 by rw [List.length_append]; have := HPL.out; simp; omega)
        clear hk0
        go_wp2_with (at_builtin; first | (refine wpList_push _ rfl (.tmp 15) (.tmp 19) 31 rfl w 113 i0 _ 6 80 Try.underlying31 hi hz0 hz1 hz2 rfl (by omega) fNode_good _ (parTo xs k) F rfl hvW hF ⟨w1.heap.size, 0, none⟩ 1 rfl ⟨0, x⟩ [.int .i64 0, .int .i64 x.kind, .int .i64 x.field, .int .i64 x.value, .slice Al2 x.list.length cl2, .slice Ap2 x.pairs.length cp2] (G2 ++ H2) hcl oN rfl wr.heap.size hFm f1' hbs (by have := HPL.out; omega) (by have := HPL.out; omega) hbW ?_; intro v' w' F' hv' hF' hb'; have hFm2 := (fNodes_good (B := 0)).lt hv'; have hA2 := (Bw.refl w').alloc (.cells #[.int .i64 1, .int .i64 0, .int .i64 0, .int .i64 0, .slice none 0 0, .slice none 0 0] 113); have hvX := (fNodes_good (B := w.heap.size)).bw hA2 hb'.size hv'; have hbX := hb'.then hA2; have hcl2 : ∀ j t, [Value.int .i64 1, .int .i64 0, .int .i64 0, .int .i64 0, .slice none 0 0, .slice none 0 0][j]? = some t → (w'.alloc (.cells #[.int .i64 1, .int .i64 0, .int .i64 0, .int .i64 0, .slice none 0 0, .slice none 0 0] 113)).cell? ((⟨w'.heap.size, 0, none⟩ : Addr).add j) = some t := World.news_of_block (cs := #[.int .i64 1, .int .i64 0, .int .i64 0, .int .i64 0, .slice none 0 0, .slice none 0 0]) (t := 113) (fr := (0, 0)) (heap_alloc_new w' _); have hbs2 := hb'.size; clear hv') | (refine wpList_push _ rfl (.tmp 23) (.tmp 25) 31 rfl w 113 i0 _ 6 80 Try.underlying31 hi hz0 hz1 hz2 rfl (by omega) fNode_good _ (parTo xs k ++ [⟨0, x⟩]) F' rfl hvX hF' ⟨w'.heap.size, 0, none⟩ 1 rfl opNode [.int .i64 1, .int .i64 0, .int .i64 0, .int .i64 0, .slice none 0 0, .slice none 0 0] [] hcl2 (fNode_op _) rfl w'.heap.size hFm2 Fresh.nil hbs2 (by have := HPL2.out; omega) (by have := HPL2.out; omega) hbX ?_; intro v2 w2 F2 hv2 hF2 hb2))
        have h := HH.out
        go_wp2
        go_roundg (n - (k + 1))
        case measure => omega
        case rel => exact ⟨k + 1, F2, by omega, rfl, by go_num, by rw [HB.out]; exact hv2, hF2, hb2⟩
    · obtain rfl : k = n := by omega
      rw [L.out] at hv
      have hvr := fNodes_Rd hv
      have hcall := I_IsExpression wr _ _ hvr
      rw [← L.out] at hcall hv
      obtain ⟨A2, N2, c2, rfl, l2', _, _⟩ := rSl_open (fNodes_Rd hv)
      clear l2'
      obtain ⟨r, hr⟩ : ∃ r, r = isExpr (parTo xs k) := ⟨_, rfl⟩
      rw [← hr] at hcall
      have HR := Lib.hid hr
      have HPY := Lib.hid (show Y = if r then parTo xs k else [] by rw [HY.out, parL, ← L.out, ← hr])
      have HPZ := Lib.hid (show Z = r by rw [HZ.out, parOk, ← L.out, ← hr])
      clear hr hvr HY HZ
      go_wp2_with fail
      refine (hcall).mono ?_
      rintro e w1 ⟨rfl, hb1⟩
      have B1 := hb.then hb1
      have hv1 := (fNodes_good (B := w.heap.size)).bw hb1 hb.size hv
      rcases Bool.eq_false_or_eq_true (r) with e1 | e1
      · have HY1 := Lib.hid (show Y = parTo xs k by rw [HPY.out, e1]; rfl)
        have HZ1 := Lib.hid (show Z = true by rw [HPZ.out, e1])
        rw [e1]
        rw [← HY1.out] at hv1
        clear e1 hcall
        go_wp2
        refine bodyPost_ret (v := .tuple #[.slice A2 N2 c2, .bool true]) (by simp [results, Try.results47, go_sem]) rfl (RetV.two hv1 hF (by rw [HZ1.out]) B1)
      · have HY1 := Lib.hid (show Y = [] by rw [HPY.out, e1]; rfl)
        have HZ1 := Lib.hid (show Z = false by rw [HPZ.out, e1])
        have hv2 := fSl_empty (e := 113) (sz := 6) (R := fNode) w1
        have hz := B1.size
        rw [e1]
        rw [← HY1.out] at hv2
        clear e1 hcall
        go_wp2
        refine bodyPost_ret (v := .tuple #[.slice (some ⟨w1.heap.size, 0, none⟩) 0 0, .bool false]) (by simp [results, Try.results47, go_sem]) rfl (RetV.two hv2 ⟨by simp, by simpa using hz⟩ (by rw [HZ1.out]) (B1.alloc _))
set_option maxRecDepth 100000 in
set_option maxHeartbeats 6400000 in
theorem S_ParetoOf (w : World) (xs : List GWish) (v : Value) (h : Rd rWishes w xs [v]) (ht : totWishes xs ≤ 1048576) :
    Calls Try.prog 48 #[v] w (RetV w (Two fNodes w.heap.size (parL xs) (.bool (parOk xs)))) := by
  obtain ⟨hn, hnn⟩ := wish_lens ht
  clear ht
  obtain ⟨i0, hi, hz0, hz1, hz2⟩ := info_parts info_Node
  obtain ⟨A, n, c, rfl, L0, Lc, Lm⟩ := rSl_open h
  unfold maxLen at Lm
  have L := Lib.hid L0
  clear L0
  rw [← L.out] at hn
  have hv0 := fSl_empty (e := 113) (sz := 6) (R := fNode) w
  obtain ⟨Y, hY⟩ : ∃ Y, Y = parL xs := ⟨_, rfl⟩
  obtain ⟨Z, hZ⟩ : ∃ Z, Z = parOk xs := ⟨_, rfl⟩
  rw [← hY, ← hZ]
  have HY := Lib.hid hY
  have HZ := Lib.hid hZ
  have HNN := Lib.hid hnn
  clear hY hZ hnn
  go_enter Try.func48, Try.ntmps48
  go_wp2
  go_loopg [4, 5] n (fun g s i w' => ∃ (k : Nat) (F : List Nat), k ≤ n ∧ g = n - k ∧ i = .int .i64 k ∧ fNodes w' (parTo xs k) [s] F ∧ Fresh w.heap.size F ∧ Bw w w')
  case atStart => exact ⟨0, _, by omega, rfl, rfl, hv0, ⟨by simp, by simp⟩, (Bw.refl _).alloc _⟩
  case round =>
    clear hv0
    obtain ⟨k, F, hk, rfl, rfl, hv, hF, hb⟩ := hrel
    by_cases hlt : k < n
    · obtain ⟨x, hx⟩ := get_of_lt (xs := xs) (k := k) (by have := L.out; omega)
      have hxm := HNN.out x (List.mem_of_getElem? hx)
      obtain ⟨ba, oa, Al, cl, Ap, cp, rfl, _, d0, d1, d2, d3, d4, hi1, hi2⟩ := rWishes_at h hx
      replace d0 := hb.cell d0
      replace d1 := hb.cell d1
      replace d2 := hb.cell d2
      replace d3 := hb.cell d3
      replace d4 := hb.cell d4
      have i1 : (0 : Int) ≤ (k : Int) := by omega
      have i2 : (k : Int) < (n : Int) := by omega
      have HONE := Lib.hid (show k = 0 → parTo xs (k + 1) = parTo xs k ++ [⟨0, x⟩] from fun h0 => by subst h0; exact parTo_one hx)
      have HMORE := Lib.hid (fun (h0 : 0 < k) => parTo_more hx h0)
      obtain ⟨W, hW⟩ : ∃ W, W = wr := ⟨_, rfl⟩
      have D1 : Bw wr W := by rw [hW]; first | exact Bw.refl wr | exact (Bw.refl wr).alloc _
      have hWs : wr.heap.size ≤ W.heap.size := D1.size
      have hin1 : Rd rInts W x.list [.slice Al x.list.length cl] := Rd.bw rInts_good hi1 (hb.then D1)
      have hin2 : Rd rPairs W x.pairs [.slice Ap x.pairs.length cp] := Rd.bw rPairs_good hi2 (hb.then D1)
      have hcall := S_l5Wish W x _ _ hin1 hin2 hxm.1 hxm.2
      have hFm := (fNodes_good (B := 0)).lt hv
      have HH := Lib.hid h
      have HW := Lib.hid hW
      clear hx hin1 hin2 hi1 hi2 h hW hxm
      go_wp2_with fail
      (try rw [← HW.out])
      (try (have hWr : wr = W := HW.out.symm; subst hWr))
      refine hcall.mono ?_
      rintro e w1 ⟨cs, F1, rfl, ⟨v2, u2, G2, H2, rfl, o21, o22, rfl⟩, f1, hb1⟩
      obtain ⟨Al2, cl2, rfl, _⟩ := rSl_shape (fInts_Rd o21)
      obtain ⟨Ap2, cp2, rfl, _⟩ := rSl_shape (fPairs_Rd o22)
      have o1 : fWish w1 x [.int .i64 x.kind, .int .i64 x.field, .int .i64 x.value, .slice Al2 x.list.length cl2, .slice Ap2 x.pairs.length cp2] (G2 ++ H2) := ⟨_, _, G2, H2, rfl, o21, o22, rfl⟩
      have hbb := hb.then (D1.then hb1)
      have hv1 := (fNodes_good (B := w.heap.size)).bw (D1.then hb1) hb.size hv
      have hAl := (Bw.refl w1).alloc (.cells #[.int .i64 0, .int .i64 x.kind, .int .i64 x.field, .int .i64 x.value, .slice Al2 x.list.length cl2, .slice Ap2 x.pairs.length cp2] 113)
      have hvW := (fNodes_good (B := w.heap.size)).bw hAl hbb.size hv1
      have oW := (fWish_good (B := w.heap.size)).bw hAl hbb.size o1
      have oN : fNode (w1.alloc (.cells #[.int .i64 0, .int .i64 x.kind, .int .i64 x.field, .int .i64 x.value, .slice Al2 x.list.length cl2, .slice Ap2 x.pairs.length cp2] 113)) ⟨0, x⟩ [.int .i64 0, .int .i64 x.kind, .int .i64 x.field, .int .i64 x.value, .slice Al2 x.list.length cl2, .slice Ap2 x.pairs.length cp2] (G2 ++ H2) := ⟨_, rfl, oW⟩
      have hbW := hbb.then hAl
      have f1' : Fresh wr.heap.size (G2 ++ H2) := f1.mono hWs
      have hcl : ∀ j t, [Value.int .i64 0, .int .i64 x.kind, .int .i64 x.field, .int .i64 x.value, .slice Al2 x.list.length cl2, .slice Ap2 x.pairs.length cp2][j]? = some t → (w1.alloc (.cells #[.int .i64 0, .int .i64 x.kind, .int .i64 x.field, .int .i64 x.value, .slice Al2 x.list.length cl2, .slice Ap2 x.pairs.length cp2] 113)).cell? ((⟨w1.heap.size, 0, none⟩ : Addr).add j) = some t := World.news_of_block (cs := #[.int .i64 0, .int .i64 x.kind, .int .i64 x.field, .int .i64 x.value, .slice Al2 x.list.length cl2, .slice Ap2 x.pairs.length cp2]) (t := 113) (fr := (0, 0)) (heap_alloc_new w1 _)
      have HPL := Lib.hid (parTo_len xs k)
      have hbs := hb.size
      clear hv1 hcall hv oW o1 o21 o22 d0 d1 d2 d3 d4
      by_cases hk0 : k = 0
      · have HB := Lib.hid (HONE.out hk0)
        have k0 : ¬ (0 : Int) < (k : Int) := by omega
        clear hk0
        go_wp2_with (at_builtin; refine wpList_push _ rfl (.tmp 13) (.tmp 20) 31 rfl w 113 i0 _ 6 80 Try.underlying31 hi hz0 hz1 hz2 rfl (by omega) fNode_good _ (parTo xs k) F rfl hvW hF ⟨w1.heap.size, 0, none⟩ 1 rfl ⟨0, x⟩ [.int .i64 0, .int .i64 x.kind, .int .i64 x.field, .int .i64 x.value, .slice Al2 x.list.length cl2, .slice Ap2 x.pairs.length cp2] (G2 ++ H2) hcl oN rfl wr.heap.size hFm f1' hbs (by have := HPL.out; omega) (by have := HPL.out; omega) hbW ?_; intro v' w' F' hv' hF' hb')
        have h := HH.out
        go_wp2
        go_roundg (n - (k + 1))
        case measure => omega
        case rel => exact ⟨k + 1, F', by omega, rfl, by go_num, by rw [HB.out]; exact hv', hF', hb'⟩
      · have k0 : (0 : Int) < (k : Int) := by omega
        have HB := Lib.hid (HMORE.out (Nat.pos_of_ne_zero hk0))
        have HPL2 := Lib.hid (show (parTo xs k ++ [(⟨0, x⟩ : GNode)]).length ≤ 2 * k + 1 by rw [List.length_append]; have := HPL.out; simp; omega)
        clear hk0
        go_wp2_with (at_builtin; first | (refine wpList_push _ rfl (.tmp 13) (.tmp 20) 31 rfl w 113 i0 _ 6 80 Try.underlying31 hi hz0 hz1 hz2 rfl (by omega) fNode_good _ (parTo xs k) F rfl hvW hF ⟨w1.heap.size, 0, none⟩ 1 rfl ⟨0, x⟩ [.int .i64 0, .int .i64 x.kind, .int .i64 x.field, .int .i64 x.value, .slice Al2 x.list.length cl2, .slice Ap2 x.pairs.length cp2] (G2 ++ H2) hcl oN rfl wr.heap.size hFm f1' hbs (by have := HPL.out; omega) (by have := HPL.out; omega) hbW ?_; intro v' w' F' hv' hF' hb'; have hFm2 := (fNodes_good (B := 0)).lt hv'; have hA2 := (Bw.refl w').alloc (.cells #[.int .i64 1, .int .i64 0, .int .i64 0, .int .i64 0, .slice none 0 0, .slice none 0 0] 113); have hvX := (fNodes_good (B := w.heap.size)).bw hA2 hb'.size hv'; have hbX := hb'.then hA2; have hcl2 : ∀ j t, [Value.int .i64 1, .int .i64 0, .int .i64 0, .int .i64 0, .slice none 0 0, .slice none 0 0][j]? = some t → (w'.alloc (.cells #[.int .i64 1, .int .i64 0, .int .i64 0, .int .i64 0, .slice none 0 0, .slice none 0 0] 113)).cell? ((⟨w'.heap.size, 0, none⟩ : Addr).add j) = some t := World.news_of_block (cs := #[.int .i64 1, .int .i64 0, .int .i64 0, .int .i64 0, .slice none 0 0, .slice none 0 0]) (t := 113) (fr := (0, 0)) (heap_alloc_new w' _); have hbs2 := hb'.size; clear hv') | (refine wpList_push _ rfl (.tmp 24) (.tmp 26) 31 rfl w 113 i0 _ 6 80 Try.underlying31 hi hz0 hz1 hz2 rfl (by omega) fNode_good _ (parTo xs k ++ [⟨0, x⟩]) F' rfl hvX hF' ⟨w'.heap.size, 0, none⟩ 1 rfl opNode [.int .i64 1, .int .i64 0, .int .i64 0, .int .i64 0, .slice none 0 0, .slice none 0 0] [] hcl2 (fNode_op _) rfl w'.heap.size hFm2 Fresh.nil hbs2 (by have := HPL2.out; omega) (by have := HPL2.out; omega) hbX ?_; intro v2 w2 F2 hv2 hF2 hb2))
        have h := HH.out
        go_wp2
        go_roundg (n - (k + 1))
        case measure => omega
        case rel => exact ⟨k + 1, F2, by omega, rfl, by go_num, by rw [HB.out]; exact hv2, hF2, hb2⟩
    · obtain rfl : k = n := by omega
      rw [L.out] at hv
      have hvr := fNodes_Rd hv
      have hcall := S_IsExpression wr _ _ hvr
      rw [← L.out] at hcall hv
      obtain ⟨A2, N2, c2, rfl, l2', _, _⟩ := rSl_open (fNodes_Rd hv)
      clear l2'
      obtain ⟨r, hr⟩ : ∃ r, r = isExpr (parTo xs k) := ⟨_, rfl⟩
      rw [← hr] at hcall
      have HR := Lib.hid hr
      have HPY := Lib.hid (show Y = if r then parTo xs k else [] by rw [HY.out, parL, ← L.out, ← hr])
      have HPZ := Lib.hid (show Z = r by rw [HZ.out, parOk, ← L.out, ← hr])
      clear hr hvr HY HZ
      go_wp2_with fail
      refine (hcall).mono ?_
      rintro e w1 ⟨rfl, hb1⟩
      have B1 := hb.then hb1
      have hv1 := (fNodes_good (B := w.heap.size)).bw hb1 hb.size hv
      rcases Bool.eq_false_or_eq_true (r) with e1 | e1
      · have HY1 := Lib.hid (show Y = parTo xs k by rw [HPY.out, e1]; rfl)
        have HZ1 := Lib.hid (show Z = true by rw [HPZ.out, e1])
        rw [e1]
        rw [← HY1.out] at hv1
        clear e1 hcall
        go_wp2
        refine bodyPost_ret (v := .tuple #[.slice A2 N2 c2, .bool true]) (by simp [results, Try.results48, go_sem]) rfl (RetV.two hv1 hF (by rw [HZ1.out]) B1)
      · have HY1 := Lib.hid (show Y = [] by rw [HPY.out, e1]; rfl)
        have HZ1 := Lib.hid (show Z = false by rw [HPZ.out, e1])
        have hv2 := fSl_empty (e := 113) (sz := 6) (R := fNode) w1
        have hz := B1.size
        rw [e1]
        rw [← HY1.out] at hv2
        clear e1 hcall
        go_wp2
        refine bodyPost_ret (v := .tuple #[.slice (some ⟨w1.heap.size, 0, none⟩) 0 0, .bool false]) (by simp [results, Try.results48, go_sem]) rfl (RetV.two hv2 ⟨by simp, by simpa using hz⟩ (by rw [HZ1.out]) (B1.alloc _))
end Go.Proofs.Ytfffklkiikmieaa
