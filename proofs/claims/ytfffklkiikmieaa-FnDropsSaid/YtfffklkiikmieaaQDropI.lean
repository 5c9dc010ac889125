/- The fewest wishes to drop, in the program: a closure that calls itself. -/
import Derived.Test.YtfffklkiikmieaaQDropM
import Derived.Test.YtfffklkiikmieaaQCopies
import Derived.Laws.EntriesVeiled
namespace Go.Proofs.Ytfffklkiikmieaa
open Go.RowKit
set_option linter.unusedVariables false
set_option linter.unusedSimpArgs false
/-- what the closure gives: nothing, or the list -/
def Chose (W : World) (B : Nat) (o : Option (List Nat)) (e : Ending) (w' : World) : Prop :=
  ∃ u, e = .returned u ∧ Bw W w' ∧ (match o with
    | none => u = .slice none 0 0
    | some s => ∃ A c F, u = .slice (some A) s.length c ∧ fInts w' (ints s) [u] F ∧ Fresh B F)
/-- the four boxes that the closure has taken -/
structure Caught (w0 : World) (l : List GItem) (x : List GWish) (id : Int) (bw bc bl bi : Nat) (vw vl : Value) : Prop where
  cw : w0.cell? ⟨bw, 0, none⟩ = some vw
  cc : w0.cell? ⟨bc, 0, none⟩ = some (.func (.func 134) #[] #[.pointer (some ⟨bw, 0, none⟩), .pointer (some ⟨bc, 0, none⟩), .pointer (some ⟨bl, 0, none⟩), .pointer (some ⟨bi, 0, none⟩)])
  cl : w0.cell? ⟨bl, 0, none⟩ = some vl
  ci : w0.cell? ⟨bi, 0, none⟩ = some (.int .i64 id)
  rw : Rd rWishes w0 x [vw]
  rl : Rd rItems w0 l [vl]
set_option maxRecDepth 100000 in
set_option maxHeartbeats 3200000 in
theorem I_choose_leaf (w0 : World) (l : List GItem) (x : List GWish) (id : Int) (bw bc bl bi : Nat) (vw vl : Value) (hC : Caught w0 l x id bw bc bl bi vw vl) (hO : parOk x = true)
    (W : World) (hB : Bw w0 W) (set : List Nat) (frm : Int) (A : Addr) (c : Nat) (F : List Nat) (hs : fInts W (ints set) [.slice (some A) set.length c] F) (hF : Fresh w0.heap.size F) (hl : set.length ≤ 5) :
    Calls Try.prog 134 #[.slice (some A) set.length c, .int .i64 frm, .int .i64 set.length, .pointer (some ⟨bw, 0, none⟩), .pointer (some ⟨bc, 0, none⟩), .pointer (some ⟨bl, 0, none⟩), .pointer (some ⟨bi, 0, none⟩)] W (Chose W w0.heap.size (if suits l x id set then some set else none)) := by
  obtain ⟨i0, hi, hz0, hz1, hz2⟩ := info_parts info_Wish
  have hn5 := parOk_len hO
  have hWs := parOk_wishes hO
  obtain ⟨cw, cc, cl, ci, rw0, rl0⟩ := hC
  obtain ⟨Y, hY⟩ : ∃ Y, Y = (if suits l x id set then some set else none) := ⟨_, rfl⟩
  rw [← hY]
  have HY := Lib.hid hY
  have HW := Lib.hid hWs
  clear hY hWs hO
  obtain ⟨A2, n, c2, rfl, L0, Lc, Lm⟩ := rSl_open rw0
  unfold maxLen at Lm
  have L := Lib.hid L0
  clear L0
  rw [← L.out] at hn5
  replace cw := hB.cell cw
  replace cl := hB.cell cl
  replace ci := hB.cell ci
  obtain ⟨M, hM⟩ : ∃ M, M = set.length := ⟨_, rfl⟩
  rw [← hM] at hs hl ⊢
  have HM := Lib.hid hM
  have hsr := fInts_Rd hs
  have GG : GoodF W.heap.size (fWishesS (lt w0)) := fSl_good (fShS_good rWish_good (fun b hb => Nat.lt_of_lt_of_le hb hB.size))
  have hv0 := fSl_empty (e := 75) (sz := 5) (R := fShS (lt w0) rWish) W
  have HS := Lib.hid hs
  have HR := Lib.hid rw0
  have A0 := (Bw.refl W).alloc (.cells #[] 75)
  have cw0 := A0.cell cw
  clear hM hs rw0 cc
  go_enter Try.func134, Try.ntmps134
  go_wp2
  go_loopg [13, 45] n (fun g s i w' => ∃ (k : Nat) (F1 : List Nat), k ≤ n ∧ g = n - k ∧ i = .int .i64 k ∧ fWishesS (lt w0) w' (leftTo x set k) [s] F1 ∧ Fresh W.heap.size F1 ∧ Bw W w')
  case atStart => exact ⟨0, _, by omega, rfl, rfl, hv0, ⟨by simp, by simp⟩, A0⟩
  case round =>
    clear hv0 cw0
    obtain ⟨k, F1, hk, rfl, rfl, hv, hF1, hb⟩ := hrel
    by_cases hlt : k < n
    · obtain ⟨y, hx⟩ := get_of_lt (xs := x) (k := k) (by have := L.out; omega)
      have hR := HR.out
      have i1 : (0 : Int) ≤ (k : Int) := by omega
      have i2 : (k : Int) < (n : Int) := by omega
      obtain ⟨b, o, Al, cl', Ap, cp', rfl, hSb, d0, d1, d2, d3, d4, hi1, hi2⟩ := rWishes_at hR hx
      have BB := hB.then hb
      replace d0 := BB.cell d0
      replace d1 := BB.cell d1
      replace d2 := BB.cell d2
      replace d3 := BB.cell d3
      replace d4 := BB.cell d4
      have A1 := (Bw.refl wr).alloc (.cells #[.int .i64 y.kind, .int .i64 y.field, .int .i64 y.value, .slice Al y.list.length cl', .slice Ap y.pairs.length cp'] 75)
      have hbA := hb.then A1
      have hsr2 := hsr.bw rInts_good hbA
      have hvA := GG.bw A1 hb.size hv
      have hFm := GG.lt hvA
      have HYES := Lib.hid (fun hc => leftTo_yes (s := set) hx hc)
      have HNO := Lib.hid (fun hc => leftTo_no (s := set) hx hc)
      have HLL := Lib.hid (leftTo_len x set k)
      have HIN1 := Lib.hid hi1
      have HIN2 := Lib.hid hi2
      obtain ⟨M1, hM1⟩ : ∃ M1, M1 = y.list.length := ⟨_, rfl⟩
      obtain ⟨M2, hM2⟩ : ∃ M2, M2 = y.pairs.length := ⟨_, rfl⟩
      rw [← hM1] at d3
      rw [← hM2] at d4
      rw [← hM1, ← hM2] at A1 hbA hsr2 hvA hFm
      have HM1 := Lib.hid hM1
      have HM2 := Lib.hid hM2
      have hcall := slices_Contains_ints _ (ints set) (k : Int) _ hsr2
      rw [ints_contains] at hcall
      obtain ⟨q, hq⟩ : ∃ q, q = set.contains k := ⟨_, rfl⟩
      rw [← hq] at hcall
      have HQ := Lib.hid hq
      clear hR hM1 hM2 hi1 hi2 hv hx hq hsr2
      go_wp2_with fail
      refine (hcall).mono ?_
      rintro e w2 ⟨rfl, hb2⟩
      have p0 : w2.cell? ⟨wr.heap.size, 0, none⟩ = some (.int .i64 y.kind) := hb2.cell (by go_simp)
      have p1 : w2.cell? ⟨wr.heap.size, 1, none⟩ = some (.int .i64 y.field) := hb2.cell (by go_simp)
      have p2 : w2.cell? ⟨wr.heap.size, 2, none⟩ = some (.int .i64 y.value) := hb2.cell (by go_simp)
      have p3 : w2.cell? ⟨wr.heap.size, 3, none⟩ = some (.slice Al M1 cl') := hb2.cell (by go_simp)
      have p4 : w2.cell? ⟨wr.heap.size, 4, none⟩ = some (.slice Ap M2 cp') := hb2.cell (by go_simp)
      have hbb := hbA.then hb2
      have hv2 := GG.bw hb2 hbA.size hvA
      clear hvA hcall d0 d1 d2 d3 d4
      cases q with
      | true =>
        have HB := Lib.hid (HNO.out HQ.out.symm)
        go_wp2
        go_roundg (n - (k + 1))
        case measure => omega
        case rel => exact ⟨k + 1, F1, by omega, rfl, by go_num, by rw [HB.out]; exact hv2, hF1, hbb⟩
      | false =>
        have HB := Lib.hid (HYES.out HQ.out.symm)
        have hvW := GG.bw ((Bw.refl w2).alloc (.cells #[.int .i64 y.kind, .int .i64 y.field, .int .i64 y.value, .slice Al M1 cl', .slice Ap M2 cp'] 75)) hbb.size hv2
        have hbW := hbb.alloc (.cells #[.int .i64 y.kind, .int .i64 y.field, .int .i64 y.value, .slice Al M1 cl', .slice Ap M2 cp'] 75)
        have hcl : ∀ j t, [Value.int .i64 y.kind, .int .i64 y.field, .int .i64 y.value, .slice Al M1 cl', .slice Ap M2 cp'][j]? = some t → (w2.alloc (.cells #[.int .i64 y.kind, .int .i64 y.field, .int .i64 y.value, .slice Al M1 cl', .slice Ap M2 cp'] 75)).cell? ((⟨w2.heap.size, 0, none⟩ : Addr).add j) = some t := World.news_of_block (cs := #[.int .i64 y.kind, .int .i64 y.field, .int .i64 y.value, .slice Al M1 cl', .slice Ap M2 cp']) (t := 75) (fr := (0, 0)) (heap_alloc_new w2 _)
        have hy : fShS (lt w0) rWish (w2.alloc (.cells #[.int .i64 y.kind, .int .i64 y.field, .int .i64 y.value, .slice Al M1 cl', .slice Ap M2 cp'] 75)) y [.int .i64 y.kind, .int .i64 y.field, .int .i64 y.value, .slice Al M1 cl', .slice Ap M2 cp'] [] := by rw [HM1.out, HM2.out]; exact sh_wish (fun b hb => hb) (by rw [← HM1.out, ← HM2.out]; exact hB.then hbW) HIN1.out HIN2.out
        have hb0 := hbA.size
        have GS : GoodF W.heap.size (fShS (lt w0) rWish) := fShS_good rWish_good (fun b hb => Nat.lt_of_lt_of_le hb hB.size)
        clear hv2
        go_wp2_with (at_builtin; refine wpList_push _ rfl (.tmp 54) (.tmp 56) 63 rfl W 75 i0 _ 5 72 Try.underlying63 hi hz0 hz1 hz2 rfl (by omega) GS _ (leftTo x set k) F1 rfl hvW hF1 ⟨w2.heap.size, 0, none⟩ 1 rfl y [.int .i64 y.kind, .int .i64 y.field, .int .i64 y.value, .slice Al M1 cl', .slice Ap M2 cp'] [] hcl hy rfl _ hFm Fresh.nil hb0 (by have := HLL.out; omega) (by have := HLL.out; omega) hbW ?_; intro v' w' F' hv' hF' hb')
        go_roundg (n - (k + 1))
        case measure => omega
        case rel => exact ⟨k + 1, F', by omega, rfl, by go_num, by rw [HB.out]; exact hv', hF', hb'⟩
    · obtain rfl : k = n := by omega
      have HSU := Lib.hid (show suits l x id set = (!parOk (leftL x set) || (bestItems l (parL (leftL x set))).contains id) from rfl)
      have HTOT := left_tot HW.out set x.length (by rw [← L.out]; omega)
      rw [show leftTo x set x.length = leftL x set from rfl] at HTOT
      rw [show leftTo x set k = leftL x set by rw [L.out]; rfl] at hv
      obtain ⟨KL, hKL⟩ : ∃ KL, KL = leftL x set := ⟨_, rfl⟩
      rw [← hKL] at HTOT hv HSU
      have hKr := fWishesS_Rd (fun b hb => Nat.lt_of_lt_of_le hb hB.size) hv hb.size
      have hpar := I_ParetoOf wr KL _ hKr HTOT
      replace cl := hb.cell cl
      replace ci := hb.cell ci
      have hs2 := (fInts_good (B := 0)).bw hb (Nat.zero_le _) HS.out
      have hli := rl0.bw rItems_good (hB.then hb)
      clear hKr hKL HTOT hv hsr GG
      rcases Bool.eq_false_or_eq_true (parOk KL) with hpk | hpk
      · rw [hpk] at hpar
        have HS1 := Lib.hid (show suits l x id set = (bestItems l (parL KL)).contains id by rw [HSU.out, hpk]; rfl)
        clear hpk HSU
        go_wp2_with fail
        refine (hpar).mono ?_
        rintro e w5 ⟨v5, rfl, ⟨v6, rfl, F5, o5, f5⟩, hb5⟩
        have hbest := I_IsBest w5 l (parL KL) id _ _ (hli.bw rItems_good hb5) (fNodes_Rd o5)
        replace cl := hb5.cell cl
        replace ci := hb5.cell ci
        obtain ⟨fr, hfr⟩ : ∃ fr, fr = (bestItems l (parL KL)).contains id := ⟨_, rfl⟩
        rw [← hfr] at hbest
        have HSS := Lib.hid (HS1.out.trans hfr.symm)
        clear hfr HS1 hpar o5 f5
        go_wp2_with fail
        refine (hbest).mono ?_
        rintro e w6 ⟨rfl, hb6⟩
        have hs3 := (fInts_good (B := 0)).bw (hb5.then hb6) (Nat.zero_le _) hs2
        have B6 := hb.then (hb5.then hb6)
        clear hbest cl ci hs2
        cases fr with
        | false =>
          have HX := Lib.hid (show Y = none by rw [HY.out, HSS.out]; rfl)
          go_wp2
          go_ret
          refine ⟨.slice none 0 0, rfl, B6, ?_⟩
          rw [HX.out]
        | true =>
          have HX := Lib.hid (show Y = some set by rw [HY.out, HSS.out]; rfl)
          go_wp2
          go_ret
          refine ⟨.slice (some A) M c, rfl, B6, ?_⟩
          rw [HX.out]
          exact ⟨A, c, F, by rw [HM.out], hs3, hF⟩
      · rw [hpk] at hpar
        have HX := Lib.hid (show Y = some set by rw [HY.out, HSU.out, hpk]; rfl)
        clear hpk
        go_wp2_with fail
        refine (hpar).mono ?_
        rintro e w5 ⟨v5, rfl, ⟨v6, rfl, F5, o5, f5⟩, hb5⟩
        have hs3 := (fInts_good (B := 0)).bw hb5 (Nat.zero_le _) hs2
        have B5 := hb.then hb5
        clear hpar cl ci hs2 o5 f5
        go_wp2
        go_ret
        refine ⟨.slice (some A) M c, rfl, B5, ?_⟩
        rw [HX.out]
        exact ⟨A, c, F, by rw [HM.out], hs3, hF⟩
theorem pick_step {F : List Nat → Bool} {n r k : Nat} {set : List Nat} (hk : k < n) : pick F n (r + 1) (n - k) set = match pick F n r (n - (k + 1)) (set ++ [k]) with | some s => some s | none => pick F n (r + 1) (n - (k + 1)) set := by
  obtain ⟨m, hm⟩ : ∃ m, n - k = m + 1 := ⟨n - k - 1, by omega⟩
  rw [hm, pick, show n - (m + 1) = k by omega, show n - (k + 1) = m by omega]
  rfl
theorem row_some {w : World} {s : List Nat} {k : Nat} {v : Value} {F : List Nat} (h : fInts w (ints s ++ [(k : Int)]) [v] F) : ∃ A c, v = .slice (some A) (s.length + 1) c ∧ fInts w (ints (s ++ [k])) [.slice (some A) (s ++ [k]).length c] F := by
  rw [← ints_snoc] at h
  obtain ⟨A, c, rfl, _⟩ := rSl_shape (fInts_Rd h)
  obtain ⟨x, hx⟩ := get_of_lt (xs := ints (s ++ [k])) (k := 0) (by rw [ints_len, List.length_append]; simp)
  obtain ⟨b, o, rfl, _⟩ := rInts_at (fInts_Rd h) hx
  rw [ints_len] at h ⊢
  exact ⟨_, c, by rw [List.length_append, List.length_singleton], h⟩
theorem wrap_k {k : Nat} (h : k ≤ 5) : IntKind.i64.wrap ((k : Int) + 1) = ((k + 1 : Nat) : Int) := by
  have : k = 0 ∨ k = 1 ∨ k = 2 ∨ k = 3 ∨ k = 4 ∨ k = 5 := by omega
  rcases this with rfl | rfl | rfl | rfl | rfl | rfl <;> rfl
set_option maxRecDepth 100000 in
set_option maxHeartbeats 800000 in
theorem I_choose (w0 : World) (l : List GItem) (x : List GWish) (id : Int) (bw bc bl bi : Nat) (vw vl : Value) (hC : Caught w0 l x id bw bc bl bi vw vl) (hO : parOk x = true) :
    ∀ (r : Nat) (W : World) (hB : Bw w0 W) (set : List Nat) (frm : Nat) (fr : Int) (size : Nat) (A : Addr) (c : Nat) (F : List Nat) (hs : fInts W (ints set) [.slice (some A) set.length c] F) (hF : Fresh w0.heap.size F) (hfi : fr = (frm : Int)) (hl : set.length + r = size) (h5 : size ≤ 5) (hfr : frm ≤ x.length),
    Calls Try.prog 134 #[.slice (some A) set.length c, .int .i64 fr, .int .i64 size, .pointer (some ⟨bw, 0, none⟩), .pointer (some ⟨bc, 0, none⟩), .pointer (some ⟨bl, 0, none⟩), .pointer (some ⟨bi, 0, none⟩)] W (Chose W w0.heap.size (pick (suits l x id) x.length r (x.length - frm) set)) := by
  intro r
  induction r with
  | zero =>
    intro W hB set frm fr size A c F hs hF hfi hl h5 hfr
    obtain rfl : set.length = size := by omega
    rw [pick]
    exact I_choose_leaf w0 l x id bw bc bl bi vw vl hC hO W hB set fr A c F hs hF h5
  | succ r ih =>
    intro W hB set frm fr size A c F hs hF hfi hl h5 hfr
    subst hfi
    obtain ⟨ti, hj, hy0, hy1, hy2⟩ := info_parts info_int
    have hn5 := parOk_len hO
    obtain ⟨cw, cc, cl, ci, rw0, rl0⟩ := hC
    obtain ⟨Y, hY⟩ : ∃ Y, Y = pick (suits l x id) x.length (r + 1) (x.length - frm) set := ⟨_, rfl⟩
    rw [← hY]
    obtain ⟨A2, n, c2, rfl, L0, Lc, Lm⟩ := rSl_open rw0
    unfold maxLen at Lm
    have L := Lib.hid L0
    clear L0
    rw [← L.out] at hn5 hfr hY ih
    have HY := Lib.hid hY.symm
    obtain ⟨SU, hSU⟩ : ∃ SU, SU = suits l x id := ⟨_, rfl⟩
    rw [← hSU] at ih
    have HY : Hid (pick SU n (r + 1) (n - frm) set = Y) := Lib.hid (by rw [hSU]; exact hY.symm)
    have IH := Lib.hid ih
    have HS := Lib.hid hs
    replace cw := hB.cell cw
    replace cc := hB.cell cc
    have hsr := fInts_Rd hs
    obtain ⟨M, hM⟩ : ∃ M, M = set.length := ⟨_, rfl⟩
    rw [← hM] at hl ⊢ hsr
    have HM := Lib.hid hM
    have hlt : (M : Int) < (size : Int) := by omega
    have HLEN := Lib.hid (show (ints set).length ≤ 5 by rw [ints_len, ← hM]; omega)
    clear hY hSU ih hs rw0 cl ci rl0 hO hM
    go_enter Try.func134, Try.ntmps134
    go_wp2
    go_loopg [11] (n - frm) (fun g i w' => ∃ k : Nat, frm ≤ k ∧ k ≤ n ∧ g = n - k ∧ i = .int .i64 k ∧ Hid (pick SU n (r + 1) (n - k) set = Y) ∧ Bw W w')
    case atStart => exact ⟨frm, by omega, hfr, rfl, rfl, HY, Bw.refl _⟩
    case round =>
      obtain ⟨k, hfk, hk, rfl, rfl, HK, hb⟩ := hrel
      replace cw := hb.cell cw
      replace cc := hb.cell cc
      by_cases hkn : k < n
      · have i1 : (k : Int) < (n : Int) := by omega
        have HP := Lib.hid (pick_step (F := SU) (r := r) (set := set) hkn)
        have D1 : Bw wr wr.drew := (Bw.refl wr).drew
        have q0 := D1.cell cc
        have BD := hb.then D1
        have BO := hB.then BD
        have hcopy := Lib.hid (fun w' (h : Bw wr.drew w') => I_copyInts w' (ints set) _ (hsr.bw rInts_good (BD.then h)) (by have := HLEN.out; omega))
        have hQ := Bw.refl wr.drew
        clear hsr
        have hcl := cell_one_new wr.drew (.int .i64 k) 3
        go_wp2_with fail
        go_region_held3 (fun w' => w'.cell? ⟨bc, 0, none⟩ = some (.func (.func 134) #[] #[.pointer (some ⟨bw, 0, none⟩), .pointer (some ⟨bc, 0, none⟩), .pointer (some ⟨bl, 0, none⟩), .pointer (some ⟨bi, 0, none⟩)])) (first | exact hQ.cell q0 | exact (hQ.then ((Bw.refl _).alloc _)).cell q0)
          (first
            | (go_at_call 135; first
                | (refine (hcopy.out _ hQ).mono ?_; rintro e' w5 ⟨v5, rfl, ⟨F5, o5, f5⟩, hb5⟩; replace hQ := hQ.then hb5)
                | (refine (hcopy.out _ (hQ.then ((Bw.refl _).alloc _))).mono ?_; rintro e' w5 ⟨v5, rfl, ⟨F5, o5, f5⟩, hb5⟩; replace f5 := f5.mono ((Bw.refl wr.drew).alloc (.cells #[.int .i64 k] 3)).size; replace hcl := fun j t hj => hb5.cell (hcl j t hj); replace hQ := (hQ.then ((Bw.refl _).alloc _)).then hb5))
            | (go_at_call 134; have hcall := IH.out w' (BO.then hQ) (set ++ [k]) (k + 1) (IntKind.i64.wrap ((k : Int) + 1)) size A6 c6 F' hv6 (hF'.mono BO.size) (wrap_k (by omega)) (by have := HM.out; rw [List.length_append, List.length_singleton]; omega) h5 (by omega); rw [List.length_append, List.length_singleton] at hcall; refine hcall.mono ?_; rintro e' w7 ⟨u7, rfl, hb7, hu7⟩; replace hQ := hQ.then hb7; clear hcall)
            | ((have hFm := (fInts_good (B := 0)).lt o5; have hqs := hQ.size; have hlen5 := HLEN.out; first
                | (have hA := (Bw.refl w5).alloc (.cells #[.int .i64 k] 3); have hv5 := (fInts_good (B := 0)).bw hA (Nat.zero_le _) o5; refine step_push2 _ (by rfl) (.tmp 31) (.tmp 33) 42 (by rfl) wr.drew 3 ti _ 1 8 Try.underlying42 hj hy0 hy1 hy2 rfl (by omega) fInt_good _ (ints set) F5 (by rfl) hv5 f5 ⟨w5.heap.size, 0, none⟩ 1 (by rfl) (k : Int) [.int .i64 k] [] (cell_one_new w5 (.int .i64 k) 3) ⟨rfl, rfl⟩ rfl w5.heap.size hFm Fresh.nil hqs (by omega) (by omega) (hQ.then hA) ?_)
                | (refine step_push2 _ (by rfl) (.tmp 31) (.tmp 33) 42 (by rfl) wr.drew 3 ti _ 1 8 Try.underlying42 hj hy0 hy1 hy2 rfl (by omega) fInt_good _ (ints set) F5 (by rfl) o5 f5 ⟨wr.drew.heap.size, 0, none⟩ 1 (by rfl) (k : Int) [.int .i64 k] [] hcl ⟨rfl, rfl⟩ rfl w5.heap.size hFm Fresh.nil hqs (by omega) (by omega) hQ ?_)); intro v' w' F' hv' hF' hb' hO' hs'; obtain ⟨A6, c6, rfl, hv6⟩ := row_some hv'; replace hQ := hb'; clear hO' hs' hv' hFm hqs hlen5 hcl hb' o5 f5)
            | fail)
        all_goals
          have hbq := BD.then hQ
          obtain ⟨o7, ho7⟩ : ∃ o7, o7 = pick SU n r (n - (k + 1)) (set ++ [k]) := ⟨_, rfl⟩
          have HP2 := HP.out
          rw [← ho7] at hu7 HP2
          have HO7 := Lib.hid ho7
          clear ho7
          cases o7 with
          | none =>
            have HX := Lib.hid (show pick SU n (r + 1) (n - (k + 1)) set = Y from HP2.symm.trans HK.out)
            have hn : u7 = .slice none 0 0 := hu7
            subst hn
            clear HP2 hu7
            go_wp2
            go_roundg (n - (k + 1))
            case measure => omega
            case rel => exact ⟨k + 1, by omega, by omega, rfl, by go_num, HX, hbq⟩
          | some s =>
            have HX := Lib.hid (show Y = some s from HK.out.symm.trans HP2)
            obtain ⟨A8, c8, F8, rfl, o8, f8⟩ := hu7
            clear HP2
            go_wp2
            go_ret
            refine ⟨.slice (some A8) s.length c8, rfl, hbq, ?_⟩
            rw [HX.out]
            exact ⟨A8, c8, F8, rfl, o8, f8⟩
      · obtain rfl : k = n := by omega
        have HX := Lib.hid (show Y = none by rw [← HK.out, Nat.sub_self]; rfl)
        clear HK
        go_wp2
        go_ret
        refine ⟨.slice none 0 0, rfl, hb, ?_⟩
        rw [HX.out]
theorem pick_most {l : List GItem} {x : List GWish} {id : Int} {k : Nat} (hk : k ≤ x.length) (h : pick (suits l x id) x.length k x.length [] = none) : k < x.length := by
  rcases Nat.lt_or_ge k x.length with h1 | h1
  · exact h1
  · obtain rfl : k = x.length := by omega
    have := pick_none (Nat.le_refl _) h (List.range x.length) (by rw [Nat.sub_self]; exact asc_range _) (by rw [List.length_range])
    rw [List.nil_append, suits_all] at this; cases this
theorem drop_step {F : List Nat → Bool} {n k : Nat} (hk : k ≤ n) : dropI F n (n + 1 - k) k = match pick F n k n [] with | some s => s | none => dropI F n (n + 1 - (k + 1)) (k + 1) := by
  obtain ⟨m, hm⟩ : ∃ m, n + 1 - k = m + 1 := ⟨n - k, by omega⟩
  rw [hm, dropI, show n + 1 - (k + 1) = m by omega]
  rfl
set_option maxRecDepth 100000 in
set_option maxHeartbeats 3200000 in
theorem I_SmallestDrop_yes (w : World) (l : List GItem) (x : List GWish) (id : Int) (v u : Value) (h : Rd rItems w l [v]) (h' : Rd rWishes w x [u]) (ht : totWishes x ≤ 1048576) (hI : areItems l = true) (hO : parOk x = true) (j : Nat) (p : GItem) (hf : findIdx l id = (j : Int)) (hp : l[j]? = some p) (hid : p.id = id) :
    Calls Try.prog 43 #[v, u, .int .i64 id] w (RetV w (Two fInts w.heap.size (ints (dropI (suits l x id) x.length (x.length + 1) 0)) (.bool true))) := by
  obtain ⟨Y, hY⟩ : ∃ Y, Y = dropI (suits l x id) x.length (x.length + 1) 0 := ⟨_, rfl⟩
  rw [← hY]
  have hn5 := parOk_len hO
  have HO := Lib.hid hO
  obtain ⟨A, n, c, rfl, L0, Lc, Lm⟩ := rSl_open h
  unfold maxLen at Lm
  have L := Lib.hid L0
  clear L0
  obtain ⟨A2, n2, c2, rfl, L20, L2c, L2m⟩ := rSl_open h'
  unfold maxLen at L2m
  have L2 := Lib.hid L20
  clear L20
  rw [← L2.out] at hY hn5
  have HY : Hid (dropI (suits l x id) n2 (n2 + 1 - 0) 0 = Y) := Lib.hid hY.symm
  have HH := Lib.hid h
  have HH' := Lib.hid h'
  obtain ⟨W0, hW0⟩ : ∃ W0, W0 = ((w.alloc (.cells #[.slice A n c] 29)).alloc (.cells #[.slice A2 n2 c2] 63)).alloc (.cells #[.int .i64 id] 3) := ⟨_, rfl⟩
  have B0 : Bw w W0 := by rw [hW0]; exact (((Bw.refl w).alloc _).alloc _).alloc _
  have q0 : W0.cell? ⟨w.heap.size, 0, none⟩ = some (.slice A n c) := by rw [hW0]; go_simp
  have q1 : W0.cell? ⟨w.heap.size + 1, 0, none⟩ = some (.slice A2 n2 c2) := by rw [hW0]; go_simp
  have q2 : W0.cell? ⟨w.heap.size + 2, 0, none⟩ = some (.int .i64 id) := by rw [hW0]; go_simp
  have hcall0 := I_ParetoOf W0 x _ (h'.bw rWishes_good B0) ht
  rw [hO] at hcall0
  have hcall1 := fun W (B : Bw w W) => I_FindItem W l id _ (h.bw rItems_good B)
  rw [hf] at hcall1
  have hcall2 := fun W (B : Bw w W) => I_AreItems W l _ (h.bw rItems_good B)
  rw [hI] at hcall2
  have C1 := Lib.hid hcall1
  have C2 := Lib.hid hcall2
  have j3 : ¬ ((j : Int) < 0) := by omega
  have HW := Lib.hid hW0
  clear hW0 hI hO hp hf hid hcall1 hcall2 ht hY h h'
  go_enter Try.func43, Try.ntmps43
  go_wp2_with fail
  rw [← HW.out]
  refine hcall0.mono ?_
  rintro e w1 ⟨v1, rfl, ⟨v2, rfl, F1, o1, f1⟩, hb1⟩
  have d0 := hb1.cell q0
  have d1 := hb1.cell q1
  have d2 := hb1.cell q2
  have B1 := B0.then hb1
  clear hcall0 o1 f1 hb1 q0 q1 q2
  go_wp2_with fail
  refine (C2.out _ B1).mono ?_
  rintro e w2 ⟨rfl, hb2⟩
  have e0 := hb2.cell d0
  have e1 := hb2.cell d1
  have e2 := hb2.cell d2
  have B2 := B1.then hb2
  clear d0 d1 d2 hb2
  go_wp2_with fail
  refine (C1.out _ B2).mono ?_
  rintro e w3 ⟨rfl, hb3⟩
  have g0 := hb3.cell e0
  have g1 := hb3.cell e1
  have g2 := hb3.cell e2
  have B3 := B2.then hb3
  clear e0 e1 e2 hb3 C1 C2
  go_wp2
  have GZ := B3.size
  go_loopg [11] n2 (fun g i w' => ∃ k : Nat, k ≤ n2 ∧ g = n2 - k ∧ i = .int .i64 k ∧ Hid (dropI (suits l x id) n2 (n2 + 1 - k) k = Y) ∧ w'.cell? ⟨w.heap.size, 0, none⟩ = some (.slice A n c) ∧ w'.cell? ⟨w.heap.size + 1, 0, none⟩ = some (.slice A2 n2 c2) ∧ w'.cell? ⟨w.heap.size + 1 + 1, 0, none⟩ = some (.int .i64 id) ∧ w'.cell? ⟨w3.heap.size, 0, none⟩ = some (.func (.func 134) #[] #[.pointer (some ⟨w.heap.size + 1, 0, none⟩), .pointer (some ⟨w3.heap.size, 0, none⟩), .pointer (some ⟨w.heap.size, 0, none⟩), .pointer (some ⟨w.heap.size + 1 + 1, 0, none⟩)]) ∧ Bw w w')
  case atStart => exact ⟨0, by omega, rfl, rfl, HY, Bw.cell ((Bw.refl w3).alloc _) g0, Bw.cell ((Bw.refl w3).alloc _) g1, Bw.cell ((Bw.refl w3).alloc _) g2, by go_simp, B3.then ((Bw.refl w3).alloc _)⟩
  case round =>
    clear g0 g1 g2
    obtain ⟨k, hk, rfl, rfl, HK, g0, g1, g2, g3, hb⟩ := hrel
    have A1 := (Bw.refl wr).alloc (.cells #[] 3)
    have hC : Caught wr l x id (w.heap.size + 1) w3.heap.size w.heap.size (w.heap.size + 1 + 1) (.slice A2 n2 c2) (.slice A n c) := ⟨g1, g3, g0, g2, HH'.out.bw rWishes_good hb, HH.out.bw rItems_good hb⟩
    have hcall : Calls Try.prog 134 #[.slice (some ⟨wr.heap.size, 0, none⟩) 0 0, .int .i64 0, .int .i64 k, .pointer (some ⟨w.heap.size + 1, 0, none⟩), .pointer (some ⟨w3.heap.size, 0, none⟩), .pointer (some ⟨w.heap.size, 0, none⟩), .pointer (some ⟨w.heap.size + 1 + 1, 0, none⟩)] (wr.alloc (.cells #[] 3)) (Chose (wr.alloc (.cells #[] 3)) wr.heap.size (pick (suits l x id) x.length k x.length [])) :=
      I_choose wr l x id _ _ _ _ _ _ hC HO.out k (wr.alloc (.cells #[] 3)) A1 [] 0 0 k ⟨wr.heap.size, 0, none⟩ 0 [wr.heap.size] (fSl_empty wr) ⟨by simp, by simp⟩ rfl (by simp) (by omega) (by omega)
    have hmost := pick_most (l := l) (x := x) (id := id) (k := k) (by rw [← L2.out]; exact hk)
    rw [← L2.out] at hcall hmost
    have HS := Lib.hid (drop_step (F := suits l x id) hk)
    obtain ⟨o7, ho7⟩ : ∃ o7, o7 = pick (suits l x id) n2 k n2 [] := ⟨_, rfl⟩
    have HS2 := HS.out
    rw [← ho7] at hcall hmost HS2
    have HS3 := Lib.hid HS2
    have HMOST := Lib.hid hmost
    clear ho7 hC HS HS2 hmost
    go_wp2_with fail
    refine hcall.mono ?_
    rintro e w7 ⟨u7, rfl, hb7, hu7⟩
    have B7 := A1.then hb7
    have hbq := hb.then B7
    clear hcall
    cases o7 with
    | none =>
      have HX := Lib.hid (show dropI (suits l x id) n2 (n2 + 1 - (k + 1)) (k + 1) = Y from HS3.out.symm.trans HK.out)
      have hn : u7 = .slice none 0 0 := hu7
      have hk2 : k < n2 := HMOST.out rfl
      subst hn
      have d0 := B7.cell g0
      have d1 := B7.cell g1
      have d2 := B7.cell g2
      have d3 := B7.cell g3
      clear hu7 g0 g1 g2 g3
      go_wp2
      go_roundg (n2 - (k + 1))
      case measure => omega
      case rel => exact ⟨k + 1, by omega, rfl, by go_num, HX, d0, d1, d2, d3, hbq⟩
    | some s =>
      have HX := Lib.hid (show s = Y from HS3.out.symm.trans HK.out)
      obtain ⟨A8, c8, F8, rfl, o8, f8⟩ := hu7
      have o9 := o8
      rw [show ints s = ints Y by rw [HX.out]] at o9
      clear o8
      go_wp2
      go_wp2
      refine bodyPost_ret (v := .tuple #[_, _]) (by simp [results, Try.results43, go_sem]) rfl (RetV.two o9 (f8.mono hb.size) rfl hbq)
set_option maxRecDepth 100000 in
set_option maxHeartbeats 3200000 in
theorem I_SmallestDrop_no (w : World) (l : List GItem) (x : List GWish) (id : Int) (v u : Value) (h : Rd rItems w l [v]) (h' : Rd rWishes w x [u]) (ht : totWishes x ≤ 1048576) (hno : dropOk l x id = false) :
    Calls Try.prog 43 #[v, u, .int .i64 id] w (RetV w (Two fInts w.heap.size [] (.bool false))) := by
  obtain ⟨A, n, c, rfl, L0, Lc, Lm⟩ := rSl_open h
  unfold maxLen at Lm
  have L := Lib.hid L0
  clear L0
  obtain ⟨A2, n2, c2, rfl, L20, L2c, L2m⟩ := rSl_open h'
  unfold maxLen at L2m
  have L2 := Lib.hid L20
  clear L20
  obtain ⟨W0, hW0⟩ : ∃ W0, W0 = ((w.alloc (.cells #[.slice A n c] 29)).alloc (.cells #[.slice A2 n2 c2] 63)).alloc (.cells #[.int .i64 id] 3) := ⟨_, rfl⟩
  have B0 : Bw w W0 := by rw [hW0]; exact (((Bw.refl w).alloc _).alloc _).alloc _
  have q0 : W0.cell? ⟨w.heap.size, 0, none⟩ = some (.slice A n c) := by rw [hW0]; go_simp
  have q2 : W0.cell? ⟨w.heap.size + 2, 0, none⟩ = some (.int .i64 id) := by rw [hW0]; go_simp
  have hcall0 := I_ParetoOf W0 x _ (h'.bw rWishes_good B0) ht
  have hcall1 := fun W (B : Bw w W) => I_FindItem W l id _ (h.bw rItems_good B)
  have hcall2 := fun W (B : Bw w W) => I_AreItems W l _ (h.bw rItems_good B)
  obtain ⟨K, hK⟩ : ∃ K, K = findIdx l id := ⟨_, rfl⟩
  rw [← hK] at hcall1
  unfold dropOk at hno
  rw [← hK] at hno
  have HW := Lib.hid hW0
  clear hW0 h h' hK
  rcases Bool.eq_false_or_eq_true (parOk x) with hO | hO
  · rw [hO] at hcall0 hno
    rcases Bool.eq_false_or_eq_true (areItems l) with hI | hI
    · rw [hI] at hcall2 hno
      have j3 : K < 0 := by simpa using hno
      clear hO hI hno
      go_enter Try.func43, Try.ntmps43
      go_wp2_with fail
      rw [← HW.out]
      refine hcall0.mono ?_
      rintro e w1 ⟨v1, rfl, ⟨v2, rfl, F1, o1, f1⟩, hb1⟩
      have d0 := hb1.cell q0
      have d2 := hb1.cell q2
      have B1 := B0.then hb1
      clear hcall0 o1 f1 hb1 q0 q2
      go_wp2_with fail
      refine (hcall2 _ B1).mono ?_
      rintro e w2 ⟨rfl, hb2⟩
      have e0 := hb2.cell d0
      have e2 := hb2.cell d2
      have B2 := B1.then hb2
      clear d0 d2 hb2
      go_wp2_with fail
      refine (hcall1 _ B2).mono ?_
      rintro e w3 ⟨rfl, hb3⟩
      have B3 := B2.then hb3
      have hv0 := fSl_empty (e := 3) (sz := 1) (R := fInt) w3
      have hs3 := B3.size
      clear e0 e2 hb3 hcall1 hcall2
      go_wp2
      go_wp2
      refine bodyPost_ret (v := .tuple #[_, _]) (by simp [results, Try.results43, go_sem]) rfl (RetV.two hv0 ⟨by simp, by simpa using hs3⟩ rfl (B3.alloc _))
    · rw [hI] at hcall2
      clear hO hI hno
      go_enter Try.func43, Try.ntmps43
      go_wp2_with fail
      rw [← HW.out]
      refine hcall0.mono ?_
      rintro e w1 ⟨v1, rfl, ⟨v2, rfl, F1, o1, f1⟩, hb1⟩
      have d0 := hb1.cell q0
      have B1 := B0.then hb1
      clear hcall0 o1 f1 hb1 q0 q2
      go_wp2_with fail
      refine (hcall2 _ B1).mono ?_
      rintro e w2 ⟨rfl, hb2⟩
      have B3 := B1.then hb2
      have hv0 := fSl_empty (e := 3) (sz := 1) (R := fInt) w2
      have hs3 := B3.size
      clear d0 hb2 hcall1 hcall2
      go_wp2
      go_wp2
      refine bodyPost_ret (v := .tuple #[_, _]) (by simp [results, Try.results43, go_sem]) rfl (RetV.two hv0 ⟨by simp, by simpa using hs3⟩ rfl (B3.alloc _))
  · rw [hO] at hcall0
    clear hO hno
    go_enter Try.func43, Try.ntmps43
    go_wp2_with fail
    rw [← HW.out]
    refine hcall0.mono ?_
    rintro e w1 ⟨v1, rfl, ⟨v2, rfl, F1, o1, f1⟩, hb1⟩
    have B3 := B0.then hb1
    have hv0 := fSl_empty (e := 3) (sz := 1) (R := fInt) w1
    have hs3 := B3.size
    clear hcall0 o1 f1 hb1 q0 q2 hcall1 hcall2
    go_wp2
    go_wp2
    refine bodyPost_ret (v := .tuple #[_, _]) (by simp [results, Try.results43, go_sem]) rfl (RetV.two hv0 ⟨by simp, by simpa using hs3⟩ rfl (B3.alloc _))
theorem I_SmallestDrop (w : World) (l : List GItem) (x : List GWish) (id : Int) (v u : Value) (h : Rd rItems w l [v]) (h' : Rd rWishes w x [u]) (ht : totWishes x ≤ 1048576) :
    Calls Try.prog 43 #[v, u, .int .i64 id] w (RetV w (Two fInts w.heap.size (dropL l x id) (.bool (dropOk l x id)))) := by
  rcases Bool.eq_false_or_eq_true (dropOk l x id) with hc | hc
  · have h1 := hc
    unfold dropOk at h1
    rw [Bool.and_eq_true, Bool.and_eq_true, decide_eq_true_eq] at h1
    rcases findIdx_cases l id with ⟨hK, _⟩ | ⟨j, p, hK, hp, hid⟩
    · have := h1.2.2; omega
    · have := I_SmallestDrop_yes w l x id v u h h' ht h1.2.1 h1.1 j p hK hp hid
      rw [show dropL l x id = ints (dropI (suits l x id) x.length (x.length + 1) 0) by rw [dropL, if_pos hc], hc]
      exact this
  · have := I_SmallestDrop_no w l x id v u h h' ht hc
    rw [show dropL l x id = [] by rw [dropL, hc]; rfl, hc]
    exact this
end Go.Proofs.Ytfffklkiikmieaa
