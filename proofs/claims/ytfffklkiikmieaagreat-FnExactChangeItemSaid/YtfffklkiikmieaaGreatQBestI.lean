/- The best items in the program. -/
import Derived.Test.YtfffklkiikmieaaGreatQCompI
import Derived.Test.YtfffklkiikmieaaGreatQExprS
import Derived.Test.YtfffklkiikmieaaGreatQModel3
namespace Go.Proofs.YtfffklkiikmieaaGreat
open Go.RowKit
set_option linter.unusedVariables false
set_option linter.unusedSimpArgs false
theorem I_operands (w : World) (op : Int) : Calls Tryz.prog 124 #[.int .i64 op] w (Ret w (.int .i64 (opnds op))) := by
  by_cases h0 : op = 0
  · have q0 : (op == 0) = true := by simpa using h0
    have E := Lib.hid (show opnds op = 0 by rw [opnds, if_pos h0])
    clear h0
    go_enter Tryz.func124, Tryz.ntmps124
    go_wp2
    go_ret
    exact Ret.int (E.out.symm) (Bw.refl _)
  have q0 : (op == 0) = false := by simpa using h0
  by_cases h3 : op = 3
  · have q3 : (op == 3) = true := by simpa using h3
    have E := Lib.hid (show opnds op = 1 by rw [opnds, if_neg h0, if_pos h3])
    clear h0 h3
    go_enter Tryz.func124, Tryz.ntmps124
    go_wp2
    go_ret
    exact Ret.int (E.out.symm) (Bw.refl _)
  · have q3 : (op == 3) = false := by simpa using h3
    have E := Lib.hid (show opnds op = 2 by rw [opnds, if_neg h0, if_neg h3])
    clear h0 h3
    go_enter Tryz.func124, Tryz.ntmps124
    go_wp2
    go_ret
    exact Ret.int (E.out.symm) (Bw.refl _)
theorem opnds_bd (op : Int) : 0 ≤ opnds op ∧ opnds op ≤ 2 := by
  unfold opnds
  repeat' split
  all_goals omega
set_option maxRecDepth 100000 in
set_option maxHeartbeats 3200000 in
theorem I_IsExpression (w : World) (e : List GNode) (v : Value) (h : Rd rNodes w e [v]) : Calls Tryz.prog 89 #[v] w (Ret w (.bool (isExpr e))) := by
  obtain ⟨A, n, c, rfl, L0, Lc, Lm⟩ := rSl_open h
  unfold maxLen at Lm
  have L := Lib.hid L0
  clear L0
  go_enter Tryz.func89, Tryz.ntmps89
  go_wp2
  go_loopg [3, 8] n (fun g d i w' => ∃ (k : Nat) (m : Int), k ≤ n ∧ g = n - k ∧ d = .int .i64 m ∧ i = .int .i64 k ∧ 0 ≤ m ∧ m ≤ k ∧ Hid (isExpr e = exprAt e k m) ∧ Bw w w')
  case atStart => exact ⟨0, 0, by omega, rfl, rfl, rfl, by omega, by omega, Lib.hid rfl, Bw.refl _⟩
  case round =>
    obtain ⟨k, m, hk, rfl, rfl, rfl, m0, mk, HE, hb⟩ := hrel
    by_cases hlt : k < n
    · obtain ⟨x, hx⟩ := get_of_lt (xs := e) (k := k) (by have := L.out; omega)
      obtain ⟨ba, oa, Al, cl, Ap, cp, rfl, _, c0, c1, c2, c3, c4, c5, hl, hp⟩ := rNodes_at h hx
      have i1 : (0 : Int) ≤ (k : Int) := by omega
      have i2 : (k : Int) < (n : Int) := by omega
      replace c0 := hb.cell c0
      replace c1 := hb.cell c1
      replace c2 := hb.cell c2
      replace c3 := hb.cell c3
      replace c4 := hb.cell c4
      replace c5 := hb.cell c5
      have D1 : Bw wr (wr.alloc (.cells #[.int .i64 x.op, .int .i64 x.wish.kind, .int .i64 x.wish.field, .int .i64 x.wish.value, .slice Al x.wish.list.length cl, .slice Ap x.wish.pairs.length cp] 102)) := (Bw.refl wr).alloc _
      have HH := Lib.hid h
      have hbx := World.block_lt_of_cell? _ _ c0
      have hO0 := opnds_bd x.op
      obtain ⟨O, hO⟩ : ∃ O, O = opnds x.op := ⟨_, rfl⟩
      have key : ∀ W, Calls Tryz.prog 124 #[.int .i64 x.op] W (Ret W (.int .i64 O)) := fun W => by rw [hO]; exact I_operands W x.op
      have HGOOD := Lib.hid (show nodeOk x m = true → isExpr e = exprAt e (k + 1) (m - O + 1) from fun hg => by rw [HE.out, exprAt_good hx hg, hO])
      have HBAD := Lib.hid (show nodeOk x m = false → isExpr e = false from fun hg => by rw [HE.out, exprAt_bad hx hg])
      have HN := Lib.hid (show nodeOk x m = (inB x.op 0 4 && (decide (O ≤ m) && if x.op = 0 then isWish x.wish else decide (x.wish = noWish))) by rw [hO]; rfl)
      rw [← hO] at hO0
      clear hx h HE hO
      go_wp2_with fail
      refine (I_within _ _ _ _).mono ?_
      rintro e w2 ⟨rfl, hb2⟩
      have p0 : w2.cell? ⟨wr.heap.size, 0, none⟩ = some (.int .i64 x.op) := hb2.cell (by go_simp)
      have p1 : w2.cell? ⟨wr.heap.size, 1, none⟩ = some (.int .i64 x.wish.kind) := hb2.cell (by go_simp)
      have p2 : w2.cell? ⟨wr.heap.size, 2, none⟩ = some (.int .i64 x.wish.field) := hb2.cell (by go_simp)
      have p3 : w2.cell? ⟨wr.heap.size, 3, none⟩ = some (.int .i64 x.wish.value) := hb2.cell (by go_simp)
      have p4 : w2.cell? ⟨wr.heap.size, 4, none⟩ = some (.slice Al x.wish.list.length cl) := hb2.cell (by go_simp)
      have p5 : w2.cell? ⟨wr.heap.size, 5, none⟩ = some (.slice Ap x.wish.pairs.length cp) := hb2.cell (by go_simp)
      have D2 := D1.then hb2
      have B2 := hb.then D2
      have hl2 := Rd.bw rInts_good hl B2
      have hp2 := Rd.bw rPairs_good hp B2
      clear c0 c1 c2 c3 c4 c5 D1 hb2 hl hp
      rcases Bool.eq_false_or_eq_true (inB x.op 0 4) with e1 | e1
      · have E1 := Lib.hid e1
        rw [e1]
        clear e1
        go_wp2_with fail
        refine (key _).mono ?_
        rintro e w3 ⟨rfl, hb3⟩
        replace p0 := hb3.cell p0
        replace p1 := hb3.cell p1
        replace p2 := hb3.cell p2
        replace p3 := hb3.cell p3
        replace p4 := hb3.cell p4
        replace p5 := hb3.cell p5
        have B3 := B2.then hb3
        replace hl2 := Rd.bw rInts_good hl2 hb3
        replace hp2 := Rd.bw rPairs_good hp2 hb3
        by_cases hd : m < O
        · have G := Lib.hid (HBAD.out (by rw [HN.out, show decide (O ≤ m) = false by simp; omega]; simp))
          clear HGOOD HBAD HN
          go_wp2
          go_ret
          exact Ret.bool (G.out.symm) (B3)
        · by_cases o0 : x.op = 0
          · have q0 : (x.op == 0) = true := by simpa using o0
            have q1 : (x.op != 0) = false := by simpa using o0
            have HN2 := Lib.hid (show nodeOk x m = isWish x.wish by rw [HN.out, E1.out, if_pos o0, show decide (O ≤ m) = true by simp; omega]; rfl)
            clear o0 HN
            go_wp2_with fail
            refine (I_IsWish _ x.wish _ _ hl2 hp2).mono ?_
            rintro e w4 ⟨rfl, hb4⟩
            replace p0 := hb4.cell p0
            have B4 := B3.then hb4
            rcases Bool.eq_false_or_eq_true (isWish x.wish) with e2 | e2
            · have G := Lib.hid (HGOOD.out (by rw [HN2.out, e2]))
              rw [e2]
              clear e2 HGOOD HBAD HN2
              go_wp2_with fail
              refine (key _).mono ?_
              rintro e w5 ⟨rfl, hb5⟩
              go_wp2
              go_roundg (n - (k + 1))
              case measure => omega
              case rel => exact ⟨k + 1, m - O + 1, by omega, rfl, rfl, by go_num, by omega, by omega, G, B4.then hb5⟩
            · have G := Lib.hid (HBAD.out (by rw [HN2.out, e2]))
              rw [e2]
              clear e2 HGOOD HBAD HN2
              go_wp2
              go_ret
              exact Ret.bool (G.out.symm) (B4)
          · have q0 : (x.op == 0) = false := by simpa using o0
            have q1 : (x.op != 0) = true := by simpa using o0
            have HN2 := Lib.hid (show nodeOk x m = decide (x.wish = noWish) by rw [HN.out, E1.out, if_neg o0, show decide (O ≤ m) = true by simp; omega]; rfl)
            clear o0 HN
            go_wp2_with fail
            refine (I_equalWish _ x.wish noWish _ (.slice none 0 0) _ (.slice none 0 0) hl2 rSl_nil hp2 rSl_nil).mono ?_
            rintro e w4 ⟨rfl, hb4⟩
            replace p0 := hb4.cell p0
            have B4 := B3.then hb4
            rcases Bool.eq_false_or_eq_true (decide (x.wish = noWish)) with e2 | e2
            · have G := Lib.hid (HGOOD.out (by rw [HN2.out, e2]))
              rw [e2]
              clear e2 HGOOD HBAD HN2
              go_wp2_with fail
              refine (key _).mono ?_
              rintro e w5 ⟨rfl, hb5⟩
              go_wp2
              go_roundg (n - (k + 1))
              case measure => omega
              case rel => exact ⟨k + 1, m - O + 1, by omega, rfl, rfl, by go_num, by omega, by omega, G, B4.then hb5⟩
            · have G := Lib.hid (HBAD.out (by rw [HN2.out, e2]))
              rw [e2]
              clear e2 HGOOD HBAD HN2
              go_wp2
              go_ret
              exact Ret.bool (G.out.symm) (B4)
      · have G := Lib.hid (HBAD.out (by rw [HN.out, e1]; rfl))
        rw [e1]
        clear e1 HGOOD HBAD HN
        go_wp2
        go_ret
        exact Ret.bool (G.out.symm) (B2)
    · obtain rfl : k = n := by omega
      have HF := Lib.hid (show isExpr e = (decide (m = 1) && decide (k ≤ 9)) by rw [HE.out, exprAt_end L.out.symm])
      clear HE hlt
      by_cases hm : m = 1
      · have q1 : (m == 1) = true := by simpa using hm
        by_cases h9 : (k : Int) ≤ 9
        · have G := Lib.hid (show isExpr e = true by rw [HF.out]; simp [hm]; omega)
          clear hm HF
          go_wp2
          go_ret
          exact Ret.bool (G.out.symm) (hb)
        · have G := Lib.hid (show isExpr e = false by rw [HF.out]; simp; omega)
          clear hm HF
          go_wp2
          go_ret
          exact Ret.bool (G.out.symm) (hb)
      · have q1 : (m == 1) = false := by simpa using hm
        have G := Lib.hid (show isExpr e = false by rw [HF.out]; simp [hm])
        clear hm HF
        go_wp2
        go_ret
        exact Ret.bool (G.out.symm) (hb)
end Go.Proofs.YtfffklkiikmieaaGreat

namespace Go.Proofs.YtfffklkiikmieaaGreat
open Go.RowKit
set_option linter.unusedVariables false
set_option linter.unusedSimpArgs false
set_option maxHeartbeats 400000 in
theorem I_areBoth (w : World) (l : List GItem) (e : List GNode) (v u : Value) (h : Rd rItems w l [v]) (h' : Rd rNodes w e [u]) : Calls Tryz.prog 92 #[v, u] w (Ret w (.bool (areBoth l e))) := by
  go_enter Tryz.func92, Tryz.ntmps92
  go_wp2_with fail
  refine (I_AreItems _ l _ h).mono ?_
  rintro e w2 ⟨rfl, hb2⟩
  rcases Bool.eq_false_or_eq_true (areItems l) with e1 | e1
  · have E := Lib.hid e1
    rw [e1]
    clear e1
    go_wp2_with fail
    refine (I_IsExpression _ e _ (h'.bw rNodes_good hb2)).mono ?_
    rintro e w3 ⟨rfl, hb3⟩
    rcases Bool.eq_false_or_eq_true (isExpr e) with e2 | e2
    · have E2 := Lib.hid e2
      rw [e2]
      clear e2
      go_wp2
      go_ret
      exact Ret.bool (by rw [areBoth, E.out, E2.out]; rfl) (hb2.then hb3)
    · have E2 := Lib.hid e2
      rw [e2]
      clear e2
      go_wp2
      go_ret
      exact Ret.bool (by rw [areBoth, E.out, E2.out]; rfl) (hb2.then hb3)
  · have E := Lib.hid e1
    rw [e1]
    clear e1
    go_wp2
    go_ret
    exact Ret.bool (by rw [areBoth, E.out]; rfl) (hb2)
set_option maxRecDepth 100000 in
set_option maxHeartbeats 3200000 in
theorem I_best (w : World) (l : List GItem) (e : List GNode) (v u : Value) (h : Rd rItems w l [v]) (h' : Rd rNodes w e [u]) (hE : areBoth l e = true) : Calls Tryz.prog 67 #[v, u] w (RetV w (Made fInts w.heap.size (bestM l e))) := by
  obtain ⟨i0, hi, hz0, hz1, hz2⟩ := info_parts info_int
  obtain ⟨A, n, c, rfl, L0, Lc, Lm⟩ := rSl_open h
  unfold maxLen at Lm
  have L := Lib.hid L0
  clear L0
  have HE1 := Lib.hid (areBoth_expr hE)
  have HI := Lib.hid (areBoth_items hE)
  have n16 : n ≤ 16 := by rw [L.out]; exact areItems_len HI.out
  have hv0 := fSl_empty (e := 3) (sz := 1) (R := fInt) w
  clear hE
  go_enter Tryz.func67, Tryz.ntmps67
  go_wp2
  go_loopg [5, 14] n (fun g s i w' => ∃ (k : Nat) (F : List Nat), k ≤ n ∧ g = n - k ∧ i = .int .i64 k ∧ fInts w' (bestTo l e k) [s] F ∧ Fresh w.heap.size F ∧ Bw w w')
  case atStart => exact ⟨0, _, by omega, rfl, rfl, hv0, ⟨by simp, by simp⟩, (Bw.refl _).alloc _⟩
  case round =>
    clear hv0
    obtain ⟨k, F, hk, rfl, rfl, hv, hF, hb⟩ := hrel
    by_cases hlt : k < n
    · obtain ⟨x, hx⟩ := get_of_lt (xs := l) (k := k) (by have := L.out; omega)
      obtain ⟨ba, oa, Ax, cx, rfl, _, hc0, hc1, hin⟩ := rItems_at h hx
      have HP := Lib.hid (areItems_mem HI.out (List.mem_of_getElem? hx))
      have hlen := isItem_len HP.out
      rw [hlen] at hc1 hin
      have i1 : (0 : Int) ≤ (k : Int) := by omega
      have i2 : (k : Int) < (n : Int) := by omega
      replace hc0 := hb.cell hc0
      replace hc1 := hb.cell hc1
      have hbx := World.block_lt_of_cell? _ _ hc0
      have HYES := Lib.hid (fun hf => bestTo_yes (e := e) hx hf)
      have HNO := Lib.hid (fun hf => bestTo_no (e := e) hx hf)
      have HH := Lib.hid h
      have A1 : Bw wr (wr.alloc (.cells #[.int .i64 x.id, .slice Ax 3 cx] 58)) := (Bw.refl wr).alloc _
      have hbA := hb.then A1
      have hvA := (fInts_good (B := w.heap.size)).bw A1 hb.size hv
      have hFm := (fInts_good (B := 0)).lt hvA
      have kx0 : (wr.alloc (.cells #[.int .i64 x.id, .slice Ax 3 cx] 58)).cell? ⟨wr.heap.size, 0, none⟩ = some (.int .i64 x.id) := by go_simp
      have kx1 : (wr.alloc (.cells #[.int .i64 x.id, .slice Ax 3 cx] 58)).cell? ⟨wr.heap.size, 1, none⟩ = some (.slice Ax 3 cx) := by go_simp
      obtain ⟨W, hW⟩ : ∃ W, W = wr.alloc (.cells #[.int .i64 x.id, .slice Ax 3 cx] 58) := ⟨_, rfl⟩
      rw [← hW] at kx0 kx1 hbA hvA hFm
      have HW := Lib.hid hW
      clear hx h hlen hW A1 hv
      go_wp2
      go_loopg [8, 20] n (fun g b i2 w' => ∃ (j : Nat) (q : Bool), j ≤ n ∧ g = n - j ∧ i2 = .int .i64 j ∧ b = .bool q ∧ Hid (q = (l.take j).any fun y => beats e y x) ∧ Bw W w')
      case atStart => exact ⟨0, false, by omega, rfl, rfl, rfl, Lib.hid rfl, by rw [HW.out]; exact Bw.refl _⟩
      case round =>
        obtain ⟨j, qb, hj, rfl, rfl, rfl, HQ, hbj⟩ := hrel
        have hbw := hbA.then hbj
        have kk0 := hbj.cell kx0
        have kk1 := hbj.cell kx1
        by_cases hlt2 : j < n
        · obtain ⟨y, hy⟩ := get_of_lt (xs := l) (k := j) (by have := L.out; omega)
          obtain ⟨b2, o2, Ay, cy, eA, _, hd0, hd1, hin2⟩ := rItems_at HH.out hy
          injection eA with eA
          injection eA with eA1 eA2
          subst eA1 eA2
          have HPy := Lib.hid (areItems_mem HI.out (List.mem_of_getElem? hy))
          have hleny := isItem_len HPy.out
          rw [hleny] at hd1 hin2
          replace hd0 := hbw.cell hd0
          replace hd1 := hbw.cell hd1
          have j1 : (0 : Int) ≤ (j : Int) := by omega
          have j2 : (j : Int) < (n : Int) := by omega
          have HS := Lib.hid (any_take_succ (fun y => beats e y x) hy)
          have hby := World.block_lt_of_cell? _ _ kk0
          have C1 : Bw wr (wr.alloc (.cells #[.int .i64 y.id, .slice Ay 3 cy] 58)) := (Bw.refl wr).alloc _
          clear hy hleny
          cases qb with
          | true =>
            have HQ2 := Lib.hid (show true = (l.take (j + 1)).any fun y => beats e y x by rw [HS.out, ← HQ.out]; rfl)
            clear HQ HS
            go_wp2
            go_roundg (n - (j + 1))
            case measure => omega
            case rel => exact ⟨j + 1, true, by omega, rfl, by go_num, rfl, HQ2, hbj.then C1⟩
          | false =>
            have hcall := I_compareBy _ e y x _ _ _ (h'.bw rNodes_good (hbw.then C1)) (Rd.bw rInts_good hin2 (hbw.then C1)) (Rd.bw rInts_good hin (hbw.then C1)) HE1.out HPy.out HP.out
            have HQ2 := Lib.hid (show decide (cmpBy e y x = 1) = (l.take (j + 1)).any fun y => beats e y x by rw [HS.out, ← HQ.out]; rfl)
            obtain ⟨r, hr⟩ : ∃ r, r = cmpBy e y x := ⟨_, rfl⟩
            rw [← hr] at hcall HQ2
            clear HQ HS hr
            go_wp2_with fail
            refine (hcall).mono ?_
            rintro e w3 ⟨rfl, hb3⟩
            by_cases hr1 : r = 1
            · have e1 : (r == 1) = true := by simpa using hr1
              have HQ3 := Lib.hid (show true = (l.take (j + 1)).any fun y => beats e y x by rw [← HQ2.out]; simpa using hr1)
              clear hr1 HQ2
              go_wp2
              go_roundg (n - (j + 1))
              case measure => omega
              case rel => exact ⟨j + 1, true, by omega, rfl, by go_num, rfl, HQ3, hbj.then (C1.then hb3)⟩
            · have e1 : (r == 1) = false := by simpa using hr1
              have HQ3 := Lib.hid (show false = (l.take (j + 1)).any fun y => beats e y x by rw [← HQ2.out]; simpa using hr1)
              clear hr1 HQ2
              go_wp2
              go_roundg (n - (j + 1))
              case measure => omega
              case rel => exact ⟨j + 1, false, by omega, rfl, by go_num, rfl, HQ3, hbj.then (C1.then hb3)⟩
        · obtain rfl : j = n := by omega
          have HF := Lib.hid (show freeIn l e x = !qb by rw [freeIn, HQ.out, any_take_end _ (by rw [← L.out]; exact Nat.le_refl _)])
          have hv1 := (fInts_good (B := w.heap.size)).bw hbj hbA.size hvA
          clear HQ hlt2 hvA
          cases qb with
          | true =>
            have HB := Lib.hid (HNO.out HF.out)
            go_wp2
            go_roundg (j - (k + 1))
            case measure => omega
            case rel => exact ⟨k + 1, F, by omega, rfl, by go_num, by rw [HB.out]; exact hv1, hF, hbw⟩
          | false =>
            have HB := Lib.hid (HYES.out HF.out)
            have hbl := bestTo_len (l := l) (e := e) (k := k)
            have HBL := Lib.hid hbl
            have hvW := (fInts_good (B := w.heap.size)).bw ((Bw.refl wr).alloc (.cells #[.int .i64 x.id] 3)) hbw.size hv1
            have hbW := hbw.alloc (.cells #[.int .i64 x.id] 3)
            have hcl := cell_one_new wr (.int .i64 x.id) 3
            have hb0 := hbA.size
            clear hv1 hbl
            go_wp2_with (at_builtin; refine wpList_push _ rfl (.tmp 35) (.tmp 38) 41 rfl w 3 i0 _ 1 8 Tryz.underlying41 hi hz0 hz1 hz2 rfl (by omega) fInt_good _ (bestTo l e k) F rfl hvW hF ⟨wr.heap.size, 0, none⟩ 1 rfl x.id [.int .i64 x.id] [] hcl ⟨rfl, rfl⟩ rfl _ hFm Fresh.nil hb0 (by have := HBL.out; omega) (by have := HBL.out; omega) hbW ?_; intro v' w' F' hv' hF' hb')
            go_roundg (j - (k + 1))
            case measure => omega
            case rel => exact ⟨k + 1, F', by omega, rfl, by go_num, by rw [HB.out]; exact hv', hF', hb'⟩
    · obtain rfl : k = n := by omega
      rw [bestTo_end (by rw [← L.out]; exact Nat.le_refl _)] at hv
      go_wp2
      go_ret
      exact ⟨_, rfl, ⟨F, hv, hF⟩, hb⟩
set_option maxHeartbeats 400000 in
theorem I_BestItems (w : World) (l : List GItem) (e : List GNode) (v u : Value) (h : Rd rItems w l [v]) (h' : Rd rNodes w e [u]) : Calls Tryz.prog 93 #[v, u] w (RetV w (Made fInts w.heap.size (bestItems l e))) := by
  go_enter Tryz.func93, Tryz.ntmps93
  go_wp2_with fail
  refine (I_areBoth _ l e _ _ h h').mono ?_
  rintro e w2 ⟨rfl, hb2⟩
  rcases Bool.eq_false_or_eq_true (areBoth l e) with e1 | e1
  · have E := Lib.hid e1
    rw [e1]
    clear e1
    go_wp2_with fail
    refine (I_best _ l e _ _ (h.bw rItems_good hb2) (h'.bw rNodes_good hb2) E.out).mono ?_
    rintro e w3 ⟨v3, rfl, ⟨F, o, f⟩, hb3⟩
    rw [show bestM l e = bestItems l e by rw [bestItems, if_pos E.out]] at o
    go_wp2
    go_ret
    exact ⟨_, rfl, ⟨F, o, f.mono hb2.size⟩, hb2.then hb3⟩
  · have E := Lib.hid e1
    rw [e1]
    clear e1
    have hv0 := fSl_empty (e := 3) (sz := 1) (R := fInt) w2
    rw [show ([] : List Int) = bestItems l e by rw [bestItems, E.out]; rfl] at hv0
    have hz := hb2.size
    go_wp2
    go_ret
    exact ⟨_, rfl, ⟨_, hv0, ⟨by simp, by simpa using hz⟩⟩, hb2.alloc _⟩
end Go.Proofs.YtfffklkiikmieaaGreat
