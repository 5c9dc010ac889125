/- What a comparison by an expression may answer. No program in sight. -/
import Derived.Test.YtfffklkiikmieaaQCmpI
import Derived.Test.YtfffklkiikmieaaQExprI
import Derived.Test.YtfffklkiikmieaaQSlicesI
import Derived.Test.YtfffklkiikmieaaQStack
namespace Go.Proofs.Ytfffklkiikmieaa
open Go.RowKit
set_option linter.unusedVariables false
set_option linter.unusedSimpArgs false
set_option maxHeartbeats 400000 in
theorem I_areBoth (w : World) (l : List GItem) (e : List GNode) (v u : Value) (h : Rd rItems w l [v]) (h' : Rd rNodes w e [u]) : Calls Try.prog 102 #[v, u] w (Ret w (.bool (areBoth l e))) := by
  go_enter Try.func102, Try.ntmps102
  go_wp2_with fail
  refine (I_AreItems _ l _ h).mono ?_
  rintro e w2 ⟨rfl, hb2⟩
  rcases Bool.eq_false_or_eq_true (areItems l) with e1 | e1
  · have E := Lib.hid e1
    rw [e1]
    clear e1
    go_wp2_with fail
    refine (I_IsExpression _ e _ (h'.bw rNodes_good hb2)).mono ?_
    rintro e w3 ⟨rfl, hb3⟩
    rcases Bool.eq_false_or_eq_true (isExpr e) with e2 | e2
    · have E2 := Lib.hid e2
      rw [e2]
      clear e2
      go_wp2
      go_ret
      exact Ret.bool (by rw [areBoth, E.out, E2.out]; rfl) (hb2.then hb3)
    · have E2 := Lib.hid e2
      rw [e2]
      clear e2
      go_wp2
      go_ret
      exact Ret.bool (by rw [areBoth, E.out, E2.out]; rfl) (hb2.then hb3)
  · have E := Lib.hid e1
    rw [e1]
    clear e1
    go_wp2
    go_ret
    exact Ret.bool (by rw [areBoth, E.out]; rfl) (hb2)
set_option maxRecDepth 100000 in
set_option maxHeartbeats 3200000 in
theorem I_best (w : World) (l : List GItem) (e : List GNode) (v u : Value) (h : Rd rItems w l [v]) (h' : Rd rNodes w e [u]) (hE : areBoth l e = true) : Calls Try.prog 179 #[v, u] w (RetV w (Made fInts w.heap.size (bestM l e))) := by
  obtain ⟨i0, hi, hz0, hz1, hz2⟩ := info_parts info_int
  obtain ⟨A, n, c, rfl, L0, Lc, Lm⟩ := rSl_open h
  unfold maxLen at Lm
  have L := Lib.hid L0
  clear L0
  have HE1 := Lib.hid (areBoth_expr hE)
  have HI := Lib.hid (areBoth_items hE)
  have n16 : n ≤ 16 := by rw [L.out]; exact areItems_len HI.out
  have hv0 := fSl_empty (e := 3) (sz := 1) (R := fInt) w
  clear hE
  go_enter Try.func179, Try.ntmps179
  go_wp2
  go_loopg [5, 14] n (fun g s i w' => ∃ (k : Nat) (F : List Nat), k ≤ n ∧ g = n - k ∧ i = .int .i64 k ∧ fInts w' (bestTo l e k) [s] F ∧ Fresh w.heap.size F ∧ Bw w w')
  case atStart => exact ⟨0, _, by omega, rfl, rfl, hv0, ⟨by simp, by simp⟩, (Bw.refl _).alloc _⟩
  case round =>
    clear hv0
    obtain ⟨k, F, hk, rfl, rfl, hv, hF, hb⟩ := hrel
    by_cases hlt : k < n
    · obtain ⟨x, hx⟩ := get_of_lt (xs := l) (k := k) (by have := L.out; omega)
      obtain ⟨ba, oa, Ax, cx, rfl, _, hc0, hc1, hin⟩ := rItems_at h hx
      have HP := Lib.hid (areItems_mem HI.out (List.mem_of_getElem? hx))
      have hlen := isItem_len HP.out
      rw [hlen] at hc1 hin
      have i1 : (0 : Int) ≤ (k : Int) := by omega
      have i2 : (k : Int) < (n : Int) := by omega
      replace hc0 := hb.cell hc0
      replace hc1 := hb.cell hc1
      have hbx := World.block_lt_of_cell? _ _ hc0
      have HYES := Lib.hid (fun hf => bestTo_yes (e := e) hx hf)
      have HNO := Lib.hid (fun hf => bestTo_no (e := e) hx hf)
      have HH := Lib.hid h
      have A1 : Bw wr (wr.alloc (.cells #[.int .i64 x.id, .slice Ax 3 cx] 110)) := (Bw.refl wr).alloc _
      have hbA := hb.then A1
      have hvA := (fInts_good (B := w.heap.size)).bw A1 hb.size hv
      have hFm := (fInts_good (B := 0)).lt hvA
      have kx0 : (wr.alloc (.cells #[.int .i64 x.id, .slice Ax 3 cx] 110)).cell? ⟨wr.heap.size, 0, none⟩ = some (.int .i64 x.id) := by go_simp
      have kx1 : (wr.alloc (.cells #[.int .i64 x.id, .slice Ax 3 cx] 110)).cell? ⟨wr.heap.size, 1, none⟩ = some (.slice Ax 3 cx) := by go_simp
      obtain ⟨W, hW⟩ : ∃ W, W = wr.alloc (.cells #[.int .i64 x.id, .slice Ax 3 cx] 110) := ⟨_, rfl⟩
      rw [← hW] at kx0 kx1 hbA hvA hFm
      have HW := Lib.hid hW
      clear hx h hlen hW A1 hv
      go_wp2
      go_loopg [8, 20] n (fun g b i2 w' => ∃ (j : Nat) (q : Bool), j ≤ n ∧ g = n - j ∧ i2 = .int .i64 j ∧ b = .bool q ∧ Hid (q = (l.take j).any fun y => beats e y x) ∧ Bw W w')
      case atStart => exact ⟨0, false, by omega, rfl, rfl, rfl, Lib.hid rfl, by rw [HW.out]; exact Bw.refl _⟩
      case round =>
        obtain ⟨j, qb, hj, rfl, rfl, rfl, HQ, hbj⟩ := hrel
        have hbw := hbA.then hbj
        have kk0 := hbj.cell kx0
        have kk1 := hbj.cell kx1
        by_cases hlt2 : j < n
        · obtain ⟨y, hy⟩ := get_of_lt (xs := l) (k := j) (by have := L.out; omega)
          obtain ⟨b2, o2, Ay, cy, eA, _, hd0, hd1, hin2⟩ := rItems_at HH.out hy
          injection eA with eA
          injection eA with eA1 eA2
          subst eA1 eA2
          have HPy := Lib.hid (areItems_mem HI.out (List.mem_of_getElem? hy))
          have hleny := isItem_len HPy.out
          rw [hleny] at hd1 hin2
          replace hd0 := hbw.cell hd0
          replace hd1 := hbw.cell hd1
          have j1 : (0 : Int) ≤ (j : Int) := by omega
          have j2 : (j : Int) < (n : Int) := by omega
          have HS := Lib.hid (any_take_succ (fun y => beats e y x) hy)
          have hby := World.block_lt_of_cell? _ _ kk0
          have C1 : Bw wr (wr.alloc (.cells #[.int .i64 y.id, .slice Ay 3 cy] 110)) := (Bw.refl wr).alloc _
          clear hy hleny
          cases qb with
          | true =>
            have HQ2 := Lib.hid (show true = (l.take (j + 1)).any fun y => beats e y x by rw [HS.out, ← HQ.out]; rfl)
            clear HQ HS
            go_wp2
            go_roundg (n - (j + 1))
            case measure => omega
            case rel => exact ⟨j + 1, true, by omega, rfl, by go_num, rfl, HQ2, hbj.then C1⟩
          | false =>
            have hcall := I_compareBy _ e y x _ _ _ (h'.bw rNodes_good (hbw.then C1)) (Rd.bw rInts_good hin2 (hbw.then C1)) (Rd.bw rInts_good hin (hbw.then C1)) HE1.out HPy.out HP.out
            have HQ2 := Lib.hid (show decide (cmpBy e y x = 1) = (l.take (j + 1)).any fun y => beats e y x by rw [HS.out, ← HQ.out]; rfl)
            obtain ⟨r, hr⟩ : ∃ r, r = cmpBy e y x := ⟨_, rfl⟩
            rw [← hr] at hcall HQ2
            clear HQ HS hr
            go_wp2_with fail
            refine (hcall).mono ?_
            rintro e w3 ⟨rfl, hb3⟩
            by_cases hr1 : r = 1
            · have e1 : (r == 1) = true := by simpa using hr1
              have HQ3 := Lib.hid (show true = (l.take (j + 1)).any fun y => beats e y x by rw [← HQ2.out]; simpa using hr1)
              clear hr1 HQ2
              go_wp2
              go_roundg (n - (j + 1))
              case measure => omega
              case rel => exact ⟨j + 1, true, by omega, rfl, by go_num, rfl, HQ3, hbj.then (C1.then hb3)⟩
            · have e1 : (r == 1) = false := by simpa using hr1
              have HQ3 := Lib.hid (show false = (l.take (j + 1)).any fun y => beats e y x by rw [← HQ2.out]; simpa using hr1)
              clear hr1 HQ2
              go_wp2
              go_roundg (n - (j + 1))
              case measure => omega
              case rel => exact ⟨j + 1, false, by omega, rfl, by go_num, rfl, HQ3, hbj.then (C1.then hb3)⟩
        · obtain rfl : j = n := by omega
          have HF := Lib.hid (show freeIn l e x = !qb by rw [freeIn, HQ.out, any_take_end _ (by rw [← L.out]; exact Nat.le_refl _)])
          have hv1 := (fInts_good (B := w.heap.size)).bw hbj hbA.size hvA
          clear HQ hlt2 hvA
          cases qb with
          | true =>
            have HB := Lib.hid (HNO.out HF.out)
            go_wp2
            go_roundg (j - (k + 1))
            case measure => omega
            case rel => exact ⟨k + 1, F, by omega, rfl, by go_num, by rw [HB.out]; exact hv1, hF, hbw⟩
          | false =>
            have HB := Lib.hid (HYES.out HF.out)
            have hbl := bestTo_len (l := l) (e := e) (k := k)
            have HBL := Lib.hid hbl
            have hvW := (fInts_good (B := w.heap.size)).bw ((Bw.refl wr).alloc (.cells #[.int .i64 x.id] 3)) hbw.size hv1
            have hbW := hbw.alloc (.cells #[.int .i64 x.id] 3)
            have hcl := cell_one_new wr (.int .i64 x.id) 3
            have hb0 := hbA.size
            clear hv1 hbl
            go_wp2_with (at_builtin; refine wpList_push _ rfl (.tmp 35) (.tmp 38) 42 rfl w 3 i0 _ 1 8 Try.underlying42 hi hz0 hz1 hz2 rfl (by omega) fInt_good _ (bestTo l e k) F rfl hvW hF ⟨wr.heap.size, 0, none⟩ 1 rfl x.id [.int .i64 x.id] [] hcl ⟨rfl, rfl⟩ rfl _ hFm Fresh.nil hb0 (by have := HBL.out; omega) (by have := HBL.out; omega) hbW ?_; intro v' w' F' hv' hF' hb')
            go_roundg (j - (k + 1))
            case measure => omega
            case rel => exact ⟨k + 1, F', by omega, rfl, by go_num, by rw [HB.out]; exact hv', hF', hb'⟩
    · obtain rfl : k = n := by omega
      rw [bestTo_end (by rw [← L.out]; exact Nat.le_refl _)] at hv
      go_wp2
      go_ret
      exact ⟨_, rfl, ⟨F, hv, hF⟩, hb⟩
set_option maxHeartbeats 400000 in
theorem I_BestItems (w : World) (l : List GItem) (e : List GNode) (v u : Value) (h : Rd rItems w l [v]) (h' : Rd rNodes w e [u]) : Calls Try.prog 114 #[v, u] w (RetV w (Made fInts w.heap.size (bestItems l e))) := by
  go_enter Try.func114, Try.ntmps114
  go_wp2_with fail
  refine (I_areBoth _ l e _ _ h h').mono ?_
  rintro e w2 ⟨rfl, hb2⟩
  rcases Bool.eq_false_or_eq_true (areBoth l e) with e1 | e1
  · have E := Lib.hid e1
    rw [e1]
    clear e1
    go_wp2_with fail
    refine (I_best _ l e _ _ (h.bw rItems_good hb2) (h'.bw rNodes_good hb2) E.out).mono ?_
    rintro e w3 ⟨v3, rfl, ⟨F, o, f⟩, hb3⟩
    rw [show bestM l e = bestItems l e by rw [bestItems, if_pos E.out]] at o
    go_wp2
    go_ret
    exact ⟨_, rfl, ⟨F, o, f.mono hb2.size⟩, hb2.then hb3⟩
  · have E := Lib.hid e1
    rw [e1]
    clear e1
    have hv0 := fSl_empty (e := 3) (sz := 1) (R := fInt) w2
    rw [show ([] : List Int) = bestItems l e by rw [bestItems, E.out]; rfl] at hv0
    have hz := hb2.size
    go_wp2
    go_ret
    exact ⟨_, rfl, ⟨_, hv0, ⟨by simp, by simpa using hz⟩⟩, hb2.alloc _⟩
end Go.Proofs.Ytfffklkiikmieaa

namespace Go.Proofs.Ytfffklkiikmieaa
open Go.RowKit
set_option linter.unusedVariables false
theorem cmpBy_codeC {e : List GNode} {p q : GItem} (h : isExpr e = true) : -1 ≤ cmpBy e p q ∧ cmpBy e p q ≤ 2 := by
  have key : ∀ (k : Nat), k ≤ e.length → codes (stackAt e p q k) ∧ depthOf (e.drop k) (stackAt e p q k).length = some 1 := fun k => by
    induction k with
    | zero => intro _; exact ⟨fun v hv => by simp [stackAt] at hv, by simpa [stackAt] using isExpr_depth h⟩
    | succ k ih =>
      intro hk
      obtain ⟨h1, h2⟩ := ih (by omega)
      obtain ⟨x, hx⟩ := get_of_lt (xs := e) (k := k) (by omega)
      obtain ⟨hok, hd⟩ := depth_step h2 hx
      have hge := nodeOk_ge hok
      have hop := nodeOk_op hok
      rw [stackAt_next hx]
      by_cases o0 : x.op = 0
      · rw [stack_base o0]
        refine ⟨codes_snoc h1 (cmpItem_code _ _ _), ?_⟩
        rw [← hd, o0]; congr 1; simp [opnds]
      · by_cases o3 : x.op = 3
        · rw [show opnds x.op = 1 by rw [o3]; rfl] at hge hd
          obtain ⟨T, a, hT⟩ := snoc1 (l := stackAt e p q k) (by omega)
          rw [hT] at h1 hd ⊢
          rw [stack_dual o3]
          refine ⟨codes_snoc (codes_left h1) (neg2_code (h1 a (by simp))), ?_⟩
          rw [← hd]; congr 1; simp; try omega
        · rw [show opnds x.op = 2 by unfold opnds; rw [if_neg o0, if_neg o3]] at hge hd
          obtain ⟨T, a, b, hT⟩ := snoc2 (l := stackAt e p q k) (by omega)
          rw [hT] at h1 hd ⊢
          rw [stack_two o0 o3]
          refine ⟨codes_snoc (codes_left h1) (comb_code (h1 a (by simp)) (h1 b (by simp))), ?_⟩
          rw [← hd]; congr 1; simp; try omega
  obtain ⟨h1, h2⟩ := key e.length (Nat.le_refl _)
  rw [← stackAt_end (k := e.length) (Nat.le_refl _)]
  rw [List.drop_of_length_le (Nat.le_refl _), depthOf] at h2
  injection h2 with h2
  obtain ⟨T, a, hT⟩ := snoc1 (l := stackAt e p q e.length) (by omega)
  have hT0 : T = [] := List.eq_nil_of_length_eq_zero (by rw [hT, List.length_append] at h2; simp only [List.length_singleton] at h2; omega)
  rw [hT, hT0]
  exact h1 a (by rw [hT]; simp)
end Go.Proofs.Ytfffklkiikmieaa
