/- Answers over all completions in the reference. -/
import Derived.Test.YtfffklkiikmieaaQMissP
import Derived.Test.YtfffklkiikmieaaQCoupS
import Derived.Test.YtfffklkiikmieaaQBoxT
namespace Go.Proofs.Ytfffklkiikmieaa
open Go.RowKit
set_option linter.unusedVariables false
set_option linter.unusedSimpArgs false
set_option maxRecDepth 100000 in
set_option maxHeartbeats 6400000 in
theorem S_PossibleBest_yes (w : World) (l : List GItem) (e : List GNode) (v u : Value) (h : Rd rItems w l [v]) (h' : Rd rNodes w e [u]) (ht : totItems l ≤ 1048576) (hE : isExpr e = true) : Calls Try.prog 66 #[v, u] w (RetV w (Made fInts w.heap.size ((l.filter (possF l e)).map (·.id)))) := by
  obtain ⟨i0, hi, hz0, hz1, hz2⟩ := info_parts info_int
  have hn : l.length ≤ 1048576 := by unfold totItems at ht; omega
  obtain ⟨A, n, c0, rfl, L0, Lc, Lm⟩ := rSl_open h
  unfold maxLen at Lm
  have L := Lib.hid L0
  clear L0
  rw [← L.out] at hn
  have HE := Lib.hid hE

  have HCN := Lib.hid (cntN_eq l)
  have hc64 := cntN_le l
  have HPP := Lib.hid (fun (hp : 0 < cntN l) => cntN_pos hp)
  obtain ⟨c, hcE⟩ : ∃ c, c = cntN l := ⟨_, rfl⟩
  rw [← hcE] at HCN hc64 HPP
  have HCE := Lib.hid hcE
  have hv0 := fSl_empty (e := 3) (sz := 1) (R := fInt) w
  clear hE hcE
  go_enter Try.func66, Try.ntmps66
  go_wp2
  go_loopg [5, 6] n (fun g s i w' => ∃ (k : Nat) (F : List Nat), k ≤ n ∧ g = n - k ∧ i = .int .i64 k ∧ fInts w' (idsToM (possF l e) l k) [s] F ∧ Fresh w.heap.size F ∧ Bw w w')
  case atStart => exact ⟨0, _, by omega, rfl, rfl, hv0, ⟨by simp, by simp⟩, (Bw.refl w).alloc _⟩
  case round =>
    clear hv0
    obtain ⟨k, F, hk, rfl, rfl, hv, hF, hb⟩ := hrel
    by_cases hlt : k < n
    · obtain ⟨x, hx⟩ := get_of_lt (xs := l) (k := k) (by have := L.out; omega)
      obtain ⟨ba, oa, Ax, cx, rfl, _, hd0, hd1, hin⟩ := rItems_at h hx
      have i1 : (0 : Int) ≤ (k : Int) := by omega
      have i2 : (k : Int) < (n : Int) := by omega
      have HYES := Lib.hid (fun hf => idsToM_yes (f := possF l e) hx hf)
      have HNO := Lib.hid (fun hf => idsToM_no (f := possF l e) hx hf)
      clear hx hd1 hin
      go_wp2_with fail
      refine (S_IsExpression _ e _ (h'.bw rNodes_good hb)).mono ?_
      rintro e w1 ⟨rfl, hb1⟩
      rw [HE.out]
      have hbA := hb.then hb1
      have hvA := (fInts_good (B := w.heap.size)).bw hb1 hb.size hv
      have hFm := (fInts_good (B := 0)).lt hvA
      have kx0 := hbA.cell hd0
      clear hv
      go_wp2
      go_loopg [7, 8] c (fun g b i2 w' => ∃ (j : Nat) (q : Bool), j ≤ c ∧ g = c - j ∧ i2 = .int .i64 j ∧ b = .bool q ∧ Hid (q = (List.range j).any (bestIn l e x)) ∧ Bw w1 w')
      case atStart => exact ⟨0, false, by omega, rfl, rfl, rfl, Lib.hid rfl, Bw.refl _⟩
      case round =>
        obtain ⟨j, qb, hj, rfl, rfl, rfl, HQ, hbj⟩ := hrel
        have hbw := hbA.then hbj
        go_wp2_with fail
        refine (S_CountCompletions _ l _ (h.bw rItems_good hbw) ht).mono ?_
        rintro e w3 ⟨rfl, hb3⟩
        rw [HCN.out]
        have hbk := hbj.then hb3
        have hbw3 := hbA.then hbk
        have m0 := hbk.cell kx0
        by_cases hex : j < c ∧ qb = false
        · obtain ⟨hlt2, rfl⟩ := hex
          have HPA := Lib.hid (HPP.out (by omega))
          have HS := Lib.hid (any_range_succ (bestIn l e x) j)
          have D1 : Bw w3 w3.drew := (Bw.refl w3).drew
          have m0' := D1.cell m0
          have kI := h.bw rItems_good (hbw3.then D1)
          have kN := h'.bw rNodes_good (hbw3.then D1)
          have HX := Lib.hid h
          clear h m0
          rcases Bool.eq_false_or_eq_true (bestIn l e x j) with e2 | e2
          all_goals
            have HQ2 := Lib.hid (show _ = (List.range (j + 1)).any (bestIn l e x) from (by rw [HS.out, ← HQ.out, e2] : (List.range (j + 1)).any (bestIn l e x) = _).symm)
            clear HQ HS
            go_wp2_with fail
            go_region_held3 (fun w' => w'.cell? ⟨ba, oa + k * 2, none⟩ = some (.int .i64 x.id)) (first | go_keep | exact m0')
              (first
                | (go_at_call 154; refine (S_l13Fill _ l _ j kI ht (by omega)).mono ?_; rintro e w4 ⟨v4, rfl, ⟨F4, o4, f4⟩, hb4⟩; replace m0' := hb4.cell m0'; have B4 := D1.then hb4; replace kN := kN.bw rNodes_good hb4)
                | (go_at_call 111; refine (S_l7Best _ (fillM l j) _ _ _ (fItems_Rd o4) kN (fill_are HPA.out j) HE.out).mono ?_; rintro e w5 ⟨v5, rfl, ⟨F5, o5, f5⟩, hb5⟩; replace m0' := hb5.cell m0'; have B5 := B4.then hb5)
                | (go_at_call 84; refine (Calls_weak (S_l2Has _ (bestM (fillM l j) _) x.id _ (fInts_Rd o5)) (congrArg Value.bool e2)).mono ?_; rintro e w6 ⟨rfl, hb6⟩; replace m0' := hb6.cell m0'; have B6 := B5.then hb6))
            have h := HX.out
            go_wp2
            go_roundg (c - (j + 1))
            case measure => omega
            case rel => exact ⟨j + 1, _, by omega, rfl, by go_num, rfl, HQ2, hbk.then B6⟩
        · have HF := Lib.hid (show possF l e x = qb by
            rw [possF, ← HCE.out]
            cases qb with
            | true => exact any_range_le HQ.out.symm (by omega)
            | false =>
              obtain rfl : j = c := by simp at hex; omega
              exact HQ.out.symm)
          have hv1 := (fInts_good (B := w.heap.size)).bw hbk hbA.size hvA
          clear HQ hvA
          by_cases hlt2 : j < c
          · have hq : qb = true := by cases qb with
              | true => rfl
              | false => exact absurd ⟨hlt2, rfl⟩ hex
            subst hq
            clear hex
            have HB2 := Lib.hid (HYES.out HF.out)
            have hbl := idsToM_len (f := possF l e) (l := l) (k := k)
            have HBL := Lib.hid hbl
            have hvW := (fInts_good (B := w.heap.size)).bw ((Bw.refl w3).alloc (.cells #[.int .i64 x.id] 3)) hbw3.size hv1
            have hbW := hbw3.alloc (.cells #[.int .i64 x.id] 3)
            have hcl := cell_one_new w3 (.int .i64 x.id) 3
            have hb0 := hbA.size
            clear hv1 hbl
            go_wp2_with (at_builtin; refine wpList_push _ rfl (.tmp 42) (.tmp 48) 42 rfl w 3 i0 _ 1 8 Try.underlying42 hi hz0 hz1 hz2 rfl (by omega) fInt_good _ (idsToM (possF l e) l k) F rfl hvW hF ⟨w3.heap.size, 0, none⟩ 1 rfl x.id [.int .i64 x.id] [] hcl ⟨rfl, rfl⟩ rfl _ hFm Fresh.nil hb0 (by have := HBL.out; omega) (by have := HBL.out; omega) hbW ?_; intro v' w' F' hv' hF' hb')
            go_roundg (n - (k + 1))
            case measure => omega
            case rel => exact ⟨k + 1, F', by omega, rfl, by go_num, by rw [HB2.out]; exact hv', hF', hb'⟩
          · clear hex
            cases qb with
            | true =>
              have HB2 := Lib.hid (HYES.out HF.out)
              have hbl := idsToM_len (f := possF l e) (l := l) (k := k)
              have HBL := Lib.hid hbl
              have hvW := (fInts_good (B := w.heap.size)).bw ((Bw.refl w3).alloc (.cells #[.int .i64 x.id] 3)) hbw3.size hv1
              have hbW := hbw3.alloc (.cells #[.int .i64 x.id] 3)
              have hcl := cell_one_new w3 (.int .i64 x.id) 3
              have hb0 := hbA.size
              clear hv1 hbl
              go_wp2_with (at_builtin; refine wpList_push _ rfl (.tmp 42) (.tmp 48) 42 rfl w 3 i0 _ 1 8 Try.underlying42 hi hz0 hz1 hz2 rfl (by omega) fInt_good _ (idsToM (possF l e) l k) F rfl hvW hF ⟨w3.heap.size, 0, none⟩ 1 rfl x.id [.int .i64 x.id] [] hcl ⟨rfl, rfl⟩ rfl _ hFm Fresh.nil hb0 (by have := HBL.out; omega) (by have := HBL.out; omega) hbW ?_; intro v' w' F' hv' hF' hb')
              go_roundg (n - (k + 1))
              case measure => omega
              case rel => exact ⟨k + 1, F', by omega, rfl, by go_num, by rw [HB2.out]; exact hv', hF', hb'⟩
            | false =>
              have HB2 := Lib.hid (HNO.out HF.out)
              go_wp2
              go_roundg (n - (k + 1))
              case measure => omega
              case rel => exact ⟨k + 1, F, by omega, rfl, by go_num, by rw [HB2.out]; exact hv1, hF, hbw3⟩
    · obtain rfl : k = n := by omega
      rw [idsToM_end (by rw [← L.out]; exact Nat.le_refl _)] at hv
      go_wp2
      go_ret
      exact ⟨_, rfl, ⟨F, hv, hF⟩, hb⟩
set_option maxRecDepth 100000 in
set_option maxHeartbeats 6400000 in
theorem S_CertainBest_yes (w : World) (l : List GItem) (e : List GNode) (v u : Value) (h : Rd rItems w l [v]) (h' : Rd rNodes w e [u]) (ht : totItems l ≤ 1048576) (hE : isExpr e = true) (hP : isPartial l = true) : Calls Try.prog 67 #[v, u] w (RetV w (Made fInts w.heap.size ((l.filter (certF l e)).map (·.id)))) := by
  obtain ⟨i0, hi, hz0, hz1, hz2⟩ := info_parts info_int
  have hn : l.length ≤ 1048576 := by unfold totItems at ht; omega
  obtain ⟨A, n, c0, rfl, L0, Lc, Lm⟩ := rSl_open h
  unfold maxLen at Lm
  have L := Lib.hid L0
  clear L0
  rw [← L.out] at hn
  have HE := Lib.hid hE
  have HP := Lib.hid hP
  have HCN := Lib.hid (cntN_eq l)
  have hc64 := cntN_le l
  have HPP := Lib.hid (fun (hp : 0 < cntN l) => cntN_pos hp)
  obtain ⟨c, hcE⟩ : ∃ c, c = cntN l := ⟨_, rfl⟩
  rw [← hcE] at HCN hc64 HPP
  have HCE := Lib.hid hcE
  have hv0 := fSl_empty (e := 3) (sz := 1) (R := fInt) w
  clear hE hcE hP
  go_enter Try.func67, Try.ntmps67
  go_wp2
  go_loopg [5, 6] n (fun g s i w' => ∃ (k : Nat) (F : List Nat), k ≤ n ∧ g = n - k ∧ i = .int .i64 k ∧ fInts w' (idsToM (certF l e) l k) [s] F ∧ Fresh w.heap.size F ∧ Bw w w')
  case atStart => exact ⟨0, _, by omega, rfl, rfl, hv0, ⟨by simp, by simp⟩, (Bw.refl w).alloc _⟩
  case round =>
    clear hv0
    obtain ⟨k, F, hk, rfl, rfl, hv, hF, hb⟩ := hrel
    by_cases hlt : k < n
    · obtain ⟨x, hx⟩ := get_of_lt (xs := l) (k := k) (by have := L.out; omega)
      obtain ⟨ba, oa, Ax, cx, rfl, _, hd0, hd1, hin⟩ := rItems_at h hx
      have i1 : (0 : Int) ≤ (k : Int) := by omega
      have i2 : (k : Int) < (n : Int) := by omega
      have HYES := Lib.hid (fun hf => idsToM_yes (f := certF l e) hx hf)
      have HNO := Lib.hid (fun hf => idsToM_no (f := certF l e) hx hf)
      clear hx hd1 hin
      go_wp2_with fail
      refine (S_IsExpression _ e _ (h'.bw rNodes_good hb)).mono ?_
      rintro e w1 ⟨rfl, hb1⟩
      rw [HE.out]
      have hbB := hb.then hb1
      go_wp2_with fail
      refine (S_IsPartial _ l _ (h.bw rItems_good hbB) ht).mono ?_
      rintro e w2 ⟨rfl, hb2⟩
      rw [HP.out]
      have hbA := hbB.then hb2
      have hvA := (fInts_good (B := w.heap.size)).bw (hb1.then hb2) hb.size hv
      have hFm := (fInts_good (B := 0)).lt hvA
      have kx0 := hbA.cell hd0
      clear hv
      go_wp2
      go_loopg [7, 8] c (fun g b i2 w' => ∃ (j : Nat) (q : Bool), j ≤ c ∧ g = c - j ∧ i2 = .int .i64 j ∧ b = .bool q ∧ Hid (q = (List.range j).all (bestIn l e x)) ∧ Bw w2 w')
      case atStart => exact ⟨0, true, by omega, rfl, rfl, rfl, Lib.hid rfl, Bw.refl _⟩
      case round =>
        obtain ⟨j, qb, hj, rfl, rfl, rfl, HQ, hbj⟩ := hrel
        have hbw := hbA.then hbj
        go_wp2_with fail
        refine (S_CountCompletions _ l _ (h.bw rItems_good hbw) ht).mono ?_
        rintro e w3 ⟨rfl, hb3⟩
        rw [HCN.out]
        have hbk := hbj.then hb3
        have hbw3 := hbA.then hbk
        have m0 := hbk.cell kx0
        by_cases hex : j < c ∧ qb = true
        · obtain ⟨hlt2, rfl⟩ := hex
          have HPA := Lib.hid (HPP.out (by omega))
          have HS := Lib.hid (all_range_succ (bestIn l e x) j)
          have D1 : Bw w3 w3.drew := (Bw.refl w3).drew
          have m0' := D1.cell m0
          have kI := h.bw rItems_good (hbw3.then D1)
          have kN := h'.bw rNodes_good (hbw3.then D1)
          have HX := Lib.hid h
          clear h m0
          rcases Bool.eq_false_or_eq_true (bestIn l e x j) with e2 | e2
          all_goals
            have HQ2 := Lib.hid (show _ = (List.range (j + 1)).all (bestIn l e x) from (by rw [HS.out, ← HQ.out, e2] : (List.range (j + 1)).all (bestIn l e x) = _).symm)
            clear HQ HS
            go_wp2_with fail
            go_region_held3 (fun w' => w'.cell? ⟨ba, oa + k * 2, none⟩ = some (.int .i64 x.id)) (first | go_keep | exact m0')
              (first
                | (go_at_call 154; refine (S_l13Fill _ l _ j kI ht (by omega)).mono ?_; rintro e w4 ⟨v4, rfl, ⟨F4, o4, f4⟩, hb4⟩; replace m0' := hb4.cell m0'; have B4 := D1.then hb4; replace kN := kN.bw rNodes_good hb4)
                | (go_at_call 111; refine (S_l7Best _ (fillM l j) _ _ _ (fItems_Rd o4) kN (fill_are HPA.out j) HE.out).mono ?_; rintro e w5 ⟨v5, rfl, ⟨F5, o5, f5⟩, hb5⟩; replace m0' := hb5.cell m0'; have B5 := B4.then hb5)
                | (go_at_call 84; refine (Calls_weak (S_l2Has _ (bestM (fillM l j) _) x.id _ (fInts_Rd o5)) (congrArg Value.bool e2)).mono ?_; rintro e w6 ⟨rfl, hb6⟩; replace m0' := hb6.cell m0'; have B6 := B5.then hb6))
            have h := HX.out
            go_wp2
            go_roundg (c - (j + 1))
            case measure => omega
            case rel => exact ⟨j + 1, _, by omega, rfl, by go_num, rfl, HQ2, hbk.then B6⟩
        · have HF := Lib.hid (show certF l e x = qb by
            rw [certF, ← HCE.out]
            cases qb with
            | false => exact all_range_le HQ.out.symm (by omega)
            | true =>
              obtain rfl : j = c := by simp at hex; omega
              exact HQ.out.symm)
          have hv1 := (fInts_good (B := w.heap.size)).bw hbk hbA.size hvA
          clear HQ hvA
          by_cases hlt2 : j < c
          · have hq : qb = false := by cases qb with
              | false => rfl
              | true => exact absurd ⟨hlt2, rfl⟩ hex
            subst hq
            clear hex
            have HB2 := Lib.hid (HNO.out HF.out)
            go_wp2
            go_roundg (n - (k + 1))
            case measure => omega
            case rel => exact ⟨k + 1, F, by omega, rfl, by go_num, by rw [HB2.out]; exact hv1, hF, hbw3⟩
          · clear hex
            cases qb with
            | true =>
              have HB2 := Lib.hid (HYES.out HF.out)
              have hbl := idsToM_len (f := certF l e) (l := l) (k := k)
              have HBL := Lib.hid hbl
              have hvW := (fInts_good (B := w.heap.size)).bw ((Bw.refl w3).alloc (.cells #[.int .i64 x.id] 3)) hbw3.size hv1
              have hbW := hbw3.alloc (.cells #[.int .i64 x.id] 3)
              have hcl := cell_one_new w3 (.int .i64 x.id) 3
              have hb0 := hbA.size
              clear hv1 hbl
              go_wp2_with (at_builtin; refine wpList_push _ rfl (.tmp 45) (.tmp 51) 42 rfl w 3 i0 _ 1 8 Try.underlying42 hi hz0 hz1 hz2 rfl (by omega) fInt_good _ (idsToM (certF l e) l k) F rfl hvW hF ⟨w3.heap.size, 0, none⟩ 1 rfl x.id [.int .i64 x.id] [] hcl ⟨rfl, rfl⟩ rfl _ hFm Fresh.nil hb0 (by have := HBL.out; omega) (by have := HBL.out; omega) hbW ?_; intro v' w' F' hv' hF' hb')
              go_roundg (n - (k + 1))
              case measure => omega
              case rel => exact ⟨k + 1, F', by omega, rfl, by go_num, by rw [HB2.out]; exact hv', hF', hb'⟩
            | false =>
              have HB2 := Lib.hid (HNO.out HF.out)
              go_wp2
              go_roundg (n - (k + 1))
              case measure => omega
              case rel => exact ⟨k + 1, F, by omega, rfl, by go_num, by rw [HB2.out]; exact hv1, hF, hbw3⟩
    · obtain rfl : k = n := by omega
      rw [idsToM_end (by rw [← L.out]; exact Nat.le_refl _)] at hv
      go_wp2
      go_ret
      exact ⟨_, rfl, ⟨F, hv, hF⟩, hb⟩
end Go.Proofs.Ytfffklkiikmieaa
