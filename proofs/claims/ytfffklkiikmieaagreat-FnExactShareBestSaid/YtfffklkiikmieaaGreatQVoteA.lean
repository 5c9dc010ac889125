/- Voters and votes, in both programs. -/
import Derived.Test.YtfffklkiikmieaaGreatQOnly
import Derived.Test.YtfffklkiikmieaaGreatQVoteM
import Derived.Test.YtfffklkiikmieaaGreatQCmpI
import Derived.Test.YtfffklkiikmieaaGreatQCmpS
import Derived.Test.YtfffklkiikmieaaGreatQBestI
import Derived.Test.YtfffklkiikmieaaGreatQBestS
namespace Go.Proofs.YtfffklkiikmieaaGreat
open Go.RowKit
set_option linter.unusedVariables false
set_option linter.unusedSimpArgs false
theorem refineM_yes {l : List GItem} {ids : List Int} {q : List GNode} (h : areBoth l q = true) : refineM l ids q = bestM (onlyM l ids true) q := by rw [refineM, if_pos h]
theorem refineM_no {l : List GItem} {ids : List Int} {q : List GNode} (h : areBoth l q = false) : refineM l ids q = [] := by rw [refineM, h]; rfl
theorem refineM_len (l : List GItem) (ids : List Int) (q : List GNode) : (refineM l ids q).length ≤ l.length := by
  unfold refineM; split
  · exact Nat.le_trans (bestM_len _ _) (onlyM_len _ _ _)
  · simp
set_option maxRecDepth 100000 in
set_option maxHeartbeats 1600000 in
theorem I_RefineBest (w : World) (l : List GItem) (ids : List Int) (q : List GNode) (v t u : Value) (h : Rd rItems w l [v]) (hi : Rd rInts w ids [t]) (h' : Rd rNodes w q [u]) (hn : l.length ≤ 1048576) : Calls Tryz.prog 44 #[v, t, u] w (RetV w (Made fInts w.heap.size (refineM l ids q))) := by
  go_enter Tryz.func44, Tryz.ntmps44
  go_wp2_with fail
  refine (I_areBoth _ l q _ _ h h').mono ?_
  rintro e w2 ⟨rfl, hb2⟩
  rcases Bool.eq_false_or_eq_true (areBoth l q) with e1 | e1
  · have E := Lib.hid e1
    rw [e1]
    clear e1
    go_wp2_with fail
    refine (I_only _ l ids true _ _ (h.bw rItems_good hb2) (hi.bw rInts_good hb2) hn).mono ?_
    rintro e w3 ⟨v3, rfl, ⟨F3, o3, f3⟩, hb3⟩
    have r3 := fItemsSh_Rd o3 hb3.size
    go_wp2_with fail
    refine (I_BestItems _ (onlyM l ids true) q _ _ r3 (h'.bw rNodes_good (hb2.then hb3))).mono ?_
    rintro e w4 ⟨v4, rfl, ⟨F4, o4, f4⟩, hb4⟩
    have hE : bestItems (onlyM l ids true) q = refineM l ids q := by
      rw [refineM_yes E.out, bestItems, if_pos]
      unfold areBoth onlyM
      rw [areItems_filter _ (areBoth_items E.out), areBoth_expr E.out]; rfl
    rw [hE] at o4
    have hB := hb2.then hb3
    clear hE o3 r3
    go_wp2
    go_ret
    exact ⟨_, rfl, ⟨F4, o4, f4.mono hB.size⟩, hB.then hb4⟩
  · have E := Lib.hid e1
    rw [e1]
    clear e1
    have hv0 := fSl_empty (e := 3) (sz := 1) (R := fInt) w2
    rw [show ([] : List Int) = refineM l ids q by rw [refineM_no E.out]] at hv0
    have hz := hb2.size
    go_wp2
    go_ret
    exact ⟨_, rfl, ⟨_, hv0, ⟨by simp, by simpa using hz⟩⟩, hb2.alloc _⟩
set_option maxRecDepth 100000 in
set_option maxHeartbeats 3200000 in
theorem S_RefineBest (w : World) (l : List GItem) (ids : List Int) (q : List GNode) (v t u : Value) (h : Rd rItems w l [v]) (hid : Rd rInts w ids [t]) (h' : Rd rNodes w q [u]) (hn : l.length ≤ 1048576) : Calls Tryz.prog 39 #[v, t, u] w (RetV w (Made fInts w.heap.size (refineM l ids q))) := by
  obtain ⟨i0, hi, hz0, hz1, hz2⟩ := info_parts info_Item
  have GG : GoodF w.heap.size (fItemsSh w.heap.size) := fSl_good (fSh_good rItem_good (Nat.le_refl _))
  obtain ⟨A, n, c, rfl, L0, Lc, Lm⟩ := rSl_open h
  unfold maxLen at Lm
  have L := Lib.hid L0
  clear L0
  rw [← L.out] at hn
  go_enter Tryz.func39, Tryz.ntmps39
  go_wp2_with fail
  refine (S_l7Fine _ l q _ _ h h').mono ?_
  rintro e w2 ⟨rfl, hb2⟩
  rcases Bool.eq_false_or_eq_true (areBoth l q) with e1 | e1
  · have E := Lib.hid e1
    rw [e1]
    clear e1
    have hv0 := fSl_empty (e := 58) (sz := 2) (R := fSh w.heap.size rItem) w2
    have hs2 := hb2.size
    go_wp2
    go_loopg [7, 8] n (fun g s i w' => ∃ (k : Nat) (F : List Nat), k ≤ n ∧ g = n - k ∧ i = .int .i64 k ∧ fItemsSh w.heap.size w' (onlyTo l ids true k) [s] F ∧ Fresh w.heap.size F ∧ Bw w w')
    case atStart => exact ⟨0, _, by omega, rfl, rfl, hv0, ⟨by simp, by simpa using hs2⟩, hb2.alloc _⟩
    case round =>
      clear hv0
      obtain ⟨k, F, hk, rfl, rfl, hv, hF, hb⟩ := hrel
      by_cases hlt : k < n
      · obtain ⟨x, hx⟩ := get_of_lt (xs := l) (k := k) (by have := L.out; omega)
        obtain ⟨ba, oa, Ax, cx, rfl, _, hc0, hc1, hin⟩ := rItems_at h hx
        have i1 : (0 : Int) ≤ (k : Int) := by omega
        have i2 : (k : Int) < (n : Int) := by omega
        replace hc0 := hb.cell hc0
        replace hc1 := hb.cell hc1
        have HYES := Lib.hid (fun hc => onlyTo_yes (ids := ids) (b := true) hx hc)
        have HNO := Lib.hid (fun hc => onlyTo_no (ids := ids) (b := true) hx hc)
        have HIN := Lib.hid hin
        have HH := Lib.hid h
        have hFm := GG.lt hv
        obtain ⟨M, hM⟩ : ∃ M, M = x.vals.length := ⟨_, rfl⟩
        rw [← hM] at hc1
        have HM := Lib.hid hM
        clear hx h hin hM
        go_wp2_with fail
        refine (S_l2Has _ ids x.id _ (hid.bw rInts_good hb)).mono ?_
        rintro e w3 ⟨rfl, hb3⟩
        have p0 := hb3.cell hc0
        have p1 := hb3.cell hc1
        have hbb := hb.then hb3
        have hv2 := GG.bw hb3 hb.size hv
        clear hv hc0 hc1
        rcases Bool.eq_false_or_eq_true (ids.contains x.id) with e2 | e2
        · have HB := Lib.hid (HYES.out e2)
          rw [e2]
          clear e2
          have hvW := GG.bw ((Bw.refl w3).alloc (.cells #[.int .i64 x.id, .slice Ax M cx] 58)) hbb.size hv2
          have hbW := hbb.alloc (.cells #[.int .i64 x.id, .slice Ax M cx] 58)
          have hcl : ∀ j t, [Value.int .i64 x.id, .slice Ax M cx][j]? = some t → (w3.alloc (.cells #[.int .i64 x.id, .slice Ax M cx] 58)).cell? ((⟨w3.heap.size, 0, none⟩ : Addr).add j) = some t := World.news_of_block (cs := #[.int .i64 x.id, .slice Ax M cx]) (t := 58) (fr := (0, 0)) (heap_alloc_new w3 _)
          have hy : fSh w.heap.size rItem (w3.alloc (.cells #[.int .i64 x.id, .slice Ax M cx] 58)) x [.int .i64 x.id, .slice Ax M cx] [] := by rw [HM.out]; exact sh_item (fun _ h => h) (by rw [← HM.out]; exact hbW) HIN.out
          have hol := onlyTo_len (l := l) (ids := ids) (b := true) (k := k)
          have HOL := Lib.hid hol
          have hb0 := hb.size
          clear hv2 hol
          go_wp2_with (at_builtin; refine wpList_push _ rfl (.tmp 28) (.tmp 33) 29 rfl w 58 i0 _ 2 32 Tryz.underlying29 hi hz0 hz1 hz2 rfl (by omega) (fSh_good rItem_good (Nat.le_refl _)) _ (onlyTo l ids true k) F rfl hvW hF ⟨w3.heap.size, 0, none⟩ 1 rfl x [.int .i64 x.id, .slice Ax M cx] [] hcl hy rfl _ hFm Fresh.nil hb0 (by have := HOL.out; omega) (by have := HOL.out; omega) hbW ?_; intro v' w' F' hv' hF' hb')
          go_roundg (n - (k + 1))
          case measure => omega
          case rel => exact ⟨k + 1, F', by omega, rfl, by go_num, by rw [HB.out]; exact hv', hF', hb'⟩
        · have HB := Lib.hid (HNO.out (by rw [e2]; rfl))
          rw [e2]
          clear e2
          go_wp2
          go_roundg (n - (k + 1))
          case measure => omega
          case rel => exact ⟨k + 1, F, by omega, rfl, by go_num, by rw [HB.out]; exact hv2, hF, hbb⟩
      · obtain rfl : k = n := by omega
        rw [onlyTo_end (by rw [← L.out]; exact Nat.le_refl _)] at hv
        go_wp2_with fail
        refine (S_l7Best _ (onlyM l ids true) q _ _ (fItemsSh_Rd hv hb.size) (h'.bw rNodes_good hb) (by unfold onlyM; exact areItems_filter _ (areBoth_items E.out)) (areBoth_expr E.out)).mono ?_
        rintro e w4 ⟨v4, rfl, ⟨F4, o4, f4⟩, hb4⟩
        rw [← refineM_yes E.out] at o4
        go_wp2
        go_ret
        exact ⟨_, rfl, ⟨F4, o4, f4.mono hb.size⟩, hb.then hb4⟩
  · have E := Lib.hid e1
    rw [e1]
    clear e1
    have hv0 := fSl_empty (e := 3) (sz := 1) (R := fInt) w2
    rw [show ([] : List Int) = refineM l ids q by rw [refineM_no E.out]] at hv0
    have hz := hb2.size
    go_wp2
    go_ret
    exact ⟨_, rfl, ⟨_, hv0, ⟨by simp, by simpa using hz⟩⟩, hb2.alloc _⟩
end Go.Proofs.YtfffklkiikmieaaGreat

namespace Go.Proofs.YtfffklkiikmieaaGreat
open Go.RowKit
set_option linter.unusedVariables false
set_option linter.unusedSimpArgs false
set_option maxRecDepth 100000 in
set_option maxHeartbeats 800000 in
theorem I_AreVoters (w : World) (g : List (List GNode)) (v : Value) (h : Rd rNodess w g [v]) : Calls Tryz.prog 88 #[v] w (Ret w (.bool (areVoters g))) := by
  obtain ⟨Y, hY⟩ : ∃ Y, Y = areVoters g := ⟨_, rfl⟩
  rw [← hY]
  have HY := Lib.hid hY
  clear hY
  obtain ⟨A, n, c, rfl, L0, Lc, Lm⟩ := rSl_open h
  unfold maxLen at Lm
  have L := Lib.hid L0
  clear L0
  go_enter Tryz.func88, Tryz.ntmps88
  go_wp2
  go_loopg [7] n (fun gh i w' => ∃ k : Nat, k ≤ n ∧ gh = n - k ∧ i = .int .i64 k ∧ Hid ((g.take k).all isExpr = true) ∧ Bw w w')
  case atStart => exact ⟨0, by omega, rfl, rfl, Lib.hid rfl, Bw.refl _⟩
  case round =>
    obtain ⟨k, hk, rfl, rfl, HE, hb⟩ := hrel
    by_cases hlt : k < n
    · obtain ⟨e, hx⟩ := get_of_lt (xs := g) (k := k) (by have := L.out; omega)
      obtain ⟨b, o, A', c', rfl, _, d0, hin⟩ := rNodess_at h hx
      replace d0 := hb.cell d0
      have i1 : (0 : Int) ≤ (k : Int) := by omega
      have i2 : (k : Int) < (n : Int) := by omega
      have hcall := I_IsExpression wr e _ (Rd.bw rNodes_good hin hb)
      have HYES := Lib.hid (fun he => (all_take_yes hx he).trans HE.out)
      have HNO := Lib.hid (fun he => all_take_no (f := isExpr) hx he)
      obtain ⟨q, hq⟩ : ∃ q, q = isExpr e := ⟨_, rfl⟩
      rw [← hq] at hcall
      have HQ := Lib.hid hq
      obtain ⟨M, hM⟩ : ∃ M, M = e.length := ⟨_, rfl⟩
      rw [← hM] at hcall d0
      have HH := Lib.hid h
      clear hx hin hq hM h
      go_wp2_with fail
      refine (hcall).mono ?_
      rintro e w3 ⟨rfl, hb3⟩
      have h := HH.out
      have hbb := hb.then hb3
      clear hcall
      cases q with
      | true =>
        have HX := Lib.hid (HYES.out HQ.out.symm)
        go_wp2
        go_roundg (n - (k + 1))
        case measure => omega
        case rel => exact ⟨k + 1, by omega, rfl, by go_num, HX, hbb⟩
      | false =>
        have HX := Lib.hid (show Y = false by rw [HY.out, areVoters, HNO.out HQ.out.symm]; rfl)
        clear h
        go_wp2
        go_ret
        exact Ret.bool (HX.out.symm) (hbb)
    · obtain rfl : k = n := by omega
      have HA := Lib.hid (show g.all isExpr = true by have := HE.out; rwa [List.take_of_length_le (by rw [← L.out]; exact Nat.le_refl _)] at this)
      have HX := Lib.hid (show Y = inB (k : Int) 1 5 by rw [HY.out, areVoters, HA.out, ← L.out, Bool.true_and]; unfold inB; rw [Bool.eq_iff_iff]; simp; omega)
      go_wp2_with fail
      refine (I_within _ _ _ _).mono ?_
      rintro e w3 ⟨rfl, hb3⟩
      go_wp2
      go_ret
      exact Ret.bool (HX.out.symm) (hb.then hb3)
set_option maxRecDepth 100000 in
set_option maxHeartbeats 800000 in
theorem S_AreVoters (w : World) (g : List (List GNode)) (v : Value) (h : Rd rNodess w g [v]) : Calls Tryz.prog 82 #[v] w (Ret w (.bool (areVoters g))) := by
  obtain ⟨Y, hY⟩ : ∃ Y, Y = areVoters g := ⟨_, rfl⟩
  rw [← hY]
  have HY := Lib.hid hY
  clear hY
  obtain ⟨A, n, c, rfl, L0, Lc, Lm⟩ := rSl_open h
  unfold maxLen at Lm
  have L := Lib.hid L0
  clear L0
  go_enter Tryz.func82, Tryz.ntmps82
  go_wp2
  go_loopg [3] n (fun gh i w' => ∃ k : Nat, k ≤ n ∧ gh = n - k ∧ i = .int .i64 k ∧ Hid ((g.take k).all isExpr = true) ∧ Bw w w')
  case atStart => exact ⟨0, by omega, rfl, rfl, Lib.hid rfl, Bw.refl _⟩
  case round =>
    obtain ⟨k, hk, rfl, rfl, HE, hb⟩ := hrel
    by_cases hlt : k < n
    · obtain ⟨e, hx⟩ := get_of_lt (xs := g) (k := k) (by have := L.out; omega)
      obtain ⟨b, o, A', c', rfl, _, d0, hin⟩ := rNodess_at h hx
      replace d0 := hb.cell d0
      have i1 : (0 : Int) ≤ (k : Int) := by omega
      have i2 : (k : Int) < (n : Int) := by omega
      have hcall := S_IsExpression wr e _ (Rd.bw rNodes_good hin hb)
      have HYES := Lib.hid (fun he => (all_take_yes hx he).trans HE.out)
      have HNO := Lib.hid (fun he => all_take_no (f := isExpr) hx he)
      obtain ⟨q, hq⟩ : ∃ q, q = isExpr e := ⟨_, rfl⟩
      rw [← hq] at hcall
      have HQ := Lib.hid hq
      obtain ⟨M, hM⟩ : ∃ M, M = e.length := ⟨_, rfl⟩
      rw [← hM] at hcall d0
      have HH := Lib.hid h
      clear hx hin hq hM h
      go_wp2_with fail
      refine (hcall).mono ?_
      rintro e w3 ⟨rfl, hb3⟩
      have h := HH.out
      have hbb := hb.then hb3
      clear hcall
      cases q with
      | true =>
        have HX := Lib.hid (HYES.out HQ.out.symm)
        go_wp2
        go_roundg (n - (k + 1))
        case measure => omega
        case rel => exact ⟨k + 1, by omega, rfl, by go_num, HX, hbb⟩
      | false =>
        have HX := Lib.hid (show Y = false by rw [HY.out, areVoters, HNO.out HQ.out.symm]; rfl)
        clear h
        go_wp2
        go_ret
        exact Ret.bool (HX.out.symm) (hbb)
    · obtain rfl : k = n := by omega
      have HA := Lib.hid (show g.all isExpr = true by have := HE.out; rwa [List.take_of_length_le (by rw [← L.out]; exact Nat.le_refl _)] at this)
      have HX := Lib.hid (show Y = inB (k : Int) 1 5 by rw [HY.out, areVoters, HA.out, ← L.out, Bool.true_and]; unfold inB; rw [Bool.eq_iff_iff]; simp; omega)
      go_wp2_with fail
      refine (S_l1In _ _ _ _).mono ?_
      rintro e w3 ⟨rfl, hb3⟩
      go_wp2
      go_ret
      exact Ret.bool (HX.out.symm) (hb.then hb3)
set_option maxHeartbeats 400000 in
theorem I_isPoll (w : World) (l : List GItem) (g : List (List GNode)) (v u : Value) (h : Rd rItems w l [v]) (h' : Rd rNodess w g [u]) : Calls Tryz.prog 41 #[v, u] w (Ret w (.bool (isPoll l g))) := by
  go_enter Tryz.func41, Tryz.ntmps41
  go_wp2_with fail
  refine (I_AreItems _ l _ h).mono ?_
  rintro e w2 ⟨rfl, hb2⟩
  rcases Bool.eq_false_or_eq_true (areItems l) with e1 | e1
  · have E := Lib.hid e1
    rw [e1]
    clear e1
    go_wp2_with fail
    refine (I_AreVoters _ g _ (h'.bw rNodess_good hb2)).mono ?_
    rintro e w3 ⟨rfl, hb3⟩
    go_wp2
    go_ret
    exact Ret.bool (by rw [isPoll, E.out]; rfl) (hb2.then hb3)
  · have E := Lib.hid e1
    rw [e1]
    clear e1
    go_wp2
    go_ret
    exact Ret.bool (by rw [isPoll, E.out]; rfl) (hb2)
set_option maxHeartbeats 400000 in
theorem S_l12Fine (w : World) (l : List GItem) (g : List (List GNode)) (v u : Value) (h : Rd rItems w l [v]) (h' : Rd rNodess w g [u]) : Calls Tryz.prog 36 #[v, u] w (Ret w (.bool (isPoll l g))) := by
  go_enter Tryz.func36, Tryz.ntmps36
  go_wp2_with fail
  refine (S_AreItems _ l _ h).mono ?_
  rintro e w2 ⟨rfl, hb2⟩
  rcases Bool.eq_false_or_eq_true (areItems l) with e1 | e1
  · have E := Lib.hid e1
    rw [e1]
    clear e1
    go_wp2_with fail
    refine (S_AreVoters _ g _ (h'.bw rNodess_good hb2)).mono ?_
    rintro e w3 ⟨rfl, hb3⟩
    go_wp2
    go_ret
    exact Ret.bool (by rw [isPoll, E.out]; rfl) (hb2.then hb3)
  · have E := Lib.hid e1
    rw [e1]
    clear e1
    go_wp2
    go_ret
    exact Ret.bool (by rw [isPoll, E.out]; rfl) (hb2)
end Go.Proofs.YtfffklkiikmieaaGreat
