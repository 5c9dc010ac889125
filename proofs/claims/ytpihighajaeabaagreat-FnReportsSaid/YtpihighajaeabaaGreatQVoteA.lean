/- Voters and votes, in both programs. -/
import Derived.Test.YtpihighajaeabaaGreatQVoteM
import Derived.Test.YtpihighajaeabaaGreatQBestI
import Derived.Test.YtpihighajaeabaaGreatQCmpS
import Derived.Test.YtpihighajaeabaaGreatQChangeM
namespace Go.Proofs.YtpihighajaeabaaGreat
open Go.RowKit
set_option linter.unusedVariables false
set_option linter.unusedSimpArgs false
set_option maxRecDepth 100000 in
set_option maxHeartbeats 800000 in
theorem I_AreVoters (w : World) (g : List (List GNode)) (v : Value) (h : Rd rNodess w g [v]) : Calls Tryz.prog 188 #[v] w (Ret w (.bool (areVoters g))) := by
  obtain ⟨Y, hY⟩ : ∃ Y, Y = areVoters g := ⟨_, rfl⟩
  rw [← hY]
  have HY := Lib.hid hY
  clear hY
  obtain ⟨A, n, c, rfl, L0, Lc, Lm⟩ := rSl_open h
  unfold maxLen at Lm
  have L := Lib.hid L0
  clear L0
  go_enter Tryz.func188, Tryz.ntmps188
  go_wp2
  go_loopg [7] n (fun gh i w' => ∃ k : Nat, k ≤ n ∧ gh = n - k ∧ i = .int .i64 k ∧ Hid ((g.take k).all isExpr = true) ∧ Bw w w')
  case atStart => exact ⟨0, by omega, rfl, rfl, Lib.hid rfl, Bw.refl _⟩
  case round =>
    obtain ⟨k, hk, rfl, rfl, HE, hb⟩ := hrel
    by_cases hlt : k < n
    · obtain ⟨e, hx⟩ := get_of_lt (xs := g) (k := k) (by have := L.out; omega)
      obtain ⟨b, o, A', c', rfl, _, d0, hin⟩ := rNodess_at h hx
      replace d0 := hb.cell d0
      have i1 : (0 : Int) ≤ (k : Int) := by omega
      have i2 : (k : Int) < (n : Int) := by omega
      have hcall := I_IsExpression wr e _ (Rd.bw rNodes_good hin hb)
      have HYES := Lib.hid (fun he => (all_take_yes hx he).trans HE.out)
      have HNO := Lib.hid (fun he => all_take_no (f := isExpr) hx he)
      obtain ⟨q, hq⟩ : ∃ q, q = isExpr e := ⟨_, rfl⟩
      rw [← hq] at hcall
      have HQ := Lib.hid hq
      obtain ⟨M, hM⟩ : ∃ M, M = e.length := ⟨_, rfl⟩
      rw [← hM] at hcall d0
      have HH := Lib.hid h
      clear hx hin hq hM h
      go_wp2_with fail
      refine (hcall).mono ?_
      rintro e w3 ⟨rfl, hb3⟩
      have h := HH.out
      have hbb := hb.then hb3
      clear hcall
      cases q with
      | true =>
        have HX := Lib.hid (HYES.out HQ.out.symm)
        go_wp2
        go_roundg (n - (k + 1))
        case measure => omega
        case rel => exact ⟨k + 1, by omega, rfl, by go_num, HX, hbb⟩
      | false =>
        have HX := Lib.hid (show Y = false by rw [HY.out, areVoters, HNO.out HQ.out.symm]; rfl)
        clear h
        go_wp2
        go_ret
        exact Ret.bool (HX.out.symm) (hbb)
    · obtain rfl : k = n := by omega
      have HA := Lib.hid (show g.all isExpr = true by have := HE.out; rwa [List.take_of_length_le (by rw [← L.out]; exact Nat.le_refl _)] at this)
      have HX := Lib.hid (show Y = inB (k : Int) 1 5 by rw [HY.out, areVoters, HA.out, ← L.out, Bool.true_and]; unfold inB; rw [Bool.eq_iff_iff]; simp; omega)
      go_wp2_with fail
      refine (I_within _ _ _ _).mono ?_
      rintro e w3 ⟨rfl, hb3⟩
      go_wp2
      go_ret
      exact Ret.bool (HX.out.symm) (hb.then hb3)
set_option maxRecDepth 100000 in
set_option maxHeartbeats 800000 in
theorem S_AreVoters (w : World) (g : List (List GNode)) (v : Value) (h : Rd rNodess w g [v]) : Calls Tryz.prog 192 #[v] w (Ret w (.bool (areVoters g))) := by
  obtain ⟨Y, hY⟩ : ∃ Y, Y = areVoters g := ⟨_, rfl⟩
  rw [← hY]
  have HY := Lib.hid hY
  clear hY
  obtain ⟨A, n, c, rfl, L0, Lc, Lm⟩ := rSl_open h
  unfold maxLen at Lm
  have L := Lib.hid L0
  clear L0
  go_enter Tryz.func192, Tryz.ntmps192
  go_wp2
  go_loopg [3] n (fun gh i w' => ∃ k : Nat, k ≤ n ∧ gh = n - k ∧ i = .int .i64 k ∧ Hid ((g.take k).all isExpr = true) ∧ Bw w w')
  case atStart => exact ⟨0, by omega, rfl, rfl, Lib.hid rfl, Bw.refl _⟩
  case round =>
    obtain ⟨k, hk, rfl, rfl, HE, hb⟩ := hrel
    by_cases hlt : k < n
    · obtain ⟨e, hx⟩ := get_of_lt (xs := g) (k := k) (by have := L.out; omega)
      obtain ⟨b, o, A', c', rfl, _, d0, hin⟩ := rNodess_at h hx
      replace d0 := hb.cell d0
      have i1 : (0 : Int) ≤ (k : Int) := by omega
      have i2 : (k : Int) < (n : Int) := by omega
      have hcall := S_IsExpression wr e _ (Rd.bw rNodes_good hin hb)
      have HYES := Lib.hid (fun he => (all_take_yes hx he).trans HE.out)
      have HNO := Lib.hid (fun he => all_take_no (f := isExpr) hx he)
      obtain ⟨q, hq⟩ : ∃ q, q = isExpr e := ⟨_, rfl⟩
      rw [← hq] at hcall
      have HQ := Lib.hid hq
      obtain ⟨M, hM⟩ : ∃ M, M = e.length := ⟨_, rfl⟩
      rw [← hM] at hcall d0
      have HH := Lib.hid h
      clear hx hin hq hM h
      go_wp2_with fail
      refine (hcall).mono ?_
      rintro e w3 ⟨rfl, hb3⟩
      have h := HH.out
      have hbb := hb.then hb3
      clear hcall
      cases q with
      | true =>
        have HX := Lib.hid (HYES.out HQ.out.symm)
        go_wp2
        go_roundg (n - (k + 1))
        case measure => omega
        case rel => exact ⟨k + 1, by omega, rfl, by go_num, HX, hbb⟩
      | false =>
        have HX := Lib.hid (show Y = false by rw [HY.out, areVoters, HNO.out HQ.out.symm]; rfl)
        clear h
        go_wp2
        go_ret
        exact Ret.bool (HX.out.symm) (hbb)
    · obtain rfl : k = n := by omega
      have HA := Lib.hid (show g.all isExpr = true by have := HE.out; rwa [List.take_of_length_le (by rw [← L.out]; exact Nat.le_refl _)] at this)
      have HX := Lib.hid (show Y = inB (k : Int) 1 5 by rw [HY.out, areVoters, HA.out, ← L.out, Bool.true_and]; unfold inB; rw [Bool.eq_iff_iff]; simp; omega)
      go_wp2_with fail
      refine (S_l1In _ _ _ _).mono ?_
      rintro e w3 ⟨rfl, hb3⟩
      go_wp2
      go_ret
      exact Ret.bool (HX.out.symm) (hb.then hb3)
set_option maxHeartbeats 400000 in
theorem I_isPoll (w : World) (l : List GItem) (g : List (List GNode)) (v u : Value) (h : Rd rItems w l [v]) (h' : Rd rNodess w g [u]) : Calls Tryz.prog 138 #[v, u] w (Ret w (.bool (isPoll l g))) := by
  go_enter Tryz.func138, Tryz.ntmps138
  go_wp2_with fail
  refine (I_AreItems _ l _ h).mono ?_
  rintro e w2 ⟨rfl, hb2⟩
  rcases Bool.eq_false_or_eq_true (areItems l) with e1 | e1
  · have E := Lib.hid e1
    rw [e1]
    clear e1
    go_wp2_with fail
    refine (I_AreVoters _ g _ (h'.bw rNodess_good hb2)).mono ?_
    rintro e w3 ⟨rfl, hb3⟩
    go_wp2
    go_ret
    exact Ret.bool (by rw [isPoll, E.out]; rfl) (hb2.then hb3)
  · have E := Lib.hid e1
    rw [e1]
    clear e1
    go_wp2
    go_ret
    exact Ret.bool (by rw [isPoll, E.out]; rfl) (hb2)
set_option maxHeartbeats 400000 in
theorem S_l12Fine (w : World) (l : List GItem) (g : List (List GNode)) (v u : Value) (h : Rd rItems w l [v]) (h' : Rd rNodess w g [u]) : Calls Tryz.prog 140 #[v, u] w (Ret w (.bool (isPoll l g))) := by
  go_enter Tryz.func140, Tryz.ntmps140
  go_wp2_with fail
  refine (S_AreItems _ l _ h).mono ?_
  rintro e w2 ⟨rfl, hb2⟩
  rcases Bool.eq_false_or_eq_true (areItems l) with e1 | e1
  · have E := Lib.hid e1
    rw [e1]
    clear e1
    go_wp2_with fail
    refine (S_AreVoters _ g _ (h'.bw rNodess_good hb2)).mono ?_
    rintro e w3 ⟨rfl, hb3⟩
    go_wp2
    go_ret
    exact Ret.bool (by rw [isPoll, E.out]; rfl) (hb2.then hb3)
  · have E := Lib.hid e1
    rw [e1]
    clear e1
    go_wp2
    go_ret
    exact Ret.bool (by rw [isPoll, E.out]; rfl) (hb2)
set_option maxRecDepth 100000 in
set_option maxHeartbeats 3200000 in
theorem I_VotesFor_yes (w : World) (l : List GItem) (g : List (List GNode)) (a b : Int) (v u : Value) (h : Rd rItems w l [v]) (h' : Rd rNodess w g [u]) (hP : isPoll l g = true) (i k : Nat) (x y : GItem) (hfa : findIdx l a = (i : Int)) (hx : l[i]? = some x) (hfb : findIdx l b = (k : Int)) (hy : l[k]? = some y) :
    Calls Tryz.prog 240 #[v, u, .int .i64 a, .int .i64 b] w (Ret w (.int .i64 (votesIn g x y))) := by
  obtain ⟨A, n, c, rfl, L0, Lc, Lm⟩ := rSl_open h
  unfold maxLen at Lm
  have L := Lib.hid L0
  clear L0
  obtain ⟨A2, n2, c2, rfl, L20, L2c, L2m⟩ := rSl_open h'
  unfold maxLen at L2m
  have L2 := Lib.hid L20
  clear L20
  obtain ⟨Y, hY⟩ : ∃ Y, Y = votesIn g x y := ⟨_, rfl⟩
  rw [← hY]
  have HY := Lib.hid hY
  have n5 : n2 ≤ 5 := by rw [L2.out]; exact (areVoters_len (isPoll_voters hP)).2
  have n16 : n ≤ 16 := by rw [L.out]; exact areItems_len (isPoll_items hP)
  have hin : i < n := by rw [L.out]; exact (List.getElem?_eq_some_iff.1 hx).1
  have hkn : k < n := by rw [L.out]; exact (List.getElem?_eq_some_iff.1 hy).1
  have HX := Lib.hid (areItems_mem (isPoll_items hP) (List.mem_of_getElem? hx))
  have HYI := Lib.hid (areItems_mem (isPoll_items hP) (List.mem_of_getElem? hy))
  have HG := Lib.hid (areVoters_mem (isPoll_voters hP))
  have hcall0 := fun W (B : Bw w W) => I_FindItem W l a _ (h.bw rItems_good B)
  have hcall1 := fun W (B : Bw w W) => I_FindItem W l b _ (h.bw rItems_good B)
  have hcall2 := fun W (B : Bw w W) => I_isPoll W l g _ _ (h.bw rItems_good B) (h'.bw rNodess_good B)
  rw [hfa] at hcall0
  rw [hfb] at hcall1
  rw [hP] at hcall2
  have C0 := Lib.hid hcall0
  have C1 := Lib.hid hcall1
  have C2 := Lib.hid hcall2
  obtain ⟨ba, oa, Ax, cx, rfl, _, p0, p1, hix⟩ := rItems_at h hx
  obtain ⟨_, _, Ay, cy, e, _, q0, q1, hiy⟩ := rItems_at h hy
  injection e with e
  injection e with e1 e2
  subst e1 e2
  rw [isItem_len HX.out] at p1 hix
  rw [isItem_len HYI.out] at q1 hiy
  have j1 : (0 : Int) ≤ (i : Int) := by omega
  have j2 : (i : Int) < (n : Int) := by omega
  have j3 : (0 : Int) ≤ (k : Int) := by omega
  have j4 : (k : Int) < (n : Int) := by omega
  have j5 : ¬ ((i : Int) < 0) := by omega
  have j6 : ¬ ((k : Int) < 0) := by omega
  clear hY hP hfa hx hfb hy hcall0 hcall1 hcall2 h
  go_enter Tryz.func240, Tryz.ntmps240
  go_wp2_with fail
  refine (C0.out _ (Bw.refl w)).mono ?_
  rintro e w1 ⟨rfl, hb1⟩
  go_wp2_with fail
  refine (C1.out _ hb1).mono ?_
  rintro e w2 ⟨rfl, hb2⟩
  have B2 := hb1.then hb2
  go_wp2_with fail
  refine (C2.out _ B2).mono ?_
  rintro e w3 ⟨rfl, hb3⟩
  have B3 := B2.then hb3
  replace p0 := B3.cell p0
  replace p1 := B3.cell p1
  replace q0 := B3.cell q0
  replace q1 := B3.cell q1
  replace hix := Rd.bw rInts_good hix B3
  replace hiy := Rd.bw rInts_good hiy B3
  replace h' := h'.bw rNodess_good B3
  clear hb1 hb2 hb3 B2 C0 C1 C2
  go_wp2
  go_loopg [11, 34] n2 (fun gh s t w' => ∃ (j : Nat) (q : Int), j ≤ n2 ∧ gh = n2 - j ∧ t = .int .i64 j ∧ s = .int .i64 q ∧ 0 ≤ q ∧ q ≤ j ∧ Hid (q = cntTo (fun e => decide (cmpBy e x y = 1)) g j) ∧ Bw w3 w')
  case atStart => exact ⟨0, 0, by omega, rfl, rfl, rfl, by omega, by omega, Lib.hid rfl, Bw.refl _⟩
  case round =>
    obtain ⟨j, q, hj, rfl, rfl, rfl, q0', q1', HQ, hb⟩ := hrel
    by_cases hlt : j < n2
    · obtain ⟨e, he⟩ := get_of_lt (xs := g) (k := j) (by have := L2.out; omega)
      obtain ⟨b, o, A', c', rfl, _, d0, hie⟩ := rNodess_at h' he
      replace d0 := hb.cell d0
      have m0 := hb.cell p0
      have m1 := hb.cell p1
      have m2 := hb.cell q0
      have m3 := hb.cell q1
      have i1 : (0 : Int) ≤ (j : Int) := by omega
      have i2 : (j : Int) < (n2 : Int) := by omega
      have HE := Lib.hid (HG.out e (List.mem_of_getElem? he))
      have HYES := Lib.hid (fun hc => cntTo_yes (f := fun e => decide (cmpBy e x y = 1)) he hc)
      have HNO := Lib.hid (fun hc => cntTo_no (f := fun e => decide (cmpBy e x y = 1)) he hc)
      have s0 := since_cell m0
      have s1 := since_cell m1
      have s2 := since_cell m2
      have s3 := since_cell m3
      have hcall : ∀ s : Since wr, Calls Tryz.prog 78 _ s.1 (Ret s.1 (.int .i64 (cmpBy e x y))) := fun s => I_compareBy _ e x y _ _ _ (Rd.bw rNodes_good hie (hb.then s.bw)) (Rd.bw rInts_good hix (hb.then s.bw)) (Rd.bw rInts_good hiy (hb.then s.bw)) HE.out HX.out HYI.out
      obtain ⟨M, hM⟩ : ∃ M, M = e.length := ⟨_, rfl⟩
      rw [← hM] at d0 hcall
      obtain ⟨r, hr⟩ : ∃ r, r = cmpBy e x y := ⟨_, rfl⟩
      rw [← hr] at hcall
      have HR := Lib.hid hr
      have HH := Lib.hid h'
      clear he hie hM hr h' m0 m1 m2 m3
      by_cases hr1 : r = 1
      · have e1 : (r == 1) = true := by simpa using hr1
        have HX2 := Lib.hid (show q + 1 = cntTo (fun e => decide (cmpBy e x y = 1)) g (j + 1) by rw [HYES.out (by rw [← HR.out, hr1]; rfl), HQ.out])
        clear hr1
        go_wp2
        refine wp_region_since (by kernel_rfl) (by kernel_rfl) ?_
        repeat (first | go_big_quiet_skip | (go_big_quiet_want; go_big_quiet_op; first | go_big_quiet_on | (apply Exists.intro; refine ⟨fun _ => ?_, ?_⟩; (· (((first | (go_at_call 78; exact Calls_since (hcall _)))))); go_big_quiet_on)))
        refine wpQuiet_nil ?_
        rintro ⟨wq, hbq⟩
        dsimp only at *
        have h' := HH.out
        have hbb := hb.then hbq
        clear hcall s0 s1 s2 s3
        go_wp2
        go_roundg (n2 - (j + 1))
        case measure => omega
        case rel => exact ⟨j + 1, q + 1, by omega, rfl, by go_num, by go_num, by omega, by omega, HX2, hbb⟩
      · have e1 : (r == 1) = false := by simpa using hr1
        have HX2 := Lib.hid (show q = cntTo (fun e => decide (cmpBy e x y = 1)) g (j + 1) by rw [HNO.out (by rw [← HR.out]; exact decide_eq_false hr1), HQ.out])
        clear hr1
        go_wp2
        refine wp_region_since (by kernel_rfl) (by kernel_rfl) ?_
        repeat (first | go_big_quiet_skip | (go_big_quiet_want; go_big_quiet_op; first | go_big_quiet_on | (apply Exists.intro; refine ⟨fun _ => ?_, ?_⟩; (· (((first | (go_at_call 78; exact Calls_since (hcall _)))))); go_big_quiet_on)))
        refine wpQuiet_nil ?_
        rintro ⟨wq, hbq⟩
        dsimp only at *
        have h' := HH.out
        have hbb := hb.then hbq
        clear hcall s0 s1 s2 s3
        go_wp2
        go_roundg (n2 - (j + 1))
        case measure => omega
        case rel => exact ⟨j + 1, q, by omega, rfl, by go_num, rfl, by omega, by omega, HX2, hbb⟩
    · obtain rfl : j = n2 := by omega
      have HF := Lib.hid (show q = Y by rw [HY.out, HQ.out, votesIn, ← L2.out])
      clear HQ
      go_wp2
      go_ret
      exact Ret.int HF.out (B3.then hb)
set_option maxRecDepth 100000 in
set_option maxHeartbeats 3200000 in
theorem S_VotesFor_yes (w : World) (l : List GItem) (g : List (List GNode)) (a b : Int) (v u : Value) (h : Rd rItems w l [v]) (h' : Rd rNodess w g [u]) (hP : isPoll l g = true) (i k : Nat) (x y : GItem) (hfa : findIdx l a = (i : Int)) (hx : l[i]? = some x) (hfb : findIdx l b = (k : Int)) (hy : l[k]? = some y) :
    Calls Tryz.prog 193 #[v, u, .int .i64 a, .int .i64 b] w (Ret w (.int .i64 (votesIn g x y))) := by
  obtain ⟨A, n, c, rfl, L0, Lc, Lm⟩ := rSl_open h
  unfold maxLen at Lm
  have L := Lib.hid L0
  clear L0
  obtain ⟨A2, n2, c2, rfl, L20, L2c, L2m⟩ := rSl_open h'
  unfold maxLen at L2m
  have L2 := Lib.hid L20
  clear L20
  obtain ⟨Y, hY⟩ : ∃ Y, Y = votesIn g x y := ⟨_, rfl⟩
  rw [← hY]
  have HY := Lib.hid hY
  have n5 : n2 ≤ 5 := by rw [L2.out]; exact (areVoters_len (isPoll_voters hP)).2
  have n16 : n ≤ 16 := by rw [L.out]; exact areItems_len (isPoll_items hP)
  have hin : i < n := by rw [L.out]; exact (List.getElem?_eq_some_iff.1 hx).1
  have hkn : k < n := by rw [L.out]; exact (List.getElem?_eq_some_iff.1 hy).1
  have HX := Lib.hid (areItems_mem (isPoll_items hP) (List.mem_of_getElem? hx))
  have HYI := Lib.hid (areItems_mem (isPoll_items hP) (List.mem_of_getElem? hy))
  have HG := Lib.hid (areVoters_mem (isPoll_voters hP))
  have hcall0 := fun W (B : Bw w W) => S_FindItem W l a _ (h.bw rItems_good B)
  have hcall1 := fun W (B : Bw w W) => S_FindItem W l b _ (h.bw rItems_good B)
  have hcall2 := fun W (B : Bw w W) => S_l12Fine W l g _ _ (h.bw rItems_good B) (h'.bw rNodess_good B)
  rw [hfa] at hcall0
  rw [hfb] at hcall1
  rw [hP] at hcall2
  have C0 := Lib.hid hcall0
  have C1 := Lib.hid hcall1
  have C2 := Lib.hid hcall2
  obtain ⟨ba, oa, Ax, cx, rfl, _, p0, p1, hix⟩ := rItems_at h hx
  obtain ⟨_, _, Ay, cy, e, _, q0, q1, hiy⟩ := rItems_at h hy
  injection e with e
  injection e with e1 e2
  subst e1 e2
  rw [isItem_len HX.out] at p1 hix
  rw [isItem_len HYI.out] at q1 hiy
  have j1 : (0 : Int) ≤ (i : Int) := by omega
  have j2 : (i : Int) < (n : Int) := by omega
  have j3 : (0 : Int) ≤ (k : Int) := by omega
  have j4 : (k : Int) < (n : Int) := by omega
  have j5 : ¬ ((i : Int) < 0) := by omega
  have j6 : ¬ ((k : Int) < 0) := by omega
  clear hY hP hfa hx hfb hy hcall0 hcall1 hcall2 h
  go_enter Tryz.func193, Tryz.ntmps193
  go_wp2_with fail
  refine (C0.out _ (Bw.refl w)).mono ?_
  rintro e w1 ⟨rfl, hb1⟩
  go_wp2_with fail
  refine (C1.out _ hb1).mono ?_
  rintro e w2 ⟨rfl, hb2⟩
  have B2 := hb1.then hb2
  have B3 := B2
  replace p0 := B3.cell p0
  replace p1 := B3.cell p1
  replace q0 := B3.cell q0
  replace q1 := B3.cell q1
  replace hix := Rd.bw rInts_good hix B3
  replace hiy := Rd.bw rInts_good hiy B3
  replace h' := h'.bw rNodess_good B3
  clear hb1 hb2 B2 C0 C1
  go_wp2
  go_loopg [11, 12] n2 (fun gh s t w' => ∃ (j : Nat) (q : Int), j ≤ n2 ∧ gh = n2 - j ∧ t = .int .i64 j ∧ s = .int .i64 q ∧ 0 ≤ q ∧ q ≤ j ∧ Hid (q = cntTo (fun e => decide (cmpBy e x y = 1)) g j) ∧ Bw w2 w')
  case atStart => exact ⟨0, 0, by omega, rfl, rfl, rfl, by omega, by omega, Lib.hid rfl, Bw.refl _⟩
  case round =>
    obtain ⟨j, q, hj, rfl, rfl, rfl, q0', q1', HQ, hb⟩ := hrel
    by_cases hlt : j < n2
    · obtain ⟨e, he⟩ := get_of_lt (xs := g) (k := j) (by have := L2.out; omega)
      obtain ⟨b, o, A', c', rfl, _, d0, hie⟩ := rNodess_at h' he
      have i1 : (0 : Int) ≤ (j : Int) := by omega
      have i2 : (j : Int) < (n2 : Int) := by omega
      have HEE := Lib.hid he
      clear he
      have hpoll := C2.out wr (B3.then hb)
      go_wp2_with fail
      refine (hpoll).mono ?_
      rintro e w4 ⟨rfl, hb4⟩
      clear hpoll
      have he := HEE.out
      replace hb := hb.then hb4
      replace d0 := hb.cell d0
      have m0 := hb.cell p0
      have m1 := hb.cell p1
      have m2 := hb.cell q0
      have m3 := hb.cell q1
      have HE := Lib.hid (HG.out e (List.mem_of_getElem? he))
      have HYES := Lib.hid (fun hc => cntTo_yes (f := fun e => decide (cmpBy e x y = 1)) he hc)
      have HNO := Lib.hid (fun hc => cntTo_no (f := fun e => decide (cmpBy e x y = 1)) he hc)
      have s0 := since_cell m0
      have s1 := since_cell m1
      have s2 := since_cell m2
      have s3 := since_cell m3
      have hcall : ∀ s : Since w4, Calls Tryz.prog 85 _ s.1 (Ret s.1 (.int .i64 (cmpBy e x y))) := fun s => S_l5Compare _ e x y _ _ _ (Rd.bw rNodes_good hie (hb.then s.bw)) (Rd.bw rInts_good hix (hb.then s.bw)) (Rd.bw rInts_good hiy (hb.then s.bw)) HE.out HX.out HYI.out
      obtain ⟨M, hM⟩ : ∃ M, M = e.length := ⟨_, rfl⟩
      rw [← hM] at d0 hcall
      obtain ⟨r, hr⟩ : ∃ r, r = cmpBy e x y := ⟨_, rfl⟩
      rw [← hr] at hcall
      have HR := Lib.hid hr
      have s4 := since_cell d0
      have HH := Lib.hid h'
      clear he hie hM hr h' m0 m1 m2 m3
      by_cases hr1 : r = 1
      · have e1 : (r == 1) = true := by simpa using hr1
        have HX2 := Lib.hid (show q + 1 = cntTo (fun e => decide (cmpBy e x y = 1)) g (j + 1) by rw [HYES.out (by rw [← HR.out, hr1]; rfl), HQ.out])
        clear hr1
        go_wp2
        refine wp_region_since (by kernel_rfl) (by kernel_rfl) ?_
        repeat (first | go_big_quiet_skip | (go_big_quiet_want; go_big_quiet_op; first | go_big_quiet_on | (apply Exists.intro; refine ⟨fun _ => ?_, ?_⟩; (· (((first | (go_at_call 85; exact Calls_since (hcall _)))))); go_big_quiet_on)))
        refine wpQuiet_nil ?_
        rintro ⟨wq, hbq⟩
        dsimp only at *
        have h' := HH.out
        have hbb := hb.then hbq
        clear hcall s0 s1 s2 s3 s4
        go_wp2
        go_roundg (n2 - (j + 1))
        case measure => omega
        case rel => exact ⟨j + 1, q + 1, by omega, rfl, by go_num, by go_num, by omega, by omega, HX2, hbb⟩
      · have e1 : (r == 1) = false := by simpa using hr1
        have HX2 := Lib.hid (show q = cntTo (fun e => decide (cmpBy e x y = 1)) g (j + 1) by rw [HNO.out (by rw [← HR.out]; exact decide_eq_false hr1), HQ.out])
        clear hr1
        go_wp2
        refine wp_region_since (by kernel_rfl) (by kernel_rfl) ?_
        repeat (first | go_big_quiet_skip | (go_big_quiet_want; go_big_quiet_op; first | go_big_quiet_on | (apply Exists.intro; refine ⟨fun _ => ?_, ?_⟩; (· (((first | (go_at_call 85; exact Calls_since (hcall _)))))); go_big_quiet_on)))
        refine wpQuiet_nil ?_
        rintro ⟨wq, hbq⟩
        dsimp only at *
        have h' := HH.out
        have hbb := hb.then hbq
        clear hcall s0 s1 s2 s3 s4
        go_wp2
        go_roundg (n2 - (j + 1))
        case measure => omega
        case rel => exact ⟨j + 1, q, by omega, rfl, by go_num, rfl, by omega, by omega, HX2, hbb⟩
    · obtain rfl : j = n2 := by omega
      have HF := Lib.hid (show q = Y by rw [HY.out, HQ.out, votesIn, ← L2.out])
      clear HQ
      go_wp2
      go_ret
      exact Ret.int HF.out (B3.then hb)
set_option maxRecDepth 100000 in
set_option maxHeartbeats 1600000 in
theorem I_VotesFor_no (w : World) (l : List GItem) (g : List (List GNode)) (a b : Int) (v u : Value) (h : Rd rItems w l [v]) (h' : Rd rNodess w g [u]) (hno : (isPoll l g && (decide (0 ≤ findIdx l a) && decide (0 ≤ findIdx l b))) = false) :
    Calls Tryz.prog 240 #[v, u, .int .i64 a, .int .i64 b] w (Ret w (.int .i64 0)) := by
  obtain ⟨A, n, c, rfl, L0, Lc, Lm⟩ := rSl_open h
  unfold maxLen at Lm
  have L := Lib.hid L0
  clear L0
  obtain ⟨A2, n2, c2, rfl, L20, L2c, L2m⟩ := rSl_open h'
  unfold maxLen at L2m
  have L2 := Lib.hid L20
  clear L20
  have hcall0 := fun W (B : Bw w W) => I_FindItem W l a _ (h.bw rItems_good B)
  have hcall1 := fun W (B : Bw w W) => I_FindItem W l b _ (h.bw rItems_good B)
  have hcall2 := fun W (B : Bw w W) => I_isPoll W l g _ _ (h.bw rItems_good B) (h'.bw rNodess_good B)
  obtain ⟨K, hK⟩ : ∃ K, K = findIdx l a := ⟨_, rfl⟩
  obtain ⟨J, hJ⟩ : ∃ J, J = findIdx l b := ⟨_, rfl⟩
  rw [← hK] at hcall0 hno
  rw [← hJ] at hcall1 hno
  have C0 := Lib.hid hcall0
  have C1 := Lib.hid hcall1
  have C2 := Lib.hid hcall2
  clear hK hJ hcall0 hcall1 hcall2 h h'
  rcases Bool.eq_false_or_eq_true (isPoll l g) with hP | hP
  · rw [hP] at hno
    have D2 := C2.out
    rw [hP] at D2
    have E2 := Lib.hid D2
    clear hP D2 C2
    by_cases hk : K < 0
    · clear hno
      go_enter Tryz.func240, Tryz.ntmps240
      go_wp2_with fail
      refine (C0.out _ (Bw.refl w)).mono ?_
      rintro e w1 ⟨rfl, hb1⟩
      go_wp2_with fail
      refine (C1.out _ hb1).mono ?_
      rintro e w2 ⟨rfl, hb2⟩
      go_wp2_with fail
      refine (E2.out _ (hb1.then hb2)).mono ?_
      rintro e w3 ⟨rfl, hb3⟩
      go_wp2
      go_ret
      exact Ret.int (rfl) ((hb1.then hb2).then hb3)
    · have hj : J < 0 := by
        rw [decide_eq_true (show 0 ≤ K by omega)] at hno
        simpa using hno
      clear hno
      go_enter Tryz.func240, Tryz.ntmps240
      go_wp2_with fail
      refine (C0.out _ (Bw.refl w)).mono ?_
      rintro e w1 ⟨rfl, hb1⟩
      go_wp2_with fail
      refine (C1.out _ hb1).mono ?_
      rintro e w2 ⟨rfl, hb2⟩
      go_wp2_with fail
      refine (E2.out _ (hb1.then hb2)).mono ?_
      rintro e w3 ⟨rfl, hb3⟩
      go_wp2
      go_ret
      exact Ret.int (rfl) ((hb1.then hb2).then hb3)
  · have D2 := C2.out
    rw [hP] at D2
    have E2 := Lib.hid D2
    clear hP D2 C2 hno
    go_enter Tryz.func240, Tryz.ntmps240
    go_wp2_with fail
    refine (C0.out _ (Bw.refl w)).mono ?_
    rintro e w1 ⟨rfl, hb1⟩
    go_wp2_with fail
    refine (C1.out _ hb1).mono ?_
    rintro e w2 ⟨rfl, hb2⟩
    go_wp2_with fail
    refine (E2.out _ (hb1.then hb2)).mono ?_
    rintro e w3 ⟨rfl, hb3⟩
    go_wp2
    go_ret
    exact Ret.int (rfl) ((hb1.then hb2).then hb3)

set_option maxRecDepth 100000 in
set_option maxHeartbeats 1600000 in
theorem S_VotesFor_no (w : World) (l : List GItem) (g : List (List GNode)) (a b : Int) (v u : Value) (h : Rd rItems w l [v]) (h' : Rd rNodess w g [u]) (hno : (isPoll l g && (decide (0 ≤ findIdx l a) && decide (0 ≤ findIdx l b))) = false) :
    Calls Tryz.prog 193 #[v, u, .int .i64 a, .int .i64 b] w (Ret w (.int .i64 0)) := by
  obtain ⟨A, n, c, rfl, L0, Lc, Lm⟩ := rSl_open h
  unfold maxLen at Lm
  have L := Lib.hid L0
  clear L0
  obtain ⟨A2, n2, c2, rfl, L20, L2c, L2m⟩ := rSl_open h'
  unfold maxLen at L2m
  have L2 := Lib.hid L20
  clear L20
  have hcall0 := fun W (B : Bw w W) => S_FindItem W l a _ (h.bw rItems_good B)
  have hcall1 := fun W (B : Bw w W) => S_FindItem W l b _ (h.bw rItems_good B)
  have hcall2 := fun W (B : Bw w W) => S_l12Fine W l g _ _ (h.bw rItems_good B) (h'.bw rNodess_good B)
  obtain ⟨K, hK⟩ : ∃ K, K = findIdx l a := ⟨_, rfl⟩
  obtain ⟨J, hJ⟩ : ∃ J, J = findIdx l b := ⟨_, rfl⟩
  rw [← hK] at hcall0 hno
  rw [← hJ] at hcall1 hno
  have C0 := Lib.hid hcall0
  have C1 := Lib.hid hcall1
  have C2 := Lib.hid hcall2
  clear hK hJ hcall0 hcall1 hcall2 h h'
  by_cases hn : n2 = 0
  · subst hn
    clear hno C2
    go_enter Tryz.func193, Tryz.ntmps193
    go_wp2_with fail
    refine (C0.out _ (Bw.refl w)).mono ?_
    rintro e w1 ⟨rfl, hb1⟩
    go_wp2_with fail
    refine (C1.out _ hb1).mono ?_
    rintro e w2 ⟨rfl, hb2⟩
    have B2 := hb1.then hb2
    clear hb1 hb2 C0 C1
    go_wp2
    go_loopg [11, 12] 0 (fun gh s t w' => gh = 0 ∧ s = .int .i64 0 ∧ t = .int .i64 0 ∧ Bw w2 w')
    case atStart => exact ⟨rfl, rfl, rfl, Bw.refl _⟩
    case round =>
      obtain ⟨rfl, rfl, rfl, hb⟩ := hrel
      go_wp2
      go_ret
      exact Ret.int (rfl) (B2.then hb)
  · have hn0 : (0 : Int) < (n2 : Int) := by omega
    clear hn
    rcases Bool.eq_false_or_eq_true (isPoll l g) with hP | hP
    · rw [hP] at hno
      have D2 := C2.out
      rw [hP] at D2
      have E2 := Lib.hid D2
      clear hP D2 C2
      by_cases hk : K < 0
      · have hk2 : ¬ (0 : Int) ≤ K := by omega
        clear hno hk
        go_enter Tryz.func193, Tryz.ntmps193
        go_wp2_with fail
        refine (C0.out _ (Bw.refl w)).mono ?_
        rintro e w1 ⟨rfl, hb1⟩
        go_wp2_with fail
        refine (C1.out _ hb1).mono ?_
        rintro e w2 ⟨rfl, hb2⟩
        have B2 := hb1.then hb2
        clear hb1 hb2 C0 C1
        go_wp2
        go_loopg [11, 12] 0 (fun gh s t w' => gh = 0 ∧ s = .int .i64 0 ∧ t = .int .i64 0 ∧ Bw w2 w')
        case atStart => exact ⟨rfl, rfl, rfl, Bw.refl _⟩
        case round =>
          obtain ⟨rfl, rfl, rfl, hb⟩ := hrel
          go_wp2_with fail
          refine (E2.out _ (B2.then hb)).mono ?_
          rintro e w3 ⟨rfl, hb3⟩
          go_wp2
          go_ret
          exact Ret.int (rfl) ((B2.then hb).then hb3)
      · have hk2 : (0 : Int) ≤ K := by omega
        have hj : J < 0 := by
          rw [decide_eq_true hk2] at hno
          simpa using hno
        have hj2 : ¬ (0 : Int) ≤ J := by omega
        clear hno hk hj
        go_enter Tryz.func193, Tryz.ntmps193
        go_wp2_with fail
        refine (C0.out _ (Bw.refl w)).mono ?_
        rintro e w1 ⟨rfl, hb1⟩
        go_wp2_with fail
        refine (C1.out _ hb1).mono ?_
        rintro e w2 ⟨rfl, hb2⟩
        have B2 := hb1.then hb2
        clear hb1 hb2 C0 C1
        go_wp2
        go_loopg [11, 12] 0 (fun gh s t w' => gh = 0 ∧ s = .int .i64 0 ∧ t = .int .i64 0 ∧ Bw w2 w')
        case atStart => exact ⟨rfl, rfl, rfl, Bw.refl _⟩
        case round =>
          obtain ⟨rfl, rfl, rfl, hb⟩ := hrel
          go_wp2_with fail
          refine (E2.out _ (B2.then hb)).mono ?_
          rintro e w3 ⟨rfl, hb3⟩
          go_wp2
          go_ret
          exact Ret.int (rfl) ((B2.then hb).then hb3)
    · have D2 := C2.out
      rw [hP] at D2
      have E2 := Lib.hid D2
      clear hP D2 C2 hno
      go_enter Tryz.func193, Tryz.ntmps193
      go_wp2_with fail
      refine (C0.out _ (Bw.refl w)).mono ?_
      rintro e w1 ⟨rfl, hb1⟩
      go_wp2_with fail
      refine (C1.out _ hb1).mono ?_
      rintro e w2 ⟨rfl, hb2⟩
      have B2 := hb1.then hb2
      clear hb1 hb2 C0 C1
      go_wp2
      go_loopg [11, 12] 0 (fun gh s t w' => gh = 0 ∧ s = .int .i64 0 ∧ t = .int .i64 0 ∧ Bw w2 w')
      case atStart => exact ⟨rfl, rfl, rfl, Bw.refl _⟩
      case round =>
        obtain ⟨rfl, rfl, rfl, hb⟩ := hrel
        go_wp2_with fail
        refine (E2.out _ (B2.then hb)).mono ?_
        rintro e w3 ⟨rfl, hb3⟩
        go_wp2
        go_ret
        exact Ret.int (rfl) ((B2.then hb).then hb3)

theorem I_VotesFor (w : World) (l : List GItem) (g : List (List GNode)) (a b : Int) (v u : Value) (h : Rd rItems w l [v]) (h' : Rd rNodess w g [u]) :
    Calls Tryz.prog 240 #[v, u, .int .i64 a, .int .i64 b] w (Ret w (.int .i64 (votesFor l g a b))) := by
  rcases Bool.eq_false_or_eq_true (isPoll l g && (decide (0 ≤ findIdx l a) && decide (0 ≤ findIdx l b))) with hc | hc
  · have h1 := hc
    rw [Bool.and_eq_true, Bool.and_eq_true, decide_eq_true_eq, decide_eq_true_eq] at h1
    rcases findIdx_cases l a with ⟨hK, _⟩ | ⟨i, x, hK, hx, _⟩
    · have := h1.2.1; omega
    · rcases findIdx_cases l b with ⟨hJ, _⟩ | ⟨k, y, hJ, hy, _⟩
      · have := h1.2.2; omega
      · have := I_VotesFor_yes w l g a b v u h h' h1.1 i k x y hK hx hJ hy
        rw [show votesFor l g a b = votesIn g x y by rw [votesFor, if_pos hc, itemAt_of hK hx, itemAt_of hJ hy]]
        exact this
  · have := I_VotesFor_no w l g a b v u h h' hc
    rw [show votesFor l g a b = 0 by rw [votesFor, hc]; rfl]
    exact this
theorem S_VotesFor (w : World) (l : List GItem) (g : List (List GNode)) (a b : Int) (v u : Value) (h : Rd rItems w l [v]) (h' : Rd rNodess w g [u]) :
    Calls Tryz.prog 193 #[v, u, .int .i64 a, .int .i64 b] w (Ret w (.int .i64 (votesFor l g a b))) := by
  rcases Bool.eq_false_or_eq_true (isPoll l g && (decide (0 ≤ findIdx l a) && decide (0 ≤ findIdx l b))) with hc | hc
  · have h1 := hc
    rw [Bool.and_eq_true, Bool.and_eq_true, decide_eq_true_eq, decide_eq_true_eq] at h1
    rcases findIdx_cases l a with ⟨hK, _⟩ | ⟨i, x, hK, hx, _⟩
    · have := h1.2.1; omega
    · rcases findIdx_cases l b with ⟨hJ, _⟩ | ⟨k, y, hJ, hy, _⟩
      · have := h1.2.2; omega
      · have := S_VotesFor_yes w l g a b v u h h' h1.1 i k x y hK hx hJ hy
        rw [show votesFor l g a b = votesIn g x y by rw [votesFor, if_pos hc, itemAt_of hK hx, itemAt_of hJ hy]]
        exact this
  · have := S_VotesFor_no w l g a b v u h h' hc
    rw [show votesFor l g a b = 0 by rw [votesFor, hc]; rfl]
    exact this
end Go.Proofs.YtpihighajaeabaaGreat
