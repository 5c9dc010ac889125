/- The choice of a group and its line, in both programs. -/
import Derived.Test.YtpihighajaeabaaGreatQVoteD
import Derived.Test.YtpihighajaeabaaGreatQLines3
namespace Go.Proofs.YtpihighajaeabaaGreat
open Go.RowKit
set_option linter.unusedVariables false
set_option linter.unusedSimpArgs false
theorem choice_yes {l : List GItem} {g : List (List GNode)} {s : List Int} (hP : isPoll l g = true) (hl : 0 < l.length) : choice l g s = idAt l (posTo s s.length) := by unfold choice; rw [hP, decide_eq_true hl]; rfl
theorem idAt_of {l : List GItem} {k : Nat} {x : GItem} (h : l[k]? = some x) : idAt l k = x.id := by unfold idAt; rw [h]
set_option maxRecDepth 100000 in
set_option maxHeartbeats 3200000 in
theorem I_Group1_yes (w : World) (l : List GItem) (g : List (List GNode)) (v u : Value) (h : Rd rItems w l [v]) (h' : Rd rNodess w g [u]) (hP : isPoll l g = true) (hl : 0 < l.length) : Calls Tryz.prog 139 #[v, u, .int .i64 1] w (Ret w (.int .i64 (choice l g (bordaL l g)))) := by
  have hcall0 := I_isPoll w l g _ _ h h'
  rw [hP] at hcall0
  have hcall1 := fun W (B : Bw w W) => I_BordaScores W l g _ _ (h.bw rItems_good B) (h'.bw rNodess_good B)
  obtain ⟨S, hS⟩ : ∃ S, S = bordaL l g := ⟨_, rfl⟩
  have hSl : S.length = l.length := by rw [hS]; unfold bordaL; rw [if_pos hP, List.length_map]
  have hch := choice_yes (s := S) hP hl
  rw [← hS]
  rw [← hS] at hcall1
  obtain ⟨Y, hY⟩ : ∃ Y, Y = choice l g S := ⟨_, rfl⟩
  rw [← hY]
  have HY := Lib.hid (hY.trans hch)
  have n16 := areItems_len (isPoll_items hP)
  obtain ⟨A, n, c, rfl, L0, Lc, Lm⟩ := rSl_open h
  unfold maxLen at Lm
  have L := Lib.hid L0
  clear L0
  rw [← L.out] at hl n16 hSl
  have HSL := Lib.hid hSl
  have n0 : ((n : Int) == 0) = false := by rw [beq_eq_false_iff_ne]; omega
  have HC := Lib.hid hcall1
  have HH := Lib.hid h
  clear hS hSl hch hY hP h' hcall1 h
  go_enter Tryz.func139, Tryz.ntmps139
  go_wp2_with fail
  refine (hcall0).mono ?_
  rintro e w1 ⟨rfl, hb1⟩
  clear hcall0
  go_wp2_with fail
  refine (HC.out _ (hb1.alloc _)).mono ?_
  rintro e w2 ⟨v2, rfl, ⟨F2, o2, f2⟩, hb2⟩
  have B2 := (hb1.alloc _).then hb2
  have hr2 := fInts_Rd o2
  clear o2 f2 hb1 hb2
  obtain ⟨A2, n2, c2, rfl, L20, L2c, L2m⟩ := rSl_open hr2
  unfold maxLen at L2m
  have L2 := Lib.hid L20
  clear L20
  have hn2 : n2 = n := by have := HSL.out; have := L2.out; omega
  have HN2 := Lib.hid hn2
  have n17 : n2 ≤ 16 := by omega
  have hl2 : 0 < n2 := by omega
  have HR2 := Lib.hid hr2
  clear hn2 hr2
  go_wp2
  go_loopg [8, 39] n2 (fun gh p i w' => ∃ (k q : Nat), k ≤ n2 ∧ gh = n2 - k ∧ i = .int .i64 k ∧ p = .int .i64 q ∧ q < n2 ∧ Hid (q = posTo S k) ∧ Bw w2 w')
  case atStart => exact ⟨0, 0, by omega, rfl, rfl, rfl, hl2, Lib.hid rfl, Bw.refl _⟩
  case round =>
    obtain ⟨k, q, hk, rfl, rfl, rfl, hq, HQ, hb⟩ := hrel
    by_cases hlt : k < n2
    · have hr2 := HR2.out
      obtain ⟨a, ha⟩ := get_of_lt (xs := S) (k := k) (by have := L2.out; omega)
      obtain ⟨b, hb1⟩ := get_of_lt (xs := S) (k := q) (by have := L2.out; omega)
      obtain ⟨ba, oa, rfl, _, c0⟩ := rInts_at hr2 ha
      obtain ⟨b2, o2, e, _, c1⟩ := rInts_at hr2 hb1
      injection e with e
      injection e with e1 e2
      subst e1 e2
      replace c0 := hb.cell c0
      replace c1 := hb.cell c1
      have s0 := since_cell c0
      have s1 := since_cell c1
      have i1 : (0 : Int) ≤ (k : Int) := by omega
      have i2 : (k : Int) < (n2 : Int) := by omega
      have i3 : (0 : Int) ≤ (q : Int) := by omega
      have i4 : (q : Int) < (n2 : Int) := by omega
      have HP := Lib.hid (posTo_succ ha (by rw [← HQ.out]; exact hb1))
      clear ha hb1 hr2
      by_cases hba : b < a
      · have HX := Lib.hid (show k = posTo S (k + 1) by rw [HP.out, if_pos hba])
        clear HP
        skip
        go_wp2
        go_roundg (n2 - (k + 1))
        case measure => omega
        case rel => exact ⟨k + 1, k, by omega, rfl, by go_num, by go_num, hlt, HX, hb⟩
      · have HX := Lib.hid (show q = posTo S (k + 1) by rw [HP.out, if_neg hba, HQ.out])
        clear HP
        skip
        go_wp2
        go_roundg (n2 - (k + 1))
        case measure => omega
        case rel => exact ⟨k + 1, q, by omega, rfl, by go_num, rfl, hq, HX, hb⟩
    · obtain rfl : k = n2 := by omega
      have h := HH.out
      have hqn : q < n := by have := HN2.out; omega
      obtain ⟨x, hx⟩ := get_of_lt (xs := l) (k := q) (by have := L.out; omega)
      obtain ⟨bi, oi, Ax, cx, rfl, _, c0, c1, hix⟩ := rItems_at h hx
      have BB := B2.then hb
      replace c0 := BB.cell c0
      have i3 : (0 : Int) ≤ (q : Int) := by omega
      have i4 : (q : Int) < (n : Int) := by omega
      have HF := Lib.hid (show Y = x.id by rw [HY.out, ← L2.out, ← HQ.out, idAt_of hx])
      clear hx hix c1 h HQ
      go_wp2
      go_ret
      exact Ret.int (HF.out.symm) (BB)
set_option maxHeartbeats 800000 in
theorem I_Group1_no (w : World) (l : List GItem) (g : List (List GNode)) (v u : Value) (h : Rd rItems w l [v]) (h' : Rd rNodess w g [u]) (hno : (isPoll l g && decide (0 < l.length)) = false) : Calls Tryz.prog 139 #[v, u, .int .i64 1] w (Ret w (.int .i64 (-1))) := by
  have hcall0 := I_isPoll w l g _ _ h h'
  obtain ⟨A, n, c, rfl, L0, Lc, Lm⟩ := rSl_open h
  unfold maxLen at Lm
  have L := Lib.hid L0
  clear L0
  rcases Bool.eq_false_or_eq_true (isPoll l g) with hP | hP
  · rw [hP] at hno hcall0
    have hn : n = 0 := by rw [Bool.true_and, decide_eq_false_iff_not] at hno; rw [L.out]; omega
    subst hn
    clear hno hP h h'
    go_enter Tryz.func139, Tryz.ntmps139
    go_wp2_with fail
    refine (hcall0).mono ?_
    rintro e w1 ⟨rfl, hb1⟩
    go_wp2
    go_ret
    exact Ret.int (rfl) (hb1)
  · rw [hP] at hcall0
    clear hno hP h h'
    go_enter Tryz.func139, Tryz.ntmps139
    go_wp2_with fail
    refine (hcall0).mono ?_
    rintro e w1 ⟨rfl, hb1⟩
    go_wp2
    go_ret
    exact Ret.int (rfl) (hb1)
theorem I_Group1 (w : World) (l : List GItem) (g : List (List GNode)) (v u : Value) (h : Rd rItems w l [v]) (h' : Rd rNodess w g [u]) : Calls Tryz.prog 139 #[v, u, .int .i64 1] w (Ret w (.int .i64 (choice l g (bordaL l g)))) := by
  rcases Bool.eq_false_or_eq_true (isPoll l g && decide (0 < l.length)) with hc | hc
  · have h1 := hc
    rw [Bool.and_eq_true, decide_eq_true_eq] at h1
    exact I_Group1_yes w l g v u h h' h1.1 h1.2
  · have := I_Group1_no w l g v u h h' hc
    rw [show choice l g (bordaL l g) = -1 by unfold choice; rw [hc]; rfl]
    exact this
set_option maxRecDepth 100000 in
set_option maxHeartbeats 3200000 in
theorem I_Group2_yes (w : World) (l : List GItem) (g : List (List GNode)) (v u : Value) (h : Rd rItems w l [v]) (h' : Rd rNodess w g [u]) (hP : isPoll l g = true) (hl : 0 < l.length) : Calls Tryz.prog 139 #[v, u, .int .i64 2] w (Ret w (.int .i64 (choice l g (approvL l g)))) := by
  have hcall0 := I_isPoll w l g _ _ h h'
  rw [hP] at hcall0
  have hcall1 := fun W (B : Bw w W) => I_ApprovalScores W l g _ _ (h.bw rItems_good B) (h'.bw rNodess_good B)
  obtain ⟨S, hS⟩ : ∃ S, S = approvL l g := ⟨_, rfl⟩
  have hSl : S.length = l.length := by rw [hS]; unfold approvL; rw [if_pos hP, List.length_map]
  have hch := choice_yes (s := S) hP hl
  rw [← hS]
  rw [← hS] at hcall1
  obtain ⟨Y, hY⟩ : ∃ Y, Y = choice l g S := ⟨_, rfl⟩
  rw [← hY]
  have HY := Lib.hid (hY.trans hch)
  have n16 := areItems_len (isPoll_items hP)
  obtain ⟨A, n, c, rfl, L0, Lc, Lm⟩ := rSl_open h
  unfold maxLen at Lm
  have L := Lib.hid L0
  clear L0
  rw [← L.out] at hl n16 hSl
  have HSL := Lib.hid hSl
  have n0 : ((n : Int) == 0) = false := by rw [beq_eq_false_iff_ne]; omega
  have HC := Lib.hid hcall1
  have HH := Lib.hid h
  clear hS hSl hch hY hP h' hcall1 h
  go_enter Tryz.func139, Tryz.ntmps139
  go_wp2_with fail
  refine (hcall0).mono ?_
  rintro e w1 ⟨rfl, hb1⟩
  clear hcall0
  go_wp2_with fail
  refine (HC.out _ (hb1.alloc _)).mono ?_
  rintro e w2 ⟨v2, rfl, ⟨F2, o2, f2⟩, hb2⟩
  have B2 := (hb1.alloc _).then hb2
  have hr2 := fInts_Rd o2
  clear o2 f2 hb1 hb2
  obtain ⟨A2, n2, c2, rfl, L20, L2c, L2m⟩ := rSl_open hr2
  unfold maxLen at L2m
  have L2 := Lib.hid L20
  clear L20
  have hn2 : n2 = n := by have := HSL.out; have := L2.out; omega
  have HN2 := Lib.hid hn2
  have n17 : n2 ≤ 16 := by omega
  have hl2 : 0 < n2 := by omega
  have HR2 := Lib.hid hr2
  clear hn2 hr2
  go_wp2
  go_loopg [8, 39] n2 (fun gh p i w' => ∃ (k q : Nat), k ≤ n2 ∧ gh = n2 - k ∧ i = .int .i64 k ∧ p = .int .i64 q ∧ q < n2 ∧ Hid (q = posTo S k) ∧ Bw w2 w')
  case atStart => exact ⟨0, 0, by omega, rfl, rfl, rfl, hl2, Lib.hid rfl, Bw.refl _⟩
  case round =>
    obtain ⟨k, q, hk, rfl, rfl, rfl, hq, HQ, hb⟩ := hrel
    by_cases hlt : k < n2
    · have hr2 := HR2.out
      obtain ⟨a, ha⟩ := get_of_lt (xs := S) (k := k) (by have := L2.out; omega)
      obtain ⟨b, hb1⟩ := get_of_lt (xs := S) (k := q) (by have := L2.out; omega)
      obtain ⟨ba, oa, rfl, _, c0⟩ := rInts_at hr2 ha
      obtain ⟨b2, o2, e, _, c1⟩ := rInts_at hr2 hb1
      injection e with e
      injection e with e1 e2
      subst e1 e2
      replace c0 := hb.cell c0
      replace c1 := hb.cell c1
      have s0 := since_cell c0
      have s1 := since_cell c1
      have i1 : (0 : Int) ≤ (k : Int) := by omega
      have i2 : (k : Int) < (n2 : Int) := by omega
      have i3 : (0 : Int) ≤ (q : Int) := by omega
      have i4 : (q : Int) < (n2 : Int) := by omega
      have HP := Lib.hid (posTo_succ ha (by rw [← HQ.out]; exact hb1))
      clear ha hb1 hr2
      by_cases hba : b < a
      · have HX := Lib.hid (show k = posTo S (k + 1) by rw [HP.out, if_pos hba])
        clear HP
        skip
        go_wp2
        go_roundg (n2 - (k + 1))
        case measure => omega
        case rel => exact ⟨k + 1, k, by omega, rfl, by go_num, by go_num, hlt, HX, hb⟩
      · have HX := Lib.hid (show q = posTo S (k + 1) by rw [HP.out, if_neg hba, HQ.out])
        clear HP
        skip
        go_wp2
        go_roundg (n2 - (k + 1))
        case measure => omega
        case rel => exact ⟨k + 1, q, by omega, rfl, by go_num, rfl, hq, HX, hb⟩
    · obtain rfl : k = n2 := by omega
      have h := HH.out
      have hqn : q < n := by have := HN2.out; omega
      obtain ⟨x, hx⟩ := get_of_lt (xs := l) (k := q) (by have := L.out; omega)
      obtain ⟨bi, oi, Ax, cx, rfl, _, c0, c1, hix⟩ := rItems_at h hx
      have BB := B2.then hb
      replace c0 := BB.cell c0
      have i3 : (0 : Int) ≤ (q : Int) := by omega
      have i4 : (q : Int) < (n : Int) := by omega
      have HF := Lib.hid (show Y = x.id by rw [HY.out, ← L2.out, ← HQ.out, idAt_of hx])
      clear hx hix c1 h HQ
      go_wp2
      go_ret
      exact Ret.int (HF.out.symm) (BB)
set_option maxHeartbeats 800000 in
theorem I_Group2_no (w : World) (l : List GItem) (g : List (List GNode)) (v u : Value) (h : Rd rItems w l [v]) (h' : Rd rNodess w g [u]) (hno : (isPoll l g && decide (0 < l.length)) = false) : Calls Tryz.prog 139 #[v, u, .int .i64 2] w (Ret w (.int .i64 (-1))) := by
  have hcall0 := I_isPoll w l g _ _ h h'
  obtain ⟨A, n, c, rfl, L0, Lc, Lm⟩ := rSl_open h
  unfold maxLen at Lm
  have L := Lib.hid L0
  clear L0
  rcases Bool.eq_false_or_eq_true (isPoll l g) with hP | hP
  · rw [hP] at hno hcall0
    have hn : n = 0 := by rw [Bool.true_and, decide_eq_false_iff_not] at hno; rw [L.out]; omega
    subst hn
    clear hno hP h h'
    go_enter Tryz.func139, Tryz.ntmps139
    go_wp2_with fail
    refine (hcall0).mono ?_
    rintro e w1 ⟨rfl, hb1⟩
    go_wp2
    go_ret
    exact Ret.int (rfl) (hb1)
  · rw [hP] at hcall0
    clear hno hP h h'
    go_enter Tryz.func139, Tryz.ntmps139
    go_wp2_with fail
    refine (hcall0).mono ?_
    rintro e w1 ⟨rfl, hb1⟩
    go_wp2
    go_ret
    exact Ret.int (rfl) (hb1)
theorem I_Group2 (w : World) (l : List GItem) (g : List (List GNode)) (v u : Value) (h : Rd rItems w l [v]) (h' : Rd rNodess w g [u]) : Calls Tryz.prog 139 #[v, u, .int .i64 2] w (Ret w (.int .i64 (choice l g (approvL l g)))) := by
  rcases Bool.eq_false_or_eq_true (isPoll l g && decide (0 < l.length)) with hc | hc
  · have h1 := hc
    rw [Bool.and_eq_true, decide_eq_true_eq] at h1
    exact I_Group2_yes w l g v u h h' h1.1 h1.2
  · have := I_Group2_no w l g v u h h' hc
    rw [show choice l g (approvL l g) = -1 by unfold choice; rw [hc]; rfl]
    exact this
set_option maxRecDepth 100000 in
set_option maxHeartbeats 3200000 in
theorem S_Group1_yes (w : World) (l : List GItem) (g : List (List GNode)) (v u : Value) (h : Rd rItems w l [v]) (h' : Rd rNodess w g [u]) (hP : isPoll l g = true) (hl : 0 < l.length) : Calls Tryz.prog 142 #[v, u, .int .i64 1] w (Ret w (.int .i64 (choice l g (bordaL l g)))) := by
  have hcall0 := S_l12Fine w l g _ _ h h'
  rw [hP] at hcall0
  have hcall1 := fun W (B : Bw w W) => S_BordaScores W l g _ _ (h.bw rItems_good B) (h'.bw rNodess_good B)
  obtain ⟨S, hS⟩ : ∃ S, S = bordaL l g := ⟨_, rfl⟩
  have hSl : S.length = l.length := by rw [hS]; unfold bordaL; rw [if_pos hP, List.length_map]
  have hch := choice_yes (s := S) hP hl
  rw [← hS]
  rw [← hS] at hcall1
  obtain ⟨Y, hY⟩ : ∃ Y, Y = choice l g S := ⟨_, rfl⟩
  rw [← hY]
  have HY := Lib.hid (hY.trans hch)
  have n16 := areItems_len (isPoll_items hP)
  obtain ⟨A, n, c, rfl, L0, Lc, Lm⟩ := rSl_open h
  unfold maxLen at Lm
  have L := Lib.hid L0
  clear L0
  rw [← L.out] at hl n16 hSl
  have HSL := Lib.hid hSl
  have n0 : ((n : Int) == 0) = false := by rw [beq_eq_false_iff_ne]; omega
  have HC := Lib.hid hcall1
  have HH := Lib.hid h
  clear hS hSl hch hY hP h' hcall1 h
  go_enter Tryz.func142, Tryz.ntmps142
  go_wp2_with fail
  refine (hcall0).mono ?_
  rintro e w1 ⟨rfl, hb1⟩
  clear hcall0
  go_wp2_with fail
  refine (HC.out _ (hb1.alloc _)).mono ?_
  rintro e w2 ⟨v2, rfl, ⟨F2, o2, f2⟩, hb2⟩
  have B2 := (hb1.alloc _).then hb2
  have hr2 := fInts_Rd o2
  clear o2 f2 hb1 hb2
  obtain ⟨A2, n2, c2, rfl, L20, L2c, L2m⟩ := rSl_open hr2
  unfold maxLen at L2m
  have L2 := Lib.hid L20
  clear L20
  have hn2 : n2 = n := by have := HSL.out; have := L2.out; omega
  have HN2 := Lib.hid hn2
  have n17 : n2 ≤ 16 := by omega
  have hl2 : 0 < n2 := by omega
  have HR2 := Lib.hid hr2
  clear hn2 hr2
  go_wp2
  go_loopg [8, 9] n2 (fun gh p i w' => ∃ (k q : Nat), k ≤ n2 ∧ gh = n2 - k ∧ i = .int .i64 k ∧ p = .int .i64 q ∧ q < n2 ∧ Hid (q = posTo S k) ∧ Bw w2 w')
  case atStart => exact ⟨0, 0, by omega, rfl, rfl, rfl, hl2, Lib.hid rfl, Bw.refl _⟩
  case round =>
    obtain ⟨k, q, hk, rfl, rfl, rfl, hq, HQ, hb⟩ := hrel
    by_cases hlt : k < n2
    · have hr2 := HR2.out
      obtain ⟨a, ha⟩ := get_of_lt (xs := S) (k := k) (by have := L2.out; omega)
      obtain ⟨b, hb1⟩ := get_of_lt (xs := S) (k := q) (by have := L2.out; omega)
      obtain ⟨ba, oa, rfl, _, c0⟩ := rInts_at hr2 ha
      obtain ⟨b2, o2, e, _, c1⟩ := rInts_at hr2 hb1
      injection e with e
      injection e with e1 e2
      subst e1 e2
      replace c0 := hb.cell c0
      replace c1 := hb.cell c1
      have s0 := since_cell c0
      have s1 := since_cell c1
      have i1 : (0 : Int) ≤ (k : Int) := by omega
      have i2 : (k : Int) < (n2 : Int) := by omega
      have i3 : (0 : Int) ≤ (q : Int) := by omega
      have i4 : (q : Int) < (n2 : Int) := by omega
      have HP := Lib.hid (posTo_succ ha (by rw [← HQ.out]; exact hb1))
      clear ha hb1 hr2
      by_cases hba : b < a
      · have HX := Lib.hid (show k = posTo S (k + 1) by rw [HP.out, if_pos hba])
        clear HP
        go_wp2_with fail
        refine wp_region_since (by kernel_rfl) (by kernel_rfl) ?_
        repeat (first | go_big_quiet_skip | (go_big_quiet_want; go_big_quiet_op; first | go_big_quiet_on | (apply Exists.intro; refine ⟨fun _ => ?_, ?_⟩; (· ((fail))); go_big_quiet_on)))
        refine wpQuiet_nil ?_
        rintro ⟨wq, hbq⟩
        dsimp only at *
        go_wp2
        go_roundg (n2 - (k + 1))
        case measure => omega
        case rel => exact ⟨k + 1, k, by omega, rfl, by go_num, by go_num, hlt, HX, hb.then hbq⟩
      · have HX := Lib.hid (show q = posTo S (k + 1) by rw [HP.out, if_neg hba, HQ.out])
        clear HP
        go_wp2_with fail
        refine wp_region_since (by kernel_rfl) (by kernel_rfl) ?_
        repeat (first | go_big_quiet_skip | (go_big_quiet_want; go_big_quiet_op; first | go_big_quiet_on | (apply Exists.intro; refine ⟨fun _ => ?_, ?_⟩; (· ((fail))); go_big_quiet_on)))
        refine wpQuiet_nil ?_
        rintro ⟨wq, hbq⟩
        dsimp only at *
        go_wp2
        go_roundg (n2 - (k + 1))
        case measure => omega
        case rel => exact ⟨k + 1, q, by omega, rfl, by go_num, rfl, hq, HX, hb.then hbq⟩
    · obtain rfl : k = n2 := by omega
      have h := HH.out
      have hqn : q < n := by have := HN2.out; omega
      obtain ⟨x, hx⟩ := get_of_lt (xs := l) (k := q) (by have := L.out; omega)
      obtain ⟨bi, oi, Ax, cx, rfl, _, c0, c1, hix⟩ := rItems_at h hx
      have BB := B2.then hb
      replace c0 := BB.cell c0
      have i3 : (0 : Int) ≤ (q : Int) := by omega
      have i4 : (q : Int) < (n : Int) := by omega
      have HF := Lib.hid (show Y = x.id by rw [HY.out, ← L2.out, ← HQ.out, idAt_of hx])
      clear hx hix c1 h HQ
      go_wp2
      go_ret
      exact Ret.int (HF.out.symm) (BB)
set_option maxHeartbeats 800000 in
theorem S_Group1_no (w : World) (l : List GItem) (g : List (List GNode)) (v u : Value) (h : Rd rItems w l [v]) (h' : Rd rNodess w g [u]) (hno : (isPoll l g && decide (0 < l.length)) = false) : Calls Tryz.prog 142 #[v, u, .int .i64 1] w (Ret w (.int .i64 (-1))) := by
  have hcall0 := S_l12Fine w l g _ _ h h'
  obtain ⟨A, n, c, rfl, L0, Lc, Lm⟩ := rSl_open h
  unfold maxLen at Lm
  have L := Lib.hid L0
  clear L0
  rcases Bool.eq_false_or_eq_true (isPoll l g) with hP | hP
  · rw [hP] at hno hcall0
    have hn : n = 0 := by rw [Bool.true_and, decide_eq_false_iff_not] at hno; rw [L.out]; omega
    subst hn
    clear hno hP h h'
    go_enter Tryz.func142, Tryz.ntmps142
    go_wp2_with fail
    refine (hcall0).mono ?_
    rintro e w1 ⟨rfl, hb1⟩
    go_wp2
    go_ret
    exact Ret.int (rfl) (hb1)
  · rw [hP] at hcall0
    clear hno hP h h'
    go_enter Tryz.func142, Tryz.ntmps142
    go_wp2_with fail
    refine (hcall0).mono ?_
    rintro e w1 ⟨rfl, hb1⟩
    go_wp2
    go_ret
    exact Ret.int (rfl) (hb1)
theorem S_Group1 (w : World) (l : List GItem) (g : List (List GNode)) (v u : Value) (h : Rd rItems w l [v]) (h' : Rd rNodess w g [u]) : Calls Tryz.prog 142 #[v, u, .int .i64 1] w (Ret w (.int .i64 (choice l g (bordaL l g)))) := by
  rcases Bool.eq_false_or_eq_true (isPoll l g && decide (0 < l.length)) with hc | hc
  · have h1 := hc
    rw [Bool.and_eq_true, decide_eq_true_eq] at h1
    exact S_Group1_yes w l g v u h h' h1.1 h1.2
  · have := S_Group1_no w l g v u h h' hc
    rw [show choice l g (bordaL l g) = -1 by unfold choice; rw [hc]; rfl]
    exact this
set_option maxRecDepth 100000 in
set_option maxHeartbeats 3200000 in
theorem S_Group2_yes (w : World) (l : List GItem) (g : List (List GNode)) (v u : Value) (h : Rd rItems w l [v]) (h' : Rd rNodess w g [u]) (hP : isPoll l g = true) (hl : 0 < l.length) : Calls Tryz.prog 142 #[v, u, .int .i64 2] w (Ret w (.int .i64 (choice l g (approvL l g)))) := by
  have hcall0 := S_l12Fine w l g _ _ h h'
  rw [hP] at hcall0
  have hcall1 := fun W (B : Bw w W) => S_ApprovalScores W l g _ _ (h.bw rItems_good B) (h'.bw rNodess_good B)
  obtain ⟨S, hS⟩ : ∃ S, S = approvL l g := ⟨_, rfl⟩
  have hSl : S.length = l.length := by rw [hS]; unfold approvL; rw [if_pos hP, List.length_map]
  have hch := choice_yes (s := S) hP hl
  rw [← hS]
  rw [← hS] at hcall1
  obtain ⟨Y, hY⟩ : ∃ Y, Y = choice l g S := ⟨_, rfl⟩
  rw [← hY]
  have HY := Lib.hid (hY.trans hch)
  have n16 := areItems_len (isPoll_items hP)
  obtain ⟨A, n, c, rfl, L0, Lc, Lm⟩ := rSl_open h
  unfold maxLen at Lm
  have L := Lib.hid L0
  clear L0
  rw [← L.out] at hl n16 hSl
  have HSL := Lib.hid hSl
  have n0 : ((n : Int) == 0) = false := by rw [beq_eq_false_iff_ne]; omega
  have HC := Lib.hid hcall1
  have HH := Lib.hid h
  clear hS hSl hch hY hP h' hcall1 h
  go_enter Tryz.func142, Tryz.ntmps142
  go_wp2_with fail
  refine (hcall0).mono ?_
  rintro e w1 ⟨rfl, hb1⟩
  clear hcall0
  go_wp2_with fail
  refine (HC.out _ (hb1.alloc _)).mono ?_
  rintro e w2 ⟨v2, rfl, ⟨F2, o2, f2⟩, hb2⟩
  have B2 := (hb1.alloc _).then hb2
  have hr2 := fInts_Rd o2
  clear o2 f2 hb1 hb2
  obtain ⟨A2, n2, c2, rfl, L20, L2c, L2m⟩ := rSl_open hr2
  unfold maxLen at L2m
  have L2 := Lib.hid L20
  clear L20
  have hn2 : n2 = n := by have := HSL.out; have := L2.out; omega
  have HN2 := Lib.hid hn2
  have n17 : n2 ≤ 16 := by omega
  have hl2 : 0 < n2 := by omega
  have HR2 := Lib.hid hr2
  clear hn2 hr2
  go_wp2
  go_loopg [8, 9] n2 (fun gh p i w' => ∃ (k q : Nat), k ≤ n2 ∧ gh = n2 - k ∧ i = .int .i64 k ∧ p = .int .i64 q ∧ q < n2 ∧ Hid (q = posTo S k) ∧ Bw w2 w')
  case atStart => exact ⟨0, 0, by omega, rfl, rfl, rfl, hl2, Lib.hid rfl, Bw.refl _⟩
  case round =>
    obtain ⟨k, q, hk, rfl, rfl, rfl, hq, HQ, hb⟩ := hrel
    by_cases hlt : k < n2
    · have hr2 := HR2.out
      obtain ⟨a, ha⟩ := get_of_lt (xs := S) (k := k) (by have := L2.out; omega)
      obtain ⟨b, hb1⟩ := get_of_lt (xs := S) (k := q) (by have := L2.out; omega)
      obtain ⟨ba, oa, rfl, _, c0⟩ := rInts_at hr2 ha
      obtain ⟨b2, o2, e, _, c1⟩ := rInts_at hr2 hb1
      injection e with e
      injection e with e1 e2
      subst e1 e2
      replace c0 := hb.cell c0
      replace c1 := hb.cell c1
      have s0 := since_cell c0
      have s1 := since_cell c1
      have i1 : (0 : Int) ≤ (k : Int) := by omega
      have i2 : (k : Int) < (n2 : Int) := by omega
      have i3 : (0 : Int) ≤ (q : Int) := by omega
      have i4 : (q : Int) < (n2 : Int) := by omega
      have HP := Lib.hid (posTo_succ ha (by rw [← HQ.out]; exact hb1))
      clear ha hb1 hr2
      by_cases hba : b < a
      · have HX := Lib.hid (show k = posTo S (k + 1) by rw [HP.out, if_pos hba])
        clear HP
        go_wp2_with fail
        refine wp_region_since (by kernel_rfl) (by kernel_rfl) ?_
        repeat (first | go_big_quiet_skip | (go_big_quiet_want; go_big_quiet_op; first | go_big_quiet_on | (apply Exists.intro; refine ⟨fun _ => ?_, ?_⟩; (· ((fail))); go_big_quiet_on)))
        refine wpQuiet_nil ?_
        rintro ⟨wq, hbq⟩
        dsimp only at *
        go_wp2
        go_roundg (n2 - (k + 1))
        case measure => omega
        case rel => exact ⟨k + 1, k, by omega, rfl, by go_num, by go_num, hlt, HX, hb.then hbq⟩
      · have HX := Lib.hid (show q = posTo S (k + 1) by rw [HP.out, if_neg hba, HQ.out])
        clear HP
        go_wp2_with fail
        refine wp_region_since (by kernel_rfl) (by kernel_rfl) ?_
        repeat (first | go_big_quiet_skip | (go_big_quiet_want; go_big_quiet_op; first | go_big_quiet_on | (apply Exists.intro; refine ⟨fun _ => ?_, ?_⟩; (· ((fail))); go_big_quiet_on)))
        refine wpQuiet_nil ?_
        rintro ⟨wq, hbq⟩
        dsimp only at *
        go_wp2
        go_roundg (n2 - (k + 1))
        case measure => omega
        case rel => exact ⟨k + 1, q, by omega, rfl, by go_num, rfl, hq, HX, hb.then hbq⟩
    · obtain rfl : k = n2 := by omega
      have h := HH.out
      have hqn : q < n := by have := HN2.out; omega
      obtain ⟨x, hx⟩ := get_of_lt (xs := l) (k := q) (by have := L.out; omega)
      obtain ⟨bi, oi, Ax, cx, rfl, _, c0, c1, hix⟩ := rItems_at h hx
      have BB := B2.then hb
      replace c0 := BB.cell c0
      have i3 : (0 : Int) ≤ (q : Int) := by omega
      have i4 : (q : Int) < (n : Int) := by omega
      have HF := Lib.hid (show Y = x.id by rw [HY.out, ← L2.out, ← HQ.out, idAt_of hx])
      clear hx hix c1 h HQ
      go_wp2
      go_ret
      exact Ret.int (HF.out.symm) (BB)
set_option maxHeartbeats 800000 in
theorem S_Group2_no (w : World) (l : List GItem) (g : List (List GNode)) (v u : Value) (h : Rd rItems w l [v]) (h' : Rd rNodess w g [u]) (hno : (isPoll l g && decide (0 < l.length)) = false) : Calls Tryz.prog 142 #[v, u, .int .i64 2] w (Ret w (.int .i64 (-1))) := by
  have hcall0 := S_l12Fine w l g _ _ h h'
  obtain ⟨A, n, c, rfl, L0, Lc, Lm⟩ := rSl_open h
  unfold maxLen at Lm
  have L := Lib.hid L0
  clear L0
  rcases Bool.eq_false_or_eq_true (isPoll l g) with hP | hP
  · rw [hP] at hno hcall0
    have hn : n = 0 := by rw [Bool.true_and, decide_eq_false_iff_not] at hno; rw [L.out]; omega
    subst hn
    clear hno hP h h'
    go_enter Tryz.func142, Tryz.ntmps142
    go_wp2_with fail
    refine (hcall0).mono ?_
    rintro e w1 ⟨rfl, hb1⟩
    go_wp2
    go_ret
    exact Ret.int (rfl) (hb1)
  · rw [hP] at hcall0
    clear hno hP h h'
    go_enter Tryz.func142, Tryz.ntmps142
    go_wp2_with fail
    refine (hcall0).mono ?_
    rintro e w1 ⟨rfl, hb1⟩
    go_wp2
    go_ret
    exact Ret.int (rfl) (hb1)
theorem S_Group2 (w : World) (l : List GItem) (g : List (List GNode)) (v u : Value) (h : Rd rItems w l [v]) (h' : Rd rNodess w g [u]) : Calls Tryz.prog 142 #[v, u, .int .i64 2] w (Ret w (.int .i64 (choice l g (approvL l g)))) := by
  rcases Bool.eq_false_or_eq_true (isPoll l g && decide (0 < l.length)) with hc | hc
  · have h1 := hc
    rw [Bool.and_eq_true, decide_eq_true_eq] at h1
    exact S_Group2_yes w l g v u h h' h1.1 h1.2
  · have := S_Group2_no w l g v u h h' hc
    rw [show choice l g (approvL l g) = -1 by unfold choice; rw [hc]; rfl]
    exact this
set_option maxHeartbeats 800000 in
theorem I_Group0 (w : World) (l : List GItem) (g : List (List GNode)) (v u : Value) (h : Rd rItems w l [v]) (h' : Rd rNodess w g [u]) : Calls Tryz.prog 139 #[v, u, .int .i64 0] w (Ret w (.int .i64 (condo l g))) := by
  have hcall0 := I_isPoll w l g _ _ h h'
  have hcall1 := fun W (B : Bw w W) => I_CondorcetOf W l g _ _ (h.bw rItems_good B) (h'.bw rNodess_good B)
  have hem : Hid (l.length = 0 → condo l g = -1) := Lib.hid (fun hl => by
    have : l = [] := List.eq_nil_of_length_eq_zero hl
    subst this
    unfold condo; split <;> rfl)
  have hnp : Hid (isPoll l g = false → condo l g = -1) := Lib.hid (fun hp => by rw [condo, hp]; rfl)
  obtain ⟨Y, hY⟩ : ∃ Y, Y = condo l g := ⟨_, rfl⟩
  rw [← hY] at hcall1 hem hnp ⊢
  obtain ⟨A, n, c, rfl, L0, Lc, Lm⟩ := rSl_open h
  unfold maxLen at Lm
  have L := Lib.hid L0
  clear L0
  have HC := Lib.hid hcall1
  clear hY h h' hcall1
  rcases Bool.eq_false_or_eq_true (isPoll l g) with hP | hP
  · rw [hP] at hcall0
    clear hP
    by_cases hn : n = 0
    · have HX := Lib.hid (hem.out (by rw [← L.out]; exact hn))
      subst hn
      go_enter Tryz.func139, Tryz.ntmps139
      go_wp2_with fail
      refine (hcall0).mono ?_
      rintro e w1 ⟨rfl, hb1⟩
      go_wp2
      go_ret
      exact Ret.int (HX.out.symm) (hb1)
    · have n0 : ((n : Int) == 0) = false := by rw [beq_eq_false_iff_ne]; omega
      clear hn
      go_enter Tryz.func139, Tryz.ntmps139
      go_wp2_with fail
      refine (hcall0).mono ?_
      rintro e w1 ⟨rfl, hb1⟩
      go_wp2_with fail
      refine (HC.out _ (hb1.alloc _)).mono ?_
      rintro e w2 ⟨rfl, hb2⟩
      go_wp2
      go_ret
      exact Ret.int (rfl) ((hb1.alloc _).then hb2)
  · have HX := Lib.hid (hnp.out hP)
    rw [hP] at hcall0
    clear hP
    go_enter Tryz.func139, Tryz.ntmps139
    go_wp2_with fail
    refine (hcall0).mono ?_
    rintro e w1 ⟨rfl, hb1⟩
    go_wp2
    go_ret
    exact Ret.int (HX.out.symm) (hb1)
end Go.Proofs.YtpihighajaeabaaGreat
