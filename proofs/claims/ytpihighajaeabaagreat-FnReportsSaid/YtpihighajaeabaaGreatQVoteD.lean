/- Scores, in both programs: the rest. -/
import Derived.Test.YtpihighajaeabaaGreatQVoteC
import Derived.Test.YtpihighajaeabaaGreatQBoxT
namespace Go.Proofs.YtpihighajaeabaaGreat
open Go.RowKit
set_option linter.unusedVariables false
set_option linter.unusedSimpArgs false
set_option maxHeartbeats 400000 in
theorem S_BestItems (w : World) (l : List GItem) (e : List GNode) (v u : Value) (h : Rd rItems w l [v]) (h' : Rd rNodes w e [u]) : Calls Tryz.prog 42 #[v, u] w (RetV w (Made fInts w.heap.size (bestItems l e))) := by
  go_enter Tryz.func42, Tryz.ntmps42
  go_wp2_with fail
  refine (S_l7Fine _ l e _ _ h h').mono ?_
  rintro e w2 ⟨rfl, hb2⟩
  rcases Bool.eq_false_or_eq_true (areBoth l e) with e1 | e1
  · have E := Lib.hid e1
    rw [e1]
    clear e1
    go_wp2_with fail
    refine (S_l7Best _ l e _ _ (h.bw rItems_good hb2) (h'.bw rNodes_good hb2) (areBoth_items E.out) (areBoth_expr E.out)).mono ?_
    rintro e w3 ⟨v3, rfl, ⟨F, o, f⟩, hb3⟩
    rw [show bestM l e = bestItems l e by rw [bestItems, if_pos E.out]] at o
    go_wp2
    go_ret
    exact ⟨_, rfl, ⟨F, o, f.mono hb2.size⟩, hb2.then hb3⟩
  · have E := Lib.hid e1
    rw [e1]
    clear e1
    have hv0 := fSl_empty (e := 3) (sz := 1) (R := fInt) w2
    rw [show ([] : List Int) = bestItems l e by rw [bestItems, E.out]; rfl] at hv0
    have hz := hb2.size
    go_wp2
    go_ret
    exact ⟨_, rfl, ⟨_, hv0, ⟨by simp, by simpa using hz⟩⟩, hb2.alloc _⟩
set_option maxHeartbeats 400000 in
theorem S_IsBest (w : World) (l : List GItem) (e : List GNode) (id : Int) (v u : Value) (h : Rd rItems w l [v]) (h' : Rd rNodes w e [u]) :
    Calls Tryz.prog 244 #[v, u, .int .i64 id] w (Ret w (.bool ((bestItems l e).contains id))) := by
  go_enter Tryz.func244, Tryz.ntmps244
  go_wp2_with fail
  refine (S_BestItems _ l e _ _ h h').mono ?_
  rintro e w1 ⟨v1, rfl, ⟨F1, o1, f1⟩, hb1⟩
  go_wp2_with fail
  refine (S_l2Has _ (bestItems l e) id _ (fInts_Rd o1)).mono ?_
  rintro e w2 ⟨rfl, hb2⟩
  go_wp2
  go_ret
  exact Ret.bool (by simp) (hb1.then hb2)
set_option maxRecDepth 100000 in
set_option maxHeartbeats 6400000 in
theorem I_ApprovalScores_yes (w : World) (l : List GItem) (g : List (List GNode)) (v u : Value) (h : Rd rItems w l [v]) (h' : Rd rNodess w g [u]) (hP : isPoll l g = true) : Calls Tryz.prog 191 #[v, u] w (RetV w (Made fInts w.heap.size (l.map (approvOf l g)))) := by
  obtain ⟨i0, hi, hz0, hz1, hz2⟩ := info_parts info_int
  have A0 : Bw w (w.alloc (.cells #[] 3)) := (Bw.refl w).alloc _
  have hv0 := fSl_empty (e := 3) (sz := 1) (R := fInt) w
  have hcall0 := I_isPoll _ l g _ _ (h.bw rItems_good A0) (h'.bw rNodess_good A0)
  rw [hP] at hcall0
  obtain ⟨A, n, c, rfl, L0, Lc, Lm⟩ := rSl_open h
  unfold maxLen at Lm
  have L := Lib.hid L0
  clear L0
  obtain ⟨A2, n2, c2, rfl, L20, L2c, L2m⟩ := rSl_open h'
  unfold maxLen at L2m
  have L2 := Lib.hid L20
  clear L20
  have n16 : n ≤ 16 := by rw [L.out]; exact areItems_len (isPoll_items hP)
  have n5 : n2 ≤ 5 := by rw [L2.out]; exact (areVoters_len (isPoll_voters hP)).2
  have hl16 : Hid (l.length ≤ 16) := Lib.hid (by rw [← L.out]; exact n16)
  have HIT := Lib.hid (fun W (B : Bw w W) => h.bw rItems_good B)
  have HH := Lib.hid h
  have HH' := Lib.hid h'
  clear hP h h'
  go_enter Tryz.func191, Tryz.ntmps191
  go_wp2_with fail
  refine (hcall0).mono ?_
  rintro e w1 ⟨rfl, hb1⟩
  have B1 := A0.then hb1
  have hv1 := (fInts_good (B := w.heap.size)).bw hb1 A0.size hv0
  clear hcall0 hv0 hb1
  go_wp2
  go_loopg [5, 19] n (fun gh s i w' => ∃ (k : Nat) (F : List Nat), k ≤ n ∧ gh = n - k ∧ i = .int .i64 k ∧ fInts w' (mapTo (approvOf l g) l k) [s] F ∧ Fresh w.heap.size F ∧ Bw w w')
  case atStart => exact ⟨0, _, by omega, rfl, rfl, hv1, ⟨by simp, by simp⟩, B1⟩
  case round =>
    clear hv1 B1
    obtain ⟨k, F, hk, rfl, rfl, hv, hF, hb⟩ := hrel
    rename World => wo
    by_cases hlt : k < n
    · have h := HH.out
      obtain ⟨x, hx⟩ := get_of_lt (xs := l) (k := k) (by have := L.out; omega)
      obtain ⟨ba, oa, Ax, cx, rfl, _, c0, c1, hix⟩ := rItems_at h hx
      replace c0 := hb.cell c0
      replace c1 := hb.cell c1
      have i1 : (0 : Int) ≤ (k : Int) := by omega
      have i2 : (k : Int) < (n : Int) := by omega
      have HMS := Lib.hid (mapTo_succ (f := approvOf l g) hx)
      obtain ⟨M, hM⟩ : ∃ M, M = x.vals.length := ⟨_, rfl⟩
      rw [← hM] at c1
      have A1 := (Bw.refl wo).alloc (.cells #[.int .i64 x.id, .slice Ax M cx] 30)
      have p0 : (wo.alloc (.cells #[.int .i64 x.id, .slice Ax M cx] 30)).cell? ⟨wo.heap.size, 0, none⟩ = some (.int .i64 x.id) := by go_simp
      obtain ⟨W1, hW1⟩ : ∃ W1, W1 = wo.alloc (.cells #[.int .i64 x.id, .slice Ax M cx] 30) := ⟨_, rfl⟩
      rw [← hW1] at A1 p0
      have HW1 := Lib.hid hW1
      have HBO := Lib.hid (show approvOf l g x = cntTo (fun e => (bestItems l e).contains x.id) g g.length from rfl)
      have hv2 := (fInts_good (B := w.heap.size)).bw A1 hb.size hv
      have HL := Lib.hid (mapTo_len (approvOf l g) l k)
      clear hx hix hM hW1 h hv
      go_wp2
      rw [← HW1.out]
      go_loopg [8, 25] n2 (fun gh s i w' => ∃ (j : Nat) (q : Int), j ≤ n2 ∧ gh = n2 - j ∧ i = .int .i64 j ∧ s = .int .i64 q ∧ 0 ≤ q ∧ q ≤ j ∧ Hid (q = cntTo (fun e => (bestItems l e).contains x.id) g j) ∧ Bw W1 w')
      case atStart => exact ⟨0, 0, by omega, rfl, rfl, rfl, by omega, by omega, Lib.hid rfl, Bw.refl _⟩
      case round =>
        obtain ⟨j, q, hj, rfl, rfl, rfl, q0, q1, HQ, hbj⟩ := hrel
        have hbw := hb.then (A1.then hbj)
        replace p0 := hbj.cell p0
        by_cases hlt2 : j < n2
        · have h' := HH'.out
          obtain ⟨e, he⟩ := get_of_lt (xs := g) (k := j) (by have := L2.out; omega)
          obtain ⟨b2, o2, Ae, ce, rfl, _, d0, hie⟩ := rNodess_at h' he
          replace d0 := hbw.cell d0
          have i3 : (0 : Int) ≤ (j : Int) := by omega
          have i4 : (j : Int) < (n2 : Int) := by omega
          have HYES := Lib.hid (fun hc => cntTo_yes (f := fun e => (bestItems l e).contains x.id) he hc)
          have HNO := Lib.hid (fun hc => cntTo_no (f := fun e => (bestItems l e).contains x.id) he hc)
          have hcall := I_IsBest wr l e x.id _ _ (HIT.out wr hbw) (Rd.bw rNodes_good hie hbw)
          obtain ⟨ME, hME⟩ : ∃ ME, ME = e.length := ⟨_, rfl⟩
          rw [← hME] at d0 hcall
          obtain ⟨r, hr⟩ : ∃ r, r = (bestItems l e).contains x.id := ⟨_, rfl⟩
          rw [← hr] at hcall
          have HR := Lib.hid hr
          clear he hie hME h' hr
          go_wp2_with fail
          refine (hcall).mono ?_
          rintro e w5 ⟨rfl, hb5⟩
          have hb2 := hbj.then hb5
          have h' := HH'.out
          clear hcall
          cases r with
          | true =>
            have HX := Lib.hid (show q + 1 = cntTo (fun e => (bestItems l e).contains x.id) g (j + 1) by rw [HYES.out HR.out.symm, HQ.out])
            clear HQ HYES HNO
            go_wp2
            go_roundg (n2 - (j + 1))
            case measure => omega
            case rel => exact ⟨j + 1, q + 1, by omega, rfl, by go_num, by go_num, by omega, by omega, HX, hb2⟩
          | false =>
            have HX := Lib.hid (show q = cntTo (fun e => (bestItems l e).contains x.id) g (j + 1) by rw [HNO.out HR.out.symm, HQ.out])
            clear HQ HYES HNO
            go_wp2
            go_roundg (n2 - (j + 1))
            case measure => omega
            case rel => exact ⟨j + 1, q, by omega, rfl, by go_num, rfl, by omega, by omega, HX, hb2⟩
        · obtain rfl : j = n2 := by omega
          have HF := Lib.hid (show q = approvOf l g x by rw [HBO.out, HQ.out, ← L2.out])
          clear HQ
          have hv3 := (fInts_good (B := w.heap.size)).bw hbj (hb.then A1).size hv2
          have hAl := (Bw.refl wr).alloc (.cells #[.int .i64 q] 3)
          have hvW := (fInts_good (B := w.heap.size)).bw hAl hbw.size hv3
          have hFm := (fInts_good (B := 0)).lt hv3
          have hbW := hbw.then hAl
          have hcl := cell_one_new wr (.int .i64 q) 3
          have hbs := hbw.size
          have h := HH.out
          clear hv2 hv3
          go_wp2_with (at_builtin; refine wpList_push _ rfl (.tmp 37) (.tmp 39) 26 rfl w 3 i0 _ 1 8 Tryz.underlying26 hi hz0 hz1 hz2 rfl (by omega) fInt_good _ (mapTo (approvOf l g) l k) F rfl hvW hF ⟨wr.heap.size, 0, none⟩ 1 rfl q [.int .i64 q] [] hcl ⟨rfl, rfl⟩ rfl _ hFm Fresh.nil hbs (by have := HL.out; omega) (by have := HL.out; omega) hbW ?_; intro v' w' F' hv' hF' hb')
          go_roundg (n - (k + 1))
          case measure => omega
          case rel => exact ⟨k + 1, F', by omega, rfl, by go_num, by rw [HMS.out, ← HF.out]; exact hv', hF', hb'⟩
    · obtain rfl : k = n := by omega
      rw [mapTo_end (by rw [← L.out]; exact Nat.le_refl _)] at hv
      go_wp2
      go_ret
      exact ⟨_, rfl, ⟨F, hv, hF⟩, hb⟩
set_option maxRecDepth 100000 in
set_option maxHeartbeats 6400000 in
theorem S_BordaScores_yes (w : World) (l : List GItem) (g : List (List GNode)) (v u : Value) (h : Rd rItems w l [v]) (h' : Rd rNodess w g [u]) (hP : isPoll l g = true) : Calls Tryz.prog 194 #[v, u] w (RetV w (Made fInts w.heap.size (l.map (bordaOf l g)))) := by
  obtain ⟨i0, hi, hz0, hz1, hz2⟩ := info_parts info_int
  have A0 : Bw w (w.alloc (.cells #[] 3)) := (Bw.refl w).alloc _
  have hv0 := fSl_empty (e := 3) (sz := 1) (R := fInt) w
  have hcall0 := fun W (B : Bw w W) => S_l12Fine W l g _ _ (h.bw rItems_good B) (h'.bw rNodess_good B)
  rw [hP] at hcall0
  have HC := Lib.hid hcall0
  obtain ⟨A, n, c, rfl, L0, Lc, Lm⟩ := rSl_open h
  unfold maxLen at Lm
  have L := Lib.hid L0
  clear L0
  obtain ⟨A2, n2, c2, rfl, L20, L2c, L2m⟩ := rSl_open h'
  unfold maxLen at L2m
  have L2 := Lib.hid L20
  clear L20
  have n16 : n ≤ 16 := by rw [L.out]; exact areItems_len (isPoll_items hP)
  have n5 : n2 ≤ 5 := by rw [L2.out]; exact (areVoters_len (isPoll_voters hP)).2
  have hl16 : Hid (l.length ≤ 16) := Lib.hid (by rw [← L.out]; exact n16)
  have HIT := Lib.hid (fun W (B : Bw w W) => h.bw rItems_good B)
  have HH := Lib.hid h
  have HH' := Lib.hid h'
  clear hP h h'
  go_enter Tryz.func194, Tryz.ntmps194
  have hv1 := hv0
  have B1 := A0
  clear hcall0 hv0
  go_wp2
  go_loopg [5, 6] n (fun gh s i w' => ∃ (k : Nat) (F : List Nat), k ≤ n ∧ gh = n - k ∧ i = .int .i64 k ∧ fInts w' (mapTo (bordaOf l g) l k) [s] F ∧ Fresh w.heap.size F ∧ Bw w w')
  case atStart => exact ⟨0, _, by omega, rfl, rfl, hv1, ⟨by simp, by simp⟩, B1⟩
  case round =>
    clear hv1 B1
    obtain ⟨k, F, hk, rfl, rfl, hv, hF, hb⟩ := hrel
    rename World => wo
    by_cases hlt : k < n
    · have h := HH.out
      obtain ⟨x, hx⟩ := get_of_lt (xs := l) (k := k) (by have := L.out; omega)
      obtain ⟨ba, oa, Ax, cx, rfl, _, c0, c1, hix⟩ := rItems_at h hx
      have i1 : (0 : Int) ≤ (k : Int) := by omega
      have i2 : (k : Int) < (n : Int) := by omega
      have HMS := Lib.hid (mapTo_succ (f := bordaOf l g) hx)
      have HE := Lib.hid (sumTo_bound (g := g) (borda_each l x hl16.out))
      have HBO := Lib.hid (show bordaOf l g x = sumTo (fun e => ((relM l e x.id (-1)).length : Int) - ((relM l e x.id 1).length : Int)) g g.length from rfl)
      have HL := Lib.hid (mapTo_len (bordaOf l g) l k)
      have hpoll := HC.out wo hb
      clear hx hix h c1
      go_wp2_with fail
      refine (hpoll).mono ?_
      rintro e W1 ⟨rfl, hbp⟩
      clear hpoll
      have hv2 := (fInts_good (B := w.heap.size)).bw hbp hb.size hv
      replace hb := hb.then hbp
      have p0 := hb.cell c0
      clear hv hbp
      go_wp2
      go_loopg [7, 8] n2 (fun gh s i w' => ∃ (j : Nat) (q : Int), j ≤ n2 ∧ gh = n2 - j ∧ i = .int .i64 j ∧ s = .int .i64 q ∧ Hid (q = sumTo (fun e => ((relM l e x.id (-1)).length : Int) - ((relM l e x.id 1).length : Int)) g j) ∧ Bw W1 w')
      case atStart => exact ⟨0, 0, by omega, rfl, rfl, rfl, Lib.hid rfl, Bw.refl _⟩
      case round =>
        obtain ⟨j, q, hj, rfl, rfl, rfl, HQ, hbj⟩ := hrel
        have hbw := hb.then hbj
        replace p0 := hbj.cell p0
        by_cases hlt2 : j < n2
        · have h' := HH'.out
          obtain ⟨e, he⟩ := get_of_lt (xs := g) (k := j) (by have := L2.out; omega)
          obtain ⟨b2, o2, Ae, ce, rfl, _, d0, hie⟩ := rNodess_at h' he
          replace d0 := hbw.cell d0
          have i3 : (0 : Int) ≤ (j : Int) := by omega
          have i4 : (j : Int) < (n2 : Int) := by omega
          have hq1 := HE.out j
          rw [← HQ.out] at hq1
          have hq2 := HE.out (j + 1)
          have HS := Lib.hid (sumTo_succ (f := fun e => ((relM l e x.id (-1)).length : Int) - ((relM l e x.id 1).length : Int)) he)
          have hr1 := relM_len l e x.id (-1)
          have hr2 := relM_len l e x.id 1
          rw [← L.out] at hr1 hr2
          have D1 : Bw wr wr.drew := (Bw.refl wr).drew
          have t0 := D1.cell p0
          have t1 := D1.cell d0
          have BD := hbw.then D1
          have K1 := Lib.hid (fun W (B : Bw wr.drew W) => S_DominatedBy W l e x.id _ _ (HIT.out W (BD.then B)) (Rd.bw rNodes_good hie (BD.then B)))
          have K2 := Lib.hid (fun W (B : Bw wr.drew W) => S_DominatorsOf W l e x.id _ _ (HIT.out W (BD.then B)) (Rd.bw rNodes_good hie (BD.then B)))
          have hQ := Bw.refl wr.drew
          obtain ⟨ME, hME⟩ : ∃ ME, ME = e.length := ⟨_, rfl⟩
          rw [← hME] at d0 t1 K1 K2
          have HSS := Lib.hid (show q + (((relM l e x.id (-1)).length : Int) - ((relM l e x.id 1).length : Int)) = sumTo (fun e => ((relM l e x.id (-1)).length : Int) - ((relM l e x.id 1).length : Int)) g (j + 1) by rw [HS.out, HQ.out])
          clear he hie hME h' hq2
          go_wp2_with fail
          go_region_held3 (fun w' => w'.cell? ⟨ba, oa + k * 2, none⟩ = some (.int .i64 x.id) ∧ w'.cell? ⟨b2, o2 + j, none⟩ = some (.slice Ae ME ce)) (first | exact ⟨hQ.cell t0, hQ.cell t1⟩)
            (first
              | (go_at_call 242; refine (K1.out _ hQ).mono ?_; rintro e' w5 ⟨v5, rfl, ⟨F5, o5, f5⟩, hb5⟩; obtain ⟨A5, c5, rfl, _⟩ := rSl_shape (fInts_Rd o5); replace hQ := hQ.then hb5; clear o5 f5 hb5)
              | (go_at_call 243; refine (K2.out _ hQ).mono ?_; rintro e' w6 ⟨v6, rfl, ⟨F6, o6, f6⟩, hb6⟩; obtain ⟨A6, c6, rfl, _⟩ := rSl_shape (fInts_Rd o6); replace hQ := hQ.then hb6; clear o6 f6 hb6)
              | fail)
          all_goals
            have hb2 := hbj.then (D1.then hQ)
            have h' := HH'.out
            obtain ⟨m1, hm1⟩ : ∃ m1, m1 = (relM l e x.id (-1)).length := ⟨_, rfl⟩
            obtain ⟨m2, hm2⟩ : ∃ m2, m2 = (relM l e x.id 1).length := ⟨_, rfl⟩
            have HS3 := HSS.out
            rw [← hm1] at hr1 ⊢
            rw [← hm2] at hr2 ⊢
            rw [← hm1, ← hm2] at HS3
            have HS4 := Lib.hid HS3
            clear hm1 hm2 HS3 hQ
            go_wp2
            go_roundg (n2 - (j + 1))
            case measure => omega
            case rel => exact ⟨j + 1, q + ((m1 : Int) - (m2 : Int)), by omega, rfl, by go_num, by rw [wrap_near (x := q + (m1 : Int)) (by omega), wrap_near (by omega), Int.add_sub_assoc], HS4, hb2⟩
        · obtain rfl : j = n2 := by omega
          have HF := Lib.hid (show q = bordaOf l g x by rw [HBO.out, HQ.out, ← L2.out])
          clear HQ
          have hv3 := (fInts_good (B := w.heap.size)).bw hbj hb.size hv2
          have hAl := (Bw.refl wr).alloc (.cells #[.int .i64 q] 3)
          have hvW := (fInts_good (B := w.heap.size)).bw hAl hbw.size hv3
          have hFm := (fInts_good (B := 0)).lt hv3
          have hbW := hbw.then hAl
          have hcl := cell_one_new wr (.int .i64 q) 3
          have hbs := hbw.size
          have h := HH.out
          clear hv2 hv3
          go_wp2_with (at_builtin; refine wpList_push _ rfl (.tmp 54) (.tmp 56) 26 rfl w 3 i0 _ 1 8 Tryz.underlying26 hi hz0 hz1 hz2 rfl (by omega) fInt_good _ (mapTo (bordaOf l g) l k) F rfl hvW hF ⟨wr.heap.size, 0, none⟩ 1 rfl q [.int .i64 q] [] hcl ⟨rfl, rfl⟩ rfl _ hFm Fresh.nil hbs (by have := HL.out; omega) (by have := HL.out; omega) hbW ?_; intro v' w' F' hv' hF' hb')
          go_roundg (n - (k + 1))
          case measure => omega
          case rel => exact ⟨k + 1, F', by omega, rfl, by go_num, by rw [HMS.out, ← HF.out]; exact hv', hF', hb'⟩
    · obtain rfl : k = n := by omega
      rw [mapTo_end (by rw [← L.out]; exact Nat.le_refl _)] at hv
      go_wp2
      go_ret
      exact ⟨_, rfl, ⟨F, hv, hF⟩, hb⟩
set_option maxRecDepth 100000 in
set_option maxHeartbeats 6400000 in
theorem S_ApprovalScores_yes (w : World) (l : List GItem) (g : List (List GNode)) (v u : Value) (h : Rd rItems w l [v]) (h' : Rd rNodess w g [u]) (hP : isPoll l g = true) : Calls Tryz.prog 195 #[v, u] w (RetV w (Made fInts w.heap.size (l.map (approvOf l g)))) := by
  obtain ⟨i0, hi, hz0, hz1, hz2⟩ := info_parts info_int
  have A0 : Bw w (w.alloc (.cells #[] 3)) := (Bw.refl w).alloc _
  have hv0 := fSl_empty (e := 3) (sz := 1) (R := fInt) w
  have hcall0 := fun W (B : Bw w W) => S_l12Fine W l g _ _ (h.bw rItems_good B) (h'.bw rNodess_good B)
  rw [hP] at hcall0
  have HC := Lib.hid hcall0
  obtain ⟨A, n, c, rfl, L0, Lc, Lm⟩ := rSl_open h
  unfold maxLen at Lm
  have L := Lib.hid L0
  clear L0
  obtain ⟨A2, n2, c2, rfl, L20, L2c, L2m⟩ := rSl_open h'
  unfold maxLen at L2m
  have L2 := Lib.hid L20
  clear L20
  have n16 : n ≤ 16 := by rw [L.out]; exact areItems_len (isPoll_items hP)
  have n5 : n2 ≤ 5 := by rw [L2.out]; exact (areVoters_len (isPoll_voters hP)).2
  have hl16 : Hid (l.length ≤ 16) := Lib.hid (by rw [← L.out]; exact n16)
  have HIT := Lib.hid (fun W (B : Bw w W) => h.bw rItems_good B)
  have HH := Lib.hid h
  have HH' := Lib.hid h'
  clear hP h h'
  go_enter Tryz.func195, Tryz.ntmps195
  have hv1 := hv0
  have B1 := A0
  clear hcall0 hv0
  go_wp2
  go_loopg [5, 6] n (fun gh s i w' => ∃ (k : Nat) (F : List Nat), k ≤ n ∧ gh = n - k ∧ i = .int .i64 k ∧ fInts w' (mapTo (approvOf l g) l k) [s] F ∧ Fresh w.heap.size F ∧ Bw w w')
  case atStart => exact ⟨0, _, by omega, rfl, rfl, hv1, ⟨by simp, by simp⟩, B1⟩
  case round =>
    clear hv1 B1
    obtain ⟨k, F, hk, rfl, rfl, hv, hF, hb⟩ := hrel
    rename World => wo
    by_cases hlt : k < n
    · have h := HH.out
      obtain ⟨x, hx⟩ := get_of_lt (xs := l) (k := k) (by have := L.out; omega)
      obtain ⟨ba, oa, Ax, cx, rfl, _, c0, c1, hix⟩ := rItems_at h hx
      have i1 : (0 : Int) ≤ (k : Int) := by omega
      have i2 : (k : Int) < (n : Int) := by omega
      have HMS := Lib.hid (mapTo_succ (f := approvOf l g) hx)
      have HBO := Lib.hid (show approvOf l g x = cntTo (fun e => (bestItems l e).contains x.id) g g.length from rfl)
      have HL := Lib.hid (mapTo_len (approvOf l g) l k)
      have hpoll := HC.out wo hb
      clear hx hix h c1
      go_wp2_with fail
      refine (hpoll).mono ?_
      rintro e W1 ⟨rfl, hbp⟩
      clear hpoll
      have hv2 := (fInts_good (B := w.heap.size)).bw hbp hb.size hv
      replace hb := hb.then hbp
      have p0 := hb.cell c0
      clear hv hbp
      go_wp2
      go_loopg [7, 8] n2 (fun gh s i w' => ∃ (j : Nat) (q : Int), j ≤ n2 ∧ gh = n2 - j ∧ i = .int .i64 j ∧ s = .int .i64 q ∧ 0 ≤ q ∧ q ≤ j ∧ Hid (q = cntTo (fun e => (bestItems l e).contains x.id) g j) ∧ Bw W1 w')
      case atStart => exact ⟨0, 0, by omega, rfl, rfl, rfl, by omega, by omega, Lib.hid rfl, Bw.refl _⟩
      case round =>
        obtain ⟨j, q, hj, rfl, rfl, rfl, q0, q1, HQ, hbj⟩ := hrel
        have hbw := hb.then hbj
        replace p0 := hbj.cell p0
        by_cases hlt2 : j < n2
        · have h' := HH'.out
          obtain ⟨e, he⟩ := get_of_lt (xs := g) (k := j) (by have := L2.out; omega)
          obtain ⟨b2, o2, Ae, ce, rfl, _, d0, hie⟩ := rNodess_at h' he
          replace d0 := hbw.cell d0
          have i3 : (0 : Int) ≤ (j : Int) := by omega
          have i4 : (j : Int) < (n2 : Int) := by omega
          have HYES := Lib.hid (fun hc => cntTo_yes (f := fun e => (bestItems l e).contains x.id) he hc)
          have HNO := Lib.hid (fun hc => cntTo_no (f := fun e => (bestItems l e).contains x.id) he hc)
          have s0 := since_cell p0
          have hcall : ∀ s : Since wr, Calls Tryz.prog 244 _ s.1 (Ret s.1 (.bool ((bestItems l e).contains x.id))) := fun s => S_IsBest s.1 l e x.id _ _ (HIT.out s.1 (hbw.then s.bw)) (Rd.bw rNodes_good hie (hbw.then s.bw))
          obtain ⟨ME, hME⟩ : ∃ ME, ME = e.length := ⟨_, rfl⟩
          rw [← hME] at d0 hcall
          have s1 := since_cell d0
          obtain ⟨r, hr⟩ : ∃ r, r = (bestItems l e).contains x.id := ⟨_, rfl⟩
          rw [← hr] at hcall
          have HR := Lib.hid hr
          clear he hie hME h' hr
          cases r with
          | true =>
            have HX := Lib.hid (show q + 1 = cntTo (fun e => (bestItems l e).contains x.id) g (j + 1) by rw [HYES.out HR.out.symm, HQ.out])
            clear HQ HYES HNO
            go_wp2_with fail
            refine wp_region_since (by kernel_rfl) (by kernel_rfl) ?_
            repeat (first | go_big_quiet_skip | (go_big_quiet_want; go_big_quiet_op; first | go_big_quiet_on | (apply Exists.intro; refine ⟨fun _ => ?_, ?_⟩; (· (((first | (go_at_call 244; exact Calls_since (hcall _)))))); go_big_quiet_on)))
            refine wpQuiet_nil ?_
            rintro ⟨wq, hbq⟩
            dsimp only at *
            have hb2 := hbj.then hbq
            have h' := HH'.out
            clear hcall s0 s1
            go_wp2
            go_roundg (n2 - (j + 1))
            case measure => omega
            case rel => exact ⟨j + 1, q + 1, by omega, rfl, by go_num, by go_num, by omega, by omega, HX, hb2⟩
          | false =>
            have HX := Lib.hid (show q = cntTo (fun e => (bestItems l e).contains x.id) g (j + 1) by rw [HNO.out HR.out.symm, HQ.out])
            clear HQ HYES HNO
            go_wp2_with fail
            refine wp_region_since (by kernel_rfl) (by kernel_rfl) ?_
            repeat (first | go_big_quiet_skip | (go_big_quiet_want; go_big_quiet_op; first | go_big_quiet_on | (apply Exists.intro; refine ⟨fun _ => ?_, ?_⟩; (· (((first | (go_at_call 244; exact Calls_since (hcall _)))))); go_big_quiet_on)))
            refine wpQuiet_nil ?_
            rintro ⟨wq, hbq⟩
            dsimp only at *
            have hb2 := hbj.then hbq
            have h' := HH'.out
            clear hcall s0 s1
            go_wp2
            go_roundg (n2 - (j + 1))
            case measure => omega
            case rel => exact ⟨j + 1, q, by omega, rfl, by go_num, rfl, by omega, by omega, HX, hb2⟩
        · obtain rfl : j = n2 := by omega
          have HF := Lib.hid (show q = approvOf l g x by rw [HBO.out, HQ.out, ← L2.out])
          clear HQ
          have hv3 := (fInts_good (B := w.heap.size)).bw hbj hb.size hv2
          have hAl := (Bw.refl wr).alloc (.cells #[.int .i64 q] 3)
          have hvW := (fInts_good (B := w.heap.size)).bw hAl hbw.size hv3
          have hFm := (fInts_good (B := 0)).lt hv3
          have hbW := hbw.then hAl
          have hcl := cell_one_new wr (.int .i64 q) 3
          have hbs := hbw.size
          have h := HH.out
          clear hv2 hv3
          go_wp2_with (at_builtin; refine wpList_push _ rfl (.tmp 40) (.tmp 42) 26 rfl w 3 i0 _ 1 8 Tryz.underlying26 hi hz0 hz1 hz2 rfl (by omega) fInt_good _ (mapTo (approvOf l g) l k) F rfl hvW hF ⟨wr.heap.size, 0, none⟩ 1 rfl q [.int .i64 q] [] hcl ⟨rfl, rfl⟩ rfl _ hFm Fresh.nil hbs (by have := HL.out; omega) (by have := HL.out; omega) hbW ?_; intro v' w' F' hv' hF' hb')
          go_roundg (n - (k + 1))
          case measure => omega
          case rel => exact ⟨k + 1, F', by omega, rfl, by go_num, by rw [HMS.out, ← HF.out]; exact hv', hF', hb'⟩
    · obtain rfl : k = n := by omega
      rw [mapTo_end (by rw [← L.out]; exact Nat.le_refl _)] at hv
      go_wp2
      go_ret
      exact ⟨_, rfl, ⟨F, hv, hF⟩, hb⟩
set_option maxHeartbeats 800000 in
theorem I_BordaScores_no (w : World) (l : List GItem) (g : List (List GNode)) (v u : Value) (h : Rd rItems w l [v]) (h' : Rd rNodess w g [u]) (hP : isPoll l g = false) : Calls Tryz.prog 190 #[v, u] w (RetV w (Made fInts w.heap.size [])) := by
  have A0 : Bw w (w.alloc (.cells #[] 3)) := (Bw.refl w).alloc _
  have hv0 := fSl_empty (e := 3) (sz := 1) (R := fInt) w
  have hcall0 := I_isPoll _ l g _ _ (h.bw rItems_good A0) (h'.bw rNodess_good A0)
  rw [hP] at hcall0
  clear hP h h'
  go_enter Tryz.func190, Tryz.ntmps190
  go_wp2_with fail
  refine (hcall0).mono ?_
  rintro e w1 ⟨rfl, hb1⟩
  have hv1 := (fInts_good (B := w.heap.size)).bw hb1 A0.size hv0
  clear hcall0 hv0
  go_wp2
  go_ret
  exact ⟨_, rfl, ⟨_, hv1, ⟨by simp, by simp⟩⟩, A0.then hb1⟩
set_option maxHeartbeats 800000 in
theorem I_ApprovalScores_no (w : World) (l : List GItem) (g : List (List GNode)) (v u : Value) (h : Rd rItems w l [v]) (h' : Rd rNodess w g [u]) (hP : isPoll l g = false) : Calls Tryz.prog 191 #[v, u] w (RetV w (Made fInts w.heap.size [])) := by
  have A0 : Bw w (w.alloc (.cells #[] 3)) := (Bw.refl w).alloc _
  have hv0 := fSl_empty (e := 3) (sz := 1) (R := fInt) w
  have hcall0 := I_isPoll _ l g _ _ (h.bw rItems_good A0) (h'.bw rNodess_good A0)
  rw [hP] at hcall0
  clear hP h h'
  go_enter Tryz.func191, Tryz.ntmps191
  go_wp2_with fail
  refine (hcall0).mono ?_
  rintro e w1 ⟨rfl, hb1⟩
  have hv1 := (fInts_good (B := w.heap.size)).bw hb1 A0.size hv0
  clear hcall0 hv0
  go_wp2
  go_ret
  exact ⟨_, rfl, ⟨_, hv1, ⟨by simp, by simp⟩⟩, A0.then hb1⟩
set_option maxHeartbeats 800000 in
theorem S_BordaScores_no (w : World) (l : List GItem) (g : List (List GNode)) (v u : Value) (h : Rd rItems w l [v]) (h' : Rd rNodess w g [u]) (hP : isPoll l g = false) : Calls Tryz.prog 194 #[v, u] w (RetV w (Made fInts w.heap.size [])) := by
  have A0 : Bw w (w.alloc (.cells #[] 3)) := (Bw.refl w).alloc _
  have hv0 := fSl_empty (e := 3) (sz := 1) (R := fInt) w
  have hcall0 := fun W (B : Bw w W) => S_l12Fine W l g _ _ (h.bw rItems_good B) (h'.bw rNodess_good B)
  rw [hP] at hcall0
  have HC := Lib.hid hcall0
  obtain ⟨A, n, c, rfl, L0, Lc, Lm⟩ := rSl_open h
  unfold maxLen at Lm
  have L := Lib.hid L0
  clear L0
  clear hP h h' hcall0
  by_cases hn : n = 0
  · subst hn
    go_enter Tryz.func194, Tryz.ntmps194
    go_wp2
    go_loopg [5, 6] 0 (fun gh s i w' => gh = 0 ∧ i = .int .i64 0 ∧ fInts w' [] [s] [w.heap.size] ∧ Bw w w')
    case atStart => exact ⟨rfl, rfl, hv0, A0⟩
    case round =>
      clear hv0 A0
      obtain ⟨rfl, rfl, hv, hb⟩ := hrel
      go_wp2
      go_ret
      exact ⟨_, rfl, ⟨_, hv, ⟨by simp, by simp⟩⟩, hb⟩
  · have i2 : (0 : Int) < (n : Int) := by omega
    clear hn
    go_enter Tryz.func194, Tryz.ntmps194
    go_wp2
    go_loopg [5, 6] 0 (fun gh s i w' => gh = 0 ∧ i = .int .i64 0 ∧ fInts w' [] [s] [w.heap.size] ∧ Bw w w')
    case atStart => exact ⟨rfl, rfl, hv0, A0⟩
    case round =>
      clear hv0 A0
      obtain ⟨rfl, rfl, hv, hb⟩ := hrel
      have hcall0 := HC.out wr hb
      go_wp2_with fail
      refine (hcall0).mono ?_
      rintro e w1 ⟨rfl, hb1⟩
      have hv1 := (fInts_good (B := w.heap.size)).bw hb1 hb.size hv
      have hbb := hb.then hb1
      clear hcall0 hv
      go_wp2
      go_ret
      exact ⟨_, rfl, ⟨_, hv1, ⟨by simp, by simp⟩⟩, hbb⟩
set_option maxHeartbeats 800000 in
theorem S_ApprovalScores_no (w : World) (l : List GItem) (g : List (List GNode)) (v u : Value) (h : Rd rItems w l [v]) (h' : Rd rNodess w g [u]) (hP : isPoll l g = false) : Calls Tryz.prog 195 #[v, u] w (RetV w (Made fInts w.heap.size [])) := by
  have A0 : Bw w (w.alloc (.cells #[] 3)) := (Bw.refl w).alloc _
  have hv0 := fSl_empty (e := 3) (sz := 1) (R := fInt) w
  have hcall0 := fun W (B : Bw w W) => S_l12Fine W l g _ _ (h.bw rItems_good B) (h'.bw rNodess_good B)
  rw [hP] at hcall0
  have HC := Lib.hid hcall0
  obtain ⟨A, n, c, rfl, L0, Lc, Lm⟩ := rSl_open h
  unfold maxLen at Lm
  have L := Lib.hid L0
  clear L0
  clear hP h h' hcall0
  by_cases hn : n = 0
  · subst hn
    go_enter Tryz.func195, Tryz.ntmps195
    go_wp2
    go_loopg [5, 6] 0 (fun gh s i w' => gh = 0 ∧ i = .int .i64 0 ∧ fInts w' [] [s] [w.heap.size] ∧ Bw w w')
    case atStart => exact ⟨rfl, rfl, hv0, A0⟩
    case round =>
      clear hv0 A0
      obtain ⟨rfl, rfl, hv, hb⟩ := hrel
      go_wp2
      go_ret
      exact ⟨_, rfl, ⟨_, hv, ⟨by simp, by simp⟩⟩, hb⟩
  · have i2 : (0 : Int) < (n : Int) := by omega
    clear hn
    go_enter Tryz.func195, Tryz.ntmps195
    go_wp2
    go_loopg [5, 6] 0 (fun gh s i w' => gh = 0 ∧ i = .int .i64 0 ∧ fInts w' [] [s] [w.heap.size] ∧ Bw w w')
    case atStart => exact ⟨rfl, rfl, hv0, A0⟩
    case round =>
      clear hv0 A0
      obtain ⟨rfl, rfl, hv, hb⟩ := hrel
      have hcall0 := HC.out wr hb
      go_wp2_with fail
      refine (hcall0).mono ?_
      rintro e w1 ⟨rfl, hb1⟩
      have hv1 := (fInts_good (B := w.heap.size)).bw hb1 hb.size hv
      have hbb := hb.then hb1
      clear hcall0 hv
      go_wp2
      go_ret
      exact ⟨_, rfl, ⟨_, hv1, ⟨by simp, by simp⟩⟩, hbb⟩
theorem I_BordaScores (w : World) (l : List GItem) (g : List (List GNode)) (v u : Value) (h : Rd rItems w l [v]) (h' : Rd rNodess w g [u]) : Calls Tryz.prog 190 #[v, u] w (RetV w (Made fInts w.heap.size (bordaL l g))) := by
  rcases Bool.eq_false_or_eq_true (isPoll l g) with hP | hP
  · have := I_BordaScores_yes w l g v u h h' hP
    unfold bordaL; rw [if_pos hP]; exact this
  · have := I_BordaScores_no w l g v u h h' hP
    unfold bordaL; rw [hP]; exact this
theorem S_BordaScores (w : World) (l : List GItem) (g : List (List GNode)) (v u : Value) (h : Rd rItems w l [v]) (h' : Rd rNodess w g [u]) : Calls Tryz.prog 194 #[v, u] w (RetV w (Made fInts w.heap.size (bordaL l g))) := by
  rcases Bool.eq_false_or_eq_true (isPoll l g) with hP | hP
  · have := S_BordaScores_yes w l g v u h h' hP
    unfold bordaL; rw [if_pos hP]; exact this
  · have := S_BordaScores_no w l g v u h h' hP
    unfold bordaL; rw [hP]; exact this
theorem I_ApprovalScores (w : World) (l : List GItem) (g : List (List GNode)) (v u : Value) (h : Rd rItems w l [v]) (h' : Rd rNodess w g [u]) : Calls Tryz.prog 191 #[v, u] w (RetV w (Made fInts w.heap.size (approvL l g))) := by
  rcases Bool.eq_false_or_eq_true (isPoll l g) with hP | hP
  · have := I_ApprovalScores_yes w l g v u h h' hP
    unfold approvL; rw [if_pos hP]; exact this
  · have := I_ApprovalScores_no w l g v u h h' hP
    unfold approvL; rw [hP]; exact this
theorem S_ApprovalScores (w : World) (l : List GItem) (g : List (List GNode)) (v u : Value) (h : Rd rItems w l [v]) (h' : Rd rNodess w g [u]) : Calls Tryz.prog 195 #[v, u] w (RetV w (Made fInts w.heap.size (approvL l g))) := by
  rcases Bool.eq_false_or_eq_true (isPoll l g) with hP | hP
  · have := S_ApprovalScores_yes w l g v u h h' hP
    unfold approvL; rw [if_pos hP]; exact this
  · have := S_ApprovalScores_no w l g v u h h' hP
    unfold approvL; rw [hP]; exact this
end Go.Proofs.YtpihighajaeabaaGreat
