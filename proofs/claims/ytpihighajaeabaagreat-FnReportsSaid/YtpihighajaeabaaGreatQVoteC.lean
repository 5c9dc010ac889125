/- Scores, in both programs. -/
import Derived.Test.YtpihighajaeabaaGreatQVoteB
namespace Go.Proofs.YtpihighajaeabaaGreat
open Go.RowKit
set_option linter.unusedVariables false
set_option linter.unusedSimpArgs false
theorem rel_turn {e : List GNode} {p x : GItem} (hE : isExpr e = true) (hp : isItem p = true) (hx : isItem x = true) : relIn e p (-1) x = decide (cmpBy e p x = 1) := by
  unfold relIn
  rw [(cmpBy_PO hE).anti p x hp hx]
  unfold neg2
  rw [Bool.eq_iff_iff, decide_eq_true_eq, decide_eq_true_eq]
  split <;> omega
set_option maxRecDepth 100000 in
set_option maxHeartbeats 3200000 in
theorem S_DominatedBy_yes (w : World) (l : List GItem) (e : List GNode) (id : Int) (v u : Value) (h : Rd rItems w l [v]) (h' : Rd rNodes w e [u]) (hB : areBoth l e = true) (j : Nat) (p : GItem) (hf : findIdx l id = (j : Int)) (hp : l[j]? = some p) :
    Calls Tryz.prog 242 #[v, u, .int .i64 id] w (RetV w (Made fInts w.heap.size (idsOf (relIn e p (-1)) l))) := by
  obtain ⟨i0, hi, hz0, hz1, hz2⟩ := info_parts info_int
  obtain ⟨A, n, c, rfl, L0, Lc, Lm⟩ := rSl_open h
  unfold maxLen at Lm
  have L := Lib.hid L0
  clear L0
  have HB := Lib.hid hB
  have HP := Lib.hid (areItems_mem (areBoth_items hB) (List.mem_of_getElem? hp))
  have n16 : n ≤ 16 := by rw [L.out]; exact areItems_len (areBoth_items hB)
  have hjn : j < n := by rw [L.out]; exact (List.getElem?_eq_some_iff.1 hp).1
  obtain ⟨ba, oa, Ap, cp, rfl, _, hc0, hc1, hin⟩ := rItems_at h hp
  rw [isItem_len HP.out] at hc1 hin
  have j1 : (0 : Int) ≤ (j : Int) := by omega
  have j2 : (j : Int) < (n : Int) := by omega
  have j3 : ¬ ((j : Int) < 0) := by omega
  have hv0 := fSl_empty (e := 3) (sz := 1) (R := fInt) w
  have A0 : Bw w (w.alloc (.cells #[] 3)) := (Bw.refl w).alloc _
  have hcall := fun W (B : Bw w W) => S_FindItem W l id _ (h.bw rItems_good B)
  rw [hf] at hcall
  have HH := Lib.hid h
  clear hB hp hf h
  go_enter Tryz.func242, Tryz.ntmps242
  go_wp2_with fail
  refine (hcall _ A0).mono ?_
  rintro e w1 ⟨rfl, hb1⟩
  have B1 := A0.then hb1
  have hv2 := (fInts_good (B := w.heap.size)).bw hb1 A0.size hv0
  clear hcall hv0 hb1 A0
  go_wp2
  go_loopg [7, 9] n (fun g s i w' => ∃ (k : Nat) (F : List Nat), k ≤ n ∧ g = n - k ∧ i = .int .i64 k ∧ fInts w' (idsTo (relIn e p (-1)) l k) [s] F ∧ Fresh w.heap.size F ∧ Bw w w')
  case atStart => exact ⟨0, _, by omega, rfl, rfl, hv2, ⟨by simp, by simp⟩, B1⟩
  case round =>
    clear hv2 B1
    obtain ⟨k, F, hk, rfl, rfl, hv, hF, hb0⟩ := hrel
    by_cases hlt : k < n
    · go_wp2_with fail
      refine (S_l7Fine _ l e _ _ (HH.out.bw rItems_good hb0) (h'.bw rNodes_good hb0)).mono ?_
      rintro e wo ⟨rfl, hbo⟩
      rw [HB.out]
      have hb := hb0.then hbo
      obtain ⟨x, hx⟩ := get_of_lt (xs := l) (k := k) (by have := L.out; omega)
      obtain ⟨b2, o2, Ax, cx, eA, _, hd0, hd1, hin2⟩ := rItems_at HH.out hx
      injection eA with eA
      injection eA with eA1 eA2
      subst eA1 eA2
      have HPx := Lib.hid (areItems_mem (areBoth_items HB.out) (List.mem_of_getElem? hx))
      have hlen := isItem_len HPx.out
      rw [hlen] at hd1 hin2
      have i1 : (0 : Int) ≤ (k : Int) := by omega
      have i2 : (k : Int) < (n : Int) := by omega
      replace hd0 := hb.cell hd0
      replace hd1 := hb.cell hd1
      have HYES := Lib.hid (fun hf => idsTo_yes (f := relIn e p (-1)) hx hf)
      have HNO := Lib.hid (fun hf => idsTo_no (f := relIn e p (-1)) hx hf)
      have hd2 := hb.cell hc0
      have hd3 := hb.cell hc1
      have s0 := since_cell hd0
      have s1 := since_cell hd1
      have s2 := since_cell hd2
      have s3 := since_cell hd3
      have hcc : ∀ s : Since wo, Calls Tryz.prog 85 #[u, .agg #[.int .i64 p.id, .slice Ap 3 cp], .agg #[.int .i64 x.id, .slice Ax 3 cx]] s.1 (Ret s.1 (.int .i64 (cmpBy e p x))) := fun s => S_l5Compare _ e p x _ _ _ (h'.bw rNodes_good (hb.then s.bw)) (Rd.bw rInts_good hin (hb.then s.bw)) (Rd.bw rInts_good hin2 (hb.then s.bw)) (areBoth_expr HB.out) HP.out HPx.out
      have hvA := (fInts_good (B := w.heap.size)).bw hbo hb0.size hv
      obtain ⟨r, hr⟩ : ∃ r, r = cmpBy e p x := ⟨_, rfl⟩
      have HR := Lib.hid (show relIn e p (-1) x = decide (r = 1) by rw [hr]; exact rel_turn (areBoth_expr HB.out) HP.out HPx.out)
      rw [← hr] at hcc
      clear hx hlen hv hr hd2 hd3
      by_cases hr1 : r = 1
      · have e1 : (r == 1) = true := by simpa using hr1
        have HB2 := Lib.hid (HYES.out (by rw [HR.out]; simpa using hr1))
        clear hr1 HYES HNO HR
        go_wp2
        refine wp_region_since (by kernel_rfl) (by kernel_rfl) ?_
        repeat (first | go_big_quiet_skip | (go_big_quiet_want; go_big_quiet_op; first | go_big_quiet_on | (apply Exists.intro; refine ⟨fun _ => ?_, ?_⟩; (· (((first | (go_at_call 85; exact Calls_since (hcc _)))))); go_big_quiet_on)))
        refine wpQuiet_nil ?_
        rintro ⟨wq, hbq⟩
        dsimp only at *
        have hbw := hb.then hbq
        replace hd0 := hbq.cell hd0
        have HBL := Lib.hid (idsTo_len (f := relIn e p (-1)) (l := l) (k := k))
        have hv1 := (fInts_good (B := w.heap.size)).bw hbq hb.size hvA
        have hFm := (fInts_good (B := 0)).lt hv1
        have hvW := (fInts_good (B := w.heap.size)).bw ((Bw.refl wq).alloc (.cells #[.int .i64 x.id] 3)) hbw.size hv1
        have hbW := hbw.alloc (.cells #[.int .i64 x.id] 3)
        have hcl := cell_one_new wq (.int .i64 x.id) 3
        have hbs := hbw.size
        clear hv1 hvA hcc s0 s1 s2 s3 hd1
        go_wp2_with (at_builtin; refine wpList_push _ rfl (.tmp 40) (.tmp 46) 26 rfl w 3 i0 _ 1 8 Tryz.underlying26 hi hz0 hz1 hz2 rfl (by omega) fInt_good _ (idsTo (relIn e p (-1)) l k) F rfl hvW hF ⟨wq.heap.size, 0, none⟩ 1 rfl x.id [.int .i64 x.id] [] hcl ⟨rfl, rfl⟩ rfl _ hFm Fresh.nil hbs (by have := HBL.out; omega) (by have := HBL.out; omega) hbW ?_; intro v' w' F' hv' hF' hb')
        go_roundg (n - (k + 1))
        case measure => omega
        case rel => exact ⟨k + 1, F', by omega, rfl, by go_num, by rw [HB2.out]; exact hv', hF', hb'⟩
      · have e1 : (r == 1) = false := by simpa using hr1
        have HB2 := Lib.hid (HNO.out (by rw [HR.out]; simpa using hr1))
        clear hr1 HYES HNO HR
        go_wp2
        refine wp_region_since (by kernel_rfl) (by kernel_rfl) ?_
        repeat (first | go_big_quiet_skip | (go_big_quiet_want; go_big_quiet_op; first | go_big_quiet_on | (apply Exists.intro; refine ⟨fun _ => ?_, ?_⟩; (· (((first | (go_at_call 85; exact Calls_since (hcc _)))))); go_big_quiet_on)))
        refine wpQuiet_nil ?_
        rintro ⟨wq, hbq⟩
        dsimp only at *
        have hbw := hb.then hbq
        have hv1 := (fInts_good (B := w.heap.size)).bw hbq hb.size hvA
        clear hvA hcc s0 s1 s2 s3 hd1 hd0
        go_wp2
        go_roundg (n - (k + 1))
        case measure => omega
        case rel => exact ⟨k + 1, F, by omega, rfl, by go_num, by rw [HB2.out]; exact hv1, hF, hbw⟩
    · obtain rfl : k = n := by omega
      rw [idsTo_end (by rw [← L.out]; exact Nat.le_refl _)] at hv
      go_wp2
      go_ret
      exact ⟨_, rfl, ⟨F, hv, hF⟩, hb0⟩
set_option maxRecDepth 100000 in
set_option maxHeartbeats 1600000 in
theorem S_DominatedBy_no (w : World) (l : List GItem) (e : List GNode) (id : Int) (v u : Value) (h : Rd rItems w l [v]) (h' : Rd rNodes w e [u]) (hno : changeOk l e id = false) :
    Calls Tryz.prog 242 #[v, u, .int .i64 id] w (RetV w (Made fInts w.heap.size [])) := by
  obtain ⟨A, n, c, rfl, L0, Lc, Lm⟩ := rSl_open h
  unfold maxLen at Lm
  have L := Lib.hid L0
  clear L0
  have hv0 := fSl_empty (e := 3) (sz := 1) (R := fInt) w
  have A0 : Bw w (w.alloc (.cells #[] 3)) := (Bw.refl w).alloc _
  have hcall := fun W (B : Bw w W) => S_FindItem W l id _ (h.bw rItems_good B)
  have HNO := Lib.hid (change_neg hno)
  obtain ⟨K, hK⟩ : ∃ K, K = findIdx l id := ⟨_, rfl⟩
  rw [← hK] at hcall HNO
  clear hno hK
  go_enter Tryz.func242, Tryz.ntmps242
  go_wp2_with fail
  refine (hcall _ A0).mono ?_
  rintro e w1 ⟨rfl, hb1⟩
  have B1 := A0.then hb1
  have hv2 := (fInts_good (B := w.heap.size)).bw hb1 A0.size hv0
  clear hcall hv0
  have HH := Lib.hid h
  go_wp2
  go_loopg [7, 9] 0 (fun g s i w' => g = 0 ∧ i = .int .i64 0 ∧ fInts w' [] [s] [w.heap.size] ∧ Bw w w')
  case atStart => exact ⟨rfl, rfl, hv2, B1⟩
  case round =>
    clear hv2 B1 h
    obtain ⟨rfl, rfl, hv, hb⟩ := hrel
    have h := HH.out
    by_cases h0 : 0 < n
    · have k0 : (0 : Int) < (n : Int) := by omega
      by_cases hK : K < 0
      · have k1 : ¬ (0 ≤ K) := by omega
        clear hK
        go_wp2
        go_ret
        exact ⟨_, rfl, ⟨_, hv, ⟨by simp, by simp⟩⟩, hb⟩
      · have k1 : 0 ≤ K := by omega
        clear hK
        have hE : Hid (areBoth l e = false) := by
          rcases Bool.eq_false_or_eq_true (areBoth l e) with h1 | h1
          · have := HNO.out h1; omega
          · exact Lib.hid h1
        go_wp2_with fail
        refine (S_l7Fine _ l e _ _ (HH.out.bw rItems_good hb) (h'.bw rNodes_good hb)).mono ?_
        rintro e w2 ⟨rfl, hb2⟩
        rw [hE.out]
        have hv1 := (fInts_good (B := w.heap.size)).bw hb2 hb.size hv
        have B2 := hb.then hb2
        go_wp2
        go_ret
        exact ⟨_, rfl, ⟨_, hv1, ⟨by simp, by simp⟩⟩, B2⟩
    · obtain rfl : n = 0 := by omega
      go_wp2
      go_ret
      exact ⟨_, rfl, ⟨_, hv, ⟨by simp, by simp⟩⟩, hb⟩
theorem S_DominatedBy (w : World) (l : List GItem) (e : List GNode) (id : Int) (v u : Value) (h : Rd rItems w l [v]) (h' : Rd rNodes w e [u]) :
    Calls Tryz.prog 242 #[v, u, .int .i64 id] w (RetV w (Made fInts w.heap.size (relM l e id (-1)))) := by
  rcases change_cases l e id with hc | ⟨hB, j, p, hf, hp, _⟩
  · rw [relM_no hc]; exact S_DominatedBy_no w l e id v u h h' hc
  · rw [relM_yes hB hf hp]; exact S_DominatedBy_yes w l e id v u h h' hB j p hf hp
set_option maxHeartbeats 400000 in
theorem I_DominatedBy (w : World) (l : List GItem) (e : List GNode) (id : Int) (v u : Value) (h : Rd rItems w l [v]) (h' : Rd rNodes w e [u]) :
    Calls Tryz.prog 121 #[v, u, .int .i64 id] w (RetV w (Made fInts w.heap.size (relM l e id (-1)))) := by
  go_enter Tryz.func121, Tryz.ntmps121
  go_wp2_with fail
  refine (I_related _ l e id (-1) _ _ h h').mono ?_
  rintro e w1 ⟨v1, rfl, ⟨F1, o1, f1⟩, hb1⟩
  go_wp2
  go_ret
  exact ⟨_, rfl, ⟨F1, o1, f1⟩, hb1⟩
theorem wrap_near {x : Int} (h : -1000000 ≤ x ∧ x ≤ 1000000) : IntKind.i64.wrap x = x := by
  simp [IntKind.wrap, IntKind.bits, IntKind.signed]; omega
theorem borda_each (l : List GItem) (x : GItem) (hl : l.length ≤ 16) (e : List GNode) : -16 ≤ ((relM l e x.id (-1)).length : Int) - ((relM l e x.id 1).length : Int) ∧ ((relM l e x.id (-1)).length : Int) - ((relM l e x.id 1).length : Int) ≤ 16 := by
  have h1 := relM_len l e x.id (-1)
  have h2 := relM_len l e x.id 1
  omega
set_option maxRecDepth 100000 in
set_option maxHeartbeats 6400000 in
theorem I_BordaScores_yes (w : World) (l : List GItem) (g : List (List GNode)) (v u : Value) (h : Rd rItems w l [v]) (h' : Rd rNodess w g [u]) (hP : isPoll l g = true) : Calls Tryz.prog 190 #[v, u] w (RetV w (Made fInts w.heap.size (l.map (bordaOf l g)))) := by
  obtain ⟨i0, hi, hz0, hz1, hz2⟩ := info_parts info_int
  have A0 : Bw w (w.alloc (.cells #[] 3)) := (Bw.refl w).alloc _
  have hv0 := fSl_empty (e := 3) (sz := 1) (R := fInt) w
  have hcall0 := I_isPoll _ l g _ _ (h.bw rItems_good A0) (h'.bw rNodess_good A0)
  rw [hP] at hcall0
  obtain ⟨A, n, c, rfl, L0, Lc, Lm⟩ := rSl_open h
  unfold maxLen at Lm
  have L := Lib.hid L0
  clear L0
  obtain ⟨A2, n2, c2, rfl, L20, L2c, L2m⟩ := rSl_open h'
  unfold maxLen at L2m
  have L2 := Lib.hid L20
  clear L20
  have n16 : n ≤ 16 := by rw [L.out]; exact areItems_len (isPoll_items hP)
  have n5 : n2 ≤ 5 := by rw [L2.out]; exact (areVoters_len (isPoll_voters hP)).2
  have hl16 : Hid (l.length ≤ 16) := Lib.hid (by rw [← L.out]; exact n16)
  have HIT := Lib.hid (fun W (B : Bw w W) => h.bw rItems_good B)
  have HH := Lib.hid h
  have HH' := Lib.hid h'
  clear hP h h'
  go_enter Tryz.func190, Tryz.ntmps190
  go_wp2_with fail
  refine (hcall0).mono ?_
  rintro e w1 ⟨rfl, hb1⟩
  have B1 := A0.then hb1
  have hv1 := (fInts_good (B := w.heap.size)).bw hb1 A0.size hv0
  clear hcall0 hv0 hb1
  go_wp2
  go_loopg [5, 19] n (fun gh s i w' => ∃ (k : Nat) (F : List Nat), k ≤ n ∧ gh = n - k ∧ i = .int .i64 k ∧ fInts w' (mapTo (bordaOf l g) l k) [s] F ∧ Fresh w.heap.size F ∧ Bw w w')
  case atStart => exact ⟨0, _, by omega, rfl, rfl, hv1, ⟨by simp, by simp⟩, B1⟩
  case round =>
    clear hv1 B1
    obtain ⟨k, F, hk, rfl, rfl, hv, hF, hb⟩ := hrel
    rename World => wo
    by_cases hlt : k < n
    · have h := HH.out
      obtain ⟨x, hx⟩ := get_of_lt (xs := l) (k := k) (by have := L.out; omega)
      obtain ⟨ba, oa, Ax, cx, rfl, _, c0, c1, hix⟩ := rItems_at h hx
      replace c0 := hb.cell c0
      replace c1 := hb.cell c1
      have i1 : (0 : Int) ≤ (k : Int) := by omega
      have i2 : (k : Int) < (n : Int) := by omega
      have HMS := Lib.hid (mapTo_succ (f := bordaOf l g) hx)
      obtain ⟨M, hM⟩ : ∃ M, M = x.vals.length := ⟨_, rfl⟩
      rw [← hM] at c1
      have A1 := (Bw.refl wo).alloc (.cells #[.int .i64 x.id, .slice Ax M cx] 30)
      have p0 : (wo.alloc (.cells #[.int .i64 x.id, .slice Ax M cx] 30)).cell? ⟨wo.heap.size, 0, none⟩ = some (.int .i64 x.id) := by go_simp
      obtain ⟨W1, hW1⟩ : ∃ W1, W1 = wo.alloc (.cells #[.int .i64 x.id, .slice Ax M cx] 30) := ⟨_, rfl⟩
      rw [← hW1] at A1 p0
      have HW1 := Lib.hid hW1
      have HE := Lib.hid (sumTo_bound (g := g) (borda_each l x hl16.out))
      have HBO := Lib.hid (show bordaOf l g x = sumTo (fun e => ((relM l e x.id (-1)).length : Int) - ((relM l e x.id 1).length : Int)) g g.length from rfl)
      have hv2 := (fInts_good (B := w.heap.size)).bw A1 hb.size hv
      have HL := Lib.hid (mapTo_len (bordaOf l g) l k)
      clear hx hix hM hW1 h hv
      go_wp2
      rw [← HW1.out]
      go_loopg [8, 25] n2 (fun gh s i w' => ∃ (j : Nat) (q : Int), j ≤ n2 ∧ gh = n2 - j ∧ i = .int .i64 j ∧ s = .int .i64 q ∧ Hid (q = sumTo (fun e => ((relM l e x.id (-1)).length : Int) - ((relM l e x.id 1).length : Int)) g j) ∧ Bw W1 w')
      case atStart => exact ⟨0, 0, by omega, rfl, rfl, rfl, Lib.hid rfl, Bw.refl _⟩
      case round =>
        obtain ⟨j, q, hj, rfl, rfl, rfl, HQ, hbj⟩ := hrel
        have hbw := hb.then (A1.then hbj)
        replace p0 := hbj.cell p0
        by_cases hlt2 : j < n2
        · have h' := HH'.out
          obtain ⟨e, he⟩ := get_of_lt (xs := g) (k := j) (by have := L2.out; omega)
          obtain ⟨b2, o2, Ae, ce, rfl, _, d0, hie⟩ := rNodess_at h' he
          replace d0 := hbw.cell d0
          have i3 : (0 : Int) ≤ (j : Int) := by omega
          have i4 : (j : Int) < (n2 : Int) := by omega
          have hq1 := HE.out j
          rw [← HQ.out] at hq1
          have hq2 := HE.out (j + 1)
          have HS := Lib.hid (sumTo_succ (f := fun e => ((relM l e x.id (-1)).length : Int) - ((relM l e x.id 1).length : Int)) he)
          have hr1 := relM_len l e x.id (-1)
          have hr2 := relM_len l e x.id 1
          rw [← L.out] at hr1 hr2
          have D1 : Bw wr wr.drew := (Bw.refl wr).drew
          have t0 := D1.cell p0
          have BD := hbw.then D1
          have K1 := Lib.hid (fun W (B : Bw wr.drew W) => I_DominatedBy W l e x.id _ _ (HIT.out W (BD.then B)) (Rd.bw rNodes_good hie (BD.then B)))
          have K2 := Lib.hid (fun W (B : Bw wr.drew W) => I_DominatorsOf W l e x.id _ _ (HIT.out W (BD.then B)) (Rd.bw rNodes_good hie (BD.then B)))
          have hQ := Bw.refl wr.drew
          obtain ⟨ME, hME⟩ : ∃ ME, ME = e.length := ⟨_, rfl⟩
          rw [← hME] at d0 K1 K2
          have HSS := Lib.hid (show q + (((relM l e x.id (-1)).length : Int) - ((relM l e x.id 1).length : Int)) = sumTo (fun e => ((relM l e x.id (-1)).length : Int) - ((relM l e x.id 1).length : Int)) g (j + 1) by rw [HS.out, HQ.out])
          clear he hie hME h' hq2
          go_wp2_with fail
          go_region_held3 (fun w' => w'.cell? ⟨wo.heap.size, 0, none⟩ = some (.int .i64 x.id)) (first | exact hQ.cell t0)
            (first
              | (go_at_call 121; refine (K1.out _ hQ).mono ?_; rintro e' w5 ⟨v5, rfl, ⟨F5, o5, f5⟩, hb5⟩; obtain ⟨A5, c5, rfl, _⟩ := rSl_shape (fInts_Rd o5); replace hQ := hQ.then hb5; clear o5 f5 hb5)
              | (go_at_call 105; refine (K2.out _ hQ).mono ?_; rintro e' w6 ⟨v6, rfl, ⟨F6, o6, f6⟩, hb6⟩; obtain ⟨A6, c6, rfl, _⟩ := rSl_shape (fInts_Rd o6); replace hQ := hQ.then hb6; clear o6 f6 hb6)
              | fail)
          all_goals
            have hb2 := hbj.then (D1.then hQ)
            have h' := HH'.out
            obtain ⟨m1, hm1⟩ : ∃ m1, m1 = (relM l e x.id (-1)).length := ⟨_, rfl⟩
            obtain ⟨m2, hm2⟩ : ∃ m2, m2 = (relM l e x.id 1).length := ⟨_, rfl⟩
            have HS3 := HSS.out
            rw [← hm1] at hr1 ⊢
            rw [← hm2] at hr2 ⊢
            rw [← hm1, ← hm2] at HS3
            have HS4 := Lib.hid HS3
            clear hm1 hm2 HS3 hQ
            go_wp2
            go_roundg (n2 - (j + 1))
            case measure => omega
            case rel => exact ⟨j + 1, q + ((m1 : Int) - (m2 : Int)), by omega, rfl, by go_num, by rw [wrap_near (x := q + (m1 : Int)) (by omega), wrap_near (by omega), Int.add_sub_assoc], HS4, hb2⟩
        · obtain rfl : j = n2 := by omega
          have HF := Lib.hid (show q = bordaOf l g x by rw [HBO.out, HQ.out, ← L2.out])
          clear HQ
          have hv3 := (fInts_good (B := w.heap.size)).bw hbj (hb.then A1).size hv2
          have hAl := (Bw.refl wr).alloc (.cells #[.int .i64 q] 3)
          have hvW := (fInts_good (B := w.heap.size)).bw hAl hbw.size hv3
          have hFm := (fInts_good (B := 0)).lt hv3
          have hbW := hbw.then hAl
          have hcl := cell_one_new wr (.int .i64 q) 3
          have hbs := hbw.size
          have h := HH.out
          clear hv2 hv3
          go_wp2_with (at_builtin; refine wpList_push _ rfl (.tmp 45) (.tmp 47) 26 rfl w 3 i0 _ 1 8 Tryz.underlying26 hi hz0 hz1 hz2 rfl (by omega) fInt_good _ (mapTo (bordaOf l g) l k) F rfl hvW hF ⟨wr.heap.size, 0, none⟩ 1 rfl q [.int .i64 q] [] hcl ⟨rfl, rfl⟩ rfl _ hFm Fresh.nil hbs (by have := HL.out; omega) (by have := HL.out; omega) hbW ?_; intro v' w' F' hv' hF' hb')
          go_roundg (n - (k + 1))
          case measure => omega
          case rel => exact ⟨k + 1, F', by omega, rfl, by go_num, by rw [HMS.out, ← HF.out]; exact hv', hF', hb'⟩
    · obtain rfl : k = n := by omega
      rw [mapTo_end (by rw [← L.out]; exact Nat.le_refl _)] at hv
      go_wp2
      go_ret
      exact ⟨_, rfl, ⟨F, hv, hF⟩, hb⟩
end Go.Proofs.YtpihighajaeabaaGreat
