/- The best couples in the program. -/
import Derived.Test.YtfffklkiikmieaaQSlicesI
import Derived.Test.YtfffklkiikmieaaQCodes
namespace Go.Proofs.Ytfffklkiikmieaa
open Go.RowKit
set_option linter.unusedVariables false
set_option linter.unusedSimpArgs false
set_option maxRecDepth 100000 in
set_option maxHeartbeats 6400000 in
theorem I_bestOf (w : World) (a b : List GItem) (p q : List GNode) (l : List GPair) (va vb vp vq vl : Value) (ha : Rd rItems w a [va]) (hb0 : Rd rItems w b [vb]) (hp : Rd rNodes w p [vp]) (hq : Rd rNodes w q [vq]) (hl : Rd rPairs w l [vl])
    (hn : l.length ≤ 1048576) (hfit : ∀ c ∈ l, fitC a b c) (hEp : isExpr p = true) (hEq : isExpr q = true) : Calls Try.prog 90 #[va, vb, vp, vq, vl] w (RetV w (Made fCouples w.heap.size (bestC a b p q l))) := by
  obtain ⟨i0, hi, hz0, hz1, hz2⟩ := info_parts info_Couple
  obtain ⟨A, n, c0, rfl, L0, Lc, Lm⟩ := rSl_open hl
  unfold maxLen at Lm
  have L := Lib.hid L0
  clear L0
  obtain ⟨Aa, na, ca, rfl, La0, Lac, Lam⟩ := rSl_open ha
  unfold maxLen at Lam
  have La := Lib.hid La0
  clear La0
  obtain ⟨Ab, nb, cb, rfl, Lb0, Lbc, Lbm⟩ := rSl_open hb0
  unfold maxLen at Lbm
  have Lb := Lib.hid Lb0
  clear Lb0
  rw [← L.out] at hn
  have HFIT := Lib.hid hfit
  have HEp := Lib.hid hEp
  have HEq := Lib.hid hEq
  have hv0 := fSl_empty (e := 83) (sz := 2) (R := fPair) w
  clear hfit hEp hEq
  go_enter Try.func90, Try.ntmps90
  go_wp2
  go_loopg [11, 22] n (fun g s i w' => ∃ (k : Nat) (F : List Nat), k ≤ n ∧ g = n - k ∧ i = .int .i64 k ∧ fCouples w' (bestCTo a b p q l k) [s] F ∧ Fresh w.heap.size F ∧ Bw w w')
  case atStart => exact ⟨0, _, by omega, rfl, rfl, hv0, ⟨by simp, by simp⟩, (Bw.refl w).alloc _⟩
  case round =>
    clear hv0
    obtain ⟨k, F, hk, rfl, rfl, hv, hF, hb⟩ := hrel
    by_cases hlt : k < n
    · obtain ⟨c, hc⟩ := get_of_lt (xs := l) (k := k) (by have := L.out; omega)
      obtain ⟨ba, oa, rfl, _, hc0, hc1⟩ := rPairs_at hl hc
      obtain ⟨⟨hIa, hIb⟩, hex, hey⟩ := HFIT.out c (List.mem_of_getElem? hc)
      obtain ⟨k2, x2, hk2, hx2, hi2⟩ := itemOf_at hex
      obtain ⟨m2, y2, hm2, hy2, hj2⟩ := itemOf_at hey
      have HIa := Lib.hid hIa
      have HIb := Lib.hid hIb
      have i1 : (0 : Int) ≤ (k : Int) := by omega
      have i2 : (k : Int) < (n : Int) := by omega
      replace hc0 := hb.cell hc0
      replace hc1 := hb.cell hc1
      have hbx := World.block_lt_of_cell? _ _ hc0
      have HYES := Lib.hid (fun hf => bestCTo_yes (a := a) (b := b) (p := p) (q := q) hc hf)
      have HNO := Lib.hid (fun hf => bestCTo_no (a := a) (b := b) (p := p) (q := q) hc hf)
      have HL := Lib.hid hl
      have A1 : Bw wr (wr.alloc (.cells #[.int .i64 c.fst, .int .i64 c.snd] 83)) := (Bw.refl wr).alloc _
      have hbA := hb.then A1
      have hvA := (fCouples_good (B := w.heap.size)).bw A1 hb.size hv
      have hFm := (fCouples_good (B := 0)).lt hvA
      have kx0 : (wr.alloc (.cells #[.int .i64 c.fst, .int .i64 c.snd] 83)).cell? ⟨wr.heap.size, 0, none⟩ = some (.int .i64 c.fst) := by go_simp
      have kx1 : (wr.alloc (.cells #[.int .i64 c.fst, .int .i64 c.snd] 83)).cell? ⟨wr.heap.size, 1, none⟩ = some (.int .i64 c.snd) := by go_simp
      obtain ⟨W, hW⟩ : ∃ W, W = wr.alloc (.cells #[.int .i64 c.fst, .int .i64 c.snd] 83) := ⟨_, rfl⟩
      rw [← hW] at kx0 kx1 hbA hvA hFm
      have HW := Lib.hid hW
      have HX2 := Lib.hid (show findIdx a c.fst = (k2 : Int) ∧ a[k2]? = some x2 ∧ itemOf a c.fst = x2 from ⟨hk2, hx2, hi2⟩)
      have HY2 := Lib.hid (show findIdx b c.snd = (m2 : Int) ∧ b[m2]? = some y2 ∧ itemOf b c.snd = y2 from ⟨hm2, hy2, hj2⟩)
      clear hc hl hW A1 hv hIa hIb hex hey hk2 hx2 hi2 hm2 hy2 hj2
      go_wp2
      go_loopg [14, 28] n (fun g t i2 w' => ∃ (j : Nat) (qb : Bool), j ≤ n ∧ g = n - j ∧ i2 = .int .i64 j ∧ t = .bool qb ∧ Hid (qb = (l.take j).any fun d => beatsC a b p q d c) ∧ Bw W w')
      case atStart => exact ⟨0, false, by omega, rfl, rfl, rfl, Lib.hid rfl, by rw [HW.out]; exact Bw.refl _⟩
      case round =>
        obtain ⟨j, qb, hj, rfl, rfl, rfl, HQ, hbj⟩ := hrel
        have hbw := hbA.then hbj
        by_cases hlt2 : j < n
        · obtain ⟨d, hd⟩ := get_of_lt (xs := l) (k := j) (by have := L.out; omega)
          obtain ⟨b2, o2, eA, _, hd0, hd1⟩ := rPairs_at HL.out hd
          injection eA with eA
          injection eA with eA1 eA2
          subst eA1 eA2
          obtain ⟨_, hex, hey⟩ := HFIT.out d (List.mem_of_getElem? hd)
          obtain ⟨k1, x1, hk1, hx1, hi1⟩ := itemOf_at hex
          obtain ⟨m1, y1, hm1, hy1, hj1⟩ := itemOf_at hey
          have HS := Lib.hid (any_take_succ (fun d => beatsC a b p q d c) hd)
          have HBC := Lib.hid (show beatsC a b p q d c = decide (comb 1 (cmpBy p x1 x2) (cmpBy q y1 y2) = 1) by rw [beatsC, hi1, hj1, HX2.out.2.2, HY2.out.2.2])
          have I1 := Lib.hid (areItems_mem HIa.out (List.mem_of_getElem? hx1))
          have I2 := Lib.hid (areItems_mem HIa.out (List.mem_of_getElem? HX2.out.2.1))
          have J1 := Lib.hid (areItems_mem HIb.out (List.mem_of_getElem? hy1))
          have J2 := Lib.hid (areItems_mem HIb.out (List.mem_of_getElem? HY2.out.2.1))
          have lk1 : k1 < na := by rw [La.out]; exact (List.getElem?_eq_some_iff.1 hx1).1
          have lk2 : k2 < na := by rw [La.out]; exact (List.getElem?_eq_some_iff.1 HX2.out.2.1).1
          have lm1 : m1 < nb := by rw [Lb.out]; exact (List.getElem?_eq_some_iff.1 hy1).1
          have lm2 : m2 < nb := by rw [Lb.out]; exact (List.getElem?_eq_some_iff.1 HY2.out.2.1).1
          obtain ⟨bA, oA, X1, cX1, rfl, _, u0, u1, uin⟩ := rItems_at ha hx1
          obtain ⟨bA', oA', X2, cX2, eA, _, v0, v1, vin⟩ := rItems_at ha HX2.out.2.1
          injection eA with eA
          injection eA with eA1 eA2
          subst eA1 eA2
          obtain ⟨bB, oB, Y1, cY1, rfl, _, s0', s1', sin⟩ := rItems_at hb0 hy1
          obtain ⟨bB', oB', Y2, cY2, eA, _, t0, t1, tin⟩ := rItems_at hb0 HY2.out.2.1
          injection eA with eA
          injection eA with eA1 eA2
          subst eA1 eA2
          replace hd0 := hbw.cell hd0
          replace hd1 := hbw.cell hd1
          have j1 : (0 : Int) ≤ (j : Int) := by omega
          have j2 : (j : Int) < (n : Int) := by omega
          have a1 : (0 : Int) ≤ (k1 : Int) ∧ (k1 : Int) < (na : Int) := by omega
          have a2 : (0 : Int) ≤ (k2 : Int) ∧ (k2 : Int) < (na : Int) := by omega
          have b1 : (0 : Int) ≤ (m1 : Int) ∧ (m1 : Int) < (nb : Int) := by omega
          have b2' : (0 : Int) ≤ (m2 : Int) ∧ (m2 : Int) < (nb : Int) := by omega
          obtain ⟨a1a, a1b⟩ := a1
          obtain ⟨a2a, a2b⟩ := a2
          obtain ⟨b1a, b1b⟩ := b1
          obtain ⟨b2a, b2b⟩ := b2'
          have C1 : Bw wr (wr.alloc (.cells #[.int .i64 d.fst, .int .i64 d.snd] 83)) := (Bw.refl wr).alloc _
          have n0 : (wr.alloc (.cells #[.int .i64 d.fst, .int .i64 d.snd] 83)).cell? ⟨wr.heap.size, 0, none⟩ = some (.int .i64 d.fst) := by go_simp
          have n1 : (wr.alloc (.cells #[.int .i64 d.fst, .int .i64 d.snd] 83)).cell? ⟨wr.heap.size, 1, none⟩ = some (.int .i64 d.snd) := by go_simp
          obtain ⟨W1, hW1⟩ : ∃ W1, W1 = wr.alloc (.cells #[.int .i64 d.fst, .int .i64 d.snd] 83) := ⟨_, rfl⟩
          rw [← hW1] at C1 n0 n1
          have hb1 := hbw.then C1
          have HW1 := Lib.hid hW1
          have f1 : ∀ W2, Bw w W2 → Calls Try.prog 103 #[.slice (some ⟨bA, oA, none⟩) na ca, .int .i64 d.fst] W2 (Ret W2 (.int .i64 (k1 : Int))) := fun W2 h => by rw [← hk1]; exact I_FindItem W2 a d.fst _ (ha.bw rItems_good h)
          have f2 : ∀ W2, Bw w W2 → Calls Try.prog 103 #[.slice (some ⟨bA, oA, none⟩) na ca, .int .i64 c.fst] W2 (Ret W2 (.int .i64 (k2 : Int))) := fun W2 h => by rw [← HX2.out.1]; exact I_FindItem W2 a c.fst _ (ha.bw rItems_good h)
          have g1 : ∀ W2, Bw w W2 → Calls Try.prog 103 #[.slice (some ⟨bB, oB, none⟩) nb cb, .int .i64 d.snd] W2 (Ret W2 (.int .i64 (m1 : Int))) := fun W2 h => by rw [← hm1]; exact I_FindItem W2 b d.snd _ (hb0.bw rItems_good h)
          have g2 : ∀ W2, Bw w W2 → Calls Try.prog 103 #[.slice (some ⟨bB, oB, none⟩) nb cb, .int .i64 c.snd] W2 (Ret W2 (.int .i64 (m2 : Int))) := fun W2 h => by rw [← HY2.out.1]; exact I_FindItem W2 b c.snd _ (hb0.bw rItems_good h)
          have cc1 : ∀ W2, Bw w W2 → Calls Try.prog 145 _ W2 (Ret W2 (.int .i64 (cmpBy p x1 x2))) := fun W2 h => I_compareBy W2 p x1 x2 vp _ _ (hp.bw rNodes_good h) (Rd.bw rInts_good uin h) (Rd.bw rInts_good vin h) HEp.out I1.out I2.out
          have cc2 : ∀ W2, Bw w W2 → Calls Try.prog 145 _ W2 (Ret W2 (.int .i64 (cmpBy q y1 y2))) := fun W2 h => I_compareBy W2 q y1 y2 vq _ _ (hq.bw rNodes_good h) (Rd.bw rInts_good sin h) (Rd.bw rInts_good tin h) HEq.out J1.out J2.out
          have cd1 := cmpBy_codeC (p := x1) (q := x2) HEp.out
          have cd2 := cmpBy_codeC (p := y1) (q := y2) HEq.out
          obtain ⟨r1, hr1⟩ : ∃ r1, r1 = cmpBy p x1 x2 := ⟨_, rfl⟩
          obtain ⟨r2, hr2⟩ : ∃ r2, r2 = cmpBy q y1 y2 := ⟨_, rfl⟩
          rw [← hr1] at HBC cd1
          rw [← hr2] at HBC cd2
          simp only [← hr1] at cc1
          simp only [← hr2] at cc2
          have m0 := (hbj.then C1).cell kx0
          have m1' := (hbj.then C1).cell kx1
          replace u0 := hb1.cell u0
          replace u1 := hb1.cell u1
          replace v0 := hb1.cell v0
          replace v1 := hb1.cell v1
          replace s0' := hb1.cell s0'
          replace s1' := hb1.cell s1'
          replace t0 := hb1.cell t0
          replace t1 := hb1.cell t1
          have z0 := since_cell m0
          have z2 := since_cell n0
          have z4 := since_cell u0
          have z5 := since_cell u1
          have z6 := since_cell v0
          have z7 := since_cell v1
          have HAA := Lib.hid ha
          have HBB := Lib.hid hb0
          clear hd hW1 hex hey hk1 hx1 hi1 hm1 hy1 hj1 hr1 hr2 lk1 lk2 lm1 lm2 uin vin sin tin
          go_wp2_with fail
          rw [← HW1.out]
          refine wp_region_since (by kernel_rfl) (by kernel_rfl) ?_
          repeat (first | go_big_quiet_skip | (go_big_quiet_want; go_big_quiet_op; first | go_big_quiet_on | (apply Exists.intro; refine ⟨fun _ => ?_, ?_⟩; (· (((first | (go_at_call 103; first | (with_reducible exact Calls_since (f1 _ (hb1.then (Since.bw _)))) | (with_reducible exact Calls_since (f2 _ (hb1.then (Since.bw _))))) | (go_at_call 145; exact Calls_since (cc1 _ (hb1.then (Since.bw _)))))))); go_big_quiet_on)))
          refine wpQuiet_nil ?_
          rintro ⟨wq, hbq⟩
          dsimp only at *
          have hq1 := hbq
          have hbs := hb1.then hq1
          have z1 := since_cell (hq1.cell m1')
          have z3 := since_cell (hq1.cell n1)
          have z8 := since_cell (hq1.cell s0')
          have z9 := since_cell (hq1.cell s1')
          have za := since_cell (hq1.cell t0)
          have zb := since_cell (hq1.cell t1)
          clear z0 z2 z4 z5 z6 z7 f1 f2 cc1 hbq
          go_wp2
          refine wp_region_since (by kernel_rfl) (by kernel_rfl) ?_
          repeat (first | go_big_quiet_skip | (go_big_quiet_want; go_big_quiet_op; first | go_big_quiet_on | (apply Exists.intro; refine ⟨fun _ => ?_, ?_⟩; (· (((first | (go_at_call 103; first | (with_reducible exact Calls_since (g1 _ (hbs.then (Since.bw _)))) | (with_reducible exact Calls_since (g2 _ (hbs.then (Since.bw _))))) | (go_at_call 145; exact Calls_since (cc2 _ (hbs.then (Since.bw _)))))))); go_big_quiet_on)))
          refine wpQuiet_nil ?_
          rintro ⟨wq, hbq⟩
          dsimp only at *
          have hbt := hbj.then (C1.then (hq1.then hbq))
          clear z1 z3 z8 z9 za zb g1 g2 cc2
          cases qb with
          | true =>
            have HQ2 := Lib.hid (show true = (l.take (j + 1)).any fun d => beatsC a b p q d c by rw [HS.out, ← HQ.out]; rfl)
            clear HQ HS
            go_wp2
            go_roundg (n - (j + 1))
            case measure => omega
            case rel => exact ⟨j + 1, true, by omega, rfl, by go_num, rfl, HQ2, hbt⟩
          | false =>
            have HQ2 := Lib.hid (show decide (comb 1 r1 r2 = 1) = (l.take (j + 1)).any fun d => beatsC a b p q d c by rw [HS.out, ← HQ.out, HBC.out]; rfl)
            have hcm := fun W2 => I_combined W2 1 r1 r2 (.inl rfl) cd1 cd2
            obtain ⟨r, hr⟩ : ∃ r, r = comb 1 r1 r2 := ⟨_, rfl⟩
            rw [← hr] at HQ2
            simp only [← hr] at hcm
            clear HQ HS HBC hr
            go_wp2_with fail
            refine (hcm _).mono ?_
            rintro e w9 ⟨rfl, hb9⟩
            by_cases hr1 : r = 1
            · have e1 : (r == 1) = true := by simpa using hr1
              have HQ3 := Lib.hid (show true = (l.take (j + 1)).any fun d => beatsC a b p q d c by rw [← HQ2.out]; simpa using hr1)
              clear hr1 HQ2
              go_wp2
              go_roundg (n - (j + 1))
              case measure => omega
              case rel => exact ⟨j + 1, true, by omega, rfl, by go_num, rfl, HQ3, hbt.then hb9⟩
            · have e1 : (r == 1) = false := by simpa using hr1
              have HQ3 := Lib.hid (show false = (l.take (j + 1)).any fun d => beatsC a b p q d c by rw [← HQ2.out]; simpa using hr1)
              clear hr1 HQ2
              go_wp2
              go_roundg (n - (j + 1))
              case measure => omega
              case rel => exact ⟨j + 1, false, by omega, rfl, by go_num, rfl, HQ3, hbt.then hb9⟩
        · obtain rfl : j = n := by omega
          have HF := Lib.hid (show freeC a b p q l c = !qb by rw [freeC, HQ.out, any_take_end _ (by rw [← L.out]; exact Nat.le_refl _)])
          have hv1 := (fCouples_good (B := w.heap.size)).bw hbj hbA.size hvA
          have kk0 := hbj.cell kx0
          have kk1 := hbj.cell kx1
          clear HQ hlt2 hvA
          cases qb with
          | true =>
            have HB2 := Lib.hid (HNO.out HF.out)
            have hl := HL.out
            go_wp2
            go_roundg (j - (k + 1))
            case measure => omega
            case rel => exact ⟨k + 1, F, by omega, rfl, by go_num, by rw [HB2.out]; exact hv1, hF, hbw⟩
          | false =>
            have HB2 := Lib.hid (HYES.out HF.out)
            have hbl := bestCTo_len (a := a) (b := b) (p := p) (q := q) (l := l) (k := k)
            have HBL := Lib.hid hbl
            have hvW := (fCouples_good (B := w.heap.size)).bw ((Bw.refl wr).alloc (.cells #[.int .i64 c.fst, .int .i64 c.snd] 83)) hbw.size hv1
            have hbW := hbw.alloc (.cells #[.int .i64 c.fst, .int .i64 c.snd] 83)
            have hcl : ∀ j t, [Value.int .i64 c.fst, .int .i64 c.snd][j]? = some t → (wr.alloc (.cells #[.int .i64 c.fst, .int .i64 c.snd] 83)).cell? ((⟨wr.heap.size, 0, none⟩ : Addr).add j) = some t := World.news_of_block (cs := #[.int .i64 c.fst, .int .i64 c.snd]) (t := 83) (fr := (0, 0)) (heap_alloc_new wr _)
            have hb9 := hbA.size
            have hl := HL.out
            clear hv1 hbl
            go_wp2_with (at_builtin; refine wpList_push _ rfl (.tmp 74) (.tmp 76) 26 rfl w 83 i0 _ 2 16 Try.underlying26 hi hz0 hz1 hz2 rfl (by omega) fPair_good _ (bestCTo a b p q l k) F rfl hvW hF ⟨wr.heap.size, 0, none⟩ 1 rfl c [.int .i64 c.fst, .int .i64 c.snd] [] hcl ⟨rfl, rfl⟩ rfl _ hFm Fresh.nil hb9 (by have := HBL.out; omega) (by have := HBL.out; omega) hbW ?_; intro v' w' F' hv' hF' hb')
            go_roundg (j - (k + 1))
            case measure => omega
            case rel => exact ⟨k + 1, F', by omega, rfl, by go_num, by rw [HB2.out]; exact hv', hF', hb'⟩
    · obtain rfl : k = n := by omega
      rw [bestCTo_end (by rw [← L.out]; exact Nat.le_refl _)] at hv
      go_wp2
      go_ret
      exact ⟨_, rfl, ⟨F, hv, hF⟩, hb⟩
end Go.Proofs.Ytfffklkiikmieaa
