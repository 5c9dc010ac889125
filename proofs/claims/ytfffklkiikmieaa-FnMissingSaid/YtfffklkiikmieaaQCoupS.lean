/- The best couples in the reference. -/
import Derived.Test.YtfffklkiikmieaaQCmpS
import Derived.Test.YtfffklkiikmieaaQExprI
import Derived.Test.YtfffklkiikmieaaQSlicesI
import Derived.Test.YtfffklkiikmieaaQCodes
namespace Go.Proofs.Ytfffklkiikmieaa
open Go.RowKit
set_option linter.unusedVariables false
set_option linter.unusedSimpArgs false
set_option maxHeartbeats 400000 in
theorem S_l7Fine (w : World) (l : List GItem) (e : List GNode) (v u : Value) (h : Rd rItems w l [v]) (h' : Rd rNodes w e [u]) : Calls Try.prog 96 #[v, u] w (Ret w (.bool (areBoth l e))) := by
  go_enter Try.func96, Try.ntmps96
  go_wp2_with fail
  refine (S_AreItems _ l _ h).mono ?_
  rintro e w2 ⟨rfl, hb2⟩
  rcases Bool.eq_false_or_eq_true (areItems l) with e1 | e1
  · have E := Lib.hid e1
    rw [e1]
    clear e1
    go_wp2_with fail
    refine (S_IsExpression _ e _ (h'.bw rNodes_good hb2)).mono ?_
    rintro e w3 ⟨rfl, hb3⟩
    rcases Bool.eq_false_or_eq_true (isExpr e) with e2 | e2
    · have E2 := Lib.hid e2
      rw [e2]
      clear e2
      go_wp2
      go_ret
      exact Ret.bool (by rw [areBoth, E.out, E2.out]; rfl) (hb2.then hb3)
    · have E2 := Lib.hid e2
      rw [e2]
      clear e2
      go_wp2
      go_ret
      exact Ret.bool (by rw [areBoth, E.out, E2.out]; rfl) (hb2.then hb3)
  · have E := Lib.hid e1
    rw [e1]
    clear e1
    go_wp2
    go_ret
    exact Ret.bool (by rw [areBoth, E.out]; rfl) (hb2)
set_option maxRecDepth 100000 in
set_option maxHeartbeats 3200000 in
theorem S_l7Best (w : World) (l : List GItem) (e : List GNode) (v u : Value) (h : Rd rItems w l [v]) (h' : Rd rNodes w e [u]) (hI : areItems l = true) (hE : isExpr e = true) : Calls Try.prog 111 #[v, u] w (RetV w (Made fInts w.heap.size (bestM l e))) := by
  obtain ⟨i0, hi, hz0, hz1, hz2⟩ := info_parts info_int
  obtain ⟨A, n, c, rfl, L0, Lc, Lm⟩ := rSl_open h
  unfold maxLen at Lm
  have L := Lib.hid L0
  clear L0
  have HE1 := Lib.hid hE
  have HI := Lib.hid hI
  have n16 : n ≤ 16 := by rw [L.out]; exact areItems_len HI.out
  have hv0 := fSl_empty (e := 3) (sz := 1) (R := fInt) w
  clear hE hI
  go_enter Try.func111, Try.ntmps111
  go_wp2
  go_loopg [5, 6] n (fun g s i w' => ∃ (k : Nat) (F : List Nat), k ≤ n ∧ g = n - k ∧ i = .int .i64 k ∧ fInts w' (bestTo l e k) [s] F ∧ Fresh w.heap.size F ∧ Bw w w')
  case atStart => exact ⟨0, _, by omega, rfl, rfl, hv0, ⟨by simp, by simp⟩, (Bw.refl _).alloc _⟩
  case round =>
    clear hv0
    obtain ⟨k, F, hk, rfl, rfl, hv, hF, hb⟩ := hrel
    by_cases hlt : k < n
    · obtain ⟨x, hx⟩ := get_of_lt (xs := l) (k := k) (by have := L.out; omega)
      obtain ⟨ba, oa, Ax, cx, rfl, _, hc0, hc1, hin⟩ := rItems_at h hx
      have HP := Lib.hid (areItems_mem HI.out (List.mem_of_getElem? hx))
      have hlen := isItem_len HP.out
      rw [hlen] at hc1 hin
      have i1 : (0 : Int) ≤ (k : Int) := by omega
      have i2 : (k : Int) < (n : Int) := by omega
      have HYES := Lib.hid (fun hf => bestTo_yes (e := e) hx hf)
      have HNO := Lib.hid (fun hf => bestTo_no (e := e) hx hf)
      have HH := Lib.hid h
      have hFm := (fInts_good (B := 0)).lt hv
      have k0 := hb.cell hc0
      have k1 := hb.cell hc1
      clear hx h hlen
      go_wp2
      go_loopg [7, 8] n (fun g b i2 w' => ∃ (j : Nat) (q : Bool), j ≤ n ∧ g = n - j ∧ i2 = .int .i64 j ∧ b = .bool q ∧ Hid ((!q) = (l.take j).any fun y => beats e y x) ∧ Bw wr w')
      case atStart => exact ⟨0, true, by omega, rfl, rfl, rfl, Lib.hid rfl, Bw.refl _⟩
      case round =>
        obtain ⟨j, qb, hj, rfl, rfl, rfl, HQ, hbj⟩ := hrel
        have hbw := hb.then hbj
        have m0 := hbj.cell k0
        have m1 := hbj.cell k1
        by_cases hlt2 : j < n
        · obtain ⟨y, hy⟩ := get_of_lt (xs := l) (k := j) (by have := L.out; omega)
          obtain ⟨b2, o2, Ay, cy, eA, _, hd0, hd1, hin2⟩ := rItems_at HH.out hy
          injection eA with eA
          injection eA with eA1 eA2
          subst eA1 eA2
          have HPy := Lib.hid (areItems_mem HI.out (List.mem_of_getElem? hy))
          have hleny := isItem_len HPy.out
          rw [hleny] at hd1 hin2
          replace hd0 := hbw.cell hd0
          replace hd1 := hbw.cell hd1
          have j1 : (0 : Int) ≤ (j : Int) := by omega
          have j2 : (j : Int) < (n : Int) := by omega
          have HS := Lib.hid (any_take_succ (fun y => beats e y x) hy)
          have s0 := since_cell m0
          have s1 := since_cell m1
          have s2 := since_cell hd0
          have s3 := since_cell hd1
          clear hy hleny
          cases qb with
          | false =>
            have HQ2 := Lib.hid (show (!false) = (l.take (j + 1)).any fun y => beats e y x by rw [HS.out, ← HQ.out]; rfl)
            clear HQ HS
            go_wp2
            refine wp_region_since (by kernel_rfl) (by kernel_rfl) ?_
            repeat (first | go_big_quiet_skip | (go_big_quiet_want; go_big_quiet_op; first | go_big_quiet_on | (apply Exists.intro; refine ⟨fun _ => ?_, ?_⟩; (· ((fail))); go_big_quiet_on)))
            refine wpQuiet_nil ?_
            rintro ⟨wq, hbq⟩
            dsimp only at *
            go_wp2
            go_roundg (n - (j + 1))
            case measure => omega
            case rel => exact ⟨j + 1, false, by omega, rfl, by go_num, rfl, HQ2, hbj.then hbq⟩
          | true =>
            have hcall : ∀ s : Since wr, Calls Try.prog 147 _ s.1 (Ret s.1 (.int .i64 (cmpBy e y x))) := fun s => S_l5Compare _ e y x u _ _ (h'.bw rNodes_good (hbw.then s.bw)) (Rd.bw rInts_good hin2 (hbw.then s.bw)) (Rd.bw rInts_good hin (hbw.then s.bw)) HE1.out HPy.out HP.out
            have HQ2 := Lib.hid (show decide (cmpBy e y x = 1) = (l.take (j + 1)).any fun y => beats e y x by rw [HS.out, ← HQ.out]; rfl)
            obtain ⟨r, hr⟩ : ∃ r, r = cmpBy e y x := ⟨_, rfl⟩
            rw [← hr] at hcall HQ2
            clear HQ HS hr m0 m1 hd0 hd1
            by_cases hr1 : r = 1
            · have e1 : (r != 1) = false := by simpa using hr1
              have HQ3 := Lib.hid (show (!false) = (l.take (j + 1)).any fun y => beats e y x by rw [← HQ2.out]; simpa using hr1)
              clear hr1 HQ2
              go_wp2
              refine wp_region_since (by kernel_rfl) (by kernel_rfl) ?_
              repeat (first | go_big_quiet_skip | (go_big_quiet_want; go_big_quiet_op; first | go_big_quiet_on | (apply Exists.intro; refine ⟨fun _ => ?_, ?_⟩; (· (((first | (go_at_call 147; exact Calls_since (hcall _)))))); go_big_quiet_on)))
              refine wpQuiet_nil ?_
              rintro ⟨wq, hbq⟩
              dsimp only at *
              go_wp2
              go_roundg (n - (j + 1))
              case measure => omega
              case rel => exact ⟨j + 1, false, by omega, rfl, by go_num, rfl, HQ3, hbj.then hbq⟩
            · have e1 : (r != 1) = true := by simpa using hr1
              have HQ3 := Lib.hid (show (!true) = (l.take (j + 1)).any fun y => beats e y x by rw [← HQ2.out]; simpa using hr1)
              clear hr1 HQ2
              go_wp2
              refine wp_region_since (by kernel_rfl) (by kernel_rfl) ?_
              repeat (first | go_big_quiet_skip | (go_big_quiet_want; go_big_quiet_op; first | go_big_quiet_on | (apply Exists.intro; refine ⟨fun _ => ?_, ?_⟩; (· (((first | (go_at_call 147; exact Calls_since (hcall _)))))); go_big_quiet_on)))
              refine wpQuiet_nil ?_
              rintro ⟨wq, hbq⟩
              dsimp only at *
              go_wp2
              go_roundg (n - (j + 1))
              case measure => omega
              case rel => exact ⟨j + 1, true, by omega, rfl, by go_num, rfl, HQ3, hbj.then hbq⟩
        · obtain rfl : j = n := by omega
          have HF := Lib.hid (show freeIn l e x = qb by rw [freeIn, ← any_take_end (k := j) _ (by rw [← L.out]; exact Nat.le_refl _), ← HQ.out]; simp)
          have hv1 := (fInts_good (B := w.heap.size)).bw hbj hb.size hv
          clear HQ hlt2
          cases qb with
          | false =>
            have HB := Lib.hid (HNO.out HF.out)
            go_wp2
            go_roundg (j - (k + 1))
            case measure => omega
            case rel => exact ⟨k + 1, F, by omega, rfl, by go_num, by rw [HB.out]; exact hv1, hF, hbw⟩
          | true =>
            have HB := Lib.hid (HYES.out HF.out)
            have hbl := bestTo_len (l := l) (e := e) (k := k)
            have HBL := Lib.hid hbl
            have hvW := (fInts_good (B := w.heap.size)).bw ((Bw.refl wr).alloc (.cells #[.int .i64 x.id] 3)) hbw.size hv1
            have hbW := hbw.alloc (.cells #[.int .i64 x.id] 3)
            have hcl := cell_one_new wr (.int .i64 x.id) 3
            have hb0 := hb.size
            clear hv1 hbl hv
            go_wp2_with (at_builtin; refine wpList_push _ rfl (.tmp 37) (.tmp 43) 42 rfl w 3 i0 _ 1 8 Try.underlying42 hi hz0 hz1 hz2 rfl (by omega) fInt_good _ (bestTo l e k) F rfl hvW hF ⟨wr.heap.size, 0, none⟩ 1 rfl x.id [.int .i64 x.id] [] hcl ⟨rfl, rfl⟩ rfl _ hFm Fresh.nil hb0 (by have := HBL.out; omega) (by have := HBL.out; omega) hbW ?_; intro v' w' F' hv' hF' hb')
            go_roundg (j - (k + 1))
            case measure => omega
            case rel => exact ⟨k + 1, F', by omega, rfl, by go_num, by rw [HB.out]; exact hv', hF', hb'⟩
    · obtain rfl : k = n := by omega
      rw [bestTo_end (by rw [← L.out]; exact Nat.le_refl _)] at hv
      go_wp2
      go_ret
      exact ⟨_, rfl, ⟨F, hv, hF⟩, hb⟩
end Go.Proofs.Ytfffklkiikmieaa

namespace Go.Proofs.Ytfffklkiikmieaa
open Go.RowKit
set_option linter.unusedVariables false
set_option linter.unusedSimpArgs false
set_option maxRecDepth 100000 in
set_option maxHeartbeats 1600000 in
theorem S_l8Item (w : World) (l : List GItem) (id : Int) (bA oA n c k : Nat) (x : GItem) (SA : Option Addr) (sn sc : Nat) (h : Rd rItems w l [.slice (some ⟨bA, oA, none⟩) n c]) (hk : findIdx l id = (k : Int)) (hkn : k < n) (h0 : w.cell? ⟨bA, oA + k * 2, none⟩ = some (.int .i64 x.id)) (h1 : w.cell? ⟨bA, oA + k * 2 + 1, none⟩ = some (.slice SA sn sc)) :
    Calls Try.prog 161 #[.slice (some ⟨bA, oA, none⟩) n c, .int .i64 id] w (Ret w (.agg #[.int .i64 x.id, .slice SA sn sc])) := by
  have B0 : Bw w (w.alloc (.cells #[.int .i64 0, .slice none 0 0] 110)) := (Bw.refl w).alloc _
  have i1 : (0 : Int) ≤ (k : Int) := by omega
  have i2 : (k : Int) < (n : Int) := by omega
  have hz := World.block_lt_of_cell? _ _ h0
  have hcall := S_FindItem _ l id _ (h.bw rItems_good B0)
  rw [hk] at hcall
  clear hk hkn
  go_enter Try.func161, Try.ntmps161
  go_wp2_with fail
  refine (hcall).mono ?_
  rintro e w2 ⟨rfl, hb2⟩
  have hf : ∀ o, w2.frozen? ⟨w.heap.size, o, none⟩ = false := fun o => by rw [bw_frozen hb2 _ _ (by first | (simp; done) | (simp; omega))]; go_simp
  have q0 : w2.cell? ⟨w.heap.size, 0, none⟩ = some (.int .i64 0) := hb2.cell (by go_simp)
  have q1 : w2.cell? ⟨w.heap.size, 1, none⟩ = some (.slice none 0 0) := hb2.cell (by go_simp)
  have B2 := B0.then hb2
  have p0 := B2.cell h0
  have p1 := B2.cell h1
  clear hcall h0 h1 h
  go_wp2
  refine bodyPost_ret (v := .agg #[.int .i64 x.id, .slice SA sn sc]) (by simp [results, Try.results161, go_sem, q0, q1]) rfl ⟨rfl, ?_⟩
  repeat (first | with_reducible exact B2 | with_reducible refine Bw.set ?_ ?_ _)
  all_goals (dsimp only; omega)
set_option maxRecDepth 100000 in
set_option maxHeartbeats 6400000 in
theorem S_l17Best (w : World) (a b : List GItem) (p q : List GNode) (l : List GPair) (va vb vp vq vl : Value) (ha : Rd rItems w a [va]) (hb0 : Rd rItems w b [vb]) (hp : Rd rNodes w p [vp]) (hq : Rd rNodes w q [vq]) (hl : Rd rPairs w l [vl])
    (hn : l.length ≤ 1048576) (hfit : ∀ c ∈ l, fitC a b c) (hEp : isExpr p = true) (hEq : isExpr q = true) : Calls Try.prog 85 #[va, vb, vl, vp, vq] w (RetV w (Made fCouples w.heap.size (bestC a b p q l))) := by
  obtain ⟨i0, hi, hz0, hz1, hz2⟩ := info_parts info_Couple
  obtain ⟨A, n, c0, rfl, L0, Lc, Lm⟩ := rSl_open hl
  unfold maxLen at Lm
  have L := Lib.hid L0
  clear L0
  obtain ⟨Aa, na, ca, rfl, La0, Lac, Lam⟩ := rSl_open ha
  unfold maxLen at Lam
  have La := Lib.hid La0
  clear La0
  obtain ⟨Ab, nb, cb, rfl, Lb0, Lbc, Lbm⟩ := rSl_open hb0
  unfold maxLen at Lbm
  have Lb := Lib.hid Lb0
  clear Lb0
  rw [← L.out] at hn
  have HFIT := Lib.hid hfit
  have HEp := Lib.hid hEp
  have HEq := Lib.hid hEq
  have hv0 := fSl_empty (e := 83) (sz := 2) (R := fPair) w
  clear hfit hEp hEq
  go_enter Try.func85, Try.ntmps85
  go_wp2
  go_loopg [11, 12] n (fun g s i w' => ∃ (k : Nat) (F : List Nat), k ≤ n ∧ g = n - k ∧ i = .int .i64 k ∧ fCouples w' (bestCTo a b p q l k) [s] F ∧ Fresh w.heap.size F ∧ Bw w w')
  case atStart => exact ⟨0, _, by omega, rfl, rfl, hv0, ⟨by simp, by simp⟩, (Bw.refl w).alloc _⟩
  case round =>
    clear hv0
    obtain ⟨k, F, hk, rfl, rfl, hv, hF, hb⟩ := hrel
    by_cases hlt : k < n
    · obtain ⟨c, hc⟩ := get_of_lt (xs := l) (k := k) (by have := L.out; omega)
      obtain ⟨ba, oa, rfl, _, hc0, hc1⟩ := rPairs_at hl hc
      obtain ⟨⟨hIa, hIb⟩, hex, hey⟩ := HFIT.out c (List.mem_of_getElem? hc)
      obtain ⟨k2, x2, hk2, hx2, hi2⟩ := itemOf_at hex
      obtain ⟨m2, y2, hm2, hy2, hj2⟩ := itemOf_at hey
      have HIa := Lib.hid hIa
      have HIb := Lib.hid hIb
      have i1 : (0 : Int) ≤ (k : Int) := by omega
      have i2 : (k : Int) < (n : Int) := by omega
      have HYES := Lib.hid (fun hf => bestCTo_yes (a := a) (b := b) (p := p) (q := q) hc hf)
      have HNO := Lib.hid (fun hf => bestCTo_no (a := a) (b := b) (p := p) (q := q) hc hf)
      have HL := Lib.hid hl
      have hFm := (fCouples_good (B := 0)).lt hv
      have kx0 := hb.cell hc0
      have kx1 := hb.cell hc1
      have HX2 := Lib.hid (show findIdx a c.fst = (k2 : Int) ∧ a[k2]? = some x2 ∧ itemOf a c.fst = x2 from ⟨hk2, hx2, hi2⟩)
      have HY2 := Lib.hid (show findIdx b c.snd = (m2 : Int) ∧ b[m2]? = some y2 ∧ itemOf b c.snd = y2 from ⟨hm2, hy2, hj2⟩)
      clear hc hl hIa hIb hex hey hk2 hx2 hi2 hm2 hy2 hj2
      go_wp2
      go_loopg [13, 14] n (fun g t i2 w' => ∃ (j : Nat) (qb : Bool), j ≤ n ∧ g = n - j ∧ i2 = .int .i64 j ∧ t = .bool qb ∧ Hid ((!qb) = (l.take j).any fun d => beatsC a b p q d c) ∧ Bw wr w')
      case atStart => exact ⟨0, true, by omega, rfl, rfl, rfl, Lib.hid rfl, Bw.refl _⟩
      case round =>
        obtain ⟨j, qb, hj, rfl, rfl, rfl, HQ, hbj⟩ := hrel
        have hbw := hb.then hbj
        by_cases hlt2 : j < n
        · obtain ⟨d, hd⟩ := get_of_lt (xs := l) (k := j) (by have := L.out; omega)
          obtain ⟨b2, o2, eA, _, hd0, hd1⟩ := rPairs_at HL.out hd
          injection eA with eA
          injection eA with eA1 eA2
          subst eA1 eA2
          obtain ⟨_, hex, hey⟩ := HFIT.out d (List.mem_of_getElem? hd)
          obtain ⟨k1, x1, hk1, hx1, hi1⟩ := itemOf_at hex
          obtain ⟨m1, y1, hm1, hy1, hj1⟩ := itemOf_at hey
          have HS := Lib.hid (any_take_succ (fun d => beatsC a b p q d c) hd)
          have HBC := Lib.hid (show beatsC a b p q d c = decide (comb 1 (cmpBy p x1 x2) (cmpBy q y1 y2) = 1) by rw [beatsC, hi1, hj1, HX2.out.2.2, HY2.out.2.2])
          have I1 := Lib.hid (areItems_mem HIa.out (List.mem_of_getElem? hx1))
          have I2 := Lib.hid (areItems_mem HIa.out (List.mem_of_getElem? HX2.out.2.1))
          have J1 := Lib.hid (areItems_mem HIb.out (List.mem_of_getElem? hy1))
          have J2 := Lib.hid (areItems_mem HIb.out (List.mem_of_getElem? HY2.out.2.1))
          have lk1 : k1 < na := by rw [La.out]; exact (List.getElem?_eq_some_iff.1 hx1).1
          have lk2 : k2 < na := by rw [La.out]; exact (List.getElem?_eq_some_iff.1 HX2.out.2.1).1
          have lm1 : m1 < nb := by rw [Lb.out]; exact (List.getElem?_eq_some_iff.1 hy1).1
          have lm2 : m2 < nb := by rw [Lb.out]; exact (List.getElem?_eq_some_iff.1 HY2.out.2.1).1
          obtain ⟨bA, oA, X1, cX1, rfl, _, u0, u1, uin⟩ := rItems_at ha hx1
          obtain ⟨bA', oA', X2, cX2, eA, _, v0, v1, vin⟩ := rItems_at ha HX2.out.2.1
          injection eA with eA
          injection eA with eA1 eA2
          subst eA1 eA2
          obtain ⟨bB, oB, Y1, cY1, rfl, _, s0', s1', sin⟩ := rItems_at hb0 hy1
          obtain ⟨bB', oB', Y2, cY2, eA, _, t0, t1, tin⟩ := rItems_at hb0 HY2.out.2.1
          injection eA with eA
          injection eA with eA1 eA2
          subst eA1 eA2
          replace hd0 := hbw.cell hd0
          replace hd1 := hbw.cell hd1
          have j1 : (0 : Int) ≤ (j : Int) := by omega
          have j2 : (j : Int) < (n : Int) := by omega
          have f1 : ∀ W2, Bw w W2 → Calls Try.prog 161 #[.slice (some ⟨bA, oA, none⟩) na ca, .int .i64 d.fst] W2 (Ret W2 (.agg #[.int .i64 x1.id, .slice X1 x1.vals.length cX1])) := fun W2 h => S_l8Item W2 a d.fst bA oA na ca k1 x1 _ _ _ (ha.bw rItems_good h) hk1 lk1 (h.cell u0) (h.cell u1)
          have f2 : ∀ W2, Bw w W2 → Calls Try.prog 161 #[.slice (some ⟨bA, oA, none⟩) na ca, .int .i64 c.fst] W2 (Ret W2 (.agg #[.int .i64 x2.id, .slice X2 x2.vals.length cX2])) := fun W2 h => S_l8Item W2 a c.fst bA oA na ca k2 x2 _ _ _ (ha.bw rItems_good h) HX2.out.1 lk2 (h.cell v0) (h.cell v1)
          have g1 : ∀ W2, Bw w W2 → Calls Try.prog 161 #[.slice (some ⟨bB, oB, none⟩) nb cb, .int .i64 d.snd] W2 (Ret W2 (.agg #[.int .i64 y1.id, .slice Y1 y1.vals.length cY1])) := fun W2 h => S_l8Item W2 b d.snd bB oB nb cb m1 y1 _ _ _ (hb0.bw rItems_good h) hm1 lm1 (h.cell s0') (h.cell s1')
          have g2 : ∀ W2, Bw w W2 → Calls Try.prog 161 #[.slice (some ⟨bB, oB, none⟩) nb cb, .int .i64 c.snd] W2 (Ret W2 (.agg #[.int .i64 y2.id, .slice Y2 y2.vals.length cY2])) := fun W2 h => S_l8Item W2 b c.snd bB oB nb cb m2 y2 _ _ _ (hb0.bw rItems_good h) HY2.out.1 lm2 (h.cell t0) (h.cell t1)
          have cc1 : ∀ W2, Bw w W2 → Calls Try.prog 147 _ W2 (Ret W2 (.int .i64 (cmpBy p x1 x2))) := fun W2 h => S_l5Compare W2 p x1 x2 vp _ _ (hp.bw rNodes_good h) (Rd.bw rInts_good uin h) (Rd.bw rInts_good vin h) HEp.out I1.out I2.out
          have cc2 : ∀ W2, Bw w W2 → Calls Try.prog 147 _ W2 (Ret W2 (.int .i64 (cmpBy q y1 y2))) := fun W2 h => S_l5Compare W2 q y1 y2 vq _ _ (hq.bw rNodes_good h) (Rd.bw rInts_good sin h) (Rd.bw rInts_good tin h) HEq.out J1.out J2.out
          have cd1 := cmpBy_codeC (p := x1) (q := x2) HEp.out
          have cd2 := cmpBy_codeC (p := y1) (q := y2) HEq.out
          obtain ⟨r1, hr1⟩ : ∃ r1, r1 = cmpBy p x1 x2 := ⟨_, rfl⟩
          obtain ⟨r2, hr2⟩ : ∃ r2, r2 = cmpBy q y1 y2 := ⟨_, rfl⟩
          rw [← hr1] at HBC cd1
          rw [← hr2] at HBC cd2
          simp only [← hr1] at cc1
          simp only [← hr2] at cc2
          have m0 := hbj.cell kx0
          have m1' := hbj.cell kx1
          have z0 := since_cell m0
          have z2 := since_cell hd0
          have HAA := Lib.hid ha
          have HBB := Lib.hid hb0
          clear hd hex hey hk1 hx1 hi1 hm1 hy1 hj1 hr1 hr2 lk1 lk2 lm1 lm2 uin vin sin tin u0 u1 v0 v1 s0' s1' t0 t1 ha hb0
          go_wp2
          refine wp_region_since (by kernel_rfl) (by kernel_rfl) ?_
          repeat (first | go_big_quiet_skip | (go_big_quiet_want; go_big_quiet_op; first | go_big_quiet_on | (apply Exists.intro; refine ⟨fun _ => ?_, ?_⟩; (· (((first | (go_at_call 161; first | (with_reducible exact Calls_since (f1 _ (hbw.then (Since.bw _)))) | (with_reducible exact Calls_since (f2 _ (hbw.then (Since.bw _))))) | (go_at_call 147; exact Calls_since (cc1 _ (hbw.then (Since.bw _)))))))); go_big_quiet_on)))
          refine wpQuiet_nil ?_
          rintro ⟨wq, hbq⟩
          dsimp only at *
          have hq1 := hbq
          have hbs := hbw.then hq1
          have z1 := since_cell (hq1.cell m1')
          have z3 := since_cell (hq1.cell hd1)
          clear z0 z2 f1 f2 cc1 hbq
          go_wp2
          refine wp_region_since (by kernel_rfl) (by kernel_rfl) ?_
          repeat (first | go_big_quiet_skip | (go_big_quiet_want; go_big_quiet_op; first | go_big_quiet_on | (apply Exists.intro; refine ⟨fun _ => ?_, ?_⟩; (· (((first | (go_at_call 161; first | (with_reducible exact Calls_since (g1 _ (hbs.then (Since.bw _)))) | (with_reducible exact Calls_since (g2 _ (hbs.then (Since.bw _))))) | (go_at_call 147; exact Calls_since (cc2 _ (hbs.then (Since.bw _)))))))); go_big_quiet_on)))
          refine wpQuiet_nil ?_
          rintro ⟨wq, hbq⟩
          dsimp only at *
          have hbt := hbj.then (hq1.then hbq)
          have ha := HAA.out
          have hb0 := HBB.out
          clear z1 z3 g1 g2 cc2
          cases qb with
          | false =>
            have HQ2 := Lib.hid (show (!false) = (l.take (j + 1)).any fun d => beatsC a b p q d c by rw [HS.out, ← HQ.out]; rfl)
            clear HQ HS
            go_wp2
            go_roundg (n - (j + 1))
            case measure => omega
            case rel => exact ⟨j + 1, false, by omega, rfl, by go_num, rfl, HQ2, hbt⟩
          | true =>
            have HQ2 := Lib.hid (show decide (comb 1 r1 r2 = 1) = (l.take (j + 1)).any fun d => beatsC a b p q d c by rw [HS.out, ← HQ.out, HBC.out]; rfl)
            have hcm := fun W2 => S_l5Pareto W2 r1 r2 cd1 cd2
            obtain ⟨r, hr⟩ : ∃ r, r = comb 1 r1 r2 := ⟨_, rfl⟩
            rw [← hr] at HQ2
            simp only [← hr] at hcm
            clear HQ HS HBC hr
            go_wp2_with fail
            refine (hcm _).mono ?_
            rintro e w9 ⟨rfl, hb9⟩
            by_cases hr1 : r = 1
            · have e1 : (r != 1) = false := by simpa using hr1
              have HQ3 := Lib.hid (show (!false) = (l.take (j + 1)).any fun d => beatsC a b p q d c by rw [← HQ2.out]; simpa using hr1)
              clear hr1 HQ2
              go_wp2
              go_roundg (n - (j + 1))
              case measure => omega
              case rel => exact ⟨j + 1, false, by omega, rfl, by go_num, rfl, HQ3, hbt.then hb9⟩
            · have e1 : (r != 1) = true := by simpa using hr1
              have HQ3 := Lib.hid (show (!true) = (l.take (j + 1)).any fun d => beatsC a b p q d c by rw [← HQ2.out]; simpa using hr1)
              clear hr1 HQ2
              go_wp2
              go_roundg (n - (j + 1))
              case measure => omega
              case rel => exact ⟨j + 1, true, by omega, rfl, by go_num, rfl, HQ3, hbt.then hb9⟩
        · obtain rfl : j = n := by omega
          have HF := Lib.hid (show freeC a b p q l c = qb by rw [freeC, ← any_take_end (k := j) _ (by rw [← L.out]; exact Nat.le_refl _), ← HQ.out]; simp)
          have hv1 := (fCouples_good (B := w.heap.size)).bw hbj hb.size hv
          have kk0 := hbj.cell kx0
          have kk1 := hbj.cell kx1
          have hl := HL.out
          clear HQ hlt2 hv
          cases qb with
          | false =>
            have HB2 := Lib.hid (HNO.out HF.out)
            go_wp2
            go_roundg (j - (k + 1))
            case measure => omega
            case rel => exact ⟨k + 1, F, by omega, rfl, by go_num, by rw [HB2.out]; exact hv1, hF, hbw⟩
          | true =>
            have HB2 := Lib.hid (HYES.out HF.out)
            have hbl := bestCTo_len (a := a) (b := b) (p := p) (q := q) (l := l) (k := k)
            have HBL := Lib.hid hbl
            have hvW := (fCouples_good (B := w.heap.size)).bw ((Bw.refl wr).alloc (.cells #[.int .i64 c.fst, .int .i64 c.snd] 83)) hbw.size hv1
            have hbW := hbw.alloc (.cells #[.int .i64 c.fst, .int .i64 c.snd] 83)
            have hcl : ∀ j t, [Value.int .i64 c.fst, .int .i64 c.snd][j]? = some t → (wr.alloc (.cells #[.int .i64 c.fst, .int .i64 c.snd] 83)).cell? ((⟨wr.heap.size, 0, none⟩ : Addr).add j) = some t := World.news_of_block (cs := #[.int .i64 c.fst, .int .i64 c.snd]) (t := 83) (fr := (0, 0)) (heap_alloc_new wr _)
            have hb9 := hb.size
            clear hv1 hbl
            go_wp2_with (at_builtin; refine wpList_push _ rfl (.tmp 70) (.tmp 75) 26 rfl w 83 i0 _ 2 16 Try.underlying26 hi hz0 hz1 hz2 rfl (by omega) fPair_good _ (bestCTo a b p q l k) F rfl hvW hF ⟨wr.heap.size, 0, none⟩ 1 rfl c [.int .i64 c.fst, .int .i64 c.snd] [] hcl ⟨rfl, rfl⟩ rfl _ hFm Fresh.nil hb9 (by have := HBL.out; omega) (by have := HBL.out; omega) hbW ?_; intro v' w' F' hv' hF' hb')
            go_roundg (j - (k + 1))
            case measure => omega
            case rel => exact ⟨k + 1, F', by omega, rfl, by go_num, by rw [HB2.out]; exact hv', hF', hb'⟩
    · obtain rfl : k = n := by omega
      rw [bestCTo_end (by rw [← L.out]; exact Nat.le_refl _)] at hv
      go_wp2
      go_ret
      exact ⟨_, rfl, ⟨F, hv, hF⟩, hb⟩
end Go.Proofs.Ytfffklkiikmieaa
