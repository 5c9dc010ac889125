/- The best items in the reference. -/
import Derived.Test.YtpihighajaeabaaGreatQCmpI
import Derived.Test.YtpihighajaeabaaGreatQStart
import Derived.Test.YtpihighajaeabaaGreatQModel3
import Derived.Test.YtpihighajaeabaaGreatQCmpS
namespace Go.Proofs.YtpihighajaeabaaGreat
open Go.RowKit
set_option linter.unusedVariables false
set_option linter.unusedSimpArgs false
set_option maxHeartbeats 400000 in
theorem I_areBoth (w : World) (l : List GItem) (e : List GNode) (v u : Value) (h : Rd rItems w l [v]) (h' : Rd rNodes w e [u]) : Calls Tryz.prog 92 #[v, u] w (Ret w (.bool (areBoth l e))) := by
  go_enter Tryz.func92, Tryz.ntmps92
  go_wp2_with fail
  refine (I_AreItems _ l _ h).mono ?_
  rintro e w2 ⟨rfl, hb2⟩
  rcases Bool.eq_false_or_eq_true (areItems l) with e1 | e1
  · have E := Lib.hid e1
    rw [e1]
    clear e1
    go_wp2_with fail
    refine (I_IsExpression _ e _ (h'.bw rNodes_good hb2)).mono ?_
    rintro e w3 ⟨rfl, hb3⟩
    rcases Bool.eq_false_or_eq_true (isExpr e) with e2 | e2
    · have E2 := Lib.hid e2
      rw [e2]
      clear e2
      go_wp2
      go_ret
      exact Ret.bool (by rw [areBoth, E.out, E2.out]; rfl) (hb2.then hb3)
    · have E2 := Lib.hid e2
      rw [e2]
      clear e2
      go_wp2
      go_ret
      exact Ret.bool (by rw [areBoth, E.out, E2.out]; rfl) (hb2.then hb3)
  · have E := Lib.hid e1
    rw [e1]
    clear e1
    go_wp2
    go_ret
    exact Ret.bool (by rw [areBoth, E.out]; rfl) (hb2)
set_option maxRecDepth 100000 in
set_option maxHeartbeats 3200000 in
theorem I_best (w : World) (l : List GItem) (e : List GNode) (v u : Value) (h : Rd rItems w l [v]) (h' : Rd rNodes w e [u]) (hE : areBoth l e = true) : Calls Tryz.prog 97 #[v, u] w (RetV w (Made fInts w.heap.size (bestM l e))) := by
  obtain ⟨i0, hi, hz0, hz1, hz2⟩ := info_parts info_int
  obtain ⟨A, n, c, rfl, L0, Lc, Lm⟩ := rSl_open h
  unfold maxLen at Lm
  have L := Lib.hid L0
  clear L0
  have HE1 := Lib.hid (areBoth_expr hE)
  have HI := Lib.hid (areBoth_items hE)
  have n16 : n ≤ 16 := by rw [L.out]; exact areItems_len HI.out
  have hv0 := fSl_empty (e := 3) (sz := 1) (R := fInt) w
  clear hE
  go_enter Tryz.func97, Tryz.ntmps97
  go_wp2
  go_loopg [5, 14] n (fun g s i w' => ∃ (k : Nat) (F : List Nat), k ≤ n ∧ g = n - k ∧ i = .int .i64 k ∧ fInts w' (bestTo l e k) [s] F ∧ Fresh w.heap.size F ∧ Bw w w')
  case atStart => exact ⟨0, _, by omega, rfl, rfl, hv0, ⟨by simp, by simp⟩, (Bw.refl _).alloc _⟩
  case round =>
    clear hv0
    obtain ⟨k, F, hk, rfl, rfl, hv, hF, hb⟩ := hrel
    by_cases hlt : k < n
    · obtain ⟨x, hx⟩ := get_of_lt (xs := l) (k := k) (by have := L.out; omega)
      obtain ⟨ba, oa, Ax, cx, rfl, _, hc0, hc1, hin⟩ := rItems_at h hx
      have HP := Lib.hid (areItems_mem HI.out (List.mem_of_getElem? hx))
      have hlen := isItem_len HP.out
      rw [hlen] at hc1 hin
      have i1 : (0 : Int) ≤ (k : Int) := by omega
      have i2 : (k : Int) < (n : Int) := by omega
      replace hc0 := hb.cell hc0
      replace hc1 := hb.cell hc1
      have hbx := World.block_lt_of_cell? _ _ hc0
      have HYES := Lib.hid (fun hf => bestTo_yes (e := e) hx hf)
      have HNO := Lib.hid (fun hf => bestTo_no (e := e) hx hf)
      have HH := Lib.hid h
      have A1 : Bw wr (wr.alloc (.cells #[.int .i64 x.id, .slice Ax 3 cx] 30)) := (Bw.refl wr).alloc _
      have hbA := hb.then A1
      have hvA := (fInts_good (B := w.heap.size)).bw A1 hb.size hv
      have hFm := (fInts_good (B := 0)).lt hvA
      have kx0 : (wr.alloc (.cells #[.int .i64 x.id, .slice Ax 3 cx] 30)).cell? ⟨wr.heap.size, 0, none⟩ = some (.int .i64 x.id) := by go_simp
      have kx1 : (wr.alloc (.cells #[.int .i64 x.id, .slice Ax 3 cx] 30)).cell? ⟨wr.heap.size, 1, none⟩ = some (.slice Ax 3 cx) := by go_simp
      obtain ⟨W, hW⟩ : ∃ W, W = wr.alloc (.cells #[.int .i64 x.id, .slice Ax 3 cx] 30) := ⟨_, rfl⟩
      rw [← hW] at kx0 kx1 hbA hvA hFm
      have HW := Lib.hid hW
      clear hx h hlen hW A1 hv
      go_wp2
      go_loopg [8, 20] n (fun g b i2 w' => ∃ (j : Nat) (q : Bool), j ≤ n ∧ g = n - j ∧ i2 = .int .i64 j ∧ b = .bool q ∧ Hid (q = (l.take j).any fun y => beats e y x) ∧ Bw W w')
      case atStart => exact ⟨0, false, by omega, rfl, rfl, rfl, Lib.hid rfl, by rw [HW.out]; exact Bw.refl _⟩
      case round =>
        obtain ⟨j, qb, hj, rfl, rfl, rfl, HQ, hbj⟩ := hrel
        have hbw := hbA.then hbj
        have kk0 := hbj.cell kx0
        have kk1 := hbj.cell kx1
        by_cases hlt2 : j < n
        · obtain ⟨y, hy⟩ := get_of_lt (xs := l) (k := j) (by have := L.out; omega)
          obtain ⟨b2, o2, Ay, cy, eA, _, hd0, hd1, hin2⟩ := rItems_at HH.out hy
          injection eA with eA
          injection eA with eA1 eA2
          subst eA1 eA2
          have HPy := Lib.hid (areItems_mem HI.out (List.mem_of_getElem? hy))
          have hleny := isItem_len HPy.out
          rw [hleny] at hd1 hin2
          replace hd0 := hbw.cell hd0
          replace hd1 := hbw.cell hd1
          have j1 : (0 : Int) ≤ (j : Int) := by omega
          have j2 : (j : Int) < (n : Int) := by omega
          have HS := Lib.hid (any_take_succ (fun y => beats e y x) hy)
          have hby := World.block_lt_of_cell? _ _ kk0
          have C1 : Bw wr (wr.alloc (.cells #[.int .i64 y.id, .slice Ay 3 cy] 30)) := (Bw.refl wr).alloc _
          clear hy hleny
          cases qb with
          | true =>
            have HQ2 := Lib.hid (show true = (l.take (j + 1)).any fun y => beats e y x by rw [HS.out, ← HQ.out]; rfl)
            clear HQ HS
            go_wp2
            go_roundg (n - (j + 1))
            case measure => omega
            case rel => exact ⟨j + 1, true, by omega, rfl, by go_num, rfl, HQ2, hbj.then C1⟩
          | false =>
            have hcall := I_compareBy _ e y x _ _ _ (h'.bw rNodes_good (hbw.then C1)) (Rd.bw rInts_good hin2 (hbw.then C1)) (Rd.bw rInts_good hin (hbw.then C1)) HE1.out HPy.out HP.out
            have HQ2 := Lib.hid (show decide (cmpBy e y x = 1) = (l.take (j + 1)).any fun y => beats e y x by rw [HS.out, ← HQ.out]; rfl)
            obtain ⟨r, hr⟩ : ∃ r, r = cmpBy e y x := ⟨_, rfl⟩
            rw [← hr] at hcall HQ2
            clear HQ HS hr
            go_wp2_with fail
            refine (hcall).mono ?_
            rintro e w3 ⟨rfl, hb3⟩
            by_cases hr1 : r = 1
            · have e1 : (r == 1) = true := by simpa using hr1
              have HQ3 := Lib.hid (show true = (l.take (j + 1)).any fun y => beats e y x by rw [← HQ2.out]; simpa using hr1)
              clear hr1 HQ2
              go_wp2
              go_roundg (n - (j + 1))
              case measure => omega
              case rel => exact ⟨j + 1, true, by omega, rfl, by go_num, rfl, HQ3, hbj.then (C1.then hb3)⟩
            · have e1 : (r == 1) = false := by simpa using hr1
              have HQ3 := Lib.hid (show false = (l.take (j + 1)).any fun y => beats e y x by rw [← HQ2.out]; simpa using hr1)
              clear hr1 HQ2
              go_wp2
              go_roundg (n - (j + 1))
              case measure => omega
              case rel => exact ⟨j + 1, false, by omega, rfl, by go_num, rfl, HQ3, hbj.then (C1.then hb3)⟩
        · obtain rfl : j = n := by omega
          have HF := Lib.hid (show freeIn l e x = !qb by rw [freeIn, HQ.out, any_take_end _ (by rw [← L.out]; exact Nat.le_refl _)])
          have hv1 := (fInts_good (B := w.heap.size)).bw hbj hbA.size hvA
          clear HQ hlt2 hvA
          cases qb with
          | true =>
            have HB := Lib.hid (HNO.out HF.out)
            go_wp2
            go_roundg (j - (k + 1))
            case measure => omega
            case rel => exact ⟨k + 1, F, by omega, rfl, by go_num, by rw [HB.out]; exact hv1, hF, hbw⟩
          | false =>
            have HB := Lib.hid (HYES.out HF.out)
            have hbl := bestTo_len (l := l) (e := e) (k := k)
            have HBL := Lib.hid hbl
            have hvW := (fInts_good (B := w.heap.size)).bw ((Bw.refl wr).alloc (.cells #[.int .i64 x.id] 3)) hbw.size hv1
            have hbW := hbw.alloc (.cells #[.int .i64 x.id] 3)
            have hcl := cell_one_new wr (.int .i64 x.id) 3
            have hb0 := hbA.size
            clear hv1 hbl
            go_wp2_with (at_builtin; refine wpList_push _ rfl (.tmp 35) (.tmp 38) 26 rfl w 3 i0 _ 1 8 Tryz.underlying26 hi hz0 hz1 hz2 rfl (by omega) fInt_good _ (bestTo l e k) F rfl hvW hF ⟨wr.heap.size, 0, none⟩ 1 rfl x.id [.int .i64 x.id] [] hcl ⟨rfl, rfl⟩ rfl _ hFm Fresh.nil hb0 (by have := HBL.out; omega) (by have := HBL.out; omega) hbW ?_; intro v' w' F' hv' hF' hb')
            go_roundg (j - (k + 1))
            case measure => omega
            case rel => exact ⟨k + 1, F', by omega, rfl, by go_num, by rw [HB.out]; exact hv', hF', hb'⟩
    · obtain rfl : k = n := by omega
      rw [bestTo_end (by rw [← L.out]; exact Nat.le_refl _)] at hv
      go_wp2
      go_ret
      exact ⟨_, rfl, ⟨F, hv, hF⟩, hb⟩
set_option maxHeartbeats 400000 in
theorem I_BestItems (w : World) (l : List GItem) (e : List GNode) (v u : Value) (h : Rd rItems w l [v]) (h' : Rd rNodes w e [u]) : Calls Tryz.prog 37 #[v, u] w (RetV w (Made fInts w.heap.size (bestItems l e))) := by
  go_enter Tryz.func37, Tryz.ntmps37
  go_wp2_with fail
  refine (I_areBoth _ l e _ _ h h').mono ?_
  rintro e w2 ⟨rfl, hb2⟩
  rcases Bool.eq_false_or_eq_true (areBoth l e) with e1 | e1
  · have E := Lib.hid e1
    rw [e1]
    clear e1
    go_wp2_with fail
    refine (I_best _ l e _ _ (h.bw rItems_good hb2) (h'.bw rNodes_good hb2) E.out).mono ?_
    rintro e w3 ⟨v3, rfl, ⟨F, o, f⟩, hb3⟩
    rw [show bestM l e = bestItems l e by rw [bestItems, if_pos E.out]] at o
    go_wp2
    go_ret
    exact ⟨_, rfl, ⟨F, o, f.mono hb2.size⟩, hb2.then hb3⟩
  · have E := Lib.hid e1
    rw [e1]
    clear e1
    have hv0 := fSl_empty (e := 3) (sz := 1) (R := fInt) w2
    rw [show ([] : List Int) = bestItems l e by rw [bestItems, E.out]; rfl] at hv0
    have hz := hb2.size
    go_wp2
    go_ret
    exact ⟨_, rfl, ⟨_, hv0, ⟨by simp, by simpa using hz⟩⟩, hb2.alloc _⟩
end Go.Proofs.YtpihighajaeabaaGreat

namespace Go.Proofs.YtpihighajaeabaaGreat
open Go.RowKit
set_option linter.unusedVariables false
set_option linter.unusedSimpArgs false
set_option maxHeartbeats 400000 in
theorem S_l7Fine (w : World) (l : List GItem) (e : List GNode) (v u : Value) (h : Rd rItems w l [v]) (h' : Rd rNodes w e [u]) : Calls Tryz.prog 102 #[v, u] w (Ret w (.bool (areBoth l e))) := by
  go_enter Tryz.func102, Tryz.ntmps102
  go_wp2_with fail
  refine (S_AreItems _ l _ h).mono ?_
  rintro e w2 ⟨rfl, hb2⟩
  rcases Bool.eq_false_or_eq_true (areItems l) with e1 | e1
  · have E := Lib.hid e1
    rw [e1]
    clear e1
    go_wp2_with fail
    refine (S_IsExpression _ e _ (h'.bw rNodes_good hb2)).mono ?_
    rintro e w3 ⟨rfl, hb3⟩
    rcases Bool.eq_false_or_eq_true (isExpr e) with e2 | e2
    · have E2 := Lib.hid e2
      rw [e2]
      clear e2
      go_wp2
      go_ret
      exact Ret.bool (by rw [areBoth, E.out, E2.out]; rfl) (hb2.then hb3)
    · have E2 := Lib.hid e2
      rw [e2]
      clear e2
      go_wp2
      go_ret
      exact Ret.bool (by rw [areBoth, E.out, E2.out]; rfl) (hb2.then hb3)
  · have E := Lib.hid e1
    rw [e1]
    clear e1
    go_wp2
    go_ret
    exact Ret.bool (by rw [areBoth, E.out]; rfl) (hb2)
set_option maxRecDepth 100000 in
set_option maxHeartbeats 3200000 in
theorem S_l7Best (w : World) (l : List GItem) (e : List GNode) (v u : Value) (h : Rd rItems w l [v]) (h' : Rd rNodes w e [u]) (hI : areItems l = true) (hE : isExpr e = true) : Calls Tryz.prog 101 #[v, u] w (RetV w (Made fInts w.heap.size (bestM l e))) := by
  obtain ⟨i0, hi, hz0, hz1, hz2⟩ := info_parts info_int
  obtain ⟨A, n, c, rfl, L0, Lc, Lm⟩ := rSl_open h
  unfold maxLen at Lm
  have L := Lib.hid L0
  clear L0
  have HE1 := Lib.hid hE
  have HI := Lib.hid hI
  have n16 : n ≤ 16 := by rw [L.out]; exact areItems_len HI.out
  have hv0 := fSl_empty (e := 3) (sz := 1) (R := fInt) w
  clear hE hI
  go_enter Tryz.func101, Tryz.ntmps101
  go_wp2
  go_loopg [5, 6] n (fun g s i w' => ∃ (k : Nat) (F : List Nat), k ≤ n ∧ g = n - k ∧ i = .int .i64 k ∧ fInts w' (bestTo l e k) [s] F ∧ Fresh w.heap.size F ∧ Bw w w')
  case atStart => exact ⟨0, _, by omega, rfl, rfl, hv0, ⟨by simp, by simp⟩, (Bw.refl _).alloc _⟩
  case round =>
    clear hv0
    obtain ⟨k, F, hk, rfl, rfl, hv, hF, hb⟩ := hrel
    by_cases hlt : k < n
    · obtain ⟨x, hx⟩ := get_of_lt (xs := l) (k := k) (by have := L.out; omega)
      obtain ⟨ba, oa, Ax, cx, rfl, _, hc0, hc1, hin⟩ := rItems_at h hx
      have HP := Lib.hid (areItems_mem HI.out (List.mem_of_getElem? hx))
      have hlen := isItem_len HP.out
      rw [hlen] at hc1 hin
      have i1 : (0 : Int) ≤ (k : Int) := by omega
      have i2 : (k : Int) < (n : Int) := by omega
      have HYES := Lib.hid (fun hf => bestTo_yes (e := e) hx hf)
      have HNO := Lib.hid (fun hf => bestTo_no (e := e) hx hf)
      have HH := Lib.hid h
      have hFm := (fInts_good (B := 0)).lt hv
      have k0 := hb.cell hc0
      have k1 := hb.cell hc1
      clear hx h hlen
      go_wp2
      go_loopg [7, 8] n (fun g b i2 w' => ∃ (j : Nat) (q : Bool), j ≤ n ∧ g = n - j ∧ i2 = .int .i64 j ∧ b = .bool q ∧ Hid ((!q) = (l.take j).any fun y => beats e y x) ∧ Bw wr w')
      case atStart => exact ⟨0, true, by omega, rfl, rfl, rfl, Lib.hid rfl, Bw.refl _⟩
      case round =>
        obtain ⟨j, qb, hj, rfl, rfl, rfl, HQ, hbj⟩ := hrel
        have hbw := hb.then hbj
        have m0 := hbj.cell k0
        have m1 := hbj.cell k1
        by_cases hlt2 : j < n
        · obtain ⟨y, hy⟩ := get_of_lt (xs := l) (k := j) (by have := L.out; omega)
          obtain ⟨b2, o2, Ay, cy, eA, _, hd0, hd1, hin2⟩ := rItems_at HH.out hy
          injection eA with eA
          injection eA with eA1 eA2
          subst eA1 eA2
          have HPy := Lib.hid (areItems_mem HI.out (List.mem_of_getElem? hy))
          have hleny := isItem_len HPy.out
          rw [hleny] at hd1 hin2
          replace hd0 := hbw.cell hd0
          replace hd1 := hbw.cell hd1
          have j1 : (0 : Int) ≤ (j : Int) := by omega
          have j2 : (j : Int) < (n : Int) := by omega
          have HS := Lib.hid (any_take_succ (fun y => beats e y x) hy)
          have s0 := since_cell m0
          have s1 := since_cell m1
          have s2 := since_cell hd0
          have s3 := since_cell hd1
          clear hy hleny
          cases qb with
          | false =>
            have HQ2 := Lib.hid (show (!false) = (l.take (j + 1)).any fun y => beats e y x by rw [HS.out, ← HQ.out]; rfl)
            clear HQ HS
            go_wp2
            refine wp_region_since (by kernel_rfl) (by kernel_rfl) ?_
            repeat (first | go_big_quiet_skip | (go_big_quiet_want; go_big_quiet_op; first | go_big_quiet_on | (apply Exists.intro; refine ⟨fun _ => ?_, ?_⟩; (· ((fail))); go_big_quiet_on)))
            refine wpQuiet_nil ?_
            rintro ⟨wq, hbq⟩
            dsimp only at *
            go_wp2
            go_roundg (n - (j + 1))
            case measure => omega
            case rel => exact ⟨j + 1, false, by omega, rfl, by go_num, rfl, HQ2, hbj.then hbq⟩
          | true =>
            have hcall : ∀ s : Since wr, Calls Tryz.prog 85 _ s.1 (Ret s.1 (.int .i64 (cmpBy e y x))) := fun s => S_l5Compare _ e y x u _ _ (h'.bw rNodes_good (hbw.then s.bw)) (Rd.bw rInts_good hin2 (hbw.then s.bw)) (Rd.bw rInts_good hin (hbw.then s.bw)) HE1.out HPy.out HP.out
            have HQ2 := Lib.hid (show decide (cmpBy e y x = 1) = (l.take (j + 1)).any fun y => beats e y x by rw [HS.out, ← HQ.out]; rfl)
            obtain ⟨r, hr⟩ : ∃ r, r = cmpBy e y x := ⟨_, rfl⟩
            rw [← hr] at hcall HQ2
            clear HQ HS hr m0 m1 hd0 hd1
            by_cases hr1 : r = 1
            · have e1 : (r != 1) = false := by simpa using hr1
              have HQ3 := Lib.hid (show (!false) = (l.take (j + 1)).any fun y => beats e y x by rw [← HQ2.out]; simpa using hr1)
              clear hr1 HQ2
              go_wp2
              refine wp_region_since (by kernel_rfl) (by kernel_rfl) ?_
              repeat (first | go_big_quiet_skip | (go_big_quiet_want; go_big_quiet_op; first | go_big_quiet_on | (apply Exists.intro; refine ⟨fun _ => ?_, ?_⟩; (· (((first | (go_at_call 85; exact Calls_since (hcall _)))))); go_big_quiet_on)))
              refine wpQuiet_nil ?_
              rintro ⟨wq, hbq⟩
              dsimp only at *
              go_wp2
              go_roundg (n - (j + 1))
              case measure => omega
              case rel => exact ⟨j + 1, false, by omega, rfl, by go_num, rfl, HQ3, hbj.then hbq⟩
            · have e1 : (r != 1) = true := by simpa using hr1
              have HQ3 := Lib.hid (show (!true) = (l.take (j + 1)).any fun y => beats e y x by rw [← HQ2.out]; simpa using hr1)
              clear hr1 HQ2
              go_wp2
              refine wp_region_since (by kernel_rfl) (by kernel_rfl) ?_
              repeat (first | go_big_quiet_skip | (go_big_quiet_want; go_big_quiet_op; first | go_big_quiet_on | (apply Exists.intro; refine ⟨fun _ => ?_, ?_⟩; (· (((first | (go_at_call 85; exact Calls_since (hcall _)))))); go_big_quiet_on)))
              refine wpQuiet_nil ?_
              rintro ⟨wq, hbq⟩
              dsimp only at *
              go_wp2
              go_roundg (n - (j + 1))
              case measure => omega
              case rel => exact ⟨j + 1, true, by omega, rfl, by go_num, rfl, HQ3, hbj.then hbq⟩
        · obtain rfl : j = n := by omega
          have HF := Lib.hid (show freeIn l e x = qb by rw [freeIn, ← any_take_end (k := j) _ (by rw [← L.out]; exact Nat.le_refl _), ← HQ.out]; simp)
          have hv1 := (fInts_good (B := w.heap.size)).bw hbj hb.size hv
          clear HQ hlt2
          cases qb with
          | false =>
            have HB := Lib.hid (HNO.out HF.out)
            go_wp2
            go_roundg (j - (k + 1))
            case measure => omega
            case rel => exact ⟨k + 1, F, by omega, rfl, by go_num, by rw [HB.out]; exact hv1, hF, hbw⟩
          | true =>
            have HB := Lib.hid (HYES.out HF.out)
            have hbl := bestTo_len (l := l) (e := e) (k := k)
            have HBL := Lib.hid hbl
            have hvW := (fInts_good (B := w.heap.size)).bw ((Bw.refl wr).alloc (.cells #[.int .i64 x.id] 3)) hbw.size hv1
            have hbW := hbw.alloc (.cells #[.int .i64 x.id] 3)
            have hcl := cell_one_new wr (.int .i64 x.id) 3
            have hb0 := hb.size
            clear hv1 hbl hv
            go_wp2_with (at_builtin; refine wpList_push _ rfl (.tmp 37) (.tmp 43) 26 rfl w 3 i0 _ 1 8 Tryz.underlying26 hi hz0 hz1 hz2 rfl (by omega) fInt_good _ (bestTo l e k) F rfl hvW hF ⟨wr.heap.size, 0, none⟩ 1 rfl x.id [.int .i64 x.id] [] hcl ⟨rfl, rfl⟩ rfl _ hFm Fresh.nil hb0 (by have := HBL.out; omega) (by have := HBL.out; omega) hbW ?_; intro v' w' F' hv' hF' hb')
            go_roundg (j - (k + 1))
            case measure => omega
            case rel => exact ⟨k + 1, F', by omega, rfl, by go_num, by rw [HB.out]; exact hv', hF', hb'⟩
    · obtain rfl : k = n := by omega
      rw [bestTo_end (by rw [← L.out]; exact Nat.le_refl _)] at hv
      go_wp2
      go_ret
      exact ⟨_, rfl, ⟨F, hv, hF⟩, hb⟩
end Go.Proofs.YtpihighajaeabaaGreat
