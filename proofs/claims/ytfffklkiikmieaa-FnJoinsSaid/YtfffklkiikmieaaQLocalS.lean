/- The locally best items in the reference. -/
import Derived.Test.YtfffklkiikmieaaQBestS
import Derived.Test.YtfffklkiikmieaaQLocalI
namespace Go.Proofs.Ytfffklkiikmieaa
open Go.RowKit
set_option linter.unusedVariables false
set_option linter.unusedSimpArgs false
theorem S_l17FieldB (w : World) (f : Int) : Calls Try.prog 144 #[.int .i64 f] w (Ret w (.bool (inB f 0 2))) := by
  go_enter Try.func144, Try.ntmps144
  go_wp2_with fail
  refine (S_l1In _ _ _ _).mono ?_
  rintro e w2 ⟨rfl, hb2⟩
  go_wp2
  go_ret
  exact Ret.bool (rfl) (hb2)
set_option maxRecDepth 100000 in
set_option maxHeartbeats 6400000 in
theorem S_LocalBest_yes (w : World) (l : List GItem) (f : Nat) (e : List GNode) (v u : Value) (h : Rd rItems w l [v]) (h' : Rd rNodes w e [u]) (hE : areBoth l e = true) (hf2 : f ≤ 2) : Calls Try.prog 60 #[v, .int .i64 (f : Int), u] w (RetV w (Made fInts w.heap.size ((l.filter (localFree l f e)).map (·.id)))) := by
  obtain ⟨i0, hi, hz0, hz1, hz2⟩ := info_parts info_int
  have HR := Lib.hid h
  obtain ⟨A, n, c, rfl, L0, Lc, Lm⟩ := rSl_open h
  unfold maxLen at Lm
  have L := Lib.hid L0
  clear L0
  have HB := Lib.hid hE
  have HE1 := Lib.hid (areBoth_expr hE)
  have HI := Lib.hid (areBoth_items hE)
  have HF2 := Lib.hid (show inB (f : Int) 0 2 = true from inB_iff.2 (by omega))
  have n16 : n ≤ 16 := by rw [L.out]; exact areItems_len HI.out
  have hv0 := fSl_empty (e := 3) (sz := 1) (R := fInt) w
  have f1 : (0 : Int) ≤ (f : Int) := by omega
  have f3 : (f : Int) < 3 := by omega
  clear hE
  go_enter Try.func60, Try.ntmps60
  go_wp2
  go_loopg [7, 8] n (fun g s i w' => ∃ (k : Nat) (F : List Nat), k ≤ n ∧ g = n - k ∧ i = .int .i64 k ∧ fInts w' (localTo l f e k) [s] F ∧ Fresh w.heap.size F ∧ Bw w w')
  case atStart => exact ⟨0, _, by omega, rfl, rfl, hv0, ⟨by simp, by simp⟩, (Bw.refl w).alloc _⟩
  case round =>
    clear hv0
    obtain ⟨k, F, hk, rfl, rfl, hv, hF, hb⟩ := hrel
    by_cases hlt : k < n
    · obtain ⟨x, hx⟩ := get_of_lt (xs := l) (k := k) (by have := L.out; omega)
      obtain ⟨ba, oa, Ax, cx, rfl, _, hc0, hc1, hin⟩ := rItems_at h hx
      have HP := Lib.hid (areItems_mem HI.out (List.mem_of_getElem? hx))
      have hlen := isItem_len HP.out
      rw [hlen] at hc1 hin
      obtain ⟨bx, ox, rfl, _, hvx0⟩ := rInts_at hin (valAt_get HP.out hf2)
      have i1 : (0 : Int) ≤ (k : Int) := by omega
      have i2 : (k : Int) < (n : Int) := by omega
      have HYES := Lib.hid (fun hf => localTo_yes (e := e) (f := f) hx hf)
      have HNO := Lib.hid (fun hf => localTo_no (e := e) (f := f) hx hf)
      have HH := Lib.hid h
      have hFm0 := (fInts_good (B := 0)).lt hv
      clear hx hlen
      go_wp2_with fail
      refine (S_l7Fine _ l e _ _ (h.bw rItems_good hb) (h'.bw rNodes_good hb)).mono ?_
      rintro e w1 ⟨rfl, hb1⟩
      rw [HB.out]
      have hbx1 := hb.then hb1
      go_wp2_with fail
      refine (S_l17FieldB _ _).mono ?_
      rintro e w2 ⟨rfl, hb2⟩
      rw [HF2.out]
      have hbA := hbx1.then hb2
      have hvA := (fInts_good (B := w.heap.size)).bw (hb1.then hb2) hb.size hv
      have hFm := (fInts_good (B := 0)).lt hvA
      have kx0 := hbA.cell hc0
      have kx1 := hbA.cell hc1
      clear h hv hb1 hb2
      go_wp2
      go_loopg [9, 10] n (fun g b i2 w' => ∃ (j : Nat) (q : Bool), j ≤ n ∧ g = n - j ∧ i2 = .int .i64 j ∧ b = .bool q ∧ Hid ((!q) = (l.take j).any fun y => decide (valAt x f = valAt y f) && beats e y x) ∧ Bw w2 w')
      case atStart => exact ⟨0, true, by omega, rfl, rfl, rfl, Lib.hid rfl, Bw.refl _⟩
      case round =>
        obtain ⟨j, qb, hj, rfl, rfl, rfl, HQ, hbj⟩ := hrel
        have hbw := hbA.then hbj
        by_cases hlt2 : j < n
        · obtain ⟨y, hy⟩ := get_of_lt (xs := l) (k := j) (by have := L.out; omega)
          obtain ⟨b2, o2, Ay, cy, eA, _, hd0, hd1, hin2⟩ := rItems_at HH.out hy
          injection eA with eA
          injection eA with eA1 eA2
          subst eA1 eA2
          have HPy := Lib.hid (areItems_mem HI.out (List.mem_of_getElem? hy))
          have hleny := isItem_len HPy.out
          rw [hleny] at hd1 hin2
          obtain ⟨b3, o3, rfl, _, hvy0⟩ := rInts_at hin2 (valAt_get HPy.out hf2)
          have j1 : (0 : Int) ≤ (j : Int) := by omega
          have j2 : (j : Int) < (n : Int) := by omega
          have HS := Lib.hid (any_take_succ (fun y => decide (valAt x f = valAt y f) && beats e y x) hy)
          have hcall : ∀ s : Since wr, Calls Try.prog 147 _ s.1 (Ret s.1 (.int .i64 (cmpBy e y x))) := fun s => S_l5Compare s.1 e y x u _ _ (h'.bw rNodes_good (hbw.then s.bw)) (Rd.bw rInts_good hin2 (hbw.then s.bw)) (Rd.bw rInts_good hin (hbw.then s.bw)) HE1.out HPy.out HP.out
          have s0 := since_cell (hbj.cell kx0)
          have s1 := since_cell (hbj.cell kx1)
          have s2 := since_cell (hbw.cell hvx0)
          have s3 := since_cell (hbw.cell hvy0)
          have s4 := since_cell (hbw.cell hd0)
          have s5 := since_cell (hbw.cell hd1)
          clear hy hleny hvy0 hd0 hd1
          cases qb with
          | false =>
            have HQ2 := Lib.hid (show (!false) = (l.take (j + 1)).any fun y => decide (valAt x f = valAt y f) && beats e y x by rw [HS.out, ← HQ.out]; rfl)
            clear HQ HS hcall
            go_wp2
            refine wp_region_since (by kernel_rfl) (by kernel_rfl) ?_
            repeat (first | go_big_quiet_skip | (go_big_quiet_want; go_big_quiet_op; first | go_big_quiet_on | (apply Exists.intro; refine ⟨fun _ => ?_, ?_⟩; (· ((fail))); go_big_quiet_on)))
            refine wpQuiet_nil ?_
            rintro ⟨wq, hbq⟩
            dsimp only at *
            go_wp2
            go_roundg (n - (j + 1))
            case measure => omega
            case rel => exact ⟨j + 1, false, by omega, rfl, by go_num, rfl, HQ2, hbj.then hbq⟩
          | true =>
            by_cases hve : valAt x f = valAt y f
            · have e1 : (valAt y f != valAt x f) = false := by simpa using hve.symm
              have HQ2 := Lib.hid (show decide (cmpBy e y x = 1) = (l.take (j + 1)).any fun y => decide (valAt x f = valAt y f) && beats e y x by rw [HS.out, ← HQ.out]; simp [hve, beats])
              obtain ⟨r, hr⟩ : ∃ r, r = cmpBy e y x := ⟨_, rfl⟩
              rw [← hr] at HQ2
              simp only [← hr] at hcall
              clear HQ HS hr hve
              by_cases hr1 : r = 1
              · have e2 : (r != 1) = false := by simpa using hr1
                have HQ3 := Lib.hid (show (!false) = (l.take (j + 1)).any fun y => decide (valAt x f = valAt y f) && beats e y x by rw [← HQ2.out]; simpa using hr1)
                clear hr1 HQ2
                go_wp2
                refine wp_region_since (by kernel_rfl) (by kernel_rfl) ?_
                repeat (first | go_big_quiet_skip | (go_big_quiet_want; go_big_quiet_op; first | go_big_quiet_on | (apply Exists.intro; refine ⟨fun _ => ?_, ?_⟩; (· (((first | (go_at_call 147; exact Calls_since (hcall _)))))); go_big_quiet_on)))
                refine wpQuiet_nil ?_
                rintro ⟨wq, hbq⟩
                dsimp only at *
                go_wp2
                go_roundg (n - (j + 1))
                case measure => omega
                case rel => exact ⟨j + 1, false, by omega, rfl, by go_num, rfl, HQ3, hbj.then hbq⟩
              · have e2 : (r != 1) = true := by simpa using hr1
                have HQ3 := Lib.hid (show (!true) = (l.take (j + 1)).any fun y => decide (valAt x f = valAt y f) && beats e y x by rw [← HQ2.out]; simpa using hr1)
                clear hr1 HQ2
                go_wp2
                refine wp_region_since (by kernel_rfl) (by kernel_rfl) ?_
                repeat (first | go_big_quiet_skip | (go_big_quiet_want; go_big_quiet_op; first | go_big_quiet_on | (apply Exists.intro; refine ⟨fun _ => ?_, ?_⟩; (· (((first | (go_at_call 147; exact Calls_since (hcall _)))))); go_big_quiet_on)))
                refine wpQuiet_nil ?_
                rintro ⟨wq, hbq⟩
                dsimp only at *
                go_wp2
                go_roundg (n - (j + 1))
                case measure => omega
                case rel => exact ⟨j + 1, true, by omega, rfl, by go_num, rfl, HQ3, hbj.then hbq⟩
            · have e1 : (valAt y f != valAt x f) = true := by simpa using fun e => hve e.symm
              have HQ3 := Lib.hid (show (!true) = (l.take (j + 1)).any fun y => decide (valAt x f = valAt y f) && beats e y x by rw [HS.out, ← HQ.out]; simp [hve])
              clear HQ HS hve hcall
              go_wp2
              refine wp_region_since (by kernel_rfl) (by kernel_rfl) ?_
              repeat (first | go_big_quiet_skip | (go_big_quiet_want; go_big_quiet_op; first | go_big_quiet_on | (apply Exists.intro; refine ⟨fun _ => ?_, ?_⟩; (· ((fail))); go_big_quiet_on)))
              refine wpQuiet_nil ?_
              rintro ⟨wq, hbq⟩
              dsimp only at *
              go_wp2
              go_roundg (n - (j + 1))
              case measure => omega
              case rel => exact ⟨j + 1, true, by omega, rfl, by go_num, rfl, HQ3, hbj.then hbq⟩
        · obtain rfl : j = n := by omega
          have HF := Lib.hid (show localFree l f e x = qb by rw [localFree, ← any_take_end (k := j) _ (by rw [← L.out]; exact Nat.le_refl _), ← HQ.out]; simp)
          have hv1 := (fInts_good (B := w.heap.size)).bw hbj hbA.size hvA
          have kk0 := hbj.cell kx0
          have h := HR.out
          clear HQ hlt2 hvA
          cases qb with
          | false =>
            have HB2 := Lib.hid (HNO.out HF.out)
            go_wp2
            go_roundg (j - (k + 1))
            case measure => omega
            case rel => exact ⟨k + 1, F, by omega, rfl, by go_num, by rw [HB2.out]; exact hv1, hF, hbw⟩
          | true =>
            have HB2 := Lib.hid (HYES.out HF.out)
            have hbl := localTo_len (l := l) (f := f) (e := e) (k := k)
            have HBL := Lib.hid hbl
            have hvW := (fInts_good (B := w.heap.size)).bw ((Bw.refl wr).alloc (.cells #[.int .i64 x.id] 3)) hbw.size hv1
            have hbW := hbw.alloc (.cells #[.int .i64 x.id] 3)
            have hcl := cell_one_new wr (.int .i64 x.id) 3
            have hb0 := hbA.size
            clear hv1 hbl
            go_wp2_with (at_builtin; refine wpList_push _ rfl (.tmp 67) (.tmp 73) 42 rfl w 3 i0 _ 1 8 Try.underlying42 hi hz0 hz1 hz2 rfl (by omega) fInt_good _ (localTo l f e k) F rfl hvW hF ⟨wr.heap.size, 0, none⟩ 1 rfl x.id [.int .i64 x.id] [] hcl ⟨rfl, rfl⟩ rfl _ hFm Fresh.nil hb0 (by have := HBL.out; omega) (by have := HBL.out; omega) hbW ?_; intro v' w' F' hv' hF' hb')
            go_roundg (j - (k + 1))
            case measure => omega
            case rel => exact ⟨k + 1, F', by omega, rfl, by go_num, by rw [HB2.out]; exact hv', hF', hb'⟩
    · obtain rfl : k = n := by omega
      rw [localTo_end (by rw [← L.out]; exact Nat.le_refl _)] at hv
      go_wp2
      go_ret
      exact ⟨_, rfl, ⟨F, hv, hF⟩, hb⟩
set_option maxHeartbeats 1600000 in
theorem S_LocalBest_no (w : World) (l : List GItem) (f : Int) (e : List GNode) (v u : Value) (h : Rd rItems w l [v]) (h' : Rd rNodes w e [u]) (hc : (areBoth l e && inB f 0 2) = false) : Calls Try.prog 60 #[v, .int .i64 f, u] w (RetV w (Made fInts w.heap.size [])) := by
  have hv0 := fSl_empty (e := 3) (sz := 1) (R := fInt) w
  obtain ⟨A, n, c, rfl, L0, Lc, Lm⟩ := rSl_open h
  unfold maxLen at Lm
  have L := Lib.hid L0
  clear L0
  have HC := Lib.hid hc
  clear hc
  go_enter Try.func60, Try.ntmps60
  go_wp2
  go_loopg [7, 8] 0 (fun g s i w' => ∃ (F : List Nat), g = 0 ∧ i = .int .i64 0 ∧ fInts w' [] [s] F ∧ Fresh w.heap.size F ∧ Bw w w')
  case atStart => exact ⟨_, rfl, rfl, hv0, ⟨by simp, by simp⟩, (Bw.refl w).alloc _⟩
  case round =>
    clear hv0
    obtain ⟨F, rfl, rfl, hv, hF, hb⟩ := hrel
    by_cases hlt : 0 < n
    · go_wp2_with fail
      refine (S_l7Fine _ l e _ _ (h.bw rItems_good hb) (h'.bw rNodes_good hb)).mono ?_
      rintro e w1 ⟨rfl, hb1⟩
      have hv1 := (fInts_good (B := w.heap.size)).bw hb1 hb.size hv
      have B1 := hb.then hb1
      rcases Bool.eq_false_or_eq_true (areBoth l e) with e1 | e1
      · have HC2 := Lib.hid (show inB f 0 2 = false by have := HC.out; rw [e1] at this; simpa using this)
        rw [e1]
        clear e1
        go_wp2_with fail
        refine (S_l17FieldB _ _).mono ?_
        rintro e w2 ⟨rfl, hb2⟩
        rw [HC2.out]
        have hv2 := (fInts_good (B := w.heap.size)).bw hb2 B1.size hv1
        go_wp2
        go_ret
        exact ⟨_, rfl, ⟨_, hv2, hF⟩, B1.then hb2⟩
      · rw [e1]
        clear e1
        go_wp2
        go_ret
        exact ⟨_, rfl, ⟨_, hv1, hF⟩, B1⟩
    · obtain rfl : n = 0 := by omega
      go_wp2
      go_ret
      exact ⟨_, rfl, ⟨_, hv, hF⟩, hb⟩
theorem S_LocalBest (w : World) (l : List GItem) (f : Int) (e : List GNode) (v u : Value) (h : Rd rItems w l [v]) (h' : Rd rNodes w e [u]) : Calls Try.prog 60 #[v, .int .i64 f, u] w (RetV w (Made fInts w.heap.size (localM l f e))) := by
  rcases Bool.eq_false_or_eq_true (areBoth l e && inB f 0 2) with hc | hc
  · rw [localM_yes hc]
    simp only [Bool.and_eq_true] at hc
    have := inB_iff.1 hc.2
    obtain ⟨fn, rfl⟩ : ∃ fn : Nat, f = fn := ⟨f.toNat, by omega⟩
    exact S_LocalBest_yes w l fn e v u h h' hc.1 (by omega)
  · rw [localM_no hc]
    exact S_LocalBest_no w l f e v u h h' hc
end Go.Proofs.Ytfffklkiikmieaa
