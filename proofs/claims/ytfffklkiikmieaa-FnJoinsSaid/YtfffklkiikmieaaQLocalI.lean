/- The locally best items in the program. -/
import Derived.Test.YtfffklkiikmieaaQSlicesI
import Derived.Test.YtfffklkiikmieaaQCodes
namespace Go.Proofs.Ytfffklkiikmieaa
open Go.RowKit
set_option linter.unusedVariables false
def localTo (a : List GItem) (f : Int) (p : List GNode) (k : Nat) : List Int := ((a.take k).filter (localFree a f p)).map (·.id)
theorem localTo_yes {l : List GItem} {f : Int} {e : List GNode} {k : Nat} {x : GItem} (hx : l[k]? = some x) (h : localFree l f e x = true) : localTo l f e (k + 1) = localTo l f e k ++ [x.id] := by
  unfold localTo; rw [List.take_add_one, hx, List.filter_append, List.map_append]; simp [h]
theorem localTo_no {l : List GItem} {f : Int} {e : List GNode} {k : Nat} {x : GItem} (hx : l[k]? = some x) (h : localFree l f e x = false) : localTo l f e (k + 1) = localTo l f e k := by
  unfold localTo; rw [List.take_add_one, hx, List.filter_append, List.map_append]; simp [h]
theorem localTo_end {l : List GItem} {f : Int} {e : List GNode} {k : Nat} (h : l.length ≤ k) : localTo l f e k = (l.filter (localFree l f e)).map (·.id) := by unfold localTo; rw [List.take_of_length_le h]
theorem localTo_len {l : List GItem} {f : Int} {e : List GNode} {k : Nat} : (localTo l f e k).length ≤ k := by
  unfold localTo; rw [List.length_map]
  exact Nat.le_trans (List.length_filter_le _ _) (by rw [List.length_take]; omega)
theorem localM_yes {a : List GItem} {f : Int} {p : List GNode} (h : (areBoth a p && inB f 0 2) = true) : localM a f p = (a.filter (localFree a f p)).map (·.id) := by rw [localM, if_pos h]
theorem localM_no {a : List GItem} {f : Int} {p : List GNode} (h : (areBoth a p && inB f 0 2) = false) : localM a f p = [] := by rw [localM, h]; rfl
theorem localM_len (a : List GItem) (f : Int) (p : List GNode) : (localM a f p).length ≤ a.length := by
  unfold localM; split
  · rw [List.length_map]; exact List.length_filter_le _ _
  · simp
end Go.Proofs.Ytfffklkiikmieaa

namespace Go.Proofs.Ytfffklkiikmieaa
open Go.RowKit
set_option linter.unusedVariables false
set_option linter.unusedSimpArgs false
set_option maxRecDepth 100000 in
set_option maxHeartbeats 6400000 in
theorem I_LocalBest_yes (w : World) (l : List GItem) (f : Nat) (e : List GNode) (v u : Value) (h : Rd rItems w l [v]) (h' : Rd rNodes w e [u]) (hE : areBoth l e = true) (hf2 : f ≤ 2) : Calls Try.prog 57 #[v, .int .i64 (f : Int), u] w (RetV w (Made fInts w.heap.size ((l.filter (localFree l f e)).map (·.id)))) := by
  obtain ⟨i0, hi, hz0, hz1, hz2⟩ := info_parts info_int
  obtain ⟨A, n, c, rfl, L0, Lc, Lm⟩ := rSl_open h
  unfold maxLen at Lm
  have L := Lib.hid L0
  clear L0
  have HB := Lib.hid hE
  have HE1 := Lib.hid (areBoth_expr hE)
  have HI := Lib.hid (areBoth_items hE)
  have HF2 := Lib.hid (show inB (f : Int) 0 2 = true from inB_iff.2 (by omega))
  have n16 : n ≤ 16 := by rw [L.out]; exact areItems_len HI.out
  have hv0 := fSl_empty (e := 3) (sz := 1) (R := fInt) w
  have hz0' : Bw w (w.alloc (.cells #[] 3)) := (Bw.refl w).alloc _
  have f1 : (0 : Int) ≤ (f : Int) := by omega
  have f3 : (f : Int) < 3 := by omega
  clear hE
  go_enter Try.func57, Try.ntmps57
  go_wp2_with fail
  refine (I_areBoth _ l e _ _ (h.bw rItems_good hz0') (h'.bw rNodes_good hz0')).mono ?_
  rintro e w1 ⟨rfl, hb1⟩
  rw [HB.out]
  have hv1 := (fInts_good (B := w.heap.size)).bw hb1 hz0'.size hv0
  have B1 := hz0'.then hb1
  go_wp2_with fail
  refine (I_within _ _ _ _).mono ?_
  rintro e w2 ⟨rfl, hb2⟩
  rw [HF2.out]
  have hv2 := (fInts_good (B := w.heap.size)).bw hb2 B1.size hv1
  have B2 := B1.then hb2
  clear hv0 hv1 hb1 hb2
  go_wp2
  go_loopg [7, 26] n (fun g s i w' => ∃ (k : Nat) (F : List Nat), k ≤ n ∧ g = n - k ∧ i = .int .i64 k ∧ fInts w' (localTo l f e k) [s] F ∧ Fresh w.heap.size F ∧ Bw w w')
  case atStart => exact ⟨0, _, by omega, rfl, rfl, hv2, ⟨by simp, by simp⟩, B2⟩
  case round =>
    clear hv2 B2 B1 hz0'
    obtain ⟨k, F, hk, rfl, rfl, hv, hF, hb⟩ := hrel
    by_cases hlt : k < n
    · obtain ⟨x, hx⟩ := get_of_lt (xs := l) (k := k) (by have := L.out; omega)
      obtain ⟨ba, oa, Ax, cx, rfl, _, hc0, hc1, hin⟩ := rItems_at h hx
      have HP := Lib.hid (areItems_mem HI.out (List.mem_of_getElem? hx))
      have hlen := isItem_len HP.out
      rw [hlen] at hc1 hin
      obtain ⟨bx, ox, rfl, _, hvx0⟩ := rInts_at hin (valAt_get HP.out hf2)
      have i1 : (0 : Int) ≤ (k : Int) := by omega
      have i2 : (k : Int) < (n : Int) := by omega
      replace hc0 := hb.cell hc0
      replace hc1 := hb.cell hc1
      have hbx := World.block_lt_of_cell? _ _ hc0
      have HYES := Lib.hid (fun hf => localTo_yes (e := e) (f := f) hx hf)
      have HNO := Lib.hid (fun hf => localTo_no (e := e) (f := f) hx hf)
      have HH := Lib.hid h
      have A1 : Bw wr (wr.alloc (.cells #[.int .i64 x.id, .slice (some ⟨bx, ox, none⟩) 3 cx] 110)) := (Bw.refl wr).alloc _
      have hbA := hb.then A1
      have hvA := (fInts_good (B := w.heap.size)).bw A1 hb.size hv
      have hFm := (fInts_good (B := 0)).lt hvA
      have kx0 : (wr.alloc (.cells #[.int .i64 x.id, .slice (some ⟨bx, ox, none⟩) 3 cx] 110)).cell? ⟨wr.heap.size, 0, none⟩ = some (.int .i64 x.id) := by go_simp
      have kx1 : (wr.alloc (.cells #[.int .i64 x.id, .slice (some ⟨bx, ox, none⟩) 3 cx] 110)).cell? ⟨wr.heap.size, 1, none⟩ = some (.slice (some ⟨bx, ox, none⟩) 3 cx) := by go_simp
      obtain ⟨W, hW⟩ : ∃ W, W = wr.alloc (.cells #[.int .i64 x.id, .slice (some ⟨bx, ox, none⟩) 3 cx] 110) := ⟨_, rfl⟩
      rw [← hW] at kx0 kx1 hbA hvA hFm
      have HW := Lib.hid hW
      clear hx h hlen hW A1 hv
      go_wp2
      go_loopg [10, 32] n (fun g b i2 w' => ∃ (j : Nat) (q : Bool), j ≤ n ∧ g = n - j ∧ i2 = .int .i64 j ∧ b = .bool q ∧ Hid (q = (l.take j).any fun y => decide (valAt x f = valAt y f) && beats e y x) ∧ Bw W w')
      case atStart => exact ⟨0, false, by omega, rfl, rfl, rfl, Lib.hid rfl, by rw [HW.out]; exact Bw.refl _⟩
      case round =>
        obtain ⟨j, qb, hj, rfl, rfl, rfl, HQ, hbj⟩ := hrel
        have hbw := hbA.then hbj
        by_cases hlt2 : j < n
        · obtain ⟨y, hy⟩ := get_of_lt (xs := l) (k := j) (by have := L.out; omega)
          obtain ⟨b2, o2, Ay, cy, eA, _, hd0, hd1, hin2⟩ := rItems_at HH.out hy
          injection eA with eA
          injection eA with eA1 eA2
          subst eA1 eA2
          have HPy := Lib.hid (areItems_mem HI.out (List.mem_of_getElem? hy))
          have hleny := isItem_len HPy.out
          rw [hleny] at hd1 hin2
          obtain ⟨b3, o3, rfl, _, hvy0⟩ := rInts_at hin2 (valAt_get HPy.out hf2)
          replace hd0 := hbw.cell hd0
          replace hd1 := hbw.cell hd1
          have j1 : (0 : Int) ≤ (j : Int) := by omega
          have j2 : (j : Int) < (n : Int) := by omega
          have HS := Lib.hid (any_take_succ (fun y => decide (valAt x f = valAt y f) && beats e y x) hy)
          have C1 : Bw wr (wr.alloc (.cells #[.int .i64 y.id, .slice (some ⟨b3, o3, none⟩) 3 cy] 110)) := (Bw.refl wr).alloc _
          have n0 : (wr.alloc (.cells #[.int .i64 y.id, .slice (some ⟨b3, o3, none⟩) 3 cy] 110)).cell? ⟨wr.heap.size, 0, none⟩ = some (.int .i64 y.id) := by go_simp
          have n1 : (wr.alloc (.cells #[.int .i64 y.id, .slice (some ⟨b3, o3, none⟩) 3 cy] 110)).cell? ⟨wr.heap.size, 1, none⟩ = some (.slice (some ⟨b3, o3, none⟩) 3 cy) := by go_simp
          obtain ⟨W1, hW1⟩ : ∃ W1, W1 = wr.alloc (.cells #[.int .i64 y.id, .slice (some ⟨b3, o3, none⟩) 3 cy] 110) := ⟨_, rfl⟩
          rw [← hW1] at C1 n0 n1
          have hb1 := hbw.then C1
          have m0 := (hbj.then C1).cell kx0
          have m1 := (hbj.then C1).cell kx1
          have m2 := hb1.cell hvx0
          have m3 := hb1.cell hvy0
          have HW1 := Lib.hid hW1
          have hcall : ∀ s : Since W1, Calls Try.prog 145 _ s.1 (Ret s.1 (.int .i64 (cmpBy e y x))) := fun s => I_compareBy s.1 e y x u _ _ (h'.bw rNodes_good (hb1.then s.bw)) (Rd.bw rInts_good hin2 (hb1.then s.bw)) (Rd.bw rInts_good hin (hb1.then s.bw)) HE1.out HPy.out HP.out
          have s0 := since_cell m0
          have s1 := since_cell m1
          have s2 := since_cell m2
          have s3 := since_cell m3
          have s4 := since_cell n0
          have s5 := since_cell n1
          clear hy hleny hW1 m0 m1 m2 m3 n0 n1 hvy0
          cases qb with
          | true =>
            have HQ2 := Lib.hid (show true = (l.take (j + 1)).any fun y => decide (valAt x f = valAt y f) && beats e y x by rw [HS.out, ← HQ.out]; rfl)
            clear HQ HS hcall
            go_wp2_with fail
            rw [← HW1.out]
            refine wp_region_since (by kernel_rfl) (by kernel_rfl) ?_
            repeat (first | go_big_quiet_skip | (go_big_quiet_want; go_big_quiet_op; first | go_big_quiet_on | (apply Exists.intro; refine ⟨fun _ => ?_, ?_⟩; (· ((fail))); go_big_quiet_on)))
            refine wpQuiet_nil ?_
            rintro ⟨wq, hbq⟩
            dsimp only at *
            go_wp2
            go_roundg (n - (j + 1))
            case measure => omega
            case rel => exact ⟨j + 1, true, by omega, rfl, by go_num, rfl, HQ2, hbj.then (C1.then hbq)⟩
          | false =>
            by_cases hve : valAt x f = valAt y f
            · have e1 : (valAt x f == valAt y f) = true := by simpa using hve
              have HQ2 := Lib.hid (show decide (cmpBy e y x = 1) = (l.take (j + 1)).any fun y => decide (valAt x f = valAt y f) && beats e y x by rw [HS.out, ← HQ.out]; simp [hve, beats])
              obtain ⟨r, hr⟩ : ∃ r, r = cmpBy e y x := ⟨_, rfl⟩
              rw [← hr] at HQ2
              simp only [← hr] at hcall
              clear HQ HS hr hve
              by_cases hr1 : r = 1
              · have e2 : (r == 1) = true := by simpa using hr1
                have HQ3 := Lib.hid (show true = (l.take (j + 1)).any fun y => decide (valAt x f = valAt y f) && beats e y x by rw [← HQ2.out]; simpa using hr1)
                clear hr1 HQ2
                go_wp2_with fail
                rw [← HW1.out]
                refine wp_region_since (by kernel_rfl) (by kernel_rfl) ?_
                repeat (first | go_big_quiet_skip | (go_big_quiet_want; go_big_quiet_op; first | go_big_quiet_on | (apply Exists.intro; refine ⟨fun _ => ?_, ?_⟩; (· (((first | (go_at_call 145; exact Calls_since (hcall _)))))); go_big_quiet_on)))
                refine wpQuiet_nil ?_
                rintro ⟨wq, hbq⟩
                dsimp only at *
                go_wp2
                go_roundg (n - (j + 1))
                case measure => omega
                case rel => exact ⟨j + 1, true, by omega, rfl, by go_num, rfl, HQ3, hbj.then (C1.then hbq)⟩
              · have e2 : (r == 1) = false := by simpa using hr1
                have HQ3 := Lib.hid (show false = (l.take (j + 1)).any fun y => decide (valAt x f = valAt y f) && beats e y x by rw [← HQ2.out]; simpa using hr1)
                clear hr1 HQ2
                go_wp2_with fail
                rw [← HW1.out]
                refine wp_region_since (by kernel_rfl) (by kernel_rfl) ?_
                repeat (first | go_big_quiet_skip | (go_big_quiet_want; go_big_quiet_op; first | go_big_quiet_on | (apply Exists.intro; refine ⟨fun _ => ?_, ?_⟩; (· (((first | (go_at_call 145; exact Calls_since (hcall _)))))); go_big_quiet_on)))
                refine wpQuiet_nil ?_
                rintro ⟨wq, hbq⟩
                dsimp only at *
                go_wp2
                go_roundg (n - (j + 1))
                case measure => omega
                case rel => exact ⟨j + 1, false, by omega, rfl, by go_num, rfl, HQ3, hbj.then (C1.then hbq)⟩
            · have e1 : (valAt x f == valAt y f) = false := by simpa using hve
              have HQ3 := Lib.hid (show false = (l.take (j + 1)).any fun y => decide (valAt x f = valAt y f) && beats e y x by rw [HS.out, ← HQ.out]; simp [hve])
              clear HQ HS hve hcall
              go_wp2_with fail
              rw [← HW1.out]
              refine wp_region_since (by kernel_rfl) (by kernel_rfl) ?_
              repeat (first | go_big_quiet_skip | (go_big_quiet_want; go_big_quiet_op; first | go_big_quiet_on | (apply Exists.intro; refine ⟨fun _ => ?_, ?_⟩; (· ((fail))); go_big_quiet_on)))
              refine wpQuiet_nil ?_
              rintro ⟨wq, hbq⟩
              dsimp only at *
              go_wp2
              go_roundg (n - (j + 1))
              case measure => omega
              case rel => exact ⟨j + 1, false, by omega, rfl, by go_num, rfl, HQ3, hbj.then (C1.then hbq)⟩
        · obtain rfl : j = n := by omega
          have HF := Lib.hid (show localFree l f e x = !qb by rw [localFree, HQ.out, any_take_end _ (by rw [← L.out]; exact Nat.le_refl _)])
          have hv1 := (fInts_good (B := w.heap.size)).bw hbj hbA.size hvA
          have kk0 := hbj.cell kx0
          clear HQ hlt2 hvA
          cases qb with
          | true =>
            have HB2 := Lib.hid (HNO.out HF.out)
            go_wp2
            go_roundg (j - (k + 1))
            case measure => omega
            case rel => exact ⟨k + 1, F, by omega, rfl, by go_num, by rw [HB2.out]; exact hv1, hF, hbw⟩
          | false =>
            have HB2 := Lib.hid (HYES.out HF.out)
            have hbl := localTo_len (l := l) (f := f) (e := e) (k := k)
            have HBL := Lib.hid hbl
            have hvW := (fInts_good (B := w.heap.size)).bw ((Bw.refl wr).alloc (.cells #[.int .i64 x.id] 3)) hbw.size hv1
            have hbW := hbw.alloc (.cells #[.int .i64 x.id] 3)
            have hcl := cell_one_new wr (.int .i64 x.id) 3
            have hb0 := hbA.size
            clear hv1 hbl
            go_wp2_with (at_builtin; refine wpList_push _ rfl (.tmp 60) (.tmp 63) 42 rfl w 3 i0 _ 1 8 Try.underlying42 hi hz0 hz1 hz2 rfl (by omega) fInt_good _ (localTo l f e k) F rfl hvW hF ⟨wr.heap.size, 0, none⟩ 1 rfl x.id [.int .i64 x.id] [] hcl ⟨rfl, rfl⟩ rfl _ hFm Fresh.nil hb0 (by have := HBL.out; omega) (by have := HBL.out; omega) hbW ?_; intro v' w' F' hv' hF' hb')
            go_roundg (j - (k + 1))
            case measure => omega
            case rel => exact ⟨k + 1, F', by omega, rfl, by go_num, by rw [HB2.out]; exact hv', hF', hb'⟩
    · obtain rfl : k = n := by omega
      rw [localTo_end (by rw [← L.out]; exact Nat.le_refl _)] at hv
      go_wp2
      go_ret
      exact ⟨_, rfl, ⟨F, hv, hF⟩, hb⟩
theorem I_LocalBest (w : World) (l : List GItem) (f : Int) (e : List GNode) (v u : Value) (h : Rd rItems w l [v]) (h' : Rd rNodes w e [u]) : Calls Try.prog 57 #[v, .int .i64 f, u] w (RetV w (Made fInts w.heap.size (localM l f e))) := by
  rcases Bool.eq_false_or_eq_true (areBoth l e && inB f 0 2) with hc | hc
  · rw [localM_yes hc]
    simp only [Bool.and_eq_true] at hc
    have := inB_iff.1 hc.2
    obtain ⟨fn, rfl⟩ : ∃ fn : Nat, f = fn := ⟨f.toNat, by omega⟩
    exact I_LocalBest_yes w l fn e v u h h' hc.1 (by omega)
  · rw [localM_no hc]
    have hv0 := fSl_empty (e := 3) (sz := 1) (R := fInt) w
    have hz0' : Bw w (w.alloc (.cells #[] 3)) := (Bw.refl w).alloc _
    go_enter Try.func57, Try.ntmps57
    go_wp2_with fail
    refine (I_areBoth _ l e _ _ (h.bw rItems_good hz0') (h'.bw rNodes_good hz0')).mono ?_
    rintro e w1 ⟨rfl, hb1⟩
    have hv1 := (fInts_good (B := w.heap.size)).bw hb1 hz0'.size hv0
    have B1 := hz0'.then hb1
    rcases Bool.eq_false_or_eq_true (areBoth l e) with e1 | e1
    · rw [e1] at hc ⊢
      have HC := Lib.hid (show inB f 0 2 = false by simpa using hc)
      clear e1 hc
      go_wp2_with fail
      refine (I_within _ _ _ _).mono ?_
      rintro e w2 ⟨rfl, hb2⟩
      rw [HC.out]
      have hv2 := (fInts_good (B := w.heap.size)).bw hb2 B1.size hv1
      go_wp2
      go_ret
      exact ⟨_, rfl, ⟨_, hv2, ⟨by simp, by simp⟩⟩, B1.then hb2⟩
    · rw [e1]
      clear e1 hc
      go_wp2
      go_ret
      exact ⟨_, rfl, ⟨_, hv1, ⟨by simp, by simp⟩⟩, B1⟩
end Go.Proofs.Ytfffklkiikmieaa
