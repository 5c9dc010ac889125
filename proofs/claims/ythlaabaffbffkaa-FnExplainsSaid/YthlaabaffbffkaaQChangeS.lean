/- The smallest change, in the reference. -/
import Derived.Test.YthlaabaffbffkaaQChangeM
import Derived.Test.YthlaabaffbffkaaQBestS
import Derived.Test.YthlaabaffbffkaaQCostOf
namespace Go.Proofs.Ythlaabaffbffkaa
open Go.RowKit
set_option linter.unusedVariables false
set_option linter.unusedSimpArgs false
set_option maxRecDepth 100000 in
set_option maxHeartbeats 3200000 in
theorem S_l14Free (w : World) (l : List GItem) (e : List GNode) (x : GItem) (v u t : Value) (h : Rd rItems w l [v]) (h' : Rd rNodes w e [u]) (h2 : Rd rInts w x.vals [t]) (hI : areItems l = true) (hE : isExpr e = true) (hP : isItem x = true) :
    Calls Try.prog 25 #[v, u, .agg #[.int .i64 x.id, t]] w (Ret w (.bool (freeO l e x.id x))) := by
  obtain ⟨A, n, c, rfl, L0, Lc, Lm⟩ := rSl_open h
  unfold maxLen at Lm
  have L := Lib.hid L0
  clear L0
  have HE1 := Lib.hid hE
  have HI := Lib.hid hI
  have HP := Lib.hid hP
  have n16 : n ≤ 16 := by rw [L.out]; exact areItems_len HI.out
  obtain ⟨Ax, cx, rfl, _⟩ := rSl_shape h2
  rw [isItem_len hP] at h2 ⊢
  have B0 : Bw w (w.alloc (.cells #[.int .i64 x.id, .slice Ax 3 cx] 30)) := (Bw.refl w).alloc _
  have k0 : (w.alloc (.cells #[.int .i64 x.id, .slice Ax 3 cx] 30)).cell? ⟨w.heap.size, 0, none⟩ = some (.int .i64 x.id) := by go_simp
  have k1 : (w.alloc (.cells #[.int .i64 x.id, .slice Ax 3 cx] 30)).cell? ⟨w.heap.size, 1, none⟩ = some (.slice Ax 3 cx) := by go_simp
  obtain ⟨W, hW⟩ : ∃ W, W = w.alloc (.cells #[.int .i64 x.id, .slice Ax 3 cx] 30) := ⟨_, rfl⟩
  rw [← hW] at B0 k0 k1
  have HW := Lib.hid hW
  clear hE hI hP hW
  go_enter Try.func25, Try.ntmps25
  go_wp2
  go_loopg [7] n (fun g i w' => ∃ (k : Nat), k ≤ n ∧ g = n - k ∧ i = .int .i64 k ∧ Hid (((l.take k).any fun y => beatsO e x.id y x) = false) ∧ Bw W w')
  case atStart => exact ⟨0, by omega, rfl, rfl, Lib.hid rfl, by rw [HW.out]; exact Bw.refl _⟩
  case round =>
    obtain ⟨j, hj, rfl, rfl, HQ, hbj⟩ := hrel
    have hbw := B0.then hbj
    have m0 := hbj.cell k0
    have m1 := hbj.cell k1
    by_cases hlt2 : j < n
    · obtain ⟨y, hy⟩ := get_of_lt (xs := l) (k := j) (by have := L.out; omega)
      obtain ⟨b2, o2, Ay, cy, rfl, _, hd0, hd1, hin2⟩ := rItems_at h hy
      have HPy := Lib.hid (areItems_mem HI.out (List.mem_of_getElem? hy))
      have hleny := isItem_len HPy.out
      rw [hleny] at hd1 hin2
      replace hd0 := hbw.cell hd0
      replace hd1 := hbw.cell hd1
      have j1 : (0 : Int) ≤ (j : Int) := by omega
      have j2 : (j : Int) < (n : Int) := by omega
      have HS := Lib.hid (any_take_succ (fun y => beatsO e x.id y x) hy)
      have s0 := since_cell m0
      have s1 := since_cell m1
      have s2 := since_cell hd0
      have s3 := since_cell hd1
      have HH := Lib.hid h
      have HMem := Lib.hid (List.mem_of_getElem? hy)
      clear hy hleny h
      by_cases hid : y.id = x.id
      · have e0 : (y.id != x.id) = false := by simpa using hid
        have HQ2 := Lib.hid (show ((l.take (j + 1)).any fun y => beatsO e x.id y x) = false by rw [HS.out, HQ.out]; simp [beatsO, hid])
        clear HQ HS hid HMem m0 m1 hd0 hd1
        go_wp2
        refine wp_region_since (by kernel_rfl) (by kernel_rfl) ?_
        repeat (first | go_big_quiet_skip | (go_big_quiet_want; go_big_quiet_op; first | go_big_quiet_on | (apply Exists.intro; refine ⟨fun _ => ?_, ?_⟩; (· ((fail))); go_big_quiet_on)))
        refine wpQuiet_nil ?_
        rintro ⟨wq, hbq⟩
        dsimp only at *
        have h := HH.out
        go_wp2
        go_roundg (n - (j + 1))
        case measure => omega
        case rel => exact ⟨j + 1, by omega, rfl, by go_num, HQ2, hbj.then hbq⟩
      · have e0 : (y.id != x.id) = true := by simpa using hid
        have hcall : ∀ s : Since wr, Calls Try.prog 56 _ s.1 (Ret s.1 (.int .i64 (cmpBy e y x))) := fun s => S_l5Compare _ e y x u _ _ (h'.bw rNodes_good (hbw.then s.bw)) (Rd.bw rInts_good hin2 (hbw.then s.bw)) (Rd.bw rInts_good h2 (hbw.then s.bw)) HE1.out HPy.out HP.out
        have HQ2 := Lib.hid (show ((l.take (j + 1)).any fun y => beatsO e x.id y x) = decide (cmpBy e y x = 1) by rw [HS.out, HQ.out]; simp [beatsO, hid, beats])
        have HQ4 := Lib.hid (show cmpBy e y x = 1 → freeO l e x.id x = false from fun hr => by
          unfold freeO
          rw [Bool.not_eq_false', List.any_eq_true]
          exact ⟨y, HMem.out, by simp [beatsO, beats, hid, hr]⟩)
        obtain ⟨r, hr⟩ : ∃ r, r = cmpBy e y x := ⟨_, rfl⟩
        rw [← hr] at hcall HQ2 HQ4
        clear HQ HS hr m0 m1 hd0 hd1 hid HMem
        by_cases hr1 : r = 1
        · have e1 : (r == 1) = true := by simpa using hr1
          have HQ3 := Lib.hid (HQ4.out hr1)
          clear hr1 HQ2 HQ4
          go_wp2
          refine wp_region_since (by kernel_rfl) (by kernel_rfl) ?_
          repeat (first | go_big_quiet_skip | (go_big_quiet_want; go_big_quiet_op; first | go_big_quiet_on | (apply Exists.intro; refine ⟨fun _ => ?_, ?_⟩; (· (((first | (go_at_call 56; exact Calls_since (hcall _)))))); go_big_quiet_on)))
          refine wpQuiet_nil ?_
          rintro ⟨wq, hbq⟩
          dsimp only at *
          go_wp2
          go_ret
          exact Ret.bool (by rw [HQ3.out]) (hbw.then hbq)
        · have e1 : (r == 1) = false := by simpa using hr1
          have HQ3 := Lib.hid (show ((l.take (j + 1)).any fun y => beatsO e x.id y x) = false by rw [HQ2.out]; simpa using hr1)
          clear hr1 HQ2 HQ4
          go_wp2
          refine wp_region_since (by kernel_rfl) (by kernel_rfl) ?_
          repeat (first | go_big_quiet_skip | (go_big_quiet_want; go_big_quiet_op; first | go_big_quiet_on | (apply Exists.intro; refine ⟨fun _ => ?_, ?_⟩; (· (((first | (go_at_call 56; exact Calls_since (hcall _)))))); go_big_quiet_on)))
          refine wpQuiet_nil ?_
          rintro ⟨wq, hbq⟩
          dsimp only at *
          have h := HH.out
          go_wp2
          go_roundg (n - (j + 1))
          case measure => omega
          case rel => exact ⟨j + 1, by omega, rfl, by go_num, HQ3, hbj.then hbq⟩
    · obtain rfl : j = n := by omega
      have HF := Lib.hid (show freeO l e x.id x = true by rw [freeO, ← any_take_end (k := j) _ (by rw [← L.out]; exact Nat.le_refl _), HQ.out]; rfl)
      clear HQ
      go_wp2
      go_ret
      exact Ret.bool (by rw [HF.out]) (hbw)
/-- a struct and two more -/
def ThreeA {α : Type} (f : Fp α) (B : Nat) (x : α) (y z : Value) (w : World) (u : Value) : Prop := ∃ cs, u = .tuple #[.agg cs.toArray, y, z] ∧ ∃ F, f w x cs F ∧ Fresh B F
set_option maxRecDepth 100000 in
set_option maxHeartbeats 3200000 in
theorem S_SmallestChange_yes (w : World) (l : List GItem) (e : List GNode) (id : Int) (v u : Value) (h : Rd rItems w l [v]) (h' : Rd rNodes w e [u]) (hB : areBoth l e = true) (j : Nat) (p : GItem) (hf : findIdx l id = (j : Int)) (hp : l[j]? = some p) (hid : p.id = id) :
    Calls Try.prog 7 #[v, u, .int .i64 id] w (RetV w (ThreeA fItem w.heap.size (chTo l e p id 1000).1 (.int .i64 (chTo l e p id 1000).2) (.bool true))) := by
  obtain ⟨A, n, c, rfl, L0, Lc, Lm⟩ := rSl_open h
  unfold maxLen at Lm
  have L := Lib.hid L0
  clear L0
  have HB := Lib.hid hB
  have hP := areItems_mem (areBoth_items hB) (List.mem_of_getElem? hp)
  have hid2 := isItem_id hP
  rw [hid] at hid2
  have hjn : j < n := by rw [L.out]; exact (List.getElem?_eq_some_iff.1 hp).1
  have n16 : n ≤ 16 := by rw [L.out]; exact areItems_len (areBoth_items hB)
  obtain ⟨Y, hY⟩ : ∃ Y, Y = chTo l e p id 1000 := ⟨_, rfl⟩
  rw [← hY]
  have HY := Lib.hid hY
  obtain ⟨ba, oa, Ap, cp, rfl, _, hc0, hc1, hin⟩ := rItems_at h hp
  rw [isItem_len hP] at hc1 hin
  have HPi := Lib.hid hP
  have HID := Lib.hid hid2
  have A0 : Bw w (w.alloc (.cells #[.int .i64 0, .slice none 0 0] 30)) := (Bw.refl w).alloc _
  have hcall := fun W (B : Bw w W) => S_FindItem W l id _ (h.bw rItems_good B)
  rw [hf] at hcall
  have j1 : (0 : Int) ≤ (j : Int) := by omega
  have j2 : (j : Int) < (n : Int) := by omega
  have j3 : ¬ ((j : Int) < 0) := by omega
  clear hY hB hP hid2 hp hf hid
  go_enter Try.func7, Try.ntmps7
  go_wp2_with fail
  refine (hcall _ A0).mono ?_
  rintro e w1 ⟨rfl, hb1⟩
  have B1 := A0.then hb1
  go_wp2_with fail
  refine (S_l7Fine _ l e _ _ (h.bw rItems_good B1) (h'.bw rNodes_good B1)).mono ?_
  rintro e w2 ⟨rfl, hb2⟩
  rw [HB.out]
  have B2 := B1.then hb2
  have r0 : w2.cell? ⟨w.heap.size, 0, none⟩ = some (.int .i64 0) := (hb1.then hb2).cell (by go_simp)
  have r1 : w2.cell? ⟨w.heap.size, 1, none⟩ = some (.slice none 0 0) := (hb1.then hb2).cell (by go_simp)
  have hfr : ∀ o, w2.frozen? ⟨w.heap.size, o, none⟩ = false := fun o => by rw [bw_frozen (hb1.then hb2) _ _ (by first | (simp; done) | (simp; omega))]; go_simp
  have d0 := B2.cell hc0
  have d1 := B2.cell hc1
  have HH := Lib.hid h
  clear hcall h hc0 hc1
  go_wp2
  go_loopg [11, 12] 1000 (fun g s i w' => ∃ (k : Nat) (ls : Int) (fd : GItem) (A' : Option Addr) (c' : Nat) (F : List Nat), k ≤ 1000 ∧ g = 1000 - k ∧ i = .int .i64 k ∧ s = .int .i64 ls ∧ Hid (chTo l e p id k = (fd, ls)) ∧ w'.cell? ⟨w2.heap.size, 0, none⟩ = some (.int .i64 fd.id) ∧ w'.cell? ⟨w2.heap.size, 1, none⟩ = some (.slice A' fd.vals.length c') ∧ (∀ o, w'.frozen? ⟨w2.heap.size, o, none⟩ = false) ∧ fInts w' fd.vals [.slice A' fd.vals.length c'] F ∧ Fresh (w2.heap.size + 1) F ∧ Bw w2 w')
  case atStart => exact ⟨0, -1, ⟨0, []⟩, none, 0, [], by omega, rfl, rfl, rfl, Lib.hid rfl, by go_simp, by go_simp, fun o => by go_simp, fInts_nil _, Fresh.nil, (Bw.refl _).alloc _⟩
  case round =>
    obtain ⟨k, ls, fd, A', c', F, hk, rfl, rfl, rfl, HT, f0, f1, hfz, hv, hF, hb⟩ := hrel
    by_cases hlt : k < 1000
    · have e0 := hb.cell d0
      have e1 := hb.cell d1
      have k0 : (0 : Int) ≤ (k : Int) := by omega
      have k1 : (k : Int) < 1000 := by omega
      obtain ⟨W, hW⟩ : ∃ W, W = (wr.alloc (.cells #[.int .i64 ((k : Int) / 100), .int .i64 ((k : Int) / 10 % 10), .int .i64 ((k : Int) % 10)] 3)).alloc (.cells #[.int .i64 id, .slice (some ⟨wr.heap.size, 0, none⟩) 3 3] 30) := ⟨_, rfl⟩
      have x3 : fInts W (candI id k).vals [.slice (some ⟨wr.heap.size, 0, none⟩) 3 3] [wr.heap.size] := by rw [hW]; exact (fInts_good (B := 0)).bw ((Bw.refl _).alloc _) (Nat.zero_le _) fInts_three
      have bW : Bw wr W := by rw [hW]; exact ((Bw.refl wr).alloc _).alloc _
      have x0 : W.cell? ⟨wr.heap.size + 1, 0, none⟩ = some (.int .i64 id) := by rw [hW]; go_simp
      have x1 : W.cell? ⟨wr.heap.size + 1, 1, none⟩ = some (.slice (some ⟨wr.heap.size, 0, none⟩) 3 3) := by rw [hW]; go_simp
      have HW := Lib.hid hW
      have bw2 := hb.size
      have bg := World.block_lt_of_cell? _ _ f0
      have hP3 := cand_item HID.out hlt
      have HP3 := Lib.hid hP3
      have s0 := since_cell x0
      have s1 := since_cell x1
      have s2 := since_cell (bW.cell e0)
      have s3 := since_cell (bW.cell e1)
      have x3r := fInts_Rd x3
      have hinW := Rd.bw rInts_good hin ((B2.then hb).then bW)
      have hc2 : ∀ s : Since W, Calls Try.prog 16 #[.agg #[.int .i64 id, .slice (some ⟨wr.heap.size, 0, none⟩) 3 3], .agg #[.int .i64 p.id, .slice Ap 3 cp]] s.1 (Ret s.1 (.int .i64 (costOf (candI id k) p))) := fun s => S_CostOf _ (candI id k) p _ _ (Rd.bw rInts_good x3r s.bw) (Rd.bw rInts_good hinW s.bw)
      have HC := Lib.hid (costOf_comm (candI id k) p)
      have HYES := Lib.hid (fun h1 h2 => chTo_yes (l := l) (e := e) (p := p) (id := id) (n := k) h1 h2)
      have HNO := Lib.hid (fun h1 => chTo_no (l := l) (e := e) (p := p) (id := id) (n := k) h1)
      rw [HC.out] at hc2
      obtain ⟨q, hq⟩ : ∃ q, q = costOf p (candI id k) := ⟨_, rfl⟩
      rw [← hq] at hc2 HYES HNO
      replace HYES := Lib.hid (show ls < 0 ∨ q < ls → freeO l e id (candI id k) = true → chTo l e p id (k + 1) = (candI id k, q) from fun h1 h2 => HYES.out (by rw [HT.out]; exact h1) h2)
      replace HNO := Lib.hid (show ¬ (ls < 0 ∨ q < ls) ∨ freeO l e id (candI id k) = false → chTo l e p id (k + 1) = (fd, ls) from fun h1 => (HNO.out (by rw [HT.out]; exact h1)).trans HT.out)
      clear hW hq HC HT hP3 e0 e1
      go_wp2
      rw [← HW.out]
      refine wp_region_since (by kernel_rfl) (by kernel_rfl) ?_
      repeat (first | go_big_quiet_skip | (go_big_quiet_want; go_big_quiet_op; first | go_big_quiet_on | (apply Exists.intro; refine ⟨fun _ => ?_, ?_⟩; (· (((first | (go_at_call 16; exact Calls_since (hc2 _)))))); go_big_quiet_on)))
      refine wpQuiet_nil ?_
      rintro ⟨wq, hbq⟩
      dsimp only at *
      have bq := bW.then hbq
      replace x0 := hbq.cell x0
      replace x1 := hbq.cell x1
      clear s0 s1 s2 s3 hc2 hinW x3r
      by_cases hg : ls < 0 ∨ q < ls
      · have hc3 := S_l14Free wq l e (candI id k) _ _ _ (HH.out.bw rItems_good ((B2.then hb).then bq)) (h'.bw rNodes_good ((B2.then hb).then bq)) ((fInts_Rd x3).bw rInts_good hbq) (areBoth_items HB.out) (areBoth_expr HB.out) HP3.out
        have hfin : ∀ w4, Bw wq w4 → ∃ F2, Fresh (w2.heap.size + 1) F2 ∧ fInts ((w4.setCell ⟨w2.heap.size, 0, none⟩ (.int .i64 id)).setCell ⟨w2.heap.size, 1, none⟩ (.slice (some ⟨wr.heap.size, 0, none⟩) 3 3)) (candI id k).vals [.slice (some ⟨wr.heap.size, 0, none⟩) 3 3] F2 := fun w4 hb4 => by
          refine ⟨[wr.heap.size], ⟨by simp, by simp; omega⟩, ?_⟩
          have x4 := (fInts_good (B := 0)).bw (hbq.then hb4) (Nat.zero_le _) x3
          refine (fInts_good (B := 0)).step (fun b hb => ?_) x4
          rcases hb with hb | hb
          · have : b = wr.heap.size := by simpa using hb
            have bg' : w2.heap.size < wr.heap.size := bg
            repeat rw [Below.heap_setCell _ _ _ _ (by dsimp only; omega)]
          · omega
        obtain ⟨fr, hfr2⟩ : ∃ fr, fr = freeO l e id (candI id k) := ⟨_, rfl⟩
        rw [show freeO l e (candI id k).id (candI id k) = fr from hfr2.symm] at hc3
        rw [← hfr2] at HYES HNO
        have HG := Lib.hid hg
        have HFIN := Lib.hid hfin
        clear hfr2 x3 hfin
        rcases Decidable.em (ls < 0) with a1 | a1
        · clear hg
          go_wp2_with fail
          refine (hc3).mono ?_
          rintro e w4 ⟨rfl, hb4⟩
          have b4 := bq.then hb4
          have f0' := b4.cell f0
          have f1' := b4.cell f1
          have hfz4 : ∀ o, w4.frozen? ⟨w2.heap.size, o, none⟩ = false := fun o => (bw_frozen b4 w2.heap.size o bg).trans (hfz o)
          have hv4 := (fInts_good (B := w2.heap.size)).bw b4 hb.size hv
          replace x0 := hb4.cell x0
          replace x1 := hb4.cell x1
          clear f0 f1 hfz hv hc3
          rcases Bool.eq_false_or_eq_true (fr) with e1 | e1
          · have HT := Lib.hid (HYES.out HG.out e1)
            obtain ⟨F2, fF2, hv2⟩ := HFIN.out w4 hb4
            have bz := hb.then b4
            rw [e1]
            clear e1 HYES HNO HFIN HG hv4
            go_wp2
            go_roundg (1000 - (k + 1))
            case measure => omega
            case rel =>
              refine ⟨k + 1, q, candI id k, some ⟨wr.heap.size, 0, none⟩, 3, F2, by omega, rfl, by go_num, rfl, HT, by go_simp; rfl, by go_simp; rfl, fun o => by go_simp, hv2, fF2, ?_⟩
              repeat (first | with_reducible exact bz | with_reducible refine Bw.set ?_ ?_ _)
              all_goals (dsimp only; omega)
          · have HT := Lib.hid (HNO.out (.inr e1))
            have bz := hb.then b4
            rw [e1]
            clear e1 HYES HNO HFIN HG
            go_wp2
            go_roundg (1000 - (k + 1))
            case measure => omega
            case rel => exact ⟨k + 1, ls, fd, A', c', F, by omega, rfl, by go_num, rfl, HT, f0', f1', hfz4, hv4, hF, bz⟩
        · have a2 : q < ls := hg.resolve_left a1
          clear hg
          go_wp2_with fail
          refine (hc3).mono ?_
          rintro e w4 ⟨rfl, hb4⟩
          have b4 := bq.then hb4
          have f0' := b4.cell f0
          have f1' := b4.cell f1
          have hfz4 : ∀ o, w4.frozen? ⟨w2.heap.size, o, none⟩ = false := fun o => (bw_frozen b4 w2.heap.size o bg).trans (hfz o)
          have hv4 := (fInts_good (B := w2.heap.size)).bw b4 hb.size hv
          replace x0 := hb4.cell x0
          replace x1 := hb4.cell x1
          clear f0 f1 hfz hv hc3
          rcases Bool.eq_false_or_eq_true (fr) with e1 | e1
          · have HT := Lib.hid (HYES.out HG.out e1)
            obtain ⟨F2, fF2, hv2⟩ := HFIN.out w4 hb4
            have bz := hb.then b4
            rw [e1]
            clear e1 HYES HNO HFIN HG hv4
            go_wp2
            go_roundg (1000 - (k + 1))
            case measure => omega
            case rel =>
              refine ⟨k + 1, q, candI id k, some ⟨wr.heap.size, 0, none⟩, 3, F2, by omega, rfl, by go_num, rfl, HT, by go_simp; rfl, by go_simp; rfl, fun o => by go_simp, hv2, fF2, ?_⟩
              repeat (first | with_reducible exact bz | with_reducible refine Bw.set ?_ ?_ _)
              all_goals (dsimp only; omega)
          · have HT := Lib.hid (HNO.out (.inr e1))
            have bz := hb.then b4
            rw [e1]
            clear e1 HYES HNO HFIN HG
            go_wp2
            go_roundg (1000 - (k + 1))
            case measure => omega
            case rel => exact ⟨k + 1, ls, fd, A', c', F, by omega, rfl, by go_num, rfl, HT, f0', f1', hfz4, hv4, hF, bz⟩
      · have a1 : ¬ ls < 0 := fun h => hg (.inl h)
        have a2 : ¬ q < ls := fun h => hg (.inr h)
        have HT := Lib.hid (HNO.out (.inl hg))
        have hv4 := (fInts_good (B := w2.heap.size)).bw bq hb.size hv
        replace f0 := bq.cell f0
        replace f1 := bq.cell f1
        have hfz2 : ∀ o, wq.frozen? ⟨w2.heap.size, o, none⟩ = false := fun o => (bw_frozen bq w2.heap.size o bg).trans (hfz o)
        clear hg x0 x1 x3 hfz
        go_wp2
        go_roundg (1000 - (k + 1))
        case measure => omega
        case rel => exact ⟨k + 1, ls, fd, A', c', F, by omega, rfl, by go_num, rfl, HT, f0, f1, hfz2, hv4, hF, hb.then bq⟩
    · obtain rfl : k = 1000 := by omega
      have HYY := Lib.hid (HY.out.trans HT.out)
      replace r0 := hb.cell r0
      replace r1 := hb.cell r1
      have hz2 : w.heap.size < w2.heap.size := by have := (hb1.then hb2).size; simp at this; omega
      have hf4 : ∀ o, wr.frozen? ⟨w.heap.size, o, none⟩ = false := fun o => (bw_frozen hb w.heap.size o hz2).trans (hfr o)
      have hFz : ∀ b ∈ F, w.heap.size + 1 ≤ b := fun b hb => by have := hF.ge b hb; omega
      have fF : Fresh w.heap.size F := hF.mono (by omega)
      have B3 := B2.then hb
      clear HY HT hfr
      go_wp2
      obtain rfl := HYY.out
      refine bodyPost_ret (v := .tuple #[.agg #[.int .i64 fd.id, .slice A' fd.vals.length c'], .int .i64 ls, .bool true]) (by simp [results, Try.results7, go_sem, r0, r1]) rfl ⟨_, rfl, ⟨[.int .i64 fd.id, .slice A' fd.vals.length c'], rfl, F, ⟨_, rfl, ?_⟩, fF⟩, ?_⟩
      · refine (fInts_good (B := 0)).step (fun b hb => ?_) hv
        rcases hb with hb | hb
        · have := hFz b hb
          repeat rw [Below.heap_setCell _ _ _ _ (by dsimp only; omega)]
        · omega
      · repeat (first | with_reducible exact B3 | with_reducible refine Bw.set ?_ ?_ _)
        all_goals (dsimp only; omega)
set_option maxRecDepth 100000 in
set_option maxHeartbeats 1600000 in
theorem S_SmallestChange_no (w : World) (l : List GItem) (e : List GNode) (id : Int) (v u : Value) (h : Rd rItems w l [v]) (h' : Rd rNodes w e [u]) (hno : changeOk l e id = false) :
    Calls Try.prog 7 #[v, u, .int .i64 id] w (RetV w (ThreeA fItem w.heap.size ⟨0, []⟩ (.int .i64 0) (.bool false))) := by
  have A0 : Bw w (w.alloc (.cells #[.int .i64 0, .slice none 0 0] 30)) := (Bw.refl w).alloc _
  have hcall := fun W (B : Bw w W) => S_FindItem W l id _ (h.bw rItems_good B)
  have HNO := Lib.hid (show areBoth l e = true → findIdx l id < 0 from fun hB => by
    unfold changeOk at hno
    rw [hB, Bool.true_and, decide_eq_false_iff_not] at hno
    omega)
  obtain ⟨K, hK⟩ : ∃ K, K = findIdx l id := ⟨_, rfl⟩
  rw [← hK] at hcall HNO
  clear hno hK
  go_enter Try.func7, Try.ntmps7
  go_wp2_with fail
  refine (hcall _ A0).mono ?_
  rintro e w1 ⟨rfl, hb1⟩
  have B1 := A0.then hb1
  go_wp2_with fail
  refine (S_l7Fine _ l e _ _ (h.bw rItems_good B1) (h'.bw rNodes_good B1)).mono ?_
  rintro e w2 ⟨rfl, hb2⟩
  have B2 := B1.then hb2
  have r0 : w2.cell? ⟨w.heap.size, 0, none⟩ = some (.int .i64 0) := (hb1.then hb2).cell (by go_simp)
  have r1 : w2.cell? ⟨w.heap.size, 1, none⟩ = some (.slice none 0 0) := (hb1.then hb2).cell (by go_simp)
  have hfr : ∀ o, w2.frozen? ⟨w.heap.size, o, none⟩ = false := fun o => by rw [bw_frozen (hb1.then hb2) _ _ (by first | (simp; done) | (simp; omega))]; go_simp
  clear hcall
  rcases Bool.eq_false_or_eq_true (areBoth l e) with e1 | e1
  · have k1 := HNO.out e1
    rw [e1]
    clear e1
    go_wp2
    refine bodyPost_ret (v := .tuple #[.agg #[.int .i64 0, .slice none 0 0], .int .i64 0, .bool false]) (by simp [results, Try.results7, go_sem, r0, r1]) rfl ⟨_, rfl, ⟨[.int .i64 0, .slice none 0 0], rfl, [], ⟨_, rfl, fInts_nil _⟩, Fresh.nil⟩, ?_⟩
    repeat (first | with_reducible exact B2 | with_reducible refine Bw.set ?_ ?_ _)
    all_goals (dsimp only; omega)
  · rw [e1]
    clear e1 HNO
    go_wp2
    refine bodyPost_ret (v := .tuple #[.agg #[.int .i64 0, .slice none 0 0], .int .i64 0, .bool false]) (by simp [results, Try.results7, go_sem, r0, r1]) rfl ⟨_, rfl, ⟨[.int .i64 0, .slice none 0 0], rfl, [], ⟨_, rfl, fInts_nil _⟩, Fresh.nil⟩, ?_⟩
    repeat (first | with_reducible exact B2 | with_reducible refine Bw.set ?_ ?_ _)
    all_goals (dsimp only; omega)
theorem S_SmallestChange (w : World) (l : List GItem) (e : List GNode) (id : Int) (v u : Value) (h : Rd rItems w l [v]) (h' : Rd rNodes w e [u]) :
    Calls Try.prog 7 #[v, u, .int .i64 id] w (RetV w (ThreeA fItem w.heap.size (changeX l e id) (.int .i64 (changeC l e id)) (.bool (changeOk l e id)))) := by
  rcases Bool.eq_false_or_eq_true (changeOk l e id) with hc | hc
  · have h1 := hc
    unfold changeOk at h1
    rw [Bool.and_eq_true, decide_eq_true_eq] at h1
    rcases findIdx_cases l id with ⟨hK, _⟩ | ⟨j, x, hK, hx, hid⟩
    · have := h1.2; omega
    · have := S_SmallestChange_yes w l e id v u h h' h1.1 j x hK hx hid
      rw [show changeX l e id = (chTo l e x id 1000).1 by rw [changeX, if_pos hc, itemAt_of hK hx], show changeC l e id = (chTo l e x id 1000).2 by rw [changeC, if_pos hc, itemAt_of hK hx], hc]
      exact this
  · have := S_SmallestChange_no w l e id v u h h' hc
    rw [show changeX l e id = ⟨0, []⟩ by rw [changeX, hc]; rfl, show changeC l e id = 0 by rw [changeC, hc]; rfl, hc]
    exact this
end Go.Proofs.Ythlaabaffbffkaa
