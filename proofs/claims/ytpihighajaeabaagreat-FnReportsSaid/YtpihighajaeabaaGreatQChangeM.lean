/- The smallest change that makes an item one of the best: plain model. -/
import Derived.Test.YtpihighajaeabaaGreatQCmpS
import Derived.Test.YtpihighajaeabaaGreatQExprS
import Derived.Test.YtpihighajaeabaaGreatQBestI
import Derived.Test.YtpihighajaeabaaGreatQCompI
import Derived.Test.YtpihighajaeabaaGreatQCopyW
import Derived.Test.YtpihighajaeabaaGreatQOwn3
import Derived.Test.YtpihighajaeabaaGreatQFind
namespace Go.Proofs.YtpihighajaeabaaGreat
open Go.RowKit
set_option linter.unusedVariables false
set_option linter.unusedSimpArgs false
set_option maxHeartbeats 400000 in
theorem S_l7Fine (w : World) (l : List GItem) (e : List GNode) (v u : Value) (h : Rd rItems w l [v]) (h' : Rd rNodes w e [u]) : Calls Tryz.prog 102 #[v, u] w (Ret w (.bool (areBoth l e))) := by
  go_enter Tryz.func102, Tryz.ntmps102
  go_wp2_with fail
  refine (S_AreItems _ l _ h).mono ?_
  rintro e w2 ⟨rfl, hb2⟩
  rcases Bool.eq_false_or_eq_true (areItems l) with e1 | e1
  · have E := Lib.hid e1
    rw [e1]
    clear e1
    go_wp2_with fail
    refine (S_IsExpression _ e _ (h'.bw rNodes_good hb2)).mono ?_
    rintro e w3 ⟨rfl, hb3⟩
    rcases Bool.eq_false_or_eq_true (isExpr e) with e2 | e2
    · have E2 := Lib.hid e2
      rw [e2]
      clear e2
      go_wp2
      go_ret
      exact Ret.bool (by rw [areBoth, E.out, E2.out]; rfl) (hb2.then hb3)
    · have E2 := Lib.hid e2
      rw [e2]
      clear e2
      go_wp2
      go_ret
      exact Ret.bool (by rw [areBoth, E.out, E2.out]; rfl) (hb2.then hb3)
  · have E := Lib.hid e1
    rw [e1]
    clear e1
    go_wp2
    go_ret
    exact Ret.bool (by rw [areBoth, E.out]; rfl) (hb2)
set_option maxRecDepth 100000 in
set_option maxHeartbeats 3200000 in
theorem S_l7Best (w : World) (l : List GItem) (e : List GNode) (v u : Value) (h : Rd rItems w l [v]) (h' : Rd rNodes w e [u]) (hI : areItems l = true) (hE : isExpr e = true) : Calls Tryz.prog 101 #[v, u] w (RetV w (Made fInts w.heap.size (bestM l e))) := by
  obtain ⟨i0, hi, hz0, hz1, hz2⟩ := info_parts info_int
  obtain ⟨A, n, c, rfl, L0, Lc, Lm⟩ := rSl_open h
  unfold maxLen at Lm
  have L := Lib.hid L0
  clear L0
  have HE1 := Lib.hid hE
  have HI := Lib.hid hI
  have n16 : n ≤ 16 := by rw [L.out]; exact areItems_len HI.out
  have hv0 := fSl_empty (e := 3) (sz := 1) (R := fInt) w
  clear hE hI
  go_enter Tryz.func101, Tryz.ntmps101
  go_wp2
  go_loopg [5, 6] n (fun g s i w' => ∃ (k : Nat) (F : List Nat), k ≤ n ∧ g = n - k ∧ i = .int .i64 k ∧ fInts w' (bestTo l e k) [s] F ∧ Fresh w.heap.size F ∧ Bw w w')
  case atStart => exact ⟨0, _, by omega, rfl, rfl, hv0, ⟨by simp, by simp⟩, (Bw.refl _).alloc _⟩
  case round =>
    clear hv0
    obtain ⟨k, F, hk, rfl, rfl, hv, hF, hb⟩ := hrel
    by_cases hlt : k < n
    · obtain ⟨x, hx⟩ := get_of_lt (xs := l) (k := k) (by have := L.out; omega)
      obtain ⟨ba, oa, Ax, cx, rfl, _, hc0, hc1, hin⟩ := rItems_at h hx
      have HP := Lib.hid (areItems_mem HI.out (List.mem_of_getElem? hx))
      have hlen := isItem_len HP.out
      rw [hlen] at hc1 hin
      have i1 : (0 : Int) ≤ (k : Int) := by omega
      have i2 : (k : Int) < (n : Int) := by omega
      have HYES := Lib.hid (fun hf => bestTo_yes (e := e) hx hf)
      have HNO := Lib.hid (fun hf => bestTo_no (e := e) hx hf)
      have HH := Lib.hid h
      have hFm := (fInts_good (B := 0)).lt hv
      have k0 := hb.cell hc0
      have k1 := hb.cell hc1
      clear hx h hlen
      go_wp2
      go_loopg [7, 8] n (fun g b i2 w' => ∃ (j : Nat) (q : Bool), j ≤ n ∧ g = n - j ∧ i2 = .int .i64 j ∧ b = .bool q ∧ Hid ((!q) = (l.take j).any fun y => beats e y x) ∧ Bw wr w')
      case atStart => exact ⟨0, true, by omega, rfl, rfl, rfl, Lib.hid rfl, Bw.refl _⟩
      case round =>
        obtain ⟨j, qb, hj, rfl, rfl, rfl, HQ, hbj⟩ := hrel
        have hbw := hb.then hbj
        have m0 := hbj.cell k0
        have m1 := hbj.cell k1
        by_cases hlt2 : j < n
        · obtain ⟨y, hy⟩ := get_of_lt (xs := l) (k := j) (by have := L.out; omega)
          obtain ⟨b2, o2, Ay, cy, eA, _, hd0, hd1, hin2⟩ := rItems_at HH.out hy
          injection eA with eA
          injection eA with eA1 eA2
          subst eA1 eA2
          have HPy := Lib.hid (areItems_mem HI.out (List.mem_of_getElem? hy))
          have hleny := isItem_len HPy.out
          rw [hleny] at hd1 hin2
          replace hd0 := hbw.cell hd0
          replace hd1 := hbw.cell hd1
          have j1 : (0 : Int) ≤ (j : Int) := by omega
          have j2 : (j : Int) < (n : Int) := by omega
          have HS := Lib.hid (any_take_succ (fun y => beats e y x) hy)
          have s0 := since_cell m0
          have s1 := since_cell m1
          have s2 := since_cell hd0
          have s3 := since_cell hd1
          clear hy hleny
          cases qb with
          | false =>
            have HQ2 := Lib.hid (show (!false) = (l.take (j + 1)).any fun y => beats e y x by rw [HS.out, ← HQ.out]; rfl)
            clear HQ HS
            go_wp2
            refine wp_region_since (by kernel_rfl) (by kernel_rfl) ?_
            repeat (first | go_big_quiet_skip | (go_big_quiet_want; go_big_quiet_op; first | go_big_quiet_on | (apply Exists.intro; refine ⟨fun _ => ?_, ?_⟩; (· ((fail))); go_big_quiet_on)))
            refine wpQuiet_nil ?_
            rintro ⟨wq, hbq⟩
            dsimp only at *
            go_wp2
            go_roundg (n - (j + 1))
            case measure => omega
            case rel => exact ⟨j + 1, false, by omega, rfl, by go_num, rfl, HQ2, hbj.then hbq⟩
          | true =>
            have hcall : ∀ s : Since wr, Calls Tryz.prog 85 _ s.1 (Ret s.1 (.int .i64 (cmpBy e y x))) := fun s => S_l5Compare _ e y x u _ _ (h'.bw rNodes_good (hbw.then s.bw)) (Rd.bw rInts_good hin2 (hbw.then s.bw)) (Rd.bw rInts_good hin (hbw.then s.bw)) HE1.out HPy.out HP.out
            have HQ2 := Lib.hid (show decide (cmpBy e y x = 1) = (l.take (j + 1)).any fun y => beats e y x by rw [HS.out, ← HQ.out]; rfl)
            obtain ⟨r, hr⟩ : ∃ r, r = cmpBy e y x := ⟨_, rfl⟩
            rw [← hr] at hcall HQ2
            clear HQ HS hr m0 m1 hd0 hd1
            by_cases hr1 : r = 1
            · have e1 : (r != 1) = false := by simpa using hr1
              have HQ3 := Lib.hid (show (!false) = (l.take (j + 1)).any fun y => beats e y x by rw [← HQ2.out]; simpa using hr1)
              clear hr1 HQ2
              go_wp2
              refine wp_region_since (by kernel_rfl) (by kernel_rfl) ?_
              repeat (first | go_big_quiet_skip | (go_big_quiet_want; go_big_quiet_op; first | go_big_quiet_on | (apply Exists.intro; refine ⟨fun _ => ?_, ?_⟩; (· (((first | (go_at_call 85; exact Calls_since (hcall _)))))); go_big_quiet_on)))
              refine wpQuiet_nil ?_
              rintro ⟨wq, hbq⟩
              dsimp only at *
              go_wp2
              go_roundg (n - (j + 1))
              case measure => omega
              case rel => exact ⟨j + 1, false, by omega, rfl, by go_num, rfl, HQ3, hbj.then hbq⟩
            · have e1 : (r != 1) = true := by simpa using hr1
              have HQ3 := Lib.hid (show (!true) = (l.take (j + 1)).any fun y => beats e y x by rw [← HQ2.out]; simpa using hr1)
              clear hr1 HQ2
              go_wp2
              refine wp_region_since (by kernel_rfl) (by kernel_rfl) ?_
              repeat (first | go_big_quiet_skip | (go_big_quiet_want; go_big_quiet_op; first | go_big_quiet_on | (apply Exists.intro; refine ⟨fun _ => ?_, ?_⟩; (· (((first | (go_at_call 85; exact Calls_since (hcall _)))))); go_big_quiet_on)))
              refine wpQuiet_nil ?_
              rintro ⟨wq, hbq⟩
              dsimp only at *
              go_wp2
              go_roundg (n - (j + 1))
              case measure => omega
              case rel => exact ⟨j + 1, true, by omega, rfl, by go_num, rfl, HQ3, hbj.then hbq⟩
        · obtain rfl : j = n := by omega
          have HF := Lib.hid (show freeIn l e x = qb by rw [freeIn, ← any_take_end (k := j) _ (by rw [← L.out]; exact Nat.le_refl _), ← HQ.out]; simp)
          have hv1 := (fInts_good (B := w.heap.size)).bw hbj hb.size hv
          clear HQ hlt2
          cases qb with
          | false =>
            have HB := Lib.hid (HNO.out HF.out)
            go_wp2
            go_roundg (j - (k + 1))
            case measure => omega
            case rel => exact ⟨k + 1, F, by omega, rfl, by go_num, by rw [HB.out]; exact hv1, hF, hbw⟩
          | true =>
            have HB := Lib.hid (HYES.out HF.out)
            have hbl := bestTo_len (l := l) (e := e) (k := k)
            have HBL := Lib.hid hbl
            have hvW := (fInts_good (B := w.heap.size)).bw ((Bw.refl wr).alloc (.cells #[.int .i64 x.id] 3)) hbw.size hv1
            have hbW := hbw.alloc (.cells #[.int .i64 x.id] 3)
            have hcl := cell_one_new wr (.int .i64 x.id) 3
            have hb0 := hb.size
            clear hv1 hbl hv
            go_wp2_with (at_builtin; refine wpList_push _ rfl (.tmp 37) (.tmp 43) 26 rfl w 3 i0 _ 1 8 Tryz.underlying26 hi hz0 hz1 hz2 rfl (by omega) fInt_good _ (bestTo l e k) F rfl hvW hF ⟨wr.heap.size, 0, none⟩ 1 rfl x.id [.int .i64 x.id] [] hcl ⟨rfl, rfl⟩ rfl _ hFm Fresh.nil hb0 (by have := HBL.out; omega) (by have := HBL.out; omega) hbW ?_; intro v' w' F' hv' hF' hb')
            go_roundg (j - (k + 1))
            case measure => omega
            case rel => exact ⟨k + 1, F', by omega, rfl, by go_num, by rw [HB.out]; exact hv', hF', hb'⟩
    · obtain rfl : k = n := by omega
      rw [bestTo_end (by rw [← L.out]; exact Nat.le_refl _)] at hv
      go_wp2
      go_ret
      exact ⟨_, rfl, ⟨F, hv, hF⟩, hb⟩
end Go.Proofs.YtpihighajaeabaaGreat

namespace Go.Proofs.YtpihighajaeabaaGreat
open Go.RowKit
set_option linter.unusedVariables false
set_option linter.unusedSimpArgs false
/-- a struct and one more -/
def TwoA {α : Type} (f : Fp α) (B : Nat) (x : α) (z : Value) (w : World) (u : Value) : Prop := ∃ cs, u = .tuple #[.agg cs.toArray, z] ∧ ∃ F, f w x cs F ∧ Fresh B F
def newSt (l : List GItem) (e : List GNode) : GStanding := if areBoth l e then ⟨l, e, bestItems l e, 0⟩ else ⟨[], [], [], 0⟩
theorem newSt_yes {l : List GItem} {e : List GNode} (h : areBoth l e = true) : newSt l e = ⟨l, e, bestItems l e, 0⟩ := by unfold newSt; rw [h]; rfl
theorem newSt_no {l : List GItem} {e : List GNode} (h : areBoth l e = false) : newSt l e = ⟨[], [], [], 0⟩ := by unfold newSt; rw [h]; rfl
theorem bestItems_len (l : List GItem) (e : List GNode) : (bestItems l e).length ≤ l.length := by
  unfold bestItems; split
  · exact bestM_len l e
  · exact Nat.zero_le _
theorem newSt_small {l : List GItem} {e : List GNode} (h1 : totItems l ≤ 1048576) (h2 : totNodes e ≤ 1048576) : smallSt (newSt l e) := by
  unfold newSt smallSt; split
  · refine ⟨h1, h2, ?_⟩
    have h3 := bestItems_len l e
    unfold totItems at h1
    dsimp only; omega
  · simp [totItems, totNodes, sumL]
theorem fSt_none (w : World) : fStanding w ⟨[], [], [], 0⟩ [.slice none 0 0, .slice none 0 0, .slice none 0 0, .int .i64 0] [] :=
  ⟨_, _, _, [], [], [], rfl, ⟨_, [], [], rfl, World.ownsRow_nil _ _ _ _, trivial, by simp [Value.ownBlock]⟩, ⟨_, [], [], rfl, World.ownsRow_nil _ _ _ _, trivial, by simp [Value.ownBlock]⟩, ⟨_, [], [], rfl, World.ownsRow_nil _ _ _ _, trivial, by simp [Value.ownBlock]⟩, rfl⟩
theorem best_both {l : List GItem} {e : List GNode} (h : areBoth l e = true) : bestM l e = bestItems l e := by unfold bestItems; rw [h]; rfl
set_option maxRecDepth 100000 in
set_option maxHeartbeats 1600000 in
theorem S_NewStanding (w : World) (l : List GItem) (e : List GNode) (v u : Value) (h : Rd rItems w l [v]) (h' : Rd rNodes w e [u]) (t1 : totItems l ≤ 1048576) (t2 : totNodes e ≤ 1048576) :
    Calls Tryz.prog 26 #[v, u] w (RetV w (TwoA fStanding w.heap.size (newSt l e) (.bool (areBoth l e)))) := by
  have A0 : Bw w (w.alloc (.cells #[.slice none 0 0, .slice none 0 0, .slice none 0 0, .int .i64 0] 28)) := (Bw.refl w).alloc _
  obtain ⟨Y, hY⟩ : ∃ Y, Y = newSt l e := ⟨_, rfl⟩
  obtain ⟨Z, hZ⟩ : ∃ Z, Z = areBoth l e := ⟨_, rfl⟩
  rw [← hY, ← hZ]
  have HY := Lib.hid hY
  have HZ := Lib.hid hZ
  clear hY hZ
  go_enter Tryz.func26, Tryz.ntmps26
  go_wp2_with fail
  refine (S_l7Fine _ l e _ _ (h.bw rItems_good A0) (h'.bw rNodes_good A0)).mono ?_
  rintro e w1 ⟨rfl, hb1⟩
  have B1 := A0.then hb1
  have r0 : w1.cell? ⟨w.heap.size, 0, none⟩ = some (.slice none 0 0) := hb1.cell (by go_simp)
  have r1 : w1.cell? ⟨w.heap.size, 1, none⟩ = some (.slice none 0 0) := hb1.cell (by go_simp)
  have r2 : w1.cell? ⟨w.heap.size, 2, none⟩ = some (.slice none 0 0) := hb1.cell (by go_simp)
  have r3 : w1.cell? ⟨w.heap.size, 3, none⟩ = some (.int .i64 0) := hb1.cell (by go_simp)
  have hf1 : ∀ o, w1.frozen? ⟨w.heap.size, o, none⟩ = false := fun o => by rw [bw_frozen hb1 _ _ (by first | (simp; done) | (simp; omega))]; go_simp
  rcases Bool.eq_false_or_eq_true (areBoth l e) with e1 | e1
  · have E1 := Lib.hid e1
    rw [e1]
    clear e1
    go_wp2_with fail
    refine (S_l2Copy _ l _ (h.bw rItems_good B1) t1).mono ?_
    rintro e w2 ⟨v2, rfl, ⟨F2, o2, f2⟩, hb2⟩
    have B2 := B1.then hb2
    obtain ⟨A2, c2, rfl, _⟩ := rSl_shape (fItems_Rd o2)
    go_wp2_with fail
    refine (S_l5Copy _ e _ (h'.bw rNodes_good B2) t2).mono ?_
    rintro e w3 ⟨v3, rfl, ⟨F3, o3, f3⟩, hb3⟩
    have B3 := B2.then hb3
    obtain ⟨A3, c3, rfl, _⟩ := rSl_shape (fNodes_Rd o3)
    go_wp2_with fail
    refine (S_l7Best _ l e _ _ (h.bw rItems_good B3) (h'.bw rNodes_good B3) (areBoth_items E1.out) (areBoth_expr E1.out)).mono ?_
    rintro e w4 ⟨v4, rfl, ⟨F4, o4, f4⟩, hb4⟩
    rw [best_both E1.out] at o4
    obtain ⟨A4, c4, rfl, _⟩ := rSl_shape (fInts_Rd o4)
    have hbb := (hb2.then hb3).then hb4
    replace r0 := hbb.cell r0
    replace r1 := hbb.cell r1
    replace r2 := hbb.cell r2
    replace r3 := hbb.cell r3
    have hz1 : w.heap.size + 1 ≤ w1.heap.size := by have := hb1.size; simpa using this
    have hf4 : ∀ o, w4.frozen? ⟨w.heap.size, o, none⟩ = false := fun o => (bw_frozen hbb w.heap.size o (by omega)).trans (hf1 o)
    have lt2 := (fItems_good (B := 0)).lt o2
    have lt3 := (fNodes_good (B := 0)).lt o3
    have z2 := hb2.size
    have z3 := hb3.size
    have z4 := hb4.size
    have f2z : ∀ b ∈ F2, w.heap.size + 1 ≤ b := fun b hb => by have := f2.ge b hb; omega
    have f3z : ∀ b ∈ F3, w.heap.size + 1 ≤ b := fun b hb => by have := f3.ge b hb; omega
    have f4z : ∀ b ∈ F4, w.heap.size + 1 ≤ b := fun b hb => by have := f4.ge b hb; omega
    have o2' := (fItems_good (B := 0)).bw (hb3.then hb4) (Nat.zero_le _) o2
    have o3' := (fNodes_good (B := 0)).bw hb4 (Nat.zero_le _) o3
    have FF : Fresh w.heap.size (F2 ++ (F3 ++ F4)) := Fresh.append (m := w2.heap.size) (f2.mono (by omega)) lt2 (Fresh.append (m := w3.heap.size) f3 lt3 f4 (by omega)) (by omega)
    have B4 := B3.then hb4
    have HYY := Lib.hid (HY.out.trans (newSt_yes E1.out))
    have HZZ := Lib.hid (HZ.out.trans E1.out)
    clear HY HZ hb1 hb2 hb3 hb4 hf1 f2 f3 f4 lt2 lt3 hbb B1 B2 B3
    go_wp2
    obtain rfl := HYY.out
    obtain rfl := HZZ.out
    refine bodyPost_ret (v := .tuple #[.agg #[.slice A2 l.length c2, .slice A3 e.length c3, .slice A4 (bestItems l e).length c4, .int .i64 0], .bool true]) (by simp [results, Tryz.results26, go_sem, r0, r1, r2, r3]) rfl ⟨_, rfl, ⟨[.slice A2 l.length c2, .slice A3 e.length c3, .slice A4 (bestItems l e).length c4, .int .i64 0], rfl, F2 ++ (F3 ++ F4), ⟨_, _, _, F2, F3, F4, rfl, ?_, ?_, ?_, rfl⟩, FF⟩, ?_⟩
    · refine (fItems_good (B := 0)).step (fun b hb => ?_) o2'
      rcases hb with hb | hb
      · have := f2z b hb
        repeat rw [Below.heap_setCell _ _ _ _ (by dsimp only; omega)]
      · omega
    · refine (fNodes_good (B := 0)).step (fun b hb => ?_) o3'
      rcases hb with hb | hb
      · have := f3z b hb
        repeat rw [Below.heap_setCell _ _ _ _ (by dsimp only; omega)]
      · omega
    · refine (fInts_good (B := 0)).step (fun b hb => ?_) o4
      rcases hb with hb | hb
      · have := f4z b hb
        repeat rw [Below.heap_setCell _ _ _ _ (by dsimp only; omega)]
      · omega
    · repeat (first | with_reducible exact B4 | with_reducible refine Bw.set ?_ ?_ _)
      all_goals (dsimp only; omega)
  · have E1 := Lib.hid e1
    rw [e1]
    clear e1
    have HYY := Lib.hid (HY.out.trans (newSt_no E1.out))
    have HZZ := Lib.hid (HZ.out.trans E1.out)
    clear HY HZ
    go_wp2
    obtain rfl := HYY.out
    obtain rfl := HZZ.out
    refine bodyPost_ret (v := .tuple #[.agg #[.slice none 0 0, .slice none 0 0, .slice none 0 0, .int .i64 0], .bool false]) (by simp [results, Tryz.results26, go_sem, r0, r1, r2, r3]) rfl ⟨_, rfl, ⟨[.slice none 0 0, .slice none 0 0, .slice none 0 0, .int .i64 0], rfl, [], fSt_none _, Fresh.nil⟩, ?_⟩
    repeat (first | with_reducible exact B1 | with_reducible refine Bw.set ?_ ?_ _)
    all_goals (dsimp only; omega)
end Go.Proofs.YtpihighajaeabaaGreat

namespace Go.Proofs.YtpihighajaeabaaGreat
open Go.RowKit
set_option linter.unusedVariables false

/-- a comparison that is the code of a preorder of the valid items -/
structure PO (c : GItem → GItem → Int) : Prop where
  code : ∀ x y, -1 ≤ c x y ∧ c x y ≤ 2
  refl : ∀ x, isItem x = true → c x x = 0
  anti : ∀ x y, isItem x = true → isItem y = true → c y x = neg2 (c x y)
  tr : ∀ x y z, isItem x = true → isItem y = true → isItem z = true → 0 ≤ c x y → c x y ≤ 1 → 0 ≤ c y z → c y z ≤ 1 → c x z = max (c x y) (c y z)
theorem cmpV_refl (w : GWish) (a : Int) : cmpV w a a = 0 := by
  unfold cmpV; repeat' split
  all_goals first | rfl | omega | contradiction
theorem reach_irr {l : List GPair} (h : arePairs l = true) {a : Int} (ha : 0 ≤ a ∧ a ≤ 9) : reachB l a a = false := by
  simp only [arePairs, Bool.and_eq_true, List.all_eq_true] at h
  have := h.2.2 a.toNat (List.mem_range.2 (by omega))
  rw [Int.toNat_of_nonneg ha.1] at this
  simpa using this
theorem reach_asym {l : List GPair} (h : arePairs l = true) {a b : Int} (ha : 0 ≤ a ∧ a ≤ 9) (hb : 0 ≤ b ∧ b ≤ 9) (h1 : reachB l a b = true) : reachB l b a = false := by
  rw [Bool.eq_false_iff]
  intro h2
  have := reach_trans hb h1 h2
  rw [reach_irr h ha] at this
  cases this
theorem cmpV_anti {w : GWish} (hw : isWish w = true) {a b : Int} (ha : 0 ≤ a ∧ a ≤ 9) (hb : 0 ≤ b ∧ b ≤ 9) : cmpV w b a = neg2 (cmpV w a b) := by
  by_cases h4 : w.kind = 4
  · have hp := isWish_pairs hw h4
    unfold cmpV; rw [if_pos h4, if_pos h4]
    by_cases e : a = b
    · rw [if_pos e, if_pos e.symm]; rfl
    · rw [if_neg e, if_neg (fun h => e h.symm)]
      rcases Bool.eq_false_or_eq_true (reachB w.pairs a b) with h1 | h1
      · rw [reach_asym hp ha hb h1, h1]; rfl
      · rcases Bool.eq_false_or_eq_true (reachB w.pairs b a) with h2 | h2
        · rw [h1, h2]; rfl
        · rw [h1, h2]; rfl
  · unfold cmpV; rw [if_neg h4, if_neg h4]; unfold neg2
    repeat' split
    all_goals omega
theorem cmpV_tr {w : GWish} (hw : isWish w = true) {a b c : Int} (ha : 0 ≤ a ∧ a ≤ 9) (hb : 0 ≤ b ∧ b ≤ 9) (hc : 0 ≤ c ∧ c ≤ 9) (h1 : 0 ≤ cmpV w a b) (h2 : cmpV w a b ≤ 1) (h3 : 0 ≤ cmpV w b c) (h4 : cmpV w b c ≤ 1) : cmpV w a c = max (cmpV w a b) (cmpV w b c) := by
  by_cases k4 : w.kind = 4
  · have hp := isWish_pairs hw k4
    by_cases e : a = b
    · subst e
      rw [cmpV_refl]; omega
    by_cases e2 : b = c
    · subst e2
      rw [cmpV_refl]; omega
    unfold cmpV at h1 h2 h3 h4 ⊢
    simp only [if_pos k4, if_neg e, if_neg e2] at h1 h2 h3 h4 ⊢
    rcases Bool.eq_false_or_eq_true (reachB w.pairs a b) with r1 | r1
    · rcases Bool.eq_false_or_eq_true (reachB w.pairs b c) with r2 | r2
      · have r3 := reach_trans hb r1 r2
        have e3 : a ≠ c := fun h => by subst h; rw [reach_irr hp ha] at r3; cases r3
        simp [r1, r2, r3, e3]
      · rcases Bool.eq_false_or_eq_true (reachB w.pairs c b) with r3 | r3
        · simp [r2, r3] at h3
        · simp [r2, r3] at h4
    · rcases Bool.eq_false_or_eq_true (reachB w.pairs b a) with r3 | r3
      · simp [r1, r3] at h1
      · simp [r1, r3] at h2
  · unfold cmpV at h1 h2 h3 h4 ⊢; simp only [if_neg k4] at h1 h2 h3 h4 ⊢
    generalize rankV w a = ra at *
    generalize rankV w b = rb at *
    generalize rankV w c = rc at *
    have t1 : ¬ rb < ra := fun hl => by
      rw [if_neg (by omega), if_pos hl] at h1; omega
    have t2 : ¬ rc < rb := fun hl => by
      rw [if_neg (by omega), if_pos hl] at h3; omega
    rw [if_neg t1, if_neg t2, if_neg (show ¬ rc < ra by omega)]
    by_cases u1 : ra < rb
    · rw [if_pos u1, if_pos (show ra < rc by omega)]; split <;> omega
    · rw [if_neg u1]
      by_cases u2 : rb < rc
      · rw [if_pos u2, if_pos (show ra < rc by omega)]; omega
      · rw [if_neg u2, if_neg (show ¬ ra < rc by omega)]; omega
theorem PO.base {w : GWish} (hw : isWish w = true) : PO (cmpItem w) := by
  have hf := isWish_field hw
  obtain ⟨f, hf2⟩ : ∃ f : Nat, w.field = f := ⟨w.field.toNat, by omega⟩
  have bd : ∀ x, isItem x = true → 0 ≤ valAt x w.field ∧ valAt x w.field ≤ 9 := fun x hx => by rw [hf2]; exact valAt_bd hx (by omega)
  refine ⟨fun x y => cmpV_code _ _ _, fun x hx => cmpV_refl _ _, fun x y hx hy => cmpV_anti hw (bd x hx) (bd y hy), fun x y z hx hy hz => cmpV_tr hw (bd x hx) (bd y hy) (bd z hz)⟩
theorem PO.dual {c : GItem → GItem → Int} (h : PO c) : PO (fun x y => neg2 (c x y)) := by
  refine ⟨fun x y => neg2_code (h.code x y), fun x hx => by rw [h.refl x hx]; rfl, fun x y hx hy => by rw [h.anti x y hx hy], fun x y z hx hy hz h1 h2 h3 h4 => ?_⟩
  rw [← h.anti x y hx hy] at h1 h2 ⊢
  rw [← h.anti y z hy hz] at h3 h4 ⊢
  rw [← h.anti x z hx hz, h.tr z y x hz hy hx h3 h4 h1 h2]
  omega
theorem code4 {a : Int} (h : -1 ≤ a ∧ a ≤ 2) : a = -1 ∨ a = 0 ∨ a = 1 ∨ a = 2 := by omega
theorem comb_refl (op : Int) : comb op 0 0 = 0 := by unfold comb; simp
theorem comb_anti (op : Int) {a b : Int} (ha : -1 ≤ a ∧ a ≤ 2) (hb : -1 ≤ b ∧ b ≤ 2) : comb op (neg2 a) (neg2 b) = neg2 (comb op a b) := by
  by_cases h1 : op = 1
  · subst h1
    rcases code4 ha with rfl | rfl | rfl | rfl <;> rcases code4 hb with rfl | rfl | rfl | rfl <;> decide
  by_cases h2 : op = 2
  · subst h2
    rcases code4 ha with rfl | rfl | rfl | rfl <;> rcases code4 hb with rfl | rfl | rfl | rfl <;> decide
  unfold comb
  rw [if_neg h1, if_neg h2, if_neg h1, if_neg h2]
  rcases code4 ha with rfl | rfl | rfl | rfl <;> rcases code4 hb with rfl | rfl | rfl | rfl <;> decide
theorem comb1_in {a b : Int} (ha : -1 ≤ a ∧ a ≤ 2) (hb : -1 ≤ b ∧ b ≤ 2) (h1 : 0 ≤ comb 1 a b) (h2 : comb 1 a b ≤ 1) : (0 ≤ a ∧ a ≤ 1) ∧ (0 ≤ b ∧ b ≤ 1) := by
  rcases code4 ha with rfl | rfl | rfl | rfl <;> rcases code4 hb with rfl | rfl | rfl | rfl <;> first | exact ⟨⟨by omega, by omega⟩, by omega, by omega⟩ | exact absurd h1 (by decide) | exact absurd h2 (by decide)
theorem comb1_max {a b : Int} (ha : 0 ≤ a ∧ a ≤ 1) (hb : 0 ≤ b ∧ b ≤ 1) : comb 1 a b = max a b := by
  have ea : a = 0 ∨ a = 1 := by omega
  have eb : b = 0 ∨ b = 1 := by omega
  rcases ea with rfl | rfl <;> rcases eb with rfl | rfl <;> decide
theorem comb_tr {op : Int} {a1 b1 a2 b2 a3 b3 : Int} (ha1 : -1 ≤ a1 ∧ a1 ≤ 2) (hb1 : -1 ≤ b1 ∧ b1 ≤ 2) (ha2 : -1 ≤ a2 ∧ a2 ≤ 2) (hb2 : -1 ≤ b2 ∧ b2 ≤ 2)
    (ha : 0 ≤ a1 → a1 ≤ 1 → 0 ≤ a2 → a2 ≤ 1 → a3 = max a1 a2) (hb : 0 ≤ b1 → b1 ≤ 1 → 0 ≤ b2 → b2 ≤ 1 → b3 = max b1 b2)
    (h1 : 0 ≤ comb op a1 b1) (h2 : comb op a1 b1 ≤ 1) (h3 : 0 ≤ comb op a2 b2) (h4 : comb op a2 b2 ≤ 1) : comb op a3 b3 = max (comb op a1 b1) (comb op a2 b2) := by
  by_cases k1 : op = 1
  · subst k1
    have p := comb1_in ha1 hb1 h1 h2
    have q := comb1_in ha2 hb2 h3 h4
    have e1 := ha p.1.1 p.1.2 q.1.1 q.1.2
    have e2 := hb p.2.1 p.2.2 q.2.1 q.2.2
    rw [comb1_max p.1 p.2, comb1_max q.1 q.2, comb1_max (by omega) (by omega)]
    omega
  by_cases k2 : op = 2
  · subst k2
    have e : ∀ a b : Int, comb 2 a b = if a = 0 then b else a := fun a b => rfl
    rw [e] at h1 h2 h3 h4 ⊢
    rw [e, e]
    by_cases z1 : a1 = 0
    · rw [if_pos z1] at h1 h2 ⊢
      by_cases z2 : a2 = 0
      · rw [if_pos z2] at h3 h4 ⊢
        rw [if_pos (by omega)]
        omega
      · rw [if_neg z2] at h3 h4 ⊢
        rw [if_neg (by omega)]
        omega
    · rw [if_neg z1] at h1 h2 ⊢
      by_cases z2 : a2 = 0
      · rw [if_pos z2] at h3 h4 ⊢
        rw [if_neg (by omega)]
        omega
      · rw [if_neg z2] at h3 h4 ⊢
        rw [if_neg (by omega)]
        omega
  have e : ∀ a b : Int, comb op a b = if a = b then a else 2 := fun a b => by unfold comb; rw [if_neg k1, if_neg k2]
  rw [e] at h1 h2 h3 h4 ⊢
  rw [e, e]
  by_cases z1 : a1 = b1
  · rw [if_pos z1] at h1 h2 ⊢
    by_cases z2 : a2 = b2
    · rw [if_pos z2] at h3 h4 ⊢
      rw [if_pos (by omega)]
      omega
    · rw [if_neg z2] at h4; omega
  · rw [if_neg z1] at h2; omega
theorem PO.two {op : Int} {a b : GItem → GItem → Int} (ha : PO a) (hb : PO b) : PO (fun x y => comb op (a x y) (b x y)) := by
  refine ⟨fun x y => comb_code (ha.code x y) (hb.code x y), fun x hx => by rw [ha.refl x hx, hb.refl x hx, comb_refl], fun x y hx hy => by rw [ha.anti x y hx hy, hb.anti x y hx hy]; exact comb_anti op (ha.code x y) (hb.code x y), fun x y z hx hy hz h1 h2 h3 h4 => ?_⟩
  exact comb_tr (ha.code x y) (hb.code x y) (ha.code y z) (hb.code y z) (ha.tr x y z hx hy hz) (hb.tr x y z hx hy hz) h1 h2 h3 h4
theorem snocF {α : Type} {l : List α} (h : 0 < l.length) : ∃ T a, l = T ++ [a] := ⟨l.dropLast, l.getLast (fun e => by rw [e] at h; simp at h), (List.dropLast_concat_getLast _).symm⟩
theorem stack_PO {e : List GNode} (hE : isExpr e = true) : ∀ k, k ≤ e.length → ∃ fs : List (GItem → GItem → Int), (∀ c ∈ fs, PO c) ∧ (∀ x y, stackAt e x y k = fs.map (fun c => c x y)) ∧ depthOf (e.drop k) fs.length = some 1
  | 0, _ => ⟨[], by simp, fun x y => by simp [stackAt], by simpa using isExpr_depth hE⟩
  | k + 1, hk => by
    obtain ⟨fs, h1, h2, h3⟩ := stack_PO hE k (by omega)
    obtain ⟨n, hn⟩ : ∃ n, e[k]? = some n := ⟨e[k], List.getElem?_eq_getElem (by omega)⟩
    obtain ⟨ho, hd⟩ := depth_step h3 hn
    have hge := nodeOk_ge ho
    by_cases h0 : n.op = 0
    · refine ⟨fs ++ [cmpItem n.wish], fun c hc => ?_, fun x y => ?_, ?_⟩
      · rcases List.mem_append.1 hc with hc | hc
        · exact h1 c hc
        · rw [List.mem_singleton] at hc; rw [hc]; exact PO.base (nodeOk_wish ho h0)
      · rw [stackAt_next hn, h2, stack_base h0]; simp
      · rw [← hd]; congr 1; simp [opnds, h0]
    · by_cases h3' : n.op = 3
      · have : opnds n.op = 1 := by unfold opnds; rw [if_neg h0, if_pos h3']
        rw [this] at hge hd
        obtain ⟨T, c, rfl⟩ := snocF (l := fs) (by omega)
        refine ⟨T ++ [fun x y => neg2 (c x y)], fun d hc => ?_, fun x y => ?_, ?_⟩
        · rcases List.mem_append.1 hc with hc | hc
          · exact h1 d (by simp [hc])
          · rw [List.mem_singleton] at hc; rw [hc]; exact PO.dual (h1 c (by simp))
        · rw [stackAt_next hn, h2, List.map_append, List.map_cons, List.map_nil, stack_dual h3']; simp
        · rw [← hd]; congr 1; simp
      · have h2' : opnds n.op = 2 := by unfold opnds; rw [if_neg h0, if_neg h3']
        rw [h2'] at hge hd
        obtain ⟨T', b, rfl⟩ := snocF (l := fs) (by omega)
        obtain ⟨T, a, rfl⟩ := snocF (l := T') (by simp at hge; omega)
        refine ⟨T ++ [fun x y => comb n.op (a x y) (b x y)], fun d hc => ?_, fun x y => ?_, ?_⟩
        · rcases List.mem_append.1 hc with hc | hc
          · exact h1 d (by simp [hc])
          · rw [List.mem_singleton] at hc; rw [hc]; exact PO.two (h1 a (by simp)) (h1 b (by simp))
        · rw [stackAt_next hn, h2, List.append_assoc, List.map_append, List.map_append, List.map_cons, List.map_cons, List.map_nil, List.singleton_append, stack_two h0 h3']; simp
        · rw [← hd]; congr 1; simp <;> omega
theorem cmpBy_PO {e : List GNode} (hE : isExpr e = true) : PO (cmpBy e) := by
  obtain ⟨fs, h1, h2, h3⟩ := stack_PO hE e.length (Nat.le_refl _)
  rw [List.drop_length] at h3
  simp only [depthOf] at h3
  have hl : fs.length = 1 := by injection h3 with h3; omega
  match fs, hl with
  | [c], _ =>
    have hc : cmpBy e = c := by
      funext x y
      rw [← stackAt_end (k := e.length) (Nat.le_refl _), h2]; rfl
    rw [hc]; exact h1 c (by simp)
/-- one that nothing beats -/
theorem PO.top {c : GItem → GItem → Int} (h : PO c) : ∀ {l : List GItem}, l ≠ [] → (∀ x ∈ l, isItem x = true) → ∃ m ∈ l, ∀ y ∈ l, c y m ≠ 1
  | [], hl, _ => absurd rfl hl
  | x :: l, _, hi => by
    have hx := hi x (by simp)
    by_cases hl : l = []
    · subst hl
      exact ⟨x, by simp, fun y hy => by rw [List.mem_singleton] at hy; rw [hy, h.refl x hx]; omega⟩
    · obtain ⟨m, hm, ht⟩ := PO.top h hl (fun y hy => hi y (by simp [hy]))
      have hmi := hi m (by simp [hm])
      by_cases hb : c x m = 1
      · refine ⟨x, by simp, fun y hy he => ?_⟩
        rcases List.mem_cons.1 hy with rfl | hy
        · rw [h.refl _ hx] at he; omega
        · refine ht y hy ?_
          rw [h.tr y x m (hi y (by simp [hy])) hx hmi (by omega) (by omega) (by omega) (by omega)]; omega
      · exact ⟨m, by simp [hm], fun y hy => by
          rcases List.mem_cons.1 hy with rfl | hy
          · exact hb
          · exact ht y hy⟩
theorem best_pos {l : List GItem} {e : List GNode} (hE : isExpr e = true) (hl : l ≠ []) (hi : ∀ x ∈ l, isItem x = true) : bestM l e ≠ [] := by
  obtain ⟨m, hm, ht⟩ := (cmpBy_PO hE).top hl hi
  have : m.id ∈ bestM l e := by
    unfold bestM
    refine List.mem_map.2 ⟨m, List.mem_filter.2 ⟨hm, ?_⟩, rfl⟩
    unfold freeIn
    rw [Bool.not_eq_true', List.any_eq_false]
    intro y hy
    simp only [beats, decide_eq_true_iff]
    exact ht y hy
  intro h; rw [h] at this; simp at this
end Go.Proofs.YtpihighajaeabaaGreat

namespace Go.Proofs.YtpihighajaeabaaGreat
open Go.RowKit
set_option linter.unusedVariables false

end Go.Proofs.YtpihighajaeabaaGreat

namespace Go.Proofs.YtpihighajaeabaaGreat
open Go.RowKit
set_option linter.unusedVariables false
def itemAt (l : List GItem) (id : Int) : GItem := (l[(findIdx l id).toNat]?).getD ⟨0, []⟩
def changeOk (l : List GItem) (e : List GNode) (id : Int) : Bool := areBoth l e && decide (0 ≤ findIdx l id)
theorem itemAt_of {l : List GItem} {id : Int} {j : Nat} {x : GItem} (h : findIdx l id = (j : Int)) (hx : l[j]? = some x) : itemAt l id = x := by
  unfold itemAt; rw [h]; simp [hx]
end Go.Proofs.YtpihighajaeabaaGreat
