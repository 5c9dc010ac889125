/- A new standing answer, in both programs. -/
import Derived.Test.YtpihighajaeabaaGreatQCmpS
import Derived.Test.YtpihighajaeabaaGreatQExprS
import Derived.Test.YtpihighajaeabaaGreatQBestI
import Derived.Test.YtpihighajaeabaaGreatQCompI
import Derived.Test.YtpihighajaeabaaGreatQCopyW
namespace Go.Proofs.YtpihighajaeabaaGreat
open Go.RowKit
set_option linter.unusedVariables false
set_option linter.unusedSimpArgs false
set_option maxHeartbeats 400000 in
theorem S_l7Fine (w : World) (l : List GItem) (e : List GNode) (v u : Value) (h : Rd rItems w l [v]) (h' : Rd rNodes w e [u]) : Calls Tryz.prog 102 #[v, u] w (Ret w (.bool (areBoth l e))) := by
  go_enter Tryz.func102, Tryz.ntmps102
  go_wp2_with fail
  refine (S_AreItems _ l _ h).mono ?_
  rintro e w2 ⟨rfl, hb2⟩
  rcases Bool.eq_false_or_eq_true (areItems l) with e1 | e1
  · have E := Lib.hid e1
    rw [e1]
    clear e1
    go_wp2_with fail
    refine (S_IsExpression _ e _ (h'.bw rNodes_good hb2)).mono ?_
    rintro e w3 ⟨rfl, hb3⟩
    rcases Bool.eq_false_or_eq_true (isExpr e) with e2 | e2
    · have E2 := Lib.hid e2
      rw [e2]
      clear e2
      go_wp2
      go_ret
      exact Ret.bool (by rw [areBoth, E.out, E2.out]; rfl) (hb2.then hb3)
    · have E2 := Lib.hid e2
      rw [e2]
      clear e2
      go_wp2
      go_ret
      exact Ret.bool (by rw [areBoth, E.out, E2.out]; rfl) (hb2.then hb3)
  · have E := Lib.hid e1
    rw [e1]
    clear e1
    go_wp2
    go_ret
    exact Ret.bool (by rw [areBoth, E.out]; rfl) (hb2)
set_option maxRecDepth 100000 in
set_option maxHeartbeats 3200000 in
theorem S_l7Best (w : World) (l : List GItem) (e : List GNode) (v u : Value) (h : Rd rItems w l [v]) (h' : Rd rNodes w e [u]) (hI : areItems l = true) (hE : isExpr e = true) : Calls Tryz.prog 101 #[v, u] w (RetV w (Made fInts w.heap.size (bestM l e))) := by
  obtain ⟨i0, hi, hz0, hz1, hz2⟩ := info_parts info_int
  obtain ⟨A, n, c, rfl, L0, Lc, Lm⟩ := rSl_open h
  unfold maxLen at Lm
  have L := Lib.hid L0
  clear L0
  have HE1 := Lib.hid hE
  have HI := Lib.hid hI
  have n16 : n ≤ 16 := by rw [L.out]; exact areItems_len HI.out
  have hv0 := fSl_empty (e := 3) (sz := 1) (R := fInt) w
  clear hE hI
  go_enter Tryz.func101, Tryz.ntmps101
  go_wp2
  go_loopg [5, 6] n (fun g s i w' => ∃ (k : Nat) (F : List Nat), k ≤ n ∧ g = n - k ∧ i = .int .i64 k ∧ fInts w' (bestTo l e k) [s] F ∧ Fresh w.heap.size F ∧ Bw w w')
  case atStart => exact ⟨0, _, by omega, rfl, rfl, hv0, ⟨by simp, by simp⟩, (Bw.refl _).alloc _⟩
  case round =>
    clear hv0
    obtain ⟨k, F, hk, rfl, rfl, hv, hF, hb⟩ := hrel
    by_cases hlt : k < n
    · obtain ⟨x, hx⟩ := get_of_lt (xs := l) (k := k) (by have := L.out; omega)
      obtain ⟨ba, oa, Ax, cx, rfl, _, hc0, hc1, hin⟩ := rItems_at h hx
      have HP := Lib.hid (areItems_mem HI.out (List.mem_of_getElem? hx))
      have hlen := isItem_len HP.out
      rw [hlen] at hc1 hin
      have i1 : (0 : Int) ≤ (k : Int) := by omega
      have i2 : (k : Int) < (n : Int) := by omega
      have HYES := Lib.hid (fun hf => bestTo_yes (e := e) hx hf)
      have HNO := Lib.hid (fun hf => bestTo_no (e := e) hx hf)
      have HH := Lib.hid h
      have hFm := (fInts_good (B := 0)).lt hv
      have k0 := hb.cell hc0
      have k1 := hb.cell hc1
      clear hx h hlen
      go_wp2
      go_loopg [7, 8] n (fun g b i2 w' => ∃ (j : Nat) (q : Bool), j ≤ n ∧ g = n - j ∧ i2 = .int .i64 j ∧ b = .bool q ∧ Hid ((!q) = (l.take j).any fun y => beats e y x) ∧ Bw wr w')
      case atStart => exact ⟨0, true, by omega, rfl, rfl, rfl, Lib.hid rfl, Bw.refl _⟩
      case round =>
        obtain ⟨j, qb, hj, rfl, rfl, rfl, HQ, hbj⟩ := hrel
        have hbw := hb.then hbj
        have m0 := hbj.cell k0
        have m1 := hbj.cell k1
        by_cases hlt2 : j < n
        · obtain ⟨y, hy⟩ := get_of_lt (xs := l) (k := j) (by have := L.out; omega)
          obtain ⟨b2, o2, Ay, cy, eA, _, hd0, hd1, hin2⟩ := rItems_at HH.out hy
          injection eA with eA
          injection eA with eA1 eA2
          subst eA1 eA2
          have HPy := Lib.hid (areItems_mem HI.out (List.mem_of_getElem? hy))
          have hleny := isItem_len HPy.out
          rw [hleny] at hd1 hin2
          replace hd0 := hbw.cell hd0
          replace hd1 := hbw.cell hd1
          have j1 : (0 : Int) ≤ (j : Int) := by omega
          have j2 : (j : Int) < (n : Int) := by omega
          have HS := Lib.hid (any_take_succ (fun y => beats e y x) hy)
          have s0 := since_cell m0
          have s1 := since_cell m1
          have s2 := since_cell hd0
          have s3 := since_cell hd1
          clear hy hleny
          cases qb with
          | false =>
            have HQ2 := Lib.hid (show (!false) = (l.take (j + 1)).any fun y => beats e y x by rw [HS.out, ← HQ.out]; rfl)
            clear HQ HS
            go_wp2
            refine wp_region_since (by kernel_rfl) (by kernel_rfl) ?_
            repeat (first | go_big_quiet_skip | (go_big_quiet_want; go_big_quiet_op; first | go_big_quiet_on | (apply Exists.intro; refine ⟨fun _ => ?_, ?_⟩; (· ((fail))); go_big_quiet_on)))
            refine wpQuiet_nil ?_
            rintro ⟨wq, hbq⟩
            dsimp only at *
            go_wp2
            go_roundg (n - (j + 1))
            case measure => omega
            case rel => exact ⟨j + 1, false, by omega, rfl, by go_num, rfl, HQ2, hbj.then hbq⟩
          | true =>
            have hcall : ∀ s : Since wr, Calls Tryz.prog 85 _ s.1 (Ret s.1 (.int .i64 (cmpBy e y x))) := fun s => S_l5Compare _ e y x u _ _ (h'.bw rNodes_good (hbw.then s.bw)) (Rd.bw rInts_good hin2 (hbw.then s.bw)) (Rd.bw rInts_good hin (hbw.then s.bw)) HE1.out HPy.out HP.out
            have HQ2 := Lib.hid (show decide (cmpBy e y x = 1) = (l.take (j + 1)).any fun y => beats e y x by rw [HS.out, ← HQ.out]; rfl)
            obtain ⟨r, hr⟩ : ∃ r, r = cmpBy e y x := ⟨_, rfl⟩
            rw [← hr] at hcall HQ2
            clear HQ HS hr m0 m1 hd0 hd1
            by_cases hr1 : r = 1
            · have e1 : (r != 1) = false := by simpa using hr1
              have HQ3 := Lib.hid (show (!false) = (l.take (j + 1)).any fun y => beats e y x by rw [← HQ2.out]; simpa using hr1)
              clear hr1 HQ2
              go_wp2
              refine wp_region_since (by kernel_rfl) (by kernel_rfl) ?_
              repeat (first | go_big_quiet_skip | (go_big_quiet_want; go_big_quiet_op; first | go_big_quiet_on | (apply Exists.intro; refine ⟨fun _ => ?_, ?_⟩; (· (((first | (go_at_call 85; exact Calls_since (hcall _)))))); go_big_quiet_on)))
              refine wpQuiet_nil ?_
              rintro ⟨wq, hbq⟩
              dsimp only at *
              go_wp2
              go_roundg (n - (j + 1))
              case measure => omega
              case rel => exact ⟨j + 1, false, by omega, rfl, by go_num, rfl, HQ3, hbj.then hbq⟩
            · have e1 : (r != 1) = true := by simpa using hr1
              have HQ3 := Lib.hid (show (!true) = (l.take (j + 1)).any fun y => beats e y x by rw [← HQ2.out]; simpa using hr1)
              clear hr1 HQ2
              go_wp2
              refine wp_region_since (by kernel_rfl) (by kernel_rfl) ?_
              repeat (first | go_big_quiet_skip | (go_big_quiet_want; go_big_quiet_op; first | go_big_quiet_on | (apply Exists.intro; refine ⟨fun _ => ?_, ?_⟩; (· (((first | (go_at_call 85; exact Calls_since (hcall _)))))); go_big_quiet_on)))
              refine wpQuiet_nil ?_
              rintro ⟨wq, hbq⟩
              dsimp only at *
              go_wp2
              go_roundg (n - (j + 1))
              case measure => omega
              case rel => exact ⟨j + 1, true, by omega, rfl, by go_num, rfl, HQ3, hbj.then hbq⟩
        · obtain rfl : j = n := by omega
          have HF := Lib.hid (show freeIn l e x = qb by rw [freeIn, ← any_take_end (k := j) _ (by rw [← L.out]; exact Nat.le_refl _), ← HQ.out]; simp)
          have hv1 := (fInts_good (B := w.heap.size)).bw hbj hb.size hv
          clear HQ hlt2
          cases qb with
          | false =>
            have HB := Lib.hid (HNO.out HF.out)
            go_wp2
            go_roundg (j - (k + 1))
            case measure => omega
            case rel => exact ⟨k + 1, F, by omega, rfl, by go_num, by rw [HB.out]; exact hv1, hF, hbw⟩
          | true =>
            have HB := Lib.hid (HYES.out HF.out)
            have hbl := bestTo_len (l := l) (e := e) (k := k)
            have HBL := Lib.hid hbl
            have hvW := (fInts_good (B := w.heap.size)).bw ((Bw.refl wr).alloc (.cells #[.int .i64 x.id] 3)) hbw.size hv1
            have hbW := hbw.alloc (.cells #[.int .i64 x.id] 3)
            have hcl := cell_one_new wr (.int .i64 x.id) 3
            have hb0 := hb.size
            clear hv1 hbl hv
            go_wp2_with (at_builtin; refine wpList_push _ rfl (.tmp 37) (.tmp 43) 26 rfl w 3 i0 _ 1 8 Tryz.underlying26 hi hz0 hz1 hz2 rfl (by omega) fInt_good _ (bestTo l e k) F rfl hvW hF ⟨wr.heap.size, 0, none⟩ 1 rfl x.id [.int .i64 x.id] [] hcl ⟨rfl, rfl⟩ rfl _ hFm Fresh.nil hb0 (by have := HBL.out; omega) (by have := HBL.out; omega) hbW ?_; intro v' w' F' hv' hF' hb')
            go_roundg (j - (k + 1))
            case measure => omega
            case rel => exact ⟨k + 1, F', by omega, rfl, by go_num, by rw [HB.out]; exact hv', hF', hb'⟩
    · obtain rfl : k = n := by omega
      rw [bestTo_end (by rw [← L.out]; exact Nat.le_refl _)] at hv
      go_wp2
      go_ret
      exact ⟨_, rfl, ⟨F, hv, hF⟩, hb⟩
end Go.Proofs.YtpihighajaeabaaGreat

namespace Go.Proofs.YtpihighajaeabaaGreat
open Go.RowKit
set_option linter.unusedVariables false
set_option linter.unusedSimpArgs false
/-- a struct and one more -/
def TwoA {α : Type} (f : Fp α) (B : Nat) (x : α) (z : Value) (w : World) (u : Value) : Prop := ∃ cs, u = .tuple #[.agg cs.toArray, z] ∧ ∃ F, f w x cs F ∧ Fresh B F
def newSt (l : List GItem) (e : List GNode) : GStanding := if areBoth l e then ⟨l, e, bestItems l e, 0⟩ else ⟨[], [], [], 0⟩
theorem newSt_yes {l : List GItem} {e : List GNode} (h : areBoth l e = true) : newSt l e = ⟨l, e, bestItems l e, 0⟩ := by unfold newSt; rw [h]; rfl
theorem newSt_no {l : List GItem} {e : List GNode} (h : areBoth l e = false) : newSt l e = ⟨[], [], [], 0⟩ := by unfold newSt; rw [h]; rfl
theorem bestItems_len (l : List GItem) (e : List GNode) : (bestItems l e).length ≤ l.length := by
  unfold bestItems; split
  · exact bestM_len l e
  · exact Nat.zero_le _
theorem newSt_small {l : List GItem} {e : List GNode} (h1 : totItems l ≤ 1048576) (h2 : totNodes e ≤ 1048576) : smallSt (newSt l e) := by
  unfold newSt smallSt; split
  · refine ⟨h1, h2, ?_⟩
    have h3 := bestItems_len l e
    unfold totItems at h1
    dsimp only; omega
  · simp [totItems, totNodes, sumL]
theorem fSt_none (w : World) : fStanding w ⟨[], [], [], 0⟩ [.slice none 0 0, .slice none 0 0, .slice none 0 0, .int .i64 0] [] :=
  ⟨_, _, _, [], [], [], rfl, ⟨_, [], [], rfl, World.ownsRow_nil _ _ _ _, trivial, by simp [Value.ownBlock]⟩, ⟨_, [], [], rfl, World.ownsRow_nil _ _ _ _, trivial, by simp [Value.ownBlock]⟩, ⟨_, [], [], rfl, World.ownsRow_nil _ _ _ _, trivial, by simp [Value.ownBlock]⟩, rfl⟩
theorem best_both {l : List GItem} {e : List GNode} (h : areBoth l e = true) : bestM l e = bestItems l e := by unfold bestItems; rw [h]; rfl
set_option maxRecDepth 100000 in
set_option maxHeartbeats 1600000 in
theorem I_NewStanding (w : World) (l : List GItem) (e : List GNode) (v u : Value) (h : Rd rItems w l [v]) (h' : Rd rNodes w e [u]) (t1 : totItems l ≤ 1048576) (t2 : totNodes e ≤ 1048576) :
    Calls Tryz.prog 25 #[v, u] w (RetV w (TwoA fStanding w.heap.size (newSt l e) (.bool (areBoth l e)))) := by
  have A0 : Bw w (w.alloc (.cells #[.slice none 0 0, .slice none 0 0, .slice none 0 0, .int .i64 0] 28)) := (Bw.refl w).alloc _
  obtain ⟨Y, hY⟩ : ∃ Y, Y = newSt l e := ⟨_, rfl⟩
  obtain ⟨Z, hZ⟩ : ∃ Z, Z = areBoth l e := ⟨_, rfl⟩
  rw [← hY, ← hZ]
  have HY := Lib.hid hY
  have HZ := Lib.hid hZ
  clear hY hZ
  go_enter Tryz.func25, Tryz.ntmps25
  go_wp2_with fail
  refine (I_areBoth _ l e _ _ (h.bw rItems_good A0) (h'.bw rNodes_good A0)).mono ?_
  rintro e w1 ⟨rfl, hb1⟩
  have B1 := A0.then hb1
  have r0 : w1.cell? ⟨w.heap.size, 0, none⟩ = some (.slice none 0 0) := hb1.cell (by go_simp)
  have r1 : w1.cell? ⟨w.heap.size, 1, none⟩ = some (.slice none 0 0) := hb1.cell (by go_simp)
  have r2 : w1.cell? ⟨w.heap.size, 2, none⟩ = some (.slice none 0 0) := hb1.cell (by go_simp)
  have r3 : w1.cell? ⟨w.heap.size, 3, none⟩ = some (.int .i64 0) := hb1.cell (by go_simp)
  have hf1 : ∀ o, w1.frozen? ⟨w.heap.size, o, none⟩ = false := fun o => by rw [bw_frozen hb1 _ _ (by first | (simp; done) | (simp; omega))]; go_simp
  rcases Bool.eq_false_or_eq_true (areBoth l e) with e1 | e1
  · have E1 := Lib.hid e1
    rw [e1]
    clear e1
    go_wp2_with fail
    refine (I_copyItems _ l _ (h.bw rItems_good B1) t1).mono ?_
    rintro e w2 ⟨v2, rfl, ⟨F2, o2, f2⟩, hb2⟩
    have B2 := B1.then hb2
    obtain ⟨A2, c2, rfl, _⟩ := rSl_shape (fItems_Rd o2)
    go_wp2_with fail
    refine (I_copyNodes _ e _ (h'.bw rNodes_good B2) t2).mono ?_
    rintro e w3 ⟨v3, rfl, ⟨F3, o3, f3⟩, hb3⟩
    have B3 := B2.then hb3
    obtain ⟨A3, c3, rfl, _⟩ := rSl_shape (fNodes_Rd o3)
    go_wp2_with fail
    refine (I_BestItems _ l e _ _ (h.bw rItems_good B3) (h'.bw rNodes_good B3)).mono ?_
    rintro e w4 ⟨v4, rfl, ⟨F4, o4, f4⟩, hb4⟩
    skip
    obtain ⟨A4, c4, rfl, _⟩ := rSl_shape (fInts_Rd o4)
    have hbb := (hb2.then hb3).then hb4
    replace r0 := hbb.cell r0
    replace r1 := hbb.cell r1
    replace r2 := hbb.cell r2
    replace r3 := hbb.cell r3
    have hz1 : w.heap.size + 1 ≤ w1.heap.size := by have := hb1.size; simpa using this
    have hf4 : ∀ o, w4.frozen? ⟨w.heap.size, o, none⟩ = false := fun o => (bw_frozen hbb w.heap.size o (by omega)).trans (hf1 o)
    have lt2 := (fItems_good (B := 0)).lt o2
    have lt3 := (fNodes_good (B := 0)).lt o3
    have z2 := hb2.size
    have z3 := hb3.size
    have z4 := hb4.size
    have f2z : ∀ b ∈ F2, w.heap.size + 1 ≤ b := fun b hb => by have := f2.ge b hb; omega
    have f3z : ∀ b ∈ F3, w.heap.size + 1 ≤ b := fun b hb => by have := f3.ge b hb; omega
    have f4z : ∀ b ∈ F4, w.heap.size + 1 ≤ b := fun b hb => by have := f4.ge b hb; omega
    have o2' := (fItems_good (B := 0)).bw (hb3.then hb4) (Nat.zero_le _) o2
    have o3' := (fNodes_good (B := 0)).bw hb4 (Nat.zero_le _) o3
    have FF : Fresh w.heap.size (F2 ++ (F3 ++ F4)) := Fresh.append (m := w2.heap.size) (f2.mono (by omega)) lt2 (Fresh.append (m := w3.heap.size) f3 lt3 f4 (by omega)) (by omega)
    have B4 := B3.then hb4
    have HYY := Lib.hid (HY.out.trans (newSt_yes E1.out))
    have HZZ := Lib.hid (HZ.out.trans E1.out)
    clear HY HZ hb1 hb2 hb3 hb4 hf1 f2 f3 f4 lt2 lt3 hbb B1 B2 B3
    go_wp2
    obtain rfl := HYY.out
    obtain rfl := HZZ.out
    refine bodyPost_ret (v := .tuple #[.agg #[.slice A2 l.length c2, .slice A3 e.length c3, .slice A4 (bestItems l e).length c4, .int .i64 0], .bool true]) (by simp [results, Tryz.results25, go_sem, r0, r1, r2, r3]) rfl ⟨_, rfl, ⟨[.slice A2 l.length c2, .slice A3 e.length c3, .slice A4 (bestItems l e).length c4, .int .i64 0], rfl, F2 ++ (F3 ++ F4), ⟨_, _, _, F2, F3, F4, rfl, ?_, ?_, ?_, rfl⟩, FF⟩, ?_⟩
    · refine (fItems_good (B := 0)).step (fun b hb => ?_) o2'
      rcases hb with hb | hb
      · have := f2z b hb
        repeat rw [Below.heap_setCell _ _ _ _ (by dsimp only; omega)]
      · omega
    · refine (fNodes_good (B := 0)).step (fun b hb => ?_) o3'
      rcases hb with hb | hb
      · have := f3z b hb
        repeat rw [Below.heap_setCell _ _ _ _ (by dsimp only; omega)]
      · omega
    · refine (fInts_good (B := 0)).step (fun b hb => ?_) o4
      rcases hb with hb | hb
      · have := f4z b hb
        repeat rw [Below.heap_setCell _ _ _ _ (by dsimp only; omega)]
      · omega
    · repeat (first | with_reducible exact B4 | with_reducible refine Bw.set ?_ ?_ _)
      all_goals (dsimp only; omega)
  · have E1 := Lib.hid e1
    rw [e1]
    clear e1
    have HYY := Lib.hid (HY.out.trans (newSt_no E1.out))
    have HZZ := Lib.hid (HZ.out.trans E1.out)
    clear HY HZ
    go_wp2
    obtain rfl := HYY.out
    obtain rfl := HZZ.out
    refine bodyPost_ret (v := .tuple #[.agg #[.slice none 0 0, .slice none 0 0, .slice none 0 0, .int .i64 0], .bool false]) (by simp [results, Tryz.results25, go_sem, r0, r1, r2, r3]) rfl ⟨_, rfl, ⟨[.slice none 0 0, .slice none 0 0, .slice none 0 0, .int .i64 0], rfl, [], fSt_none _, Fresh.nil⟩, ?_⟩
    repeat (first | with_reducible exact B1 | with_reducible refine Bw.set ?_ ?_ _)
    all_goals (dsimp only; omega)
set_option maxRecDepth 100000 in
set_option maxHeartbeats 1600000 in
theorem S_NewStanding (w : World) (l : List GItem) (e : List GNode) (v u : Value) (h : Rd rItems w l [v]) (h' : Rd rNodes w e [u]) (t1 : totItems l ≤ 1048576) (t2 : totNodes e ≤ 1048576) :
    Calls Tryz.prog 26 #[v, u] w (RetV w (TwoA fStanding w.heap.size (newSt l e) (.bool (areBoth l e)))) := by
  have A0 : Bw w (w.alloc (.cells #[.slice none 0 0, .slice none 0 0, .slice none 0 0, .int .i64 0] 28)) := (Bw.refl w).alloc _
  obtain ⟨Y, hY⟩ : ∃ Y, Y = newSt l e := ⟨_, rfl⟩
  obtain ⟨Z, hZ⟩ : ∃ Z, Z = areBoth l e := ⟨_, rfl⟩
  rw [← hY, ← hZ]
  have HY := Lib.hid hY
  have HZ := Lib.hid hZ
  clear hY hZ
  go_enter Tryz.func26, Tryz.ntmps26
  go_wp2_with fail
  refine (S_l7Fine _ l e _ _ (h.bw rItems_good A0) (h'.bw rNodes_good A0)).mono ?_
  rintro e w1 ⟨rfl, hb1⟩
  have B1 := A0.then hb1
  have r0 : w1.cell? ⟨w.heap.size, 0, none⟩ = some (.slice none 0 0) := hb1.cell (by go_simp)
  have r1 : w1.cell? ⟨w.heap.size, 1, none⟩ = some (.slice none 0 0) := hb1.cell (by go_simp)
  have r2 : w1.cell? ⟨w.heap.size, 2, none⟩ = some (.slice none 0 0) := hb1.cell (by go_simp)
  have r3 : w1.cell? ⟨w.heap.size, 3, none⟩ = some (.int .i64 0) := hb1.cell (by go_simp)
  have hf1 : ∀ o, w1.frozen? ⟨w.heap.size, o, none⟩ = false := fun o => by rw [bw_frozen hb1 _ _ (by first | (simp; done) | (simp; omega))]; go_simp
  rcases Bool.eq_false_or_eq_true (areBoth l e) with e1 | e1
  · have E1 := Lib.hid e1
    rw [e1]
    clear e1
    go_wp2_with fail
    refine (S_l2Copy _ l _ (h.bw rItems_good B1) t1).mono ?_
    rintro e w2 ⟨v2, rfl, ⟨F2, o2, f2⟩, hb2⟩
    have B2 := B1.then hb2
    obtain ⟨A2, c2, rfl, _⟩ := rSl_shape (fItems_Rd o2)
    go_wp2_with fail
    refine (S_l5Copy _ e _ (h'.bw rNodes_good B2) t2).mono ?_
    rintro e w3 ⟨v3, rfl, ⟨F3, o3, f3⟩, hb3⟩
    have B3 := B2.then hb3
    obtain ⟨A3, c3, rfl, _⟩ := rSl_shape (fNodes_Rd o3)
    go_wp2_with fail
    refine (S_l7Best _ l e _ _ (h.bw rItems_good B3) (h'.bw rNodes_good B3) (areBoth_items E1.out) (areBoth_expr E1.out)).mono ?_
    rintro e w4 ⟨v4, rfl, ⟨F4, o4, f4⟩, hb4⟩
    rw [best_both E1.out] at o4
    obtain ⟨A4, c4, rfl, _⟩ := rSl_shape (fInts_Rd o4)
    have hbb := (hb2.then hb3).then hb4
    replace r0 := hbb.cell r0
    replace r1 := hbb.cell r1
    replace r2 := hbb.cell r2
    replace r3 := hbb.cell r3
    have hz1 : w.heap.size + 1 ≤ w1.heap.size := by have := hb1.size; simpa using this
    have hf4 : ∀ o, w4.frozen? ⟨w.heap.size, o, none⟩ = false := fun o => (bw_frozen hbb w.heap.size o (by omega)).trans (hf1 o)
    have lt2 := (fItems_good (B := 0)).lt o2
    have lt3 := (fNodes_good (B := 0)).lt o3
    have z2 := hb2.size
    have z3 := hb3.size
    have z4 := hb4.size
    have f2z : ∀ b ∈ F2, w.heap.size + 1 ≤ b := fun b hb => by have := f2.ge b hb; omega
    have f3z : ∀ b ∈ F3, w.heap.size + 1 ≤ b := fun b hb => by have := f3.ge b hb; omega
    have f4z : ∀ b ∈ F4, w.heap.size + 1 ≤ b := fun b hb => by have := f4.ge b hb; omega
    have o2' := (fItems_good (B := 0)).bw (hb3.then hb4) (Nat.zero_le _) o2
    have o3' := (fNodes_good (B := 0)).bw hb4 (Nat.zero_le _) o3
    have FF : Fresh w.heap.size (F2 ++ (F3 ++ F4)) := Fresh.append (m := w2.heap.size) (f2.mono (by omega)) lt2 (Fresh.append (m := w3.heap.size) f3 lt3 f4 (by omega)) (by omega)
    have B4 := B3.then hb4
    have HYY := Lib.hid (HY.out.trans (newSt_yes E1.out))
    have HZZ := Lib.hid (HZ.out.trans E1.out)
    clear HY HZ hb1 hb2 hb3 hb4 hf1 f2 f3 f4 lt2 lt3 hbb B1 B2 B3
    go_wp2
    obtain rfl := HYY.out
    obtain rfl := HZZ.out
    refine bodyPost_ret (v := .tuple #[.agg #[.slice A2 l.length c2, .slice A3 e.length c3, .slice A4 (bestItems l e).length c4, .int .i64 0], .bool true]) (by simp [results, Tryz.results26, go_sem, r0, r1, r2, r3]) rfl ⟨_, rfl, ⟨[.slice A2 l.length c2, .slice A3 e.length c3, .slice A4 (bestItems l e).length c4, .int .i64 0], rfl, F2 ++ (F3 ++ F4), ⟨_, _, _, F2, F3, F4, rfl, ?_, ?_, ?_, rfl⟩, FF⟩, ?_⟩
    · refine (fItems_good (B := 0)).step (fun b hb => ?_) o2'
      rcases hb with hb | hb
      · have := f2z b hb
        repeat rw [Below.heap_setCell _ _ _ _ (by dsimp only; omega)]
      · omega
    · refine (fNodes_good (B := 0)).step (fun b hb => ?_) o3'
      rcases hb with hb | hb
      · have := f3z b hb
        repeat rw [Below.heap_setCell _ _ _ _ (by dsimp only; omega)]
      · omega
    · refine (fInts_good (B := 0)).step (fun b hb => ?_) o4
      rcases hb with hb | hb
      · have := f4z b hb
        repeat rw [Below.heap_setCell _ _ _ _ (by dsimp only; omega)]
      · omega
    · repeat (first | with_reducible exact B4 | with_reducible refine Bw.set ?_ ?_ _)
      all_goals (dsimp only; omega)
  · have E1 := Lib.hid e1
    rw [e1]
    clear e1
    have HYY := Lib.hid (HY.out.trans (newSt_no E1.out))
    have HZZ := Lib.hid (HZ.out.trans E1.out)
    clear HY HZ
    go_wp2
    obtain rfl := HYY.out
    obtain rfl := HZZ.out
    refine bodyPost_ret (v := .tuple #[.agg #[.slice none 0 0, .slice none 0 0, .slice none 0 0, .int .i64 0], .bool false]) (by simp [results, Tryz.results26, go_sem, r0, r1, r2, r3]) rfl ⟨_, rfl, ⟨[.slice none 0 0, .slice none 0 0, .slice none 0 0, .int .i64 0], rfl, [], fSt_none _, Fresh.nil⟩, ?_⟩
    repeat (first | with_reducible exact B1 | with_reducible refine Bw.set ?_ ?_ _)
    all_goals (dsimp only; omega)
end Go.Proofs.YtpihighajaeabaaGreat
