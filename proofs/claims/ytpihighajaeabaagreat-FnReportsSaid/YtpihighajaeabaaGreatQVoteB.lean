/- The item that wins against each other one, in both programs. -/
import Derived.Test.YtpihighajaeabaaGreatQVoteA
namespace Go.Proofs.YtpihighajaeabaaGreat
open Go.RowKit
set_option linter.unusedVariables false
set_option linter.unusedSimpArgs false
theorem all_take_and {α : Type} {f : α → Bool} {l : List α} {k : Nat} {x : α} (hx : l[k]? = some x) : (l.take (k + 1)).all f = ((l.take k).all f && f x) := by
  rw [List.take_add_one, hx, List.all_append]; simp
theorem condo_yes {l : List GItem} {g : List (List GNode)} {x : GItem} (hP : isPoll l g = true) (h : l.find? (fun x => l.all (winsOver l g x)) = some x) : condo l g = x.id := by rw [condo, if_pos hP, h]
theorem condo_none {l : List GItem} {g : List (List GNode)} (hP : isPoll l g = true) (h : l.find? (fun x => l.all (winsOver l g x)) = none) : condo l g = -1 := by rw [condo, if_pos hP, h]
set_option maxRecDepth 100000 in
set_option maxHeartbeats 6400000 in
theorem I_CondorcetOf_yes (w : World) (l : List GItem) (g : List (List GNode)) (v u : Value) (h : Rd rItems w l [v]) (h' : Rd rNodess w g [u]) (hP : isPoll l g = true) : Calls Tryz.prog 189 #[v, u] w (Ret w (.int .i64 (condo l g))) := by
  have hcall0 := I_isPoll w l g _ _ h h'
  rw [hP] at hcall0
  have HV := Lib.hid (fun W (B : Bw w W) (a b : Int) => I_VotesFor W l g a b _ _ (h.bw rItems_good B) (h'.bw rNodess_good B))
  obtain ⟨A, n, c, rfl, L0, Lc, Lm⟩ := rSl_open h
  unfold maxLen at Lm
  have L := Lib.hid L0
  clear L0
  obtain ⟨A2, n2, c2, rfl, L20, L2c, L2m⟩ := rSl_open h'
  unfold maxLen at L2m
  have L2 := Lib.hid L20
  clear L20
  obtain ⟨Y, hY⟩ : ∃ Y, Y = condo l g := ⟨_, rfl⟩
  rw [← hY]
  have HY := Lib.hid hY
  have HP := Lib.hid hP
  clear hY hP h'
  go_enter Tryz.func189, Tryz.ntmps189
  go_wp2_with fail
  refine (hcall0).mono ?_
  rintro e w1 ⟨rfl, hb1⟩
  clear hcall0
  go_wp2
  go_loopg [16] n (fun gh i w' => ∃ k : Nat, k ≤ n ∧ gh = n - k ∧ i = .int .i64 k ∧ Hid ((l.take k).find? (fun x => l.all (winsOver l g x)) = none) ∧ Bw w w')
  case atStart => exact ⟨0, by omega, rfl, rfl, Lib.hid rfl, hb1⟩
  case round =>
    obtain ⟨k, hk, rfl, rfl, HE, hb⟩ := hrel
    by_cases hlt : k < n
    · obtain ⟨x, hx⟩ := get_of_lt (xs := l) (k := k) (by have := L.out; omega)
      obtain ⟨ba, oa, Ax, cx, rfl, _, c0, c1, hix⟩ := rItems_at h hx
      replace c0 := hb.cell c0
      replace c1 := hb.cell c1
      have i1 : (0 : Int) ≤ (k : Int) := by omega
      have i2 : (k : Int) < (n : Int) := by omega
      have HXX := Lib.hid hx
      have HH := Lib.hid h
      obtain ⟨M, hM⟩ : ∃ M, M = x.vals.length := ⟨_, rfl⟩
      rw [← hM] at c1
      have A1 := (Bw.refl wr).alloc (.cells #[.int .i64 x.id, .slice Ax M cx] 30)
      have p0 : (wr.alloc (.cells #[.int .i64 x.id, .slice Ax M cx] 30)).cell? ⟨wr.heap.size, 0, none⟩ = some (.int .i64 x.id) := by go_simp
      obtain ⟨W1, hW1⟩ : ∃ W1, W1 = wr.alloc (.cells #[.int .i64 x.id, .slice Ax M cx] 30) := ⟨_, rfl⟩
      rw [← hW1] at A1 p0
      have HW1 := Lib.hid hW1
      clear hx hix hM hW1 h
      go_wp2
      rw [← HW1.out]
      go_loopg [7, 22] n (fun gh s i w' => ∃ (j : Nat) (q : Bool), j ≤ n ∧ gh = n - j ∧ i = .int .i64 j ∧ s = .bool q ∧ Hid (q = (l.take j).all (winsOver l g x)) ∧ Bw W1 w')
      case atStart => exact ⟨0, true, by omega, rfl, rfl, rfl, Lib.hid rfl, Bw.refl _⟩
      case round =>
        obtain ⟨j, q, hj, rfl, rfl, rfl, HQ, hbj⟩ := hrel
        have hbw := hb.then (A1.then hbj)
        replace p0 := hbj.cell p0
        by_cases hlt2 : j < n
        · have h := HH.out
          obtain ⟨y, hy⟩ := get_of_lt (xs := l) (k := j) (by have := L.out; omega)
          obtain ⟨b2, o2, Ay, cy, e, _, d0, d1, hiy⟩ := rItems_at h hy
          injection e with e
          injection e with e1 e2
          subst e1 e2
          replace d0 := hbw.cell d0
          replace d1 := hbw.cell d1
          have i3 : (0 : Int) ≤ (j : Int) := by omega
          have i4 : (j : Int) < (n : Int) := by omega
          have HS := Lib.hid (all_take_and (f := winsOver l g x) hy)
          have HW := Lib.hid (show winsOver l g x y = (decide (x.id = y.id) || decide (votesFor l g y.id x.id < votesFor l g x.id y.id)) from rfl)
          obtain ⟨M2, hM2⟩ : ∃ M2, M2 = y.vals.length := ⟨_, rfl⟩
          rw [← hM2] at d1
          have A2' := (Bw.refl wr).alloc (.cells #[.int .i64 y.id, .slice Ay M2 cy] 30)
          have r0 : (wr.alloc (.cells #[.int .i64 y.id, .slice Ay M2 cy] 30)).cell? ⟨wr.heap.size, 0, none⟩ = some (.int .i64 y.id) := by go_simp
          have r1 := A2'.cell p0
          have s0 := since_cell r0
          have s1 := since_cell r1
          have hbz := hbw.then A2'
          have hbj2 := hbj.then A2'
          clear hy hiy hM2 h r0 r1
          cases q with
          | false =>
            have HX := Lib.hid (show false = (l.take (j + 1)).all (winsOver l g x) by rw [HS.out, ← HQ.out]; rfl)
            clear HQ HS HW
            go_wp2_with fail
            refine wp_region_since (by kernel_rfl) (by kernel_rfl) ?_
            repeat (first | go_big_quiet_skip | (go_big_quiet_want; go_big_quiet_op; first | go_big_quiet_on | (apply Exists.intro; refine ⟨fun _ => ?_, ?_⟩; (· ((fail))); go_big_quiet_on)))
            refine wpQuiet_nil ?_
            rintro ⟨wq, hbq⟩
            dsimp only at *
            have hb2 := hbj2.then hbq
            clear s0 s1
            go_wp2
            go_roundg (n - (j + 1))
            case measure => omega
            case rel => exact ⟨j + 1, false, by omega, rfl, by go_num, rfl, HX, hb2⟩
          | true =>
            by_cases hid : x.id = y.id
            · have e1 : (x.id == y.id) = true := by simpa using hid
              have HX := Lib.hid (show true = (l.take (j + 1)).all (winsOver l g x) by rw [HS.out, ← HQ.out, HW.out, decide_eq_true hid]; rfl)
              clear HQ HS HW hid
              go_wp2_with fail
              refine wp_region_since (by kernel_rfl) (by kernel_rfl) ?_
              repeat (first | go_big_quiet_skip | (go_big_quiet_want; go_big_quiet_op; first | go_big_quiet_on | (apply Exists.intro; refine ⟨fun _ => ?_, ?_⟩; (· ((fail))); go_big_quiet_on)))
              refine wpQuiet_nil ?_
              rintro ⟨wq, hbq⟩
              dsimp only at *
              have hb2 := hbj2.then hbq
              clear s0 s1
              go_wp2
              go_roundg (n - (j + 1))
              case measure => omega
              case rel => exact ⟨j + 1, true, by omega, rfl, by go_num, rfl, HX, hb2⟩
            · have e1 : (x.id == y.id) = false := by simpa using hid
              obtain ⟨ix, hix⟩ : ∃ ix, ix = x.id := ⟨_, rfl⟩
              obtain ⟨iy, hiy⟩ : ∃ iy, iy = y.id := ⟨_, rfl⟩
              have k1 : ∀ s : Since (wr.alloc (.cells #[.int .i64 y.id, .slice Ay M2 cy] 30)), Calls Tryz.prog 240 _ s.1 (Ret s.1 (.int .i64 (votesFor l g x.id y.id))) := fun s => HV.out s.1 (hbz.then s.bw) x.id y.id
              have k2 : ∀ s : Since (wr.alloc (.cells #[.int .i64 y.id, .slice Ay M2 cy] 30)), Calls Tryz.prog 240 _ s.1 (Ret s.1 (.int .i64 (votesFor l g y.id x.id))) := fun s => HV.out s.1 (hbz.then s.bw) y.id x.id
              obtain ⟨a1, ha1⟩ : ∃ a1, a1 = votesFor l g x.id y.id := ⟨_, rfl⟩
              obtain ⟨a2, ha2⟩ : ∃ a2, a2 = votesFor l g y.id x.id := ⟨_, rfl⟩
              rw [← ha1] at k1
              rw [← ha2] at k2
              have HX := Lib.hid (show decide (a2 < a1) = (l.take (j + 1)).all (winsOver l g x) by rw [HS.out, ← HQ.out, HW.out, decide_eq_false hid, ha1, ha2]; simp)
              clear HQ HS HW hid ha1 ha2 hix hiy
              go_wp2_with fail
              refine wp_region_since (by kernel_rfl) (by kernel_rfl) ?_
              repeat (first | go_big_quiet_skip | (go_big_quiet_want; go_big_quiet_op; first | go_big_quiet_on | (apply Exists.intro; refine ⟨fun _ => ?_, ?_⟩; (· (((first | (go_at_call 240; first | with_reducible exact Calls_since (k1 _) | with_reducible exact Calls_since (k2 _)))))); go_big_quiet_on)))
              refine wpQuiet_nil ?_
              rintro ⟨wq, hbq⟩
              dsimp only at *
              have hb2 := hbj2.then hbq
              clear s0 s1 k1 k2
              go_wp2
              go_roundg (n - (j + 1))
              case measure => omega
              case rel => exact ⟨j + 1, decide (a2 < a1), by omega, rfl, by go_num, by first | rfl | simp, HX, hb2⟩
        · obtain rfl : j = n := by omega
          have HA := Lib.hid (show q = l.all (winsOver l g x) by have := HQ.out; rwa [List.take_of_length_le (by rw [← L.out]; exact Nat.le_refl _)] at this)
          have h := HH.out
          cases q with
          | true =>
            have HF := Lib.hid (show Y = x.id by rw [HY.out]; exact condo_yes HP.out (find_take_yes HXX.out HA.out.symm HE.out))
            clear HQ HE
            go_wp2
            go_ret
            exact Ret.int (HF.out.symm) (hbw)
          | false =>
            have HF := Lib.hid ((find_take_no (f := fun x => l.all (winsOver l g x)) HXX.out HA.out.symm).trans HE.out)
            clear HQ HE
            go_wp2
            go_roundg (j - (k + 1))
            case measure => omega
            case rel => exact ⟨k + 1, by omega, rfl, by go_num, HF, hbw⟩
    · obtain rfl : k = n := by omega
      have HF := Lib.hid (show Y = -1 by rw [HY.out]; exact condo_none HP.out (by have := HE.out; rwa [List.take_of_length_le (by rw [← L.out]; exact Nat.le_refl _)] at this))
      clear HE
      go_wp2
      go_ret
      exact Ret.int (HF.out.symm) (hb)
set_option maxHeartbeats 400000 in
theorem I_CondorcetOf (w : World) (l : List GItem) (g : List (List GNode)) (v u : Value) (h : Rd rItems w l [v]) (h' : Rd rNodess w g [u]) : Calls Tryz.prog 189 #[v, u] w (Ret w (.int .i64 (condo l g))) := by
  rcases Bool.eq_false_or_eq_true (isPoll l g) with hP | hP
  · exact I_CondorcetOf_yes w l g v u h h' hP
  · have hcall0 := I_isPoll w l g _ _ h h'
    rw [hP] at hcall0
    rw [show condo l g = -1 by rw [condo, hP]; rfl]
    clear hP h h'
    go_enter Tryz.func189, Tryz.ntmps189
    go_wp2_with fail
    refine (hcall0).mono ?_
    rintro e w1 ⟨rfl, hb1⟩
    go_wp2
    go_ret
    exact Ret.int (rfl) (hb1)
set_option maxRecDepth 100000 in
set_option maxHeartbeats 6400000 in
theorem S_CondorcetOf_yes (w : World) (l : List GItem) (g : List (List GNode)) (v u : Value) (h : Rd rItems w l [v]) (h' : Rd rNodess w g [u]) (hP : isPoll l g = true) : Calls Tryz.prog 141 #[v, u] w (Ret w (.int .i64 (condo l g))) := by
  have hcall0 := fun W (B : Bw w W) => S_l12Fine W l g _ _ (h.bw rItems_good B) (h'.bw rNodess_good B)
  rw [hP] at hcall0
  have HC := Lib.hid hcall0
  have HV := Lib.hid (fun W (B : Bw w W) (a b : Int) => S_VotesFor W l g a b _ _ (h.bw rItems_good B) (h'.bw rNodess_good B))
  obtain ⟨A, n, c, rfl, L0, Lc, Lm⟩ := rSl_open h
  unfold maxLen at Lm
  have L := Lib.hid L0
  clear L0
  obtain ⟨A2, n2, c2, rfl, L20, L2c, L2m⟩ := rSl_open h'
  unfold maxLen at L2m
  have L2 := Lib.hid L20
  clear L20
  obtain ⟨Y, hY⟩ : ∃ Y, Y = condo l g := ⟨_, rfl⟩
  rw [← hY]
  have HY := Lib.hid hY
  have HP := Lib.hid hP
  clear hY hP h' hcall0
  go_enter Tryz.func141, Tryz.ntmps141
  go_wp2
  go_loopg [5] n (fun gh i w' => ∃ k : Nat, k ≤ n ∧ gh = n - k ∧ i = .int .i64 k ∧ Hid ((l.take k).find? (fun x => l.all (winsOver l g x)) = none) ∧ Bw w w')
  case atStart => exact ⟨0, by omega, rfl, rfl, Lib.hid rfl, Bw.refl _⟩
  case round =>
    obtain ⟨k, hk, rfl, rfl, HE, hb⟩ := hrel
    by_cases hlt : k < n
    · obtain ⟨x, hx⟩ := get_of_lt (xs := l) (k := k) (by have := L.out; omega)
      obtain ⟨ba, oa, Ax, cx, rfl, _, c0, c1, hix⟩ := rItems_at h hx
      have i1 : (0 : Int) ≤ (k : Int) := by omega
      have i2 : (k : Int) < (n : Int) := by omega
      have HXX := Lib.hid hx
      have HH := Lib.hid h
      have hcall := HC.out wr hb
      clear hx hix c1 h
      go_wp2_with fail
      refine (hcall).mono ?_
      rintro e w2 ⟨rfl, hb2⟩
      have hb := hb.then hb2
      replace c0 := hb.cell c0
      clear hcall
      go_wp2
      go_loopg [6, 7] n (fun gh s i w' => ∃ (j : Nat) (q : Bool), j ≤ n ∧ gh = n - j ∧ i = .int .i64 j ∧ s = .bool q ∧ Hid (q = (l.take j).all (winsOver l g x)) ∧ Bw w2 w')
      case atStart => exact ⟨0, true, by omega, rfl, rfl, rfl, Lib.hid rfl, Bw.refl _⟩
      case round =>
        obtain ⟨j, q, hj, rfl, rfl, rfl, HQ, hbj⟩ := hrel
        have hbw := hb.then hbj
        replace c0 := hbj.cell c0
        by_cases hlt2 : j < n
        · have h := HH.out
          obtain ⟨y, hy⟩ := get_of_lt (xs := l) (k := j) (by have := L.out; omega)
          obtain ⟨b2, o2, Ay, cy, e, _, d0, d1, hiy⟩ := rItems_at h hy
          injection e with e
          injection e with e1 e2
          subst e1 e2
          replace d0 := hbw.cell d0
          have i3 : (0 : Int) ≤ (j : Int) := by omega
          have i4 : (j : Int) < (n : Int) := by omega
          have HS := Lib.hid (all_take_and (f := winsOver l g x) hy)
          have HW := Lib.hid (show winsOver l g x y = (decide (x.id = y.id) || decide (votesFor l g y.id x.id < votesFor l g x.id y.id)) from rfl)
          have s0 := since_cell c0
          have s1 := since_cell d0
          have HID := Lib.hid (fun (e : x.id = y.id) => areItems_pos (isPoll_items HP.out) HXX.out hy e)
          have HID2 := Lib.hid (fun (e : k = j) => show x.id = y.id by have h1 := HXX.out; rw [e, hy] at h1; injection h1 with h1; rw [h1])
          clear hy hiy d1 h d0
          cases q with
          | false =>
            have HX := Lib.hid (show false = (l.take (j + 1)).all (winsOver l g x) by rw [HS.out, ← HQ.out]; rfl)
            clear HQ HS HW HID HID2
            go_wp2_with fail
            refine wp_region_since (by kernel_rfl) (by kernel_rfl) ?_
            repeat (first | go_big_quiet_skip | (go_big_quiet_want; go_big_quiet_op; first | go_big_quiet_on | (apply Exists.intro; refine ⟨fun _ => ?_, ?_⟩; (· ((fail))); go_big_quiet_on)))
            refine wpQuiet_nil ?_
            rintro ⟨wq, hbq⟩
            dsimp only at *
            have hb2 := hbj.then hbq
            clear s0 s1
            go_wp2
            go_roundg (n - (j + 1))
            case measure => omega
            case rel => exact ⟨j + 1, false, by omega, rfl, by go_num, rfl, HX, hb2⟩
          | true =>
            by_cases hid : x.id = y.id
            · have hkj := HID.out hid
              have e1 : ((k : Int) == (j : Int)) = true := by simp [hkj]
              have HX := Lib.hid (show true = (l.take (j + 1)).all (winsOver l g x) by rw [HS.out, ← HQ.out, HW.out, decide_eq_true hid]; rfl)
              clear HQ HS HW hid HID HID2 hkj
              go_wp2_with fail
              refine wp_region_since (by kernel_rfl) (by kernel_rfl) ?_
              repeat (first | go_big_quiet_skip | (go_big_quiet_want; go_big_quiet_op; first | go_big_quiet_on | (apply Exists.intro; refine ⟨fun _ => ?_, ?_⟩; (· ((fail))); go_big_quiet_on)))
              refine wpQuiet_nil ?_
              rintro ⟨wq, hbq⟩
              dsimp only at *
              have hb2 := hbj.then hbq
              clear s0 s1
              go_wp2
              go_roundg (n - (j + 1))
              case measure => omega
              case rel => exact ⟨j + 1, true, by omega, rfl, by go_num, rfl, HX, hb2⟩
            · have e1 : ((k : Int) == (j : Int)) = false := by rw [beq_eq_false_iff_ne]; intro e; exact hid (HID2.out (by omega))
              have k1 : ∀ s : Since wr, Calls Tryz.prog 193 _ s.1 (Ret s.1 (.int .i64 (votesFor l g x.id y.id))) := fun s => HV.out s.1 (hbw.then s.bw) x.id y.id
              have k2 : ∀ s : Since wr, Calls Tryz.prog 193 _ s.1 (Ret s.1 (.int .i64 (votesFor l g y.id x.id))) := fun s => HV.out s.1 (hbw.then s.bw) y.id x.id
              obtain ⟨a1, ha1⟩ : ∃ a1, a1 = votesFor l g x.id y.id := ⟨_, rfl⟩
              obtain ⟨a2, ha2⟩ : ∃ a2, a2 = votesFor l g y.id x.id := ⟨_, rfl⟩
              rw [← ha1] at k1
              rw [← ha2] at k2
              have HX := Lib.hid (show decide (a2 < a1) = (l.take (j + 1)).all (winsOver l g x) by rw [HS.out, ← HQ.out, HW.out, decide_eq_false hid, ha1, ha2]; simp)
              clear HQ HS HW hid ha1 ha2 HID HID2
              go_wp2_with fail
              refine wp_region_since (by kernel_rfl) (by kernel_rfl) ?_
              repeat (first | go_big_quiet_skip | (go_big_quiet_want; go_big_quiet_op; first | go_big_quiet_on | (apply Exists.intro; refine ⟨fun _ => ?_, ?_⟩; (· (((first | (go_at_call 193; first | with_reducible exact Calls_since (k1 _) | with_reducible exact Calls_since (k2 _)))))); go_big_quiet_on)))
              refine wpQuiet_nil ?_
              rintro ⟨wq, hbq⟩
              dsimp only at *
              have hb2 := hbj.then hbq
              clear s0 s1 k1 k2
              go_wp2
              go_roundg (n - (j + 1))
              case measure => omega
              case rel => exact ⟨j + 1, decide (a2 < a1), by omega, rfl, by go_num, by first | rfl | simp, HX, hb2⟩
        · obtain rfl : j = n := by omega
          have HA := Lib.hid (show q = l.all (winsOver l g x) by have := HQ.out; rwa [List.take_of_length_le (by rw [← L.out]; exact Nat.le_refl _)] at this)
          have h := HH.out
          cases q with
          | true =>
            have HF := Lib.hid (show Y = x.id by rw [HY.out]; exact condo_yes HP.out (find_take_yes HXX.out HA.out.symm HE.out))
            clear HQ HE
            go_wp2
            go_ret
            exact Ret.int (HF.out.symm) (hbw)
          | false =>
            have HF := Lib.hid ((find_take_no (f := fun x => l.all (winsOver l g x)) HXX.out HA.out.symm).trans HE.out)
            clear HQ HE
            go_wp2
            go_roundg (j - (k + 1))
            case measure => omega
            case rel => exact ⟨k + 1, by omega, rfl, by go_num, HF, hbw⟩
    · obtain rfl : k = n := by omega
      have HF := Lib.hid (show Y = -1 by rw [HY.out]; exact condo_none HP.out (by have := HE.out; rwa [List.take_of_length_le (by rw [← L.out]; exact Nat.le_refl _)] at this))
      clear HE
      go_wp2
      go_ret
      exact Ret.int (HF.out.symm) (hb)
set_option maxHeartbeats 800000 in
theorem S_CondorcetOf (w : World) (l : List GItem) (g : List (List GNode)) (v u : Value) (h : Rd rItems w l [v]) (h' : Rd rNodess w g [u]) : Calls Tryz.prog 141 #[v, u] w (Ret w (.int .i64 (condo l g))) := by
  rcases Bool.eq_false_or_eq_true (isPoll l g) with hP | hP
  · exact S_CondorcetOf_yes w l g v u h h' hP
  · have hcall0 := S_l12Fine w l g _ _ h h'
    rw [hP] at hcall0
    rw [show condo l g = -1 by rw [condo, hP]; rfl]
    obtain ⟨A, n, c, rfl, L0, Lc, Lm⟩ := rSl_open h
    unfold maxLen at Lm
    have L := Lib.hid L0
    clear L0
    clear hP h h'
    by_cases hn : n = 0
    · subst hn
      clear hcall0
      go_enter Tryz.func141, Tryz.ntmps141
      go_wp2
      go_loopg [5] 0 (fun gh i w' => gh = 0 ∧ i = .int .i64 0 ∧ w' = w)
      case atStart => exact ⟨rfl, rfl, rfl⟩
      case round =>
        obtain ⟨rfl, rfl, rfl⟩ := hrel
        go_wp2
        go_ret
        exact Ret.int (rfl) (Bw.refl _)
    · have i2 : (0 : Int) < (n : Int) := by omega
      have HC := Lib.hid hcall0
      clear hn hcall0
      go_enter Tryz.func141, Tryz.ntmps141
      go_wp2
      go_loopg [5] 0 (fun gh i w' => gh = 0 ∧ i = .int .i64 0 ∧ w' = w)
      case atStart => exact ⟨rfl, rfl, rfl⟩
      case round =>
        obtain ⟨rfl, rfl, rfl⟩ := hrel
        have hcall0 := HC.out
        go_wp2_with fail
        refine (hcall0).mono ?_
        rintro e w1 ⟨rfl, hb1⟩
        go_wp2
        go_ret
        exact Ret.int (rfl) (hb1)
end Go.Proofs.YtpihighajaeabaaGreat
