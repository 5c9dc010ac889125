/- Look-ups and tests over lists of items. -/
import Derived.Test.YtpihighajaeabaaGreatQItems
namespace Go.Proofs.YtpihighajaeabaaGreat
open Go.RowKit
set_option linter.unusedVariables false
def findFrom (id : Int) : Nat → List GItem → Int
  | _, [] => -1
  | k, x :: xs => if x.id = id then (k : Int) else findFrom id (k + 1) xs
def findIdx (l : List GItem) (id : Int) : Int := findFrom id 0 l
theorem findFrom_yes {id : Int} {l : List GItem} {k : Nat} {x : GItem} (h : l[k]? = some x) (e : x.id = id) : findFrom id k (l.drop k) = k := by rw [drop_cons h, findFrom, if_pos e]
theorem findFrom_no {id : Int} {l : List GItem} {k : Nat} {x : GItem} (h : l[k]? = some x) (e : ¬ x.id = id) : findFrom id k (l.drop k) = findFrom id (k + 1) (l.drop (k + 1)) := by rw [drop_cons h, findFrom, if_neg e]
theorem findFrom_end {id : Int} {l : List GItem} {k : Nat} (h : l.length ≤ k) : findFrom id k (l.drop k) = -1 := by rw [List.drop_of_length_le h, findFrom]
theorem findFrom_cases (id : Int) : ∀ (l : List GItem) (k : Nat), (findFrom id k l = -1 ∧ ∀ x ∈ l, x.id ≠ id) ∨ ∃ (j : Nat) (x : GItem), findFrom id k l = ((k + j : Nat) : Int) ∧ l[j]? = some x ∧ x.id = id
  | [], k => .inl ⟨rfl, fun x hx => by simp at hx⟩
  | y :: ys, k => by
    by_cases h : y.id = id
    · exact .inr ⟨0, y, by simp [findFrom, h], rfl, h⟩
    · rcases findFrom_cases id ys (k + 1) with ⟨h1, h2⟩ | ⟨j, x, h1, h2, h3⟩
      · refine .inl ⟨by rw [findFrom, if_neg h]; exact h1, fun x hx => ?_⟩
        rcases List.mem_cons.1 hx with rfl | hx
        · exact h
        · exact h2 x hx
      · exact .inr ⟨j + 1, x, by rw [findFrom, if_neg h, h1]; congr 1; omega, by simpa using h2, h3⟩
theorem findIdx_cases (l : List GItem) (id : Int) : (findIdx l id = -1 ∧ ∀ x ∈ l, x.id ≠ id) ∨ ∃ (j : Nat) (x : GItem), findIdx l id = (j : Int) ∧ l[j]? = some x ∧ x.id = id := by
  rcases findFrom_cases id l 0 with h | ⟨j, x, h1, h2, h3⟩
  · exact .inl h
  · exact .inr ⟨j, x, by rw [findIdx, h1]; simp, h2, h3⟩
set_option maxHeartbeats 400000 in
theorem S_FindItem (w : World) (l : List GItem) (id : Int) (v : Value) (h : Rd rItems w l [v]) : Calls Tryz.prog 20 #[v, .int .i64 id] w (Ret w (.int .i64 (findIdx l id))) := by
  obtain ⟨A, n, c, rfl, a1, a2, a3⟩ := rSl_open h
  unfold maxLen at a3
  have L1 := Lib.hid a1
  clear a1
  go_enter Tryz.func20, Tryz.ntmps20
  go_wp2
  go_loopw [5] (fun i w' => ∃ k : Nat, k ≤ n ∧ i = .int .i64 k ∧ Hid (findIdx l id = findFrom id k (l.drop k)) ∧ Bw w w') (fun i _ => n - (intOf i).toNat)
  case atStart => exact ⟨0, by omega, rfl, rfl, Bw.refl _⟩
  case round =>
    obtain ⟨k, hk, rfl, HE, hb⟩ := hrel
    by_cases hlt : k < n
    · obtain ⟨x, hx⟩ := get_of_lt (xs := l) (k := k) (by rw [← L1.out]; exact hlt)
      obtain ⟨ba, oa, A', c', rfl, _, hcx, _, _⟩ := rItems_at (h.bw rItems_good hb) hx
      by_cases he : x.id = id
      · have HS := Lib.hid (findFrom_yes hx he)
        have ht : (x.id == id) = true := by simpa using he
        clear hx h he
        go_wp2
        go_ret
        exact Ret.int (by rw [HE.out, HS.out]) hb
      · have HS := Lib.hid (findFrom_no hx he)
        have ht : (x.id == id) = false := by simpa using he
        clear hx h he
        go_wp2
        go_roundw
        case rel => exact ⟨k + 1, by omega, by go_num, by show _ = _; rw [HE.out, HS.out], hb⟩
        case measure => simp [intOf]; omega
    · go_wp2
      go_ret
      exact Ret.int (by rw [HE.out, findFrom_end (by rw [← L1.out]; omega)]) hb
theorem I_FindItem1 (w : World) (x : GItem) (id : Int) (v : Value) (g : Nat) (hg : w.cell? ⟨g, 0, none⟩ = some (.int .i64 id)) :
    Calls Tryz.prog 159 #[.agg #[.int .i64 x.id, v], .pointer (some ⟨g, 0, none⟩)] w (Ret w (.bool (decide (x.id = id)))) := by
  have hg' : (w.alloc (.cells #[.int .i64 x.id, v] 30)).cell? ⟨g, 0, none⟩ = some (.int .i64 id) := ((Bw.refl w).alloc _).cell hg
  by_cases he : x.id = id
  · have ht : (x.id == id) = true := by simpa using he
    have hd : decide (x.id = id) = true := by simpa using he
    rw [hd]
    clear he hd
    go_enter Tryz.func159, Tryz.ntmps159
    go_wp2
    go_ret
    exact Ret.bool rfl ((Bw.refl w).alloc _)
  · have ht : (x.id == id) = false := by simpa using he
    have hd : decide (x.id = id) = false := by simpa using he
    rw [hd]
    clear he hd
    go_enter Tryz.func159, Tryz.ntmps159
    go_wp2
    go_ret
    exact Ret.bool rfl ((Bw.refl w).alloc _)
set_option maxHeartbeats 400000 in
theorem slices_IndexFunc_items (w : World) (l : List GItem) (id : Int) (v : Value) (g : Nat) (h : Rd rItems w l [v]) (hg : w.cell? ⟨g, 0, none⟩ = some (.int .i64 id)) :
    Calls Tryz.prog 158 #[v, .func (.func 159) #[] #[.pointer (some ⟨g, 0, none⟩)]] w (Ret w (.int .i64 (findIdx l id))) := by
  obtain ⟨A, n, c, rfl, a1, a2, a3⟩ := rSl_open h
  unfold maxLen at a3
  have L1 := Lib.hid a1
  clear a1
  go_enter Tryz.func158, Tryz.ntmps158
  go_wp2
  go_loopw [8] (fun i w' => ∃ k : Nat, k ≤ n ∧ i = .int .i64 k ∧ Hid (findIdx l id = findFrom id k (l.drop k)) ∧ Bw w w') (fun i _ => n - (intOf i).toNat)
  case atStart => exact ⟨0, by omega, rfl, rfl, Bw.refl _⟩
  case round =>
    obtain ⟨k, hk, rfl, HE, hb⟩ := hrel
    by_cases hlt : k < n
    · obtain ⟨x, hx⟩ := get_of_lt (xs := l) (k := k) (by rw [← L1.out]; exact hlt)
      obtain ⟨ba, oa, A', c', rfl, _, hcx, hcx1, _⟩ := rItems_at (h.bw rItems_good hb) hx
      have hgr := hb.cell hg
      clear h hg
      by_cases he : x.id = id
      · have HS := Lib.hid (findFrom_yes hx he)
        have hd : decide (x.id = id) = true := by simpa using he
        clear hx he
        go_wp2_with fail
        refine (I_FindItem1 _ x id _ g hgr).mono ?_
        rintro e w2 ⟨rfl, hb2⟩
        rw [hd]
        go_wp2
        go_ret
        exact Ret.int (by rw [HE.out, HS.out]) (hb.then hb2)
      · have HS := Lib.hid (findFrom_no hx he)
        have hd : decide (x.id = id) = false := by simpa using he
        clear hx he
        go_wp2_with fail
        refine (I_FindItem1 _ x id _ g hgr).mono ?_
        rintro e w2 ⟨rfl, hb2⟩
        rw [hd]
        go_wp2
        go_roundw
        case rel => exact ⟨k + 1, by omega, by go_num, by show _ = _; rw [HE.out, HS.out], hb.then hb2⟩
        case measure => simp [intOf]; omega
    · go_wp2
      go_ret
      exact Ret.int (by rw [HE.out, findFrom_end (by rw [← L1.out]; omega)]) hb
theorem I_FindItem (w : World) (l : List GItem) (id : Int) (v : Value) (h : Rd rItems w l [v]) : Calls Tryz.prog 77 #[v, .int .i64 id] w (Ret w (.int .i64 (findIdx l id))) := by
  have B0 : Bw w (w.alloc (.cells #[.int .i64 id] 3)) := (Bw.refl w).alloc _
  have hg : (w.alloc (.cells #[.int .i64 id] 3)).cell? ⟨w.heap.size, 0, none⟩ = some (.int .i64 id) := by go_simp
  go_enter Tryz.func77, Tryz.ntmps77
  go_wp2_with fail
  refine (slices_IndexFunc_items _ l id _ w.heap.size (h.bw rItems_good B0) hg).mono ?_
  rintro e w2 ⟨rfl, hb2⟩
  go_wp2
  go_ret
  exact Ret.int rfl (B0.then hb2)
/-- valid items: ascending Ids -/
def areItemsFrom : Option Int → List GItem → Bool
  | _, [] => true
  | none, x :: xs => isItem x && areItemsFrom (some x.id) xs
  | some p, x :: xs => (isItem x && decide (p < x.id)) && areItemsFrom (some x.id) xs
def areItems (l : List GItem) : Bool := areItemsFrom none l && decide (l.length ≤ 16)
def prevId (l : List GItem) (k : Nat) : Option Int := match k with | 0 => none | k + 1 => (l[k]?).map (·.id)
theorem prevId_succ {l : List GItem} {k : Nat} {x : GItem} (h : l[k]? = some x) : prevId l (k + 1) = some x.id := by simp [prevId, h]
set_option maxHeartbeats 1600000 in
theorem S_AreItems (w : World) (l : List GItem) (v : Value) (h : Rd rItems w l [v]) : Calls Tryz.prog 30 #[v] w (Ret w (.bool (areItems l))) := by
  obtain ⟨A, n, c, rfl, a1, a2, a3⟩ := rSl_open h
  unfold maxLen at a3
  have L1 := Lib.hid a1
  clear a1
  go_enter Tryz.func30, Tryz.ntmps30
  go_wp2
  go_loopw [3] (fun i w' => ∃ k : Nat, k ≤ n ∧ i = .int .i64 k ∧ Hid (areItemsFrom none l = areItemsFrom (prevId l k) (l.drop k)) ∧ Bw w w') (fun i _ => n - (intOf i).toNat)
  case atStart => exact ⟨0, by omega, rfl, rfl, Bw.refl _⟩
  case round =>
    obtain ⟨k, hk, rfl, HE, hb⟩ := hrel
    by_cases hlt : k < n
    · obtain ⟨x, hx⟩ := get_of_lt (xs := l) (k := k) (by rw [← L1.out]; exact hlt)
      have hrd := h.bw rItems_good hb
      obtain ⟨ba, oa, A', c', rfl, _, hcx, hcx1, hin⟩ := rItems_at hrd hx
      have i1 : (0 : Int) ≤ (k : Int) := by omega
      have i2 : (k : Int) < (n : Int) := by omega
      by_cases hk0 : 0 < k
      · obtain ⟨y, hy⟩ := get_of_lt (xs := l) (k := k - 1) (by rw [← L1.out]; omega)
        obtain ⟨_, _, _, _, e, _, hcy, _, _⟩ := rItems_at hrd hy
        injection e with e
        injection e with e1 e2
        subst e1 e2
        have HP : Hid (areItemsFrom (prevId l k) (l.drop k) = ((isItem x && decide (y.id < x.id)) && areItemsFrom (prevId l (k + 1)) (l.drop (k + 1)))) := by
          show _ = _
          have e : prevId l k = some y.id := by have := prevId_succ hy; rwa [show k - 1 + 1 = k from by omega] at this
          rw [e, drop_cons hx, areItemsFrom, prevId_succ hx]
        have hin' : Rd rInts wr _ _ := hin
        have hbA := hb
        have s0 := since_cell hcx
        have s1 := since_cell hcx1
        have s2 := since_cell hcy
        clear hrd hcx hcx1 hcy hx hy h
        by_cases hi : isItem x = true
        · by_cases hle : y.id < x.id
          · have ht : decide (x.id ≤ y.id) = false := by simp; omega
            go_wp2
            refine wp_region_since (by kernel_rfl) (by kernel_rfl) ?_
            repeat (first | go_big_quiet_skip | (go_big_quiet_want; go_big_quiet_op; first | go_big_quiet_on | (apply Exists.intro; refine ⟨fun _ => ?_, ?_⟩; (· (((first | (go_at_call 84; exact Calls_since (S_IsItem _ x _ (Rd.bw rInts_good hin' (Since.bw _)))))))); go_big_quiet_on)))
            refine wpQuiet_nil ?_
            rintro ⟨wq, hbq⟩
            dsimp only at *
            go_wp2
            go_roundw
            case rel => exact ⟨k + 1, by omega, by go_num, by show _ = _; rw [HE.out, HP.out]; simp [hi, hle], hbA.then hbq⟩
            case measure => simp [intOf]; omega
          · have ht : decide (x.id ≤ y.id) = true := by simp; omega
            have HD : Hid (decide (y.id < x.id) = false) := by show _ = _; simp; omega
            go_wp2
            refine wp_region_since (by kernel_rfl) (by kernel_rfl) ?_
            repeat (first | go_big_quiet_skip | (go_big_quiet_want; go_big_quiet_op; first | go_big_quiet_on | (apply Exists.intro; refine ⟨fun _ => ?_, ?_⟩; (· (((first | (go_at_call 84; exact Calls_since (S_IsItem _ x _ (Rd.bw rInts_good hin' (Since.bw _)))))))); go_big_quiet_on)))
            refine wpQuiet_nil ?_
            rintro ⟨wq, hbq⟩
            dsimp only at *
            go_wp2
            go_ret
            exact Ret.bool (by rw [areItems, HE.out, HP.out, HD.out]; simp) (hbA.then hbq)
        · have hi' : isItem x = false := by simpa using hi
          clear hi
          go_wp2
          refine wp_region_since (by kernel_rfl) (by kernel_rfl) ?_
          repeat (first | go_big_quiet_skip | (go_big_quiet_want; go_big_quiet_op; first | go_big_quiet_on | (apply Exists.intro; refine ⟨fun _ => ?_, ?_⟩; (· (((first | (go_at_call 84; exact Calls_since (S_IsItem _ x _ (Rd.bw rInts_good hin' (Since.bw _)))))))); go_big_quiet_on)))
          refine wpQuiet_nil ?_
          rintro ⟨wq, hbq⟩
          dsimp only at *
          go_wp2
          go_ret
          exact Ret.bool (by rw [areItems, HE.out, HP.out]; simp [hi']) (hbA.then hbq)
      · have HP : Hid (areItemsFrom (prevId l k) (l.drop k) = (isItem x && areItemsFrom (prevId l (k + 1)) (l.drop (k + 1)))) := by
          show _ = _
          obtain rfl : k = 0 := by omega
          rw [prevId_succ hx, drop_cons hx]; rfl
        have hin' : Rd rInts wr _ _ := hin
        have hbA := hb
        have s0 := since_cell hcx
        have s1 := since_cell hcx1
        clear hrd hcx hcx1 hx h
        by_cases hi : isItem x = true
        · go_wp2
          refine wp_region_since (by kernel_rfl) (by kernel_rfl) ?_
          repeat (first | go_big_quiet_skip | (go_big_quiet_want; go_big_quiet_op; first | go_big_quiet_on | (apply Exists.intro; refine ⟨fun _ => ?_, ?_⟩; (· (((first | (go_at_call 84; exact Calls_since (S_IsItem _ x _ (Rd.bw rInts_good hin' (Since.bw _)))))))); go_big_quiet_on)))
          refine wpQuiet_nil ?_
          rintro ⟨wq, hbq⟩
          dsimp only at *
          go_wp2
          go_roundw
          case rel => exact ⟨k + 1, by omega, by go_num, by show _ = _; rw [HE.out, HP.out]; simp [hi], hbA.then hbq⟩
          case measure => simp [intOf]; omega
        · have hi' : isItem x = false := by simpa using hi
          clear hi
          go_wp2
          refine wp_region_since (by kernel_rfl) (by kernel_rfl) ?_
          repeat (first | go_big_quiet_skip | (go_big_quiet_want; go_big_quiet_op; first | go_big_quiet_on | (apply Exists.intro; refine ⟨fun _ => ?_, ?_⟩; (· (((first | (go_at_call 84; exact Calls_since (S_IsItem _ x _ (Rd.bw rInts_good hin' (Since.bw _)))))))); go_big_quiet_on)))
          refine wpQuiet_nil ?_
          rintro ⟨wq, hbq⟩
          dsimp only at *
          go_wp2
          go_ret
          exact Ret.bool (by rw [areItems, HE.out, HP.out]; simp [hi']) (hbA.then hbq)
    · have hfin : Hid (areItemsFrom none l = true) := by show _ = _; rw [HE.out, List.drop_of_length_le (by rw [← L1.out]; omega)]; cases prevId l k <;> rfl
      by_cases h16 : n ≤ 16
      · go_wp2
        go_ret
        exact Ret.bool (by rw [areItems, hfin.out, ← L1.out]; simp; omega) hb
      · have H16 : Hid (decide (n ≤ 16) = false) := by show _ = _; simpa using h16
        go_wp2
        go_ret
        exact Ret.bool (by rw [areItems, hfin.out, ← L1.out, H16.out]; simp; omega) hb
set_option maxHeartbeats 1600000 in
theorem I_AreItems (w : World) (l : List GItem) (v : Value) (h : Rd rItems w l [v]) : Calls Tryz.prog 168 #[v] w (Ret w (.bool (areItems l))) := by
  obtain ⟨A, n, c, rfl, a1, a2, a3⟩ := rSl_open h
  unfold maxLen at a3
  have L1 := Lib.hid a1
  clear a1
  go_enter Tryz.func168, Tryz.ntmps168
  go_wp2
  go_loopw [7] (fun i w' => ∃ k : Nat, k ≤ n ∧ i = .int .i64 k ∧ Hid (areItemsFrom none l = areItemsFrom (prevId l k) (l.drop k)) ∧ Bw w w') (fun i _ => n - (intOf i).toNat)
  case atStart => exact ⟨0, by omega, rfl, rfl, Bw.refl _⟩
  case round =>
    obtain ⟨k, hk, rfl, HE, hb⟩ := hrel
    by_cases hlt : k < n
    · obtain ⟨x, hx⟩ := get_of_lt (xs := l) (k := k) (by rw [← L1.out]; exact hlt)
      have hrd := h.bw rItems_good hb
      obtain ⟨ba, oa, A', c', rfl, _, hcx, hcx1, hin⟩ := rItems_at hrd hx
      have i1 : (0 : Int) ≤ (k : Int) := by omega
      have i2 : (k : Int) < (n : Int) := by omega
      by_cases hk0 : 0 < k
      · obtain ⟨y, hy⟩ := get_of_lt (xs := l) (k := k - 1) (by rw [← L1.out]; omega)
        obtain ⟨_, _, _, _, e, _, hcy, _, _⟩ := rItems_at hrd hy
        injection e with e
        injection e with e1 e2
        subst e1 e2
        have HP : Hid (areItemsFrom (prevId l k) (l.drop k) = ((isItem x && decide (y.id < x.id)) && areItemsFrom (prevId l (k + 1)) (l.drop (k + 1)))) := by
          show _ = _
          have e : prevId l k = some y.id := by have := prevId_succ hy; rwa [show k - 1 + 1 = k from by omega] at this
          rw [e, drop_cons hx, areItemsFrom, prevId_succ hx]
        have A1 : Bw wr (wr.alloc (.cells #[.int .i64 x.id, .slice A' x.vals.length c'] 30)) := (Bw.refl wr).alloc _
        have hin' : Rd rInts (wr.alloc (.cells #[.int .i64 x.id, .slice A' x.vals.length c'] 30)) _ _ := Rd.bw rInts_good hin A1
        have hbA := hb.then A1
        have s0 := since_cell (show (wr.alloc (.cells #[.int .i64 x.id, .slice A' x.vals.length c'] 30)).cell? ⟨wr.heap.size, 0, none⟩ = some (.int .i64 x.id) by go_simp)
        have s1 := since_cell (show (wr.alloc (.cells #[.int .i64 x.id, .slice A' x.vals.length c'] 30)).cell? ⟨wr.heap.size, 1, none⟩ = some (.slice A' x.vals.length c') by go_simp)
        have s2 := since_cell (A1.cell hcy)
        clear hrd hcy hx hy h
        by_cases hi : isItem x = true
        · by_cases hle : y.id < x.id
          · have ht : decide (x.id ≤ y.id) = false := by simp; omega
            go_wp2
            refine wp_region_since (by kernel_rfl) (by kernel_rfl) ?_
            repeat (first | go_big_quiet_skip | (go_big_quiet_want; go_big_quiet_op; first | go_big_quiet_on | (apply Exists.intro; refine ⟨fun _ => ?_, ?_⟩; (· (((first | (go_at_call 76; exact Calls_since (I_IsItem _ x _ (Rd.bw rInts_good hin' (Since.bw _)))))))); go_big_quiet_on)))
            refine wpQuiet_nil ?_
            rintro ⟨wq, hbq⟩
            dsimp only at *
            go_wp2
            go_roundw
            case rel => exact ⟨k + 1, by omega, by go_num, by show _ = _; rw [HE.out, HP.out]; simp [hi, hle], hbA.then hbq⟩
            case measure => simp [intOf]; omega
          · have ht : decide (x.id ≤ y.id) = true := by simp; omega
            have HD : Hid (decide (y.id < x.id) = false) := by show _ = _; simp; omega
            go_wp2
            refine wp_region_since (by kernel_rfl) (by kernel_rfl) ?_
            repeat (first | go_big_quiet_skip | (go_big_quiet_want; go_big_quiet_op; first | go_big_quiet_on | (apply Exists.intro; refine ⟨fun _ => ?_, ?_⟩; (· (((first | (go_at_call 76; exact Calls_since (I_IsItem _ x _ (Rd.bw rInts_good hin' (Since.bw _)))))))); go_big_quiet_on)))
            refine wpQuiet_nil ?_
            rintro ⟨wq, hbq⟩
            dsimp only at *
            go_wp2
            go_ret
            exact Ret.bool (by rw [areItems, HE.out, HP.out, HD.out]; simp) (hbA.then hbq)
        · have hi' : isItem x = false := by simpa using hi
          clear hi
          go_wp2
          refine wp_region_since (by kernel_rfl) (by kernel_rfl) ?_
          repeat (first | go_big_quiet_skip | (go_big_quiet_want; go_big_quiet_op; first | go_big_quiet_on | (apply Exists.intro; refine ⟨fun _ => ?_, ?_⟩; (· (((first | (go_at_call 76; exact Calls_since (I_IsItem _ x _ (Rd.bw rInts_good hin' (Since.bw _)))))))); go_big_quiet_on)))
          refine wpQuiet_nil ?_
          rintro ⟨wq, hbq⟩
          dsimp only at *
          go_wp2
          go_ret
          exact Ret.bool (by rw [areItems, HE.out, HP.out]; simp [hi']) (hbA.then hbq)
      · have HP : Hid (areItemsFrom (prevId l k) (l.drop k) = (isItem x && areItemsFrom (prevId l (k + 1)) (l.drop (k + 1)))) := by
          show _ = _
          obtain rfl : k = 0 := by omega
          rw [prevId_succ hx, drop_cons hx]; rfl
        have A1 : Bw wr (wr.alloc (.cells #[.int .i64 x.id, .slice A' x.vals.length c'] 30)) := (Bw.refl wr).alloc _
        have hin' : Rd rInts (wr.alloc (.cells #[.int .i64 x.id, .slice A' x.vals.length c'] 30)) _ _ := Rd.bw rInts_good hin A1
        have hbA := hb.then A1
        have s0 := since_cell (show (wr.alloc (.cells #[.int .i64 x.id, .slice A' x.vals.length c'] 30)).cell? ⟨wr.heap.size, 0, none⟩ = some (.int .i64 x.id) by go_simp)
        have s1 := since_cell (show (wr.alloc (.cells #[.int .i64 x.id, .slice A' x.vals.length c'] 30)).cell? ⟨wr.heap.size, 1, none⟩ = some (.slice A' x.vals.length c') by go_simp)
        clear hrd hx h
        by_cases hi : isItem x = true
        · go_wp2
          refine wp_region_since (by kernel_rfl) (by kernel_rfl) ?_
          repeat (first | go_big_quiet_skip | (go_big_quiet_want; go_big_quiet_op; first | go_big_quiet_on | (apply Exists.intro; refine ⟨fun _ => ?_, ?_⟩; (· (((first | (go_at_call 76; exact Calls_since (I_IsItem _ x _ (Rd.bw rInts_good hin' (Since.bw _)))))))); go_big_quiet_on)))
          refine wpQuiet_nil ?_
          rintro ⟨wq, hbq⟩
          dsimp only at *
          go_wp2
          go_roundw
          case rel => exact ⟨k + 1, by omega, by go_num, by show _ = _; rw [HE.out, HP.out]; simp [hi], hbA.then hbq⟩
          case measure => simp [intOf]; omega
        · have hi' : isItem x = false := by simpa using hi
          clear hi
          go_wp2
          refine wp_region_since (by kernel_rfl) (by kernel_rfl) ?_
          repeat (first | go_big_quiet_skip | (go_big_quiet_want; go_big_quiet_op; first | go_big_quiet_on | (apply Exists.intro; refine ⟨fun _ => ?_, ?_⟩; (· (((first | (go_at_call 76; exact Calls_since (I_IsItem _ x _ (Rd.bw rInts_good hin' (Since.bw _)))))))); go_big_quiet_on)))
          refine wpQuiet_nil ?_
          rintro ⟨wq, hbq⟩
          dsimp only at *
          go_wp2
          go_ret
          exact Ret.bool (by rw [areItems, HE.out, HP.out]; simp [hi']) (hbA.then hbq)
    · have hfin : Hid (areItemsFrom none l = true) := by show _ = _; rw [HE.out, List.drop_of_length_le (by rw [← L1.out]; omega)]; cases prevId l k <;> rfl
      by_cases h16 : n ≤ 16
      · go_wp2
        go_ret
        exact Ret.bool (by rw [areItems, hfin.out, ← L1.out]; simp; omega) hb
      · have H16 : Hid (decide (n ≤ 16) = false) := by show _ = _; simpa using h16
        go_wp2
        go_ret
        exact Ret.bool (by rw [areItems, hfin.out, ← L1.out, H16.out]; simp; omega) hb
end Go.Proofs.YtpihighajaeabaaGreat
