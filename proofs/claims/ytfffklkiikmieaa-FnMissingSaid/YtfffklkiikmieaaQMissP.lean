/- Possible and certain answers lie around the answers of each completion. No program in sight. -/
import Derived.Test.YtfffklkiikmieaaQFill
import Derived.Test.YtfffklkiikmieaaQSlicesI
namespace Go.Proofs.Ytfffklkiikmieaa
open Go.RowKit
set_option linter.unusedVariables false
def isPartial (xs : List GItem) : Bool := decide ((holes xs).length ≤ 3) && areItems (fillM xs 0)
def countC (xs : List GItem) : Int := if isPartial xs = true then ((4 ^ (holes xs).length : Nat) : Int) else 0
theorem tot_fill (xs : List GItem) (n : Int) : totItems (fillM xs n) = totItems xs := tot_shape (shape_fill _ _ _)
set_option maxHeartbeats 1600000 in
theorem S_IsPartial (w : World) (xs : List GItem) (v : Value) (h : Rd rItems w xs [v]) (ht : totItems xs ≤ 1048576) : Calls Try.prog 70 #[v] w (Ret w (.bool (isPartial xs))) := by
  have htf := tot_fill xs 0
  go_enter Try.func70, Try.ntmps70
  go_wp2_with fail
  refine (S_HolesOf _ xs v h ht).mono ?_
  rintro e w1 ⟨vh, rfl, ⟨Fh, hh, hFh⟩, hb1⟩
  have h1 : Rd rItems w1 xs [v] := Rd.bw rItems_good h hb1
  obtain ⟨Ah, L, ch, rfl, l1, _, _⟩ := rSl_open (fIntss_Rd hh)
  have hLb : (holes xs).length ≤ 1048576 := holes_len ht
  by_cases h3 : L ≤ 3
  · have hE := Lib.hid (show areItems (fillM xs 0) = isPartial xs by unfold isPartial; rw [decide_eq_true (by omega)]; rfl)
    have h3' : (L : Int) ≤ 3 := by omega
    have LH := Lib.hid l1
    clear l1 hh
    go_wp2_with fail
    refine (S_l13Fill _ xs v 0 h1 ht (by omega)).mono ?_
    rintro e w2 ⟨vf, rfl, ⟨Ff, hf, hFf⟩, hb2⟩
    go_wp2_with fail
    refine (S_AreItems _ (fillM xs 0) vf (fItems_Rd hf)).mono ?_
    rintro e w3 ⟨rfl, hb3⟩
    obtain ⟨bv, hbv⟩ : ∃ bv, bv = areItems (fillM xs 0) := ⟨_, rfl⟩
    rw [← hbv] at hE ⊢
    have HB := Lib.hid hbv
    clear hbv
    go_wp2
    go_ret
    exact Ret.bool hE.out ((hb1.then hb2).then hb3)
  · have hE := Lib.hid (show false = isPartial xs by unfold isPartial; rw [decide_eq_false (by omega)]; rfl)
    have h3' : ¬ ((L : Int) ≤ 3) := by omega
    have LH := Lib.hid l1
    clear l1 hh
    go_wp2
    go_ret
    exact Ret.bool hE.out hb1
set_option maxHeartbeats 1600000 in
theorem I_IsPartial (w : World) (xs : List GItem) (v : Value) (h : Rd rItems w xs [v]) (ht : totItems xs ≤ 1048576) : Calls Try.prog 69 #[v] w (Ret w (.bool (isPartial xs))) := by
  have htf := tot_fill xs 0
  go_enter Try.func69, Try.ntmps69
  go_wp2_with fail
  refine (I_HolesOf _ xs v h ht).mono ?_
  rintro e w1 ⟨vh, rfl, ⟨Fh, hh, hFh⟩, hb1⟩
  have h1 : Rd rItems w1 xs [v] := Rd.bw rItems_good h hb1
  obtain ⟨Ah, L, ch, rfl, l1, _, _⟩ := rSl_open (fIntss_Rd hh)
  have hLb : (holes xs).length ≤ 1048576 := holes_len ht
  by_cases h3 : L ≤ 3
  · have hE := Lib.hid (show areItems (fillM xs 0) = isPartial xs by unfold isPartial; rw [decide_eq_true (by omega)]; rfl)
    have h3' : (L : Int) ≤ 3 := by omega
    have LH := Lib.hid l1
    clear l1 hh
    go_wp2_with fail
    refine (I_filled _ xs v 0 h1 ht (by omega)).mono ?_
    rintro e w2 ⟨vf, rfl, ⟨Ff, hf, hFf⟩, hb2⟩
    go_wp2_with fail
    refine (I_AreItems _ (fillM xs 0) vf (fItems_Rd hf)).mono ?_
    rintro e w3 ⟨rfl, hb3⟩
    obtain ⟨bv, hbv⟩ : ∃ bv, bv = areItems (fillM xs 0) := ⟨_, rfl⟩
    rw [← hbv] at hE ⊢
    have HB := Lib.hid hbv
    clear hbv
    go_wp2
    go_ret
    exact Ret.bool hE.out ((hb1.then hb2).then hb3)
  · have hE := Lib.hid (show false = isPartial xs by unfold isPartial; rw [decide_eq_false (by omega)]; rfl)
    have h3' : ¬ ((L : Int) ≤ 3) := by omega
    have LH := Lib.hid l1
    clear l1 hh
    go_wp2
    go_ret
    exact Ret.bool hE.out hb1
set_option maxHeartbeats 1600000 in
theorem S_CountCompletions (w : World) (xs : List GItem) (v : Value) (h : Rd rItems w xs [v]) (ht : totItems xs ≤ 1048576) : Calls Try.prog 72 #[v] w (Ret w (.int .i64 (countC xs))) := by
  go_enter Try.func72, Try.ntmps72
  go_wp2_with fail
  refine (S_IsPartial _ xs v h ht).mono ?_
  rintro e w1 ⟨rfl, hb1⟩
  cases hp : isPartial xs with
  | false =>
    have hE := Lib.hid (show (0 : Int) = countC xs by unfold countC; rw [hp]; rfl)
    clear hp
    go_wp2
    go_ret
    exact Ret.int hE.out hb1
  | true =>
    have hE := Lib.hid (show ((4 ^ (holes xs).length : Nat) : Int) = countC xs by unfold countC; rw [hp]; rfl)
    obtain ⟨L, hL⟩ : ∃ L, L = (holes xs).length := ⟨_, rfl⟩
    have hL3 : L ≤ 3 := by unfold isPartial at hp; simp at hp; omega
    rw [← hL] at hE
    have LH := Lib.hid hL
    clear hp hL
    go_wp2
    go_loopw [3, 4] (fun s i w' => ∃ k m : Nat, k ≤ L ∧ i = .int .i64 k ∧ s = .int .i64 m ∧ m ≤ 64 ∧ Hid (m = 4 ^ k) ∧ Bw w w') (fun s i _ => L - (intOf i).toNat)
    case atStart => exact ⟨0, 1, by omega, rfl, rfl, by omega, Lib.hid rfl, hb1⟩
    case round =>
      obtain ⟨k, m, hk, rfl, rfl, hm, HM, hb⟩ := hrel
      go_wp2_with fail
      refine (S_HolesOf _ xs v (Rd.bw rItems_good h hb) ht).mono ?_
      rintro e w2 ⟨vh, rfl, ⟨Fh, hh, hFh⟩, hb2⟩
      obtain ⟨Ah, L', ch, rfl, l1, _, _⟩ := rSl_open (fIntss_Rd hh)
      obtain rfl : L = L' := by rw [LH.out, l1]
      clear l1 hh
      by_cases hlt : k < L
      · have HM' := Lib.hid (show m * 4 = 4 ^ (k + 1) by rw [HM.out, Nat.pow_succ])
        have hm' : m * 4 ≤ 64 := by rw [HM'.out]; exact Nat.le_trans (Nat.pow_le_pow_right (by omega) (show k + 1 ≤ 3 by omega)) (by decide)
        clear HM
        go_wp2
        go_roundw
        case rel => exact ⟨k + 1, m * 4, by omega, by go_num, by go_num, hm', HM', hb.then hb2⟩
        case measure => simp [intOf]; omega
      · obtain rfl : k = L := by omega
        have hF := Lib.hid (show (m : Int) = countC xs by rw [← hE.out, HM.out])
        clear HM hE
        go_wp2
        go_ret
        exact Ret.int hF.out (hb.then hb2)
set_option maxHeartbeats 1600000 in
theorem I_CountCompletions (w : World) (xs : List GItem) (v : Value) (h : Rd rItems w xs [v]) (ht : totItems xs ≤ 1048576) : Calls Try.prog 71 #[v] w (Ret w (.int .i64 (countC xs))) := by
  go_enter Try.func71, Try.ntmps71
  go_wp2_with fail
  refine (I_IsPartial _ xs v h ht).mono ?_
  rintro e w1 ⟨rfl, hb1⟩
  cases hp : isPartial xs with
  | false =>
    have hE := Lib.hid (show (0 : Int) = countC xs by unfold countC; rw [hp]; rfl)
    clear hp
    go_wp2
    go_ret
    exact Ret.int hE.out hb1
  | true =>
    have hE := Lib.hid (show ((4 ^ (holes xs).length : Nat) : Int) = countC xs by unfold countC; rw [hp]; rfl)
    obtain ⟨L, hL⟩ : ∃ L, L = (holes xs).length := ⟨_, rfl⟩
    have hL3 : L ≤ 3 := by unfold isPartial at hp; simp at hp; omega
    rw [← hL] at hE
    have LH := Lib.hid hL
    clear hp hL
    go_wp2_with fail
    refine (I_HolesOf _ xs v (Rd.bw rItems_good h hb1) ht).mono ?_
    rintro e w2 ⟨vh, rfl, ⟨Fh, hh, hFh⟩, hb2⟩
    obtain ⟨Ah, L', ch, rfl, l1, _, _⟩ := rSl_open (fIntss_Rd hh)
    obtain rfl : L = L' := by rw [LH.out, l1]
    clear l1 hh
    go_wp2
    go_loopw [3, 10] (fun s i w' => ∃ k m : Nat, k ≤ L ∧ i = .int .i64 k ∧ s = .int .i64 m ∧ m ≤ 64 ∧ Hid (m = 4 ^ k) ∧ Bw w w') (fun s i _ => L - (intOf i).toNat)
    case atStart => exact ⟨0, 1, by omega, rfl, rfl, by omega, Lib.hid rfl, hb1.then hb2⟩
    case round =>
      obtain ⟨k, m, hk, rfl, rfl, hm, HM, hb⟩ := hrel
      by_cases hlt : k < L
      · have HM' := Lib.hid (show m * 4 = 4 ^ (k + 1) by rw [HM.out, Nat.pow_succ])
        have hm' : m * 4 ≤ 64 := by rw [HM'.out]; exact Nat.le_trans (Nat.pow_le_pow_right (by omega) (show k + 1 ≤ 3 by omega)) (by decide)
        clear HM
        go_wp2
        go_roundw
        case rel => exact ⟨k + 1, m * 4, by omega, by go_num, by go_num, hm', HM', hb⟩
        case measure => simp [intOf]; omega
      · obtain rfl : k = L := by omega
        have hF := Lib.hid (show (m : Int) = countC xs by rw [← hE.out, HM.out])
        clear HM hE
        go_wp2
        go_ret
        exact Ret.int hF.out hb
end Go.Proofs.Ytfffklkiikmieaa

namespace Go.Proofs.Ytfffklkiikmieaa
open Go.RowKit
set_option linter.unusedVariables false
def simV : List Int → List Int → Prop
  | [], [] => True
  | u :: l, v :: m => (u = v ∨ (inB u 0 3 = true ∧ inB v 0 3 = true)) ∧ simV l m
  | _, _ => False
def simL : List GItem → List GItem → Prop
  | [], [] => True
  | x :: xs, y :: ys => (x.id = y.id ∧ simV x.vals y.vals) ∧ simL xs ys
  | _, _ => False
theorem simV_refl : ∀ l, simV l l
  | [] => trivial
  | _ :: l => ⟨.inl rfl, simV_refl l⟩
theorem simL_refl : ∀ l, simL l l
  | [] => trivial
  | x :: l => ⟨⟨rfl, simV_refl _⟩, simL_refl l⟩
theorem simV_set {z z' : Int} (hz : inB z 0 3 = true) (hz' : inB z' 0 3 = true) : ∀ {l m : List Int} {k : Nat}, simV l m → simV (l.set k z) (m.set k z')
  | [], [], _, _ => trivial
  | u :: l, v :: m, 0, h => ⟨.inr ⟨hz, hz'⟩, h.2⟩
  | u :: l, v :: m, k + 1, h => ⟨h.1, simV_set hz hz' (l := l) (m := m) h.2⟩
  | [], _ :: _, _, h | _ :: _, [], _, h => h.elim
theorem simL_upd {z z' : Int} {k : Nat} (hz : inB z 0 3 = true) (hz' : inB z' 0 3 = true) : ∀ {xs ys : List GItem} {i : Nat}, simL xs ys → simL (updI xs i k z) (updI ys i k z')
  | [], [], _, _ => by simp [updI, simL]
  | x :: xs, y :: ys, 0, h => ⟨⟨h.1.1, simV_set hz hz' h.1.2⟩, h.2⟩
  | x :: xs, y :: ys, i + 1, h => ⟨h.1, simL_upd hz hz' (xs := xs) (ys := ys) (i := i) h.2⟩
  | [], _ :: _, _, h | _ :: _, [], _, h => h.elim
theorem fill_sim : ∀ (hs : List (List Int)) {xs ys : List GItem} {n m : Int}, 0 ≤ n → 0 ≤ m → simL xs ys → simL (fillL xs n hs) (fillL ys m hs)
  | [], _, _, _, _, _, _, h => h
  | h :: hs, xs, ys, n, m, hn, hm, hh => by
    have key : ∀ a : Int, 0 ≤ a → inB (a.tmod 4) 0 3 = true := fun a ha => inB_iff.2 (by rw [Int.tmod_eq_emod_of_nonneg ha]; omega)
    exact fill_sim hs (Int.tdiv_nonneg hn (by omega)) (Int.tdiv_nonneg hm (by omega)) (simL_upd (key n hn) (key m hm) hh)
theorem simV_all : ∀ {l m : List Int}, simV l m → l.all (fun v => inB v 0 9) = true → m.all (fun v => inB v 0 9) = true
  | [], [], _, _ => rfl
  | u :: l, v :: m, h, ha => by
    simp only [List.all_cons, Bool.and_eq_true] at ha ⊢
    refine ⟨?_, simV_all h.2 ha.2⟩
    rcases h.1 with rfl | ⟨_, h2⟩
    · exact ha.1
    · have := inB_iff.1 h2; exact inB_iff.2 (by omega)
  | [], _ :: _, h, _ | _ :: _, [], h, _ => h.elim
theorem simV_len : ∀ {l m : List Int}, simV l m → l.length = m.length
  | [], [], _ => rfl
  | u :: l, v :: m, h => by simp [simV_len h.2]
  | [], _ :: _, h | _ :: _, [], h => h.elim
theorem sim_isItem {x y : GItem} (h : x.id = y.id ∧ simV x.vals y.vals) (hx : isItem x = true) : isItem y = true := by
  simp only [isItem, Bool.and_eq_true, decide_eq_true_iff] at hx ⊢
  exact ⟨by rw [← h.1]; exact hx.1, by rw [← simV_len h.2]; exact hx.2.1, simV_all h.2 hx.2.2⟩
theorem sim_from : ∀ {xs ys : List GItem} {p : Option Int}, simL xs ys → areItemsFrom p xs = true → areItemsFrom p ys = true
  | [], [], _, _, _ => by cases ‹Option Int› <;> rfl
  | x :: xs, y :: ys, none, h, ha => by
    simp only [areItemsFrom, Bool.and_eq_true] at ha ⊢
    exact ⟨sim_isItem h.1 ha.1, by rw [← h.1.1]; exact sim_from h.2 ha.2⟩
  | x :: xs, y :: ys, some p, h, ha => by
    simp only [areItemsFrom, Bool.and_eq_true, decide_eq_true_iff] at ha ⊢
    exact ⟨⟨sim_isItem h.1 ha.1.1, by rw [← h.1.1]; exact ha.1.2⟩, by rw [← h.1.1]; exact sim_from h.2 ha.2⟩
  | [], _ :: _, _, h, _ | _ :: _, [], _, h, _ => h.elim
theorem sim_len : ∀ {xs ys : List GItem}, simL xs ys → xs.length = ys.length
  | [], [], _ => rfl
  | x :: xs, y :: ys, h => by simp [sim_len h.2]
  | [], _ :: _, h | _ :: _, [], h => h.elim
theorem fill_are {l : List GItem} (h : isPartial l = true) (n : Nat) : areItems (fillM l n) = true := by
  simp only [isPartial, Bool.and_eq_true] at h
  have hs : simL (fillM l 0) (fillM l n) := fill_sim _ (by omega) (by omega) (simL_refl l)
  have h2 := h.2
  unfold areItems at h2 ⊢
  simp only [Bool.and_eq_true, decide_eq_true_iff] at h2 ⊢
  exact ⟨sim_from hs h2.1, by rw [← sim_len hs]; exact h2.2⟩
theorem partial_len {l : List GItem} (h : isPartial l = true) : l.length ≤ 16 := by
  simp only [isPartial, Bool.and_eq_true] at h
  have h2 := areItems_len h.2
  have := congrArg List.length (shape_fill (holes l) l 0)
  simp only [shape, List.length_map] at this
  unfold fillM at h2
  omega
/-- how many completions -/
def cntN (l : List GItem) : Nat := if isPartial l = true then 4 ^ (holes l).length else 0
theorem cntN_eq (l : List GItem) : countC l = (cntN l : Int) := by unfold countC cntN; split <;> rfl
theorem cntN_le (l : List GItem) : cntN l ≤ 64 := by
  unfold cntN; split
  · rename_i h
    simp only [isPartial, Bool.and_eq_true, decide_eq_true_iff] at h
    calc 4 ^ (holes l).length ≤ 4 ^ 3 := Nat.pow_le_pow_right (by omega) h.1
      _ = 64 := rfl
  · omega
theorem cntN_pos {l : List GItem} (h : 0 < cntN l) : isPartial l = true := by unfold cntN at h; split at h; assumption; omega
def bestIn (l : List GItem) (e : List GNode) (x : GItem) (n : Nat) : Bool := (bestM (fillM l n) e).contains x.id
def possF (l : List GItem) (e : List GNode) (x : GItem) : Bool := (List.range (cntN l)).any (bestIn l e x)
def certF (l : List GItem) (e : List GNode) (x : GItem) : Bool := (List.range (cntN l)).all (bestIn l e x)
def possM (l : List GItem) (e : List GNode) : List Int := if isPartial l && isExpr e then (l.filter (possF l e)).map (·.id) else []
def certM (l : List GItem) (e : List GNode) : List Int := if isPartial l && isExpr e then (l.filter (certF l e)).map (·.id) else []
theorem possM_len (l : List GItem) (e : List GNode) : (possM l e).length ≤ l.length := by
  unfold possM; split
  · rw [List.length_map]; exact List.length_filter_le _ _
  · simp
theorem certM_len (l : List GItem) (e : List GNode) : (certM l e).length ≤ l.length := by
  unfold certM; split
  · rw [List.length_map]; exact List.length_filter_le _ _
  · simp
/-- the Ids of those of the first items for which f holds -/
def idsToM (f : GItem → Bool) (l : List GItem) (k : Nat) : List Int := ((l.take k).filter f).map (·.id)
theorem idsToM_yes {f : GItem → Bool} {l : List GItem} {k : Nat} {x : GItem} (hx : l[k]? = some x) (h : f x = true) : idsToM f l (k + 1) = idsToM f l k ++ [x.id] := by
  unfold idsToM; rw [List.take_add_one, hx, List.filter_append, List.map_append]; simp [h]
theorem idsToM_no {f : GItem → Bool} {l : List GItem} {k : Nat} {x : GItem} (hx : l[k]? = some x) (h : f x = false) : idsToM f l (k + 1) = idsToM f l k := by
  unfold idsToM; rw [List.take_add_one, hx, List.filter_append, List.map_append]; simp [h]
theorem idsToM_end {f : GItem → Bool} {l : List GItem} {k : Nat} (h : l.length ≤ k) : idsToM f l k = (l.filter f).map (·.id) := by unfold idsToM; rw [List.take_of_length_le h]
theorem idsToM_len {f : GItem → Bool} {l : List GItem} {k : Nat} : (idsToM f l k).length ≤ k := by
  unfold idsToM; rw [List.length_map]
  exact Nat.le_trans (List.length_filter_le _ _) (by rw [List.length_take]; omega)
theorem any_range_succ (f : Nat → Bool) (k : Nat) : (List.range (k + 1)).any f = ((List.range k).any f || f k) := by rw [List.range_succ, List.any_append]; simp
theorem all_range_succ (f : Nat → Bool) (k : Nat) : (List.range (k + 1)).all f = ((List.range k).all f && f k) := by rw [List.range_succ, List.all_append]; simp
theorem any_range_le {f : Nat → Bool} {k n : Nat} (h : (List.range k).any f = true) (hk : k ≤ n) : (List.range n).any f = true := by
  rw [List.any_eq_true] at h ⊢
  obtain ⟨j, hj, hf⟩ := h
  exact ⟨j, List.mem_range.2 (by have := List.mem_range.1 hj; omega), hf⟩
theorem all_range_le {f : Nat → Bool} {k n : Nat} (h : (List.range k).all f = false) (hk : k ≤ n) : (List.range n).all f = false := by
  rw [List.all_eq_false] at h ⊢
  obtain ⟨j, hj, hf⟩ := h
  exact ⟨j, List.mem_range.2 (by have := List.mem_range.1 hj; omega), hf⟩
end Go.Proofs.Ytfffklkiikmieaa

namespace Go.Proofs.Ytfffklkiikmieaa
open Go.RowKit
set_option linter.unusedVariables false
def complAt (xs : List GItem) (n : Int) : List GItem := if inB n 0 (countC xs - 1) = true then fillM xs n else []
theorem countC_range (xs : List GItem) : 0 ≤ countC xs ∧ countC xs ≤ 64 := by
  unfold countC
  by_cases hp : isPartial xs = true
  · rw [if_pos hp]
    have hL : (holes xs).length ≤ 3 := by unfold isPartial at hp; simp at hp; exact hp.1
    have : 4 ^ (holes xs).length ≤ 64 := Nat.le_trans (Nat.pow_le_pow_right (by omega) hL) (by decide)
    generalize 4 ^ (holes xs).length = q at this ⊢
    omega
  · rw [if_neg hp]; omega
set_option maxHeartbeats 1600000 in
theorem S_CompletionAt (w : World) (xs : List GItem) (n : Int) (v : Value) (h : Rd rItems w xs [v]) (ht : totItems xs ≤ 1048576) : Calls Try.prog 79 #[v, .int .i64 n] w (RetV w (Made fItems w.heap.size (complAt xs n))) := by
  obtain ⟨c, hc⟩ : ∃ c, c = countC xs := ⟨_, rfl⟩
  have hcr := countC_range xs
  rw [← hc] at hcr
  have HC := Lib.hid hc
  have c1 := hcr.1
  have c2 := hcr.2
  have hct := S_CountCompletions w xs v h ht
  rw [← hc] at hct
  clear hcr hc
  go_enter Try.func79, Try.ntmps79
  go_wp2_with fail
  refine hct.mono ?_
  rintro e w1 ⟨rfl, hb1⟩
  go_wp2_with fail
  refine (S_l1In _ n 0 (c - 1)).mono ?_
  rintro e w2 ⟨rfl, hb2⟩
  have hbb := hb1.then hb2
  cases hi : inB n 0 (c - 1) with
  | false =>
    have hE := Lib.hid (show [] = complAt xs n by unfold complAt; rw [← HC.out, hi]; rfl)
    have hv0 := fSl_empty (e := 110) (sz := 2) (R := fItem) w2
    have hbW := hbb.alloc (.cells #[] 110)
    clear hi
    go_wp2
    go_ret
    exact ⟨_, rfl, ⟨_, by rw [← hE.out]; exact hv0, ⟨by simp, by have := hbb.size; simpa using this⟩⟩, hbW⟩
  | true =>
    have hE := Lib.hid (show fillM xs n = complAt xs n by unfold complAt; rw [← HC.out, hi]; rfl)
    obtain ⟨m, rfl⟩ : ∃ m : Nat, n = m := ⟨n.toNat, by unfold inB at hi; simp at hi; omega⟩
    have hm : m ≤ 1048576 := by unfold inB at hi; simp at hi; omega
    clear hi
    go_wp2_with fail
    refine (S_l13Fill _ xs v m (h.bw rItems_good hbb) ht hm).mono ?_
    rintro e w3 ⟨vf, rfl, ⟨Ff, hf, hFf⟩, hb3⟩
    rw [hE.out] at hf
    clear hE
    go_wp2
    go_ret
    exact ⟨_, rfl, ⟨Ff, hf, hFf.mono hbb.size⟩, hbb.then hb3⟩
set_option maxHeartbeats 1600000 in
theorem I_CompletionAt (w : World) (xs : List GItem) (n : Int) (v : Value) (h : Rd rItems w xs [v]) (ht : totItems xs ≤ 1048576) : Calls Try.prog 73 #[v, .int .i64 n] w (RetV w (Made fItems w.heap.size (complAt xs n))) := by
  obtain ⟨c, hc⟩ : ∃ c, c = countC xs := ⟨_, rfl⟩
  have hcr := countC_range xs
  rw [← hc] at hcr
  have HC := Lib.hid hc
  have c1 := hcr.1
  have c2 := hcr.2
  have hct := I_CountCompletions w xs v h ht
  rw [← hc] at hct
  clear hcr hc
  go_enter Try.func73, Try.ntmps73
  go_wp2_with fail
  refine hct.mono ?_
  rintro e w1 ⟨rfl, hb1⟩
  go_wp2_with fail
  refine (I_within _ n 0 (c - 1)).mono ?_
  rintro e w2 ⟨rfl, hb2⟩
  have hbb := hb1.then hb2
  cases hi : inB n 0 (c - 1) with
  | false =>
    have hE := Lib.hid (show [] = complAt xs n by unfold complAt; rw [← HC.out, hi]; rfl)
    have hv0 := fSl_empty (e := 110) (sz := 2) (R := fItem) w2
    have hbW := hbb.alloc (.cells #[] 110)
    clear hi
    go_wp2
    go_ret
    exact ⟨_, rfl, ⟨_, by rw [← hE.out]; exact hv0, ⟨by simp, by have := hbb.size; simpa using this⟩⟩, hbW⟩
  | true =>
    have hE := Lib.hid (show fillM xs n = complAt xs n by unfold complAt; rw [← HC.out, hi]; rfl)
    obtain ⟨m, rfl⟩ : ∃ m : Nat, n = m := ⟨n.toNat, by unfold inB at hi; simp at hi; omega⟩
    have hm : m ≤ 1048576 := by unfold inB at hi; simp at hi; omega
    clear hi
    go_wp2_with fail
    refine (I_filled _ xs v m (h.bw rItems_good hbb) ht hm).mono ?_
    rintro e w3 ⟨vf, rfl, ⟨Ff, hf, hFf⟩, hb3⟩
    rw [hE.out] at hf
    clear hE
    go_wp2
    go_ret
    exact ⟨_, rfl, ⟨Ff, hf, hFf.mono hbb.size⟩, hbb.then hb3⟩
end Go.Proofs.Ytfffklkiikmieaa

namespace Go.Proofs.Ytfffklkiikmieaa
open Go.RowKit
set_option linter.unusedVariables false
def idsL (l : List GItem) : List Int := l.map (·.id)
theorem ids_upd {z : Int} {k : Nat} : ∀ {xs : List GItem} {i : Nat}, idsL (updI xs i k z) = idsL xs
  | [], i => by simp [updI, idsL]
  | x :: xs, 0 => rfl
  | x :: xs, i + 1 => by
    have := ids_upd (z := z) (k := k) (xs := xs) (i := i)
    unfold updI idsL at this
    unfold updI idsL
    rw [List.modify_succ_cons, List.map_cons, List.map_cons, this]
theorem ids_fill : ∀ (hs : List (List Int)) (xs : List GItem) (n : Int), idsL (fillL xs n hs) = idsL xs
  | [], _, _ => rfl
  | h :: hs, xs, n => by
    unfold fillL
    rw [ids_fill hs, ids_upd]
theorem cert_poss {l : List GItem} {e : List GNode} {id : Int} (h : id ∈ certM l e) : id ∈ possM l e := by
  unfold certM at h
  unfold possM
  split at h
  · rename_i hc
    rw [if_pos hc]
    obtain ⟨x, hx, rfl⟩ := List.mem_map.1 h
    obtain ⟨hx, hf⟩ := List.mem_filter.1 hx
    refine List.mem_map.2 ⟨x, List.mem_filter.2 ⟨hx, ?_⟩, rfl⟩
    unfold certF at hf
    unfold possF
    rw [Bool.and_eq_true] at hc
    have hp : 0 < cntN l := by unfold cntN; rw [if_pos hc.1]; exact Nat.pow_pos (by omega)
    rw [List.all_eq_true] at hf
    rw [List.any_eq_true]
    exact ⟨0, List.mem_range.2 hp, hf 0 (List.mem_range.2 hp)⟩
  · simp at h
theorem cert_best {l : List GItem} {e : List GNode} {id : Int} {m : Nat} (hm : m < cntN l) (h : id ∈ certM l e) : id ∈ bestM (fillM l m) e := by
  unfold certM at h
  split at h
  · obtain ⟨x, hx, rfl⟩ := List.mem_map.1 h
    have hf := (List.mem_filter.1 hx).2
    unfold certF at hf
    rw [List.all_eq_true] at hf
    have := hf m (List.mem_range.2 hm)
    unfold bestIn at this
    rwa [List.contains_iff_mem] at this
  · simp at h
theorem best_poss {l : List GItem} {e : List GNode} {id : Int} {m : Nat} (hE : isExpr e = true) (hm : m < cntN l) (h : id ∈ bestM (fillM l m) e) : id ∈ possM l e := by
  have hP := cntN_pos (l := l) (by omega)
  unfold possM
  rw [if_pos (by rw [hP, hE]; rfl)]
  have hid : id ∈ idsL (fillM l m) := by
    unfold bestM at h
    obtain ⟨x, hx, rfl⟩ := List.mem_map.1 h
    exact List.mem_map.2 ⟨x, (List.mem_filter.1 hx).1, rfl⟩
  unfold fillM at hid
  rw [ids_fill] at hid
  obtain ⟨x, hx, rfl⟩ := List.mem_map.1 hid
  refine List.mem_map.2 ⟨x, List.mem_filter.2 ⟨hx, ?_⟩, rfl⟩
  unfold possF
  rw [List.any_eq_true]
  refine ⟨m, List.mem_range.2 hm, ?_⟩
  unfold bestIn
  rwa [List.contains_iff_mem]
theorem poss_cert {l : List GItem} (e : List GNode) (h : cntN l = 1) : possM l e = certM l e := by
  unfold possM certM possF certF
  rw [h]
  rw [show List.range 1 = [0] from rfl]
  simp
theorem compl_fill {l : List GItem} {m : Nat} (hm : m < cntN l) : complAt l m = fillM l m := by
  unfold complAt
  rw [if_pos (by rw [cntN_eq]; exact inB_iff.2 (by omega))]
theorem subset_of {a b : List Int} (h : ∀ x ∈ a, x ∈ b) : (a.all fun x => b.contains x) = true := by
  rw [List.all_eq_true]
  intro x hx
  rw [List.contains_iff_mem]
  exact h x hx
end Go.Proofs.Ytfffklkiikmieaa
