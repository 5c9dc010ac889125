/- What the laws write into lists of lists, and what they find there. -/
import Derived.Test.YtfffklkiikmieaaGreatQMarks4
import Derived.Test.YtfffklkiikmieaaGreatQHeldN
import Derived.Test.YtfffklkiikmieaaGreatQLayers
namespace Go.Proofs.YtfffklkiikmieaaGreat
open Go.RowKit
set_option linter.unusedVariables false
set_option linter.unusedSimpArgs false
def mkL {α : Type} (mk : α → Nat → α) (len : α → Nat) : List α → Nat → List α
  | [], _ => []
  | x :: xs, k => mk x k :: mkL mk len xs (k + len x)
theorem mkL_length {α : Type} (mk : α → Nat → α) (len : α → Nat) : ∀ (xs : List α) (k : Nat), (mkL mk len xs k).length = xs.length
  | [], _ => rfl
  | x :: xs, k => by rw [mkL, List.length_cons, mkL_length mk len xs, List.length_cons]
theorem sumL_take_succ {α : Type} (len : α → Nat) : ∀ {xs : List α} {j : Nat} {x : α}, xs[j]? = some x → sumL len (xs.take (j + 1)) = sumL len (xs.take j) + len x
  | y :: xs, 0, x, h => by simp at h; subst h; simp [sumL]
  | y :: xs, j + 1, x, h => by
    have := sumL_take_succ len (xs := xs) (j := j) (x := x) (by simpa using h)
    simp only [List.take_succ_cons, sumL] at this ⊢; omega
  | [], j, x, h => by simp at h
theorem sumL_take_le {α : Type} (len : α → Nat) : ∀ (xs : List α) (j : Nat), sumL len (xs.take j) ≤ sumL len xs
  | [], j => by simp [sumL]
  | y :: xs, 0 => by simp [sumL]
  | y :: xs, j + 1 => by have := sumL_take_le len xs j; simp only [List.take_succ_cons, sumL]; omega
theorem mkL_at {α : Type} (mk : α → Nat → α) (len : α → Nat) : ∀ {xs : List α} {k j : Nat} {x : α}, xs[j]? = some x → (mkL mk len xs k)[j]? = some (mk x (k + sumL len (xs.take j)))
  | y :: xs, k, 0, x, h => by simp at h; subst h; simp [mkL, sumL]
  | y :: xs, k, j + 1, x, h => by
    have := mkL_at mk len (xs := xs) (k := k + len y) (j := j) (x := x) (by simpa using h)
    rw [mkL, List.getElem?_cons_succ, this, List.take_succ_cons]
    simp only [sumL]; congr 2; omega
  | [], k, j, x, h => by simp at h
/-- the first j are written -/
def mixL {α : Type} (ms xs : List α) (j : Nat) : List α := ms.take j ++ xs.drop j
theorem mix_at {α : Type} {ms xs : List α} (hl : ms.length = xs.length) {j : Nat} {x : α} (hx : xs[j]? = some x) : (mixL ms xs j)[j]? = some x := by
  have hj : j < xs.length := (List.getElem?_eq_some_iff.1 hx).1
  unfold mixL
  rw [List.getElem?_append_right (by rw [List.length_take]; omega), List.length_take, Nat.min_eq_left (by omega), Nat.sub_self, drop_cons hx]; rfl
theorem mix_set {α : Type} {ms xs : List α} (hl : ms.length = xs.length) {j : Nat} {x y : α} (hx : xs[j]? = some x) (hy : ms[j]? = some y) : (mixL ms xs j).set j y = mixL ms xs (j + 1) := by
  have hj : j < xs.length := (List.getElem?_eq_some_iff.1 hx).1
  unfold mixL
  rw [List.set_append_right _ _ (by rw [List.length_take]; omega), List.length_take, Nat.min_eq_left (by omega), Nat.sub_self, drop_cons hx, List.set_cons_zero, List.take_add_one, hy]
  simp
theorem mix_end {α : Type} {ms xs : List α} (hl : ms.length = xs.length) {j : Nat} (h : xs.length ≤ j) : mixL ms xs j = ms := by
  unfold mixL; rw [List.take_of_length_le (by omega), List.drop_of_length_le h, List.append_nil]
theorem mix_length {α : Type} {ms xs : List α} (hl : ms.length = xs.length) (j : Nat) : (mixL ms xs j).length = xs.length := by
  unfold mixL; rw [List.length_append, List.length_take, List.length_drop]; omega
theorem one_of {u : List Value} (h : u.length = 1) : ∃ v, u = [v] := by
  match u, h with
  | [v], _ => exact ⟨v, rfl⟩
def markIntss (xs : List (List Int)) : Nat := sumL (fun x => x.length) xs
def mkIntss (xs : List (List Int)) (k : Nat) : List (List Int) := mkL mkInts (fun x => x.length) xs k
def markNodess (xs : List (List GNode)) : Nat := sumL markNodes xs
def mkNodess (xs : List (List GNode)) (k : Nat) : List (List GNode) := mkL mkNodes markNodes xs k
theorem markNodess_le : ∀ xs : List (List GNode), markNodess xs ≤ 4 * totNodess xs
  | [] => by simp [markNodess, sumL]
  | x :: xs => by
    have h1 := markNodess_le xs
    have h2 := markNodes_le x
    unfold markNodess totNodess at *
    simp only [sumL, List.length_cons] at *
    omega
set_option maxRecDepth 100000 in
set_option maxHeartbeats 1600000 in
theorem L_markIntSS (w0 w : World) (xs : List (List Int)) (v : Value) (F : List Nat) (k : Nat) (hv : fIntss w xs [v] F) (hF : Fresh w0.heap.size F) (hb : Bw w0 w) (htn : totIntss xs ≤ 1048576) (hk : k + sumL (fun x => x.length) xs ≤ 8388608) : Calls Tryz.prog 18 #[v, .int .i64 k] w (RetM fIntss w0 w (mkL mkInts (fun x => x.length) xs k) v F (k + sumL (fun x => x.length) xs)) := by
  obtain ⟨A, n, c, rfl, l1, l2, l3⟩ := rSl_open (fIntss_Rd hv)
  have hnn : n ≤ 1048576 := by rw [l1]; unfold totIntss at htn; omega
  have L1 := Lib.hid l1
  have HTN := Lib.hid htn
  unfold maxLen at l3
  have ML := Lib.hid (mkL_length mkInts (fun x => x.length) xs k)
  have HK := Lib.hid hk
  clear l1 htn
  go_enter Tryz.func18, Tryz.ntmps18
  go_wp2
  go_loopg [1, 5] n (fun g s i w' => ∃ (j : Nat) (q : Nat), j ≤ n ∧ g = n - j ∧ i = .int .i64 j ∧ s = .int .i64 q ∧ Hid (q = k + sumL (fun x => x.length) (xs.take j)) ∧ fIntss w' (mixL (mkL mkInts (fun x => x.length) xs k) xs j) [.slice A n c] F ∧ Only F w w' ∧ Bw w0 w')
  case atStart => exact ⟨0, k, by omega, rfl, rfl, rfl, Lib.hid (by simp [sumL]), hv, Only.refl _ _, hb⟩
  case round =>
    obtain ⟨j, q, hj, rfl, rfl, rfl, HQ, hv1, hO, hb1⟩ := hrel
    clear hv
    by_cases hlt : j < n
    · obtain ⟨x, hx⟩ := get_of_lt (xs := xs) (k := j) (by have := L1.out; omega)
      have i1 : (0 : Int) ≤ (j : Int) := by omega
      have i2 : (j : Int) < (n : Int) := by omega
      have hmx := mix_at ML.out hx
      obtain ⟨g, rfl, hne, hgF⟩ := fSl_lit2 hv1 (by rw [mix_length ML.out, ← L1.out]; omega)
      clear hne
      obtain ⟨u, f, hru, hul, hcells, hff, hsub, hg, hback⟩ := fSl_focus fInts_good hv1 hF hmx
      obtain ⟨vx, rfl⟩ := one_of hul
      have hcy := hcells 0 vx rfl
      rw [Nat.mul_one, Nat.add_zero] at hcy
      have hs1 := sumL_take_succ (fun x => x.length) hx
      have hs2 := sumL_take_le (fun x => x.length) xs (j + 1)
      have hq : q + (fun x => x.length) x ≤ 8388608 := by have := HK.out; rw [HQ.out]; (try dsimp only at *); omega
      have hcall := L_markIntS w0 wr x vx f q hru hff hb1 (by have h1 := le_sum (fun x : List Int => x.length) (List.mem_of_getElem? hx); have := HTN.out; unfold totIntss at this; omega) (by omega)
      have HB := Lib.hid ((hback [] (by simp)).2.2)
      have HMS := Lib.hid (mix_set ML.out hx (mkL_at mkInts (fun x => x.length) (k := k) hx))
      have HN := Lib.hid (show q + (fun x => x.length) x = k + sumL (fun x => x.length) (xs.take (j + 1)) by rw [hs1, HQ.out, Nat.add_assoc])
      obtain ⟨q2, hq2⟩ : ∃ q2, q2 = q + (fun x => x.length) x := ⟨_, rfl⟩
      have HQ2 := Lib.hid hq2
      rw [← hq2] at hcall
      have HSUB := Lib.hid hsub
      clear hx hmx hul hcells hback hs1 hs2 hq hq2 hv1 hru hsub
      go_wp2_with fail
      refine hcall.mono ?_
      rintro e w3 ⟨rfl, o3, hO3, hb3⟩
      have hv3 := HB.out w3 _ hO3 o3
      rw [HQ.out, HMS.out] at hv3
      have hO4 := hO.then hO3 (fun b hb => (HSUB.out b hb).1)
      have HN2 := Lib.hid (show q2 = k + sumL (fun x => x.length) (xs.take (j + 1)) from HQ2.out.trans HN.out)
      clear o3 hO3 hcall
      go_wp2
      go_roundg (n - (j + 1))
      case measure => omega
      case rel => exact ⟨j + 1, q2, by omega, rfl, by go_num, rfl, HN2, hv3, hO4, hb3⟩
    · obtain rfl : j = n := by omega
      have HF := Lib.hid (mix_end ML.out (j := j) (by rw [← L1.out]; exact Nat.le_refl _))
      have HN := Lib.hid (show (q : Int) = ((k + sumL (fun x => x.length) xs : Nat) : Int) by rw [HQ.out, List.take_of_length_le (by rw [← L1.out]; exact Nat.le_refl _)])
      clear HQ
      go_wp2
      go_ret
      exact RetM.mk HN.out HF.out hv1 hO hb1
set_option maxRecDepth 100000 in
set_option maxHeartbeats 1600000 in
theorem L_markNodeSS (w0 w : World) (xs : List (List GNode)) (v : Value) (F : List Nat) (k : Nat) (hv : fNodess w xs [v] F) (hF : Fresh w0.heap.size F) (hb : Bw w0 w) (htn : totNodess xs ≤ 1048576) (hk : k + sumL markNodes xs ≤ 8388608) : Calls Tryz.prog 17 #[v, .int .i64 k] w (RetM fNodess w0 w (mkL mkNodes markNodes xs k) v F (k + sumL markNodes xs)) := by
  obtain ⟨A, n, c, rfl, l1, l2, l3⟩ := rSl_open (fNodess_Rd hv)
  have hnn : n ≤ 1048576 := by rw [l1]; unfold totNodess at htn; omega
  have L1 := Lib.hid l1
  have HTN := Lib.hid htn
  unfold maxLen at l3
  have ML := Lib.hid (mkL_length mkNodes markNodes xs k)
  have HK := Lib.hid hk
  clear l1 htn
  go_enter Tryz.func17, Tryz.ntmps17
  go_wp2
  go_loopg [1, 5] n (fun g s i w' => ∃ (j : Nat) (q : Nat), j ≤ n ∧ g = n - j ∧ i = .int .i64 j ∧ s = .int .i64 q ∧ Hid (q = k + sumL markNodes (xs.take j)) ∧ fNodess w' (mixL (mkL mkNodes markNodes xs k) xs j) [.slice A n c] F ∧ Only F w w' ∧ Bw w0 w')
  case atStart => exact ⟨0, k, by omega, rfl, rfl, rfl, Lib.hid (by simp [sumL]), hv, Only.refl _ _, hb⟩
  case round =>
    obtain ⟨j, q, hj, rfl, rfl, rfl, HQ, hv1, hO, hb1⟩ := hrel
    clear hv
    by_cases hlt : j < n
    · obtain ⟨x, hx⟩ := get_of_lt (xs := xs) (k := j) (by have := L1.out; omega)
      have i1 : (0 : Int) ≤ (j : Int) := by omega
      have i2 : (j : Int) < (n : Int) := by omega
      have hmx := mix_at ML.out hx
      obtain ⟨g, rfl, hne, hgF⟩ := fSl_lit2 hv1 (by rw [mix_length ML.out, ← L1.out]; omega)
      clear hne
      obtain ⟨u, f, hru, hul, hcells, hff, hsub, hg, hback⟩ := fSl_focus fNodes_good hv1 hF hmx
      obtain ⟨vx, rfl⟩ := one_of hul
      have hcy := hcells 0 vx rfl
      rw [Nat.mul_one, Nat.add_zero] at hcy
      have hs1 := sumL_take_succ markNodes hx
      have hs2 := sumL_take_le markNodes xs (j + 1)
      have hq : q + markNodes x ≤ 8388608 := by have := HK.out; rw [HQ.out]; (try dsimp only at *); omega
      have hcall := L_markNodeS w0 wr x vx f q hru hff hb1 (by have h1 := le_sum totNodes (List.mem_of_getElem? hx); have := HTN.out; unfold totNodess at this; omega) hq
      have HB := Lib.hid ((hback [] (by simp)).2.2)
      have HMS := Lib.hid (mix_set ML.out hx (mkL_at mkNodes markNodes (k := k) hx))
      have HN := Lib.hid (show q + markNodes x = k + sumL markNodes (xs.take (j + 1)) by rw [hs1, HQ.out, Nat.add_assoc])
      obtain ⟨q2, hq2⟩ : ∃ q2, q2 = q + markNodes x := ⟨_, rfl⟩
      have HQ2 := Lib.hid hq2
      rw [← hq2] at hcall
      have HSUB := Lib.hid hsub
      clear hx hmx hul hcells hback hs1 hs2 hq hq2 hv1 hru hsub
      go_wp2_with fail
      refine hcall.mono ?_
      rintro e w3 ⟨rfl, o3, hO3, hb3⟩
      have hv3 := HB.out w3 _ hO3 o3
      rw [HQ.out, HMS.out] at hv3
      have hO4 := hO.then hO3 (fun b hb => (HSUB.out b hb).1)
      have HN2 := Lib.hid (show q2 = k + sumL markNodes (xs.take (j + 1)) from HQ2.out.trans HN.out)
      clear o3 hO3 hcall
      go_wp2
      go_roundg (n - (j + 1))
      case measure => omega
      case rel => exact ⟨j + 1, q2, by omega, rfl, by go_num, rfl, HN2, hv3, hO4, hb3⟩
    · obtain rfl : j = n := by omega
      have HF := Lib.hid (mix_end ML.out (j := j) (by rw [← L1.out]; exact Nat.le_refl _))
      have HN := Lib.hid (show (q : Int) = ((k + sumL markNodes xs : Nat) : Int) by rw [HQ.out, List.take_of_length_le (by rw [← L1.out]; exact Nat.le_refl _)])
      clear HQ
      go_wp2
      go_ret
      exact RetM.mk HN.out HF.out hv1 hO hb1
set_option maxHeartbeats 800000 in
theorem L_heldIntSS (w : World) (xs : List (List Int)) (v : Value) (k : Nat) (h : Rd rIntss w (mkIntss xs k) [v]) (htn : totIntss xs ≤ 1048576) (hk : k + markIntss xs ≤ 8388608) : Calls Tryz.prog 19 #[v, .int .i64 k] w (Ret w (.int .i64 ((k + markIntss xs : Nat) : Int))) := by
  unfold mkIntss at h
  unfold markIntss at hk ⊢
  obtain ⟨A, n, c, rfl, l1, l2, l3⟩ := rSl_open h
  rw [mkL_length] at l1
  have hnn : n ≤ 1048576 := by rw [l1]; unfold totIntss at htn; omega
  have L1 := Lib.hid l1
  have HTN := Lib.hid htn
  have HK := Lib.hid hk
  unfold maxLen at l3
  clear l1 htn
  go_enter Tryz.func19, Tryz.ntmps19
  go_wp2
  go_loopg [1, 5] n (fun g s i w' => ∃ (j : Nat) (q : Nat), j ≤ n ∧ g = n - j ∧ i = .int .i64 j ∧ s = .int .i64 q ∧ Hid (q = k + sumL (fun x => x.length) (xs.take j)) ∧ Bw w w')
  case atStart => exact ⟨0, k, by omega, rfl, rfl, rfl, Lib.hid (by simp [sumL]), Bw.refl _⟩
  case round =>
    obtain ⟨j, q, hj, rfl, rfl, rfl, HQ, hb⟩ := hrel
    by_cases hlt : j < n
    · obtain ⟨x, hx⟩ := get_of_lt (xs := xs) (k := j) (by have := L1.out; omega)
      have i1 : (0 : Int) ≤ (j : Int) := by omega
      have i2 : (j : Int) < (n : Int) := by omega
      obtain ⟨b, o, A', c', rfl, _, d0, hin⟩ := rIntss_at h (mkL_at mkInts (fun x => x.length) (k := k) hx)
      replace d0 := hb.cell d0
      have hs1 := sumL_take_succ (fun x : List Int => x.length) hx
      have hs2 := sumL_take_le (fun x : List Int => x.length) xs (j + 1)
      have hxl := le_sum (fun x : List Int => x.length) (List.mem_of_getElem? hx)
      have hh := HTN.out
      unfold totIntss at hh
      rw [← HQ.out] at hin d0
      have hin2 := Rd.bw rInts_good hin hb
      have hcall := L_heldIntS wr x _ q hin2 (by omega) (by have := HK.out; have := HQ.out; omega)
      have HN := Lib.hid (show q + x.length = k + sumL (fun x => x.length) (xs.take (j + 1)) by rw [hs1, HQ.out, Nat.add_assoc])
      obtain ⟨q2, hq2⟩ : ∃ q2, q2 = q + x.length := ⟨_, rfl⟩
      have HQ2 := Lib.hid hq2
      rw [← hq2] at hcall
      obtain ⟨M, hM⟩ : ∃ M, M = (mkInts x q).length := ⟨_, rfl⟩
      rw [← hM] at hcall d0
      have q0 : ¬ ((q2 : Int) < 0) := by omega
      have HH := Lib.hid h
      clear hx hs1 hs2 hxl hh hin hin2 hq2 hM h
      go_wp2_with fail
      refine (hcall).mono ?_
      rintro e w3 ⟨rfl, hb3⟩
      have HN2 := Lib.hid (show q2 = k + sumL (fun x => x.length) (xs.take (j + 1)) from HQ2.out.trans HN.out)
      have h := HH.out
      clear hcall
      go_wp2
      go_roundg (n - (j + 1))
      case measure => omega
      case rel => exact ⟨j + 1, q2, by omega, rfl, by go_num, rfl, HN2, hb.then hb3⟩
    · obtain rfl : j = n := by omega
      have HN := Lib.hid (show (q : Int) = ((k + sumL (fun x => x.length) xs : Nat) : Int) by rw [HQ.out, List.take_of_length_le (by rw [← L1.out]; exact Nat.le_refl _)])
      clear HQ
      go_wp2
      go_ret
      exact Ret.int HN.out hb
theorem markIntss_le (xs : List (List Int)) : markIntss xs ≤ totIntss xs := by unfold markIntss totIntss; omega
theorem L_markIntSSA (w0 w : World) (xs : List (List Int)) (v : Value) (F : List Nat) (k : Nat) (hv : fIntss w xs [v] F) (hF : Fresh w0.heap.size F) (hb : Bw w0 w) (htn : totIntss xs ≤ 1048576) (hk : k + markIntss xs ≤ 8388608) : Calls Tryz.prog 18 #[v, .int .i64 k] w (RetM fIntss w0 w (mkIntss xs k) v F (k + markIntss xs)) := L_markIntSS w0 w xs v F k hv hF hb htn hk
theorem L_heldIntSSA (w : World) (xs : List (List Int)) (v : Value) (k : Nat) (h : Rd rIntss w (mkIntss xs k) [v]) (htn : totIntss xs ≤ 1048576) (hk : k + markIntss xs ≤ 8388608) : Calls Tryz.prog 19 #[v, .int .i64 k] w (Ret w (.int .i64 ((k + markIntss xs : Nat) : Int))) := L_heldIntSS w xs v k h htn hk
theorem L_markNodeSSA (w0 w : World) (xs : List (List GNode)) (v : Value) (F : List Nat) (k : Nat) (hv : fNodess w xs [v] F) (hF : Fresh w0.heap.size F) (hb : Bw w0 w) (htn : totNodess xs ≤ 1048576) (hk : k + markNodess xs ≤ 8388608) : Calls Tryz.prog 17 #[v, .int .i64 k] w (RetM fNodess w0 w (mkNodess xs k) v F (k + markNodess xs)) := L_markNodeSS w0 w xs v F k hv hF hb htn hk
end Go.Proofs.YtfffklkiikmieaaGreat
