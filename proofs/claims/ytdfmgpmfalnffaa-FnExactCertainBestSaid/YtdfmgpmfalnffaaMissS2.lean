/- Possible and certain answers in the reference. -/
import Derived.Test.YtdfmgpmfalnffaaMissS
namespace Go.Proofs.Ytdfmgpmfalnffaa
open Go.RowKit
set_option linter.unusedVariables false
set_option linter.unusedSimpArgs false
theorem possF_none {l : List GItem} (h : isPartial l = false) (e : List GNode) : l.filter (possF l e) = [] := by
  rw [List.filter_eq_nil_iff]
  intro x _
  unfold possF cntN
  rw [h]; simp
set_option maxHeartbeats 1600000 in
theorem S_PossibleBest_no (w : World) (l : List GItem) (e : List GNode) (v u : Value) (h : Rd rItems w l [v]) (h' : Rd rNodes w e [u]) (hc : isExpr e = false) : Calls Try.prog 65 #[v, u] w (RetV w (Made fInts w.heap.size [])) := by
  have hv0 := fSl_empty (e := 3) (sz := 1) (R := fInt) w
  obtain ⟨A, n, c, rfl, L0, Lc, Lm⟩ := rSl_open h
  unfold maxLen at Lm
  have L := Lib.hid L0
  clear L0
  have HC := Lib.hid hc
  clear hc
  go_enter Try.func65, Try.ntmps65
  go_wp2
  go_loopg [5, 6] 0 (fun g s i w' => ∃ (F : List Nat), g = 0 ∧ i = .int .i64 0 ∧ fInts w' [] [s] F ∧ Fresh w.heap.size F ∧ Bw w w')
  case atStart => exact ⟨_, rfl, rfl, hv0, ⟨by simp, by simp⟩, (Bw.refl w).alloc _⟩
  case round =>
    clear hv0
    obtain ⟨F, rfl, rfl, hv, hF, hb⟩ := hrel
    by_cases hlt : 0 < n
    · go_wp2_with fail
      refine (S_IsExpression _ e _ (h'.bw rNodes_good hb)).mono ?_
      rintro e w1 ⟨rfl, hb1⟩
      rw [HC.out]
      have hv1 := (fInts_good (B := w.heap.size)).bw hb1 hb.size hv
      go_wp2
      go_ret
      exact ⟨_, rfl, ⟨_, hv1, hF⟩, hb.then hb1⟩
    · obtain rfl : n = 0 := by omega
      go_wp2
      go_ret
      exact ⟨_, rfl, ⟨_, hv, hF⟩, hb⟩
theorem S_PossibleBest (w : World) (l : List GItem) (e : List GNode) (v u : Value) (h : Rd rItems w l [v]) (h' : Rd rNodes w e [u]) (ht : totItems l ≤ 1048576) : Calls Try.prog 65 #[v, u] w (RetV w (Made fInts w.heap.size (possM l e))) := by
  rcases Bool.eq_false_or_eq_true (isExpr e) with hE | hE
  · have := S_PossibleBest_yes w l e v u h h' ht hE
    rcases Bool.eq_false_or_eq_true (isPartial l) with hP | hP
    · rw [possM, hP, hE]; exact this
    · rw [possM, hP]; rw [possF_none hP] at this; exact this
  · rw [show possM l e = [] by unfold possM; rw [hE]; simp]
    exact S_PossibleBest_no w l e v u h h' hE
set_option maxHeartbeats 1600000 in
theorem S_CertainBest_no (w : World) (l : List GItem) (e : List GNode) (v u : Value) (h : Rd rItems w l [v]) (h' : Rd rNodes w e [u]) (ht : totItems l ≤ 1048576) (hc : (isPartial l && isExpr e) = false) : Calls Try.prog 63 #[v, u] w (RetV w (Made fInts w.heap.size [])) := by
  have hv0 := fSl_empty (e := 3) (sz := 1) (R := fInt) w
  obtain ⟨A, n, c, rfl, L0, Lc, Lm⟩ := rSl_open h
  unfold maxLen at Lm
  have L := Lib.hid L0
  clear L0
  have HC := Lib.hid hc
  clear hc
  go_enter Try.func63, Try.ntmps63
  go_wp2
  go_loopg [5, 6] 0 (fun g s i w' => ∃ (F : List Nat), g = 0 ∧ i = .int .i64 0 ∧ fInts w' [] [s] F ∧ Fresh w.heap.size F ∧ Bw w w')
  case atStart => exact ⟨_, rfl, rfl, hv0, ⟨by simp, by simp⟩, (Bw.refl w).alloc _⟩
  case round =>
    clear hv0
    obtain ⟨F, rfl, rfl, hv, hF, hb⟩ := hrel
    by_cases hlt : 0 < n
    · go_wp2_with fail
      refine (S_IsExpression _ e _ (h'.bw rNodes_good hb)).mono ?_
      rintro e w1 ⟨rfl, hb1⟩
      have hv1 := (fInts_good (B := w.heap.size)).bw hb1 hb.size hv
      have B1 := hb.then hb1
      rcases Bool.eq_false_or_eq_true (isExpr e) with e1 | e1
      · have HC2 := Lib.hid (show isPartial l = false by have := HC.out; rw [e1] at this; simpa using this)
        rw [e1]
        clear e1
        go_wp2_with fail
        refine (S_IsPartial _ l _ (h.bw rItems_good B1) ht).mono ?_
        rintro e w2 ⟨rfl, hb2⟩
        rw [HC2.out]
        have hv2 := (fInts_good (B := w.heap.size)).bw hb2 B1.size hv1
        go_wp2
        go_ret
        exact ⟨_, rfl, ⟨_, hv2, hF⟩, B1.then hb2⟩
      · rw [e1]
        clear e1
        go_wp2
        go_ret
        exact ⟨_, rfl, ⟨_, hv1, hF⟩, B1⟩
    · obtain rfl : n = 0 := by omega
      go_wp2
      go_ret
      exact ⟨_, rfl, ⟨_, hv, hF⟩, hb⟩
theorem S_CertainBest (w : World) (l : List GItem) (e : List GNode) (v u : Value) (h : Rd rItems w l [v]) (h' : Rd rNodes w e [u]) (ht : totItems l ≤ 1048576) : Calls Try.prog 63 #[v, u] w (RetV w (Made fInts w.heap.size (certM l e))) := by
  rcases Bool.eq_false_or_eq_true (isPartial l && isExpr e) with hc | hc
  · have hc2 := hc
    simp only [Bool.and_eq_true] at hc2
    rw [certM, if_pos hc]
    exact S_CertainBest_yes w l e v u h h' ht hc2.2 hc2.1
  · rw [show certM l e = [] by unfold certM; rw [hc]; rfl]
    exact S_CertainBest_no w l e v u h h' ht hc
end Go.Proofs.Ytdfmgpmfalnffaa
