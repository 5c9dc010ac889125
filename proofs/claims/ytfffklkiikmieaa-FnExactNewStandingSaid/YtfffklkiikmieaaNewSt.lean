/- A new standing answer, in both programs. -/
import Derived.Test.YtfffklkiikmieaaStandF
import Derived.Test.YtfffklkiikmieaaCopyW
import Derived.Test.YtfffklkiikmieaaBestI
import Derived.Test.YtfffklkiikmieaaBestS
namespace Go.Proofs.Ytfffklkiikmieaa
open Go.RowKit
set_option linter.unusedVariables false
set_option linter.unusedSimpArgs false
/-- a struct and one more -/
def TwoA {α : Type} (f : Fp α) (B : Nat) (x : α) (z : Value) (w : World) (u : Value) : Prop := ∃ cs, u = .tuple #[.agg cs.toArray, z] ∧ ∃ F, f w x cs F ∧ Fresh B F
def newSt (l : List GItem) (e : List GNode) : GStanding := if areBoth l e then ⟨l, e, bestItems l e, 0⟩ else ⟨[], [], [], 0⟩
theorem newSt_yes {l : List GItem} {e : List GNode} (h : areBoth l e = true) : newSt l e = ⟨l, e, bestItems l e, 0⟩ := by unfold newSt; rw [h]; rfl
theorem newSt_no {l : List GItem} {e : List GNode} (h : areBoth l e = false) : newSt l e = ⟨[], [], [], 0⟩ := by unfold newSt; rw [h]; rfl
theorem bestItems_len (l : List GItem) (e : List GNode) : (bestItems l e).length ≤ l.length := by
  unfold bestItems; split
  · exact bestM_len l e
  · exact Nat.zero_le _
theorem newSt_small {l : List GItem} {e : List GNode} (h1 : totItems l ≤ 1048576) (h2 : totNodes e ≤ 1048576) : smallSt (newSt l e) := by
  unfold newSt smallSt; split
  · refine ⟨h1, h2, ?_⟩
    have h3 := bestItems_len l e
    unfold totItems at h1
    dsimp only; omega
  · simp [totItems, totNodes, sumL]
theorem fSt_none (w : World) : fStanding w ⟨[], [], [], 0⟩ [.slice none 0 0, .slice none 0 0, .slice none 0 0, .int .i64 0] [] :=
  ⟨_, _, _, [], [], [], rfl, ⟨_, [], [], rfl, World.ownsRow_nil _ _ _ _, trivial, by simp [Value.ownBlock]⟩, ⟨_, [], [], rfl, World.ownsRow_nil _ _ _ _, trivial, by simp [Value.ownBlock]⟩, ⟨_, [], [], rfl, World.ownsRow_nil _ _ _ _, trivial, by simp [Value.ownBlock]⟩, rfl⟩
theorem best_both {l : List GItem} {e : List GNode} (h : areBoth l e = true) : bestM l e = bestItems l e := by unfold bestItems; rw [h]; rfl
set_option maxRecDepth 100000 in
set_option maxHeartbeats 1600000 in
theorem I_NewStanding (w : World) (l : List GItem) (e : List GNode) (v u : Value) (h : Rd rItems w l [v]) (h' : Rd rNodes w e [u]) (t1 : totItems l ≤ 1048576) (t2 : totNodes e ≤ 1048576) :
    Calls Try.prog 27 #[v, u] w (RetV w (TwoA fStanding w.heap.size (newSt l e) (.bool (areBoth l e)))) := by
  have A0 : Bw w (w.alloc (.cells #[.slice none 0 0, .slice none 0 0, .slice none 0 0, .int .i64 0] 44)) := (Bw.refl w).alloc _
  obtain ⟨Y, hY⟩ : ∃ Y, Y = newSt l e := ⟨_, rfl⟩
  obtain ⟨Z, hZ⟩ : ∃ Z, Z = areBoth l e := ⟨_, rfl⟩
  rw [← hY, ← hZ]
  have HY := Lib.hid hY
  have HZ := Lib.hid hZ
  clear hY hZ
  go_enter Try.func27, Try.ntmps27
  go_wp2_with fail
  refine (I_areBoth _ l e _ _ (h.bw rItems_good A0) (h'.bw rNodes_good A0)).mono ?_
  rintro e w1 ⟨rfl, hb1⟩
  have B1 := A0.then hb1
  have r0 : w1.cell? ⟨w.heap.size, 0, none⟩ = some (.slice none 0 0) := hb1.cell (by go_simp)
  have r1 : w1.cell? ⟨w.heap.size, 1, none⟩ = some (.slice none 0 0) := hb1.cell (by go_simp)
  have r2 : w1.cell? ⟨w.heap.size, 2, none⟩ = some (.slice none 0 0) := hb1.cell (by go_simp)
  have r3 : w1.cell? ⟨w.heap.size, 3, none⟩ = some (.int .i64 0) := hb1.cell (by go_simp)
  have hf1 : ∀ o, w1.frozen? ⟨w.heap.size, o, none⟩ = false := fun o => by rw [bw_frozen hb1 _ _ (by first | (simp; done) | (simp; omega))]; go_simp
  rcases Bool.eq_false_or_eq_true (areBoth l e) with e1 | e1
  · have E1 := Lib.hid e1
    rw [e1]
    clear e1
    go_wp2_with fail
    refine (I_copyItems _ l _ (h.bw rItems_good B1) t1).mono ?_
    rintro e w2 ⟨v2, rfl, ⟨F2, o2, f2⟩, hb2⟩
    have B2 := B1.then hb2
    obtain ⟨A2, c2, rfl, _⟩ := rSl_shape (fItems_Rd o2)
    go_wp2_with fail
    refine (I_copyNodes _ e _ (h'.bw rNodes_good B2) t2).mono ?_
    rintro e w3 ⟨v3, rfl, ⟨F3, o3, f3⟩, hb3⟩
    have B3 := B2.then hb3
    obtain ⟨A3, c3, rfl, _⟩ := rSl_shape (fNodes_Rd o3)
    go_wp2_with fail
    refine (I_BestItems _ l e _ _ (h.bw rItems_good B3) (h'.bw rNodes_good B3)).mono ?_
    rintro e w4 ⟨v4, rfl, ⟨F4, o4, f4⟩, hb4⟩
    skip
    obtain ⟨A4, c4, rfl, _⟩ := rSl_shape (fInts_Rd o4)
    have hbb := (hb2.then hb3).then hb4
    replace r0 := hbb.cell r0
    replace r1 := hbb.cell r1
    replace r2 := hbb.cell r2
    replace r3 := hbb.cell r3
    have hz1 : w.heap.size + 1 ≤ w1.heap.size := by have := hb1.size; simpa using this
    have hf4 : ∀ o, w4.frozen? ⟨w.heap.size, o, none⟩ = false := fun o => (bw_frozen hbb w.heap.size o (by omega)).trans (hf1 o)
    have lt2 := (fItems_good (B := 0)).lt o2
    have lt3 := (fNodes_good (B := 0)).lt o3
    have z2 := hb2.size
    have z3 := hb3.size
    have z4 := hb4.size
    have f2z : ∀ b ∈ F2, w.heap.size + 1 ≤ b := fun b hb => by have := f2.ge b hb; omega
    have f3z : ∀ b ∈ F3, w.heap.size + 1 ≤ b := fun b hb => by have := f3.ge b hb; omega
    have f4z : ∀ b ∈ F4, w.heap.size + 1 ≤ b := fun b hb => by have := f4.ge b hb; omega
    have o2' := (fItems_good (B := 0)).bw (hb3.then hb4) (Nat.zero_le _) o2
    have o3' := (fNodes_good (B := 0)).bw hb4 (Nat.zero_le _) o3
    have FF : Fresh w.heap.size (F2 ++ (F3 ++ F4)) := Fresh.append (m := w2.heap.size) (f2.mono (by omega)) lt2 (Fresh.append (m := w3.heap.size) f3 lt3 f4 (by omega)) (by omega)
    have B4 := B3.then hb4
    have HYY := Lib.hid (HY.out.trans (newSt_yes E1.out))
    have HZZ := Lib.hid (HZ.out.trans E1.out)
    clear HY HZ hb1 hb2 hb3 hb4 hf1 f2 f3 f4 lt2 lt3 hbb B1 B2 B3
    go_wp2
    obtain rfl := HYY.out
    obtain rfl := HZZ.out
    refine bodyPost_ret (v := .tuple #[.agg #[.slice A2 l.length c2, .slice A3 e.length c3, .slice A4 (bestItems l e).length c4, .int .i64 0], .bool true]) (by simp [results, Try.results27, go_sem, r0, r1, r2, r3]) rfl ⟨_, rfl, ⟨[.slice A2 l.length c2, .slice A3 e.length c3, .slice A4 (bestItems l e).length c4, .int .i64 0], rfl, F2 ++ (F3 ++ F4), ⟨_, _, _, F2, F3, F4, rfl, ?_, ?_, ?_, rfl⟩, FF⟩, ?_⟩
    · refine (fItems_good (B := 0)).step (fun b hb => ?_) o2'
      rcases hb with hb | hb
      · have := f2z b hb
        repeat rw [Below.heap_setCell _ _ _ _ (by dsimp only; omega)]
      · omega
    · refine (fNodes_good (B := 0)).step (fun b hb => ?_) o3'
      rcases hb with hb | hb
      · have := f3z b hb
        repeat rw [Below.heap_setCell _ _ _ _ (by dsimp only; omega)]
      · omega
    · refine (fInts_good (B := 0)).step (fun b hb => ?_) o4
      rcases hb with hb | hb
      · have := f4z b hb
        repeat rw [Below.heap_setCell _ _ _ _ (by dsimp only; omega)]
      · omega
    · repeat (first | with_reducible exact B4 | with_reducible refine Bw.set ?_ ?_ _)
      all_goals (dsimp only; omega)
  · have E1 := Lib.hid e1
    rw [e1]
    clear e1
    have HYY := Lib.hid (HY.out.trans (newSt_no E1.out))
    have HZZ := Lib.hid (HZ.out.trans E1.out)
    clear HY HZ
    go_wp2
    obtain rfl := HYY.out
    obtain rfl := HZZ.out
    refine bodyPost_ret (v := .tuple #[.agg #[.slice none 0 0, .slice none 0 0, .slice none 0 0, .int .i64 0], .bool false]) (by simp [results, Try.results27, go_sem, r0, r1, r2, r3]) rfl ⟨_, rfl, ⟨[.slice none 0 0, .slice none 0 0, .slice none 0 0, .int .i64 0], rfl, [], fSt_none _, Fresh.nil⟩, ?_⟩
    repeat (first | with_reducible exact B1 | with_reducible refine Bw.set ?_ ?_ _)
    all_goals (dsimp only; omega)
set_option maxRecDepth 100000 in
set_option maxHeartbeats 1600000 in
theorem S_NewStanding (w : World) (l : List GItem) (e : List GNode) (v u : Value) (h : Rd rItems w l [v]) (h' : Rd rNodes w e [u]) (t1 : totItems l ≤ 1048576) (t2 : totNodes e ≤ 1048576) :
    Calls Try.prog 26 #[v, u] w (RetV w (TwoA fStanding w.heap.size (newSt l e) (.bool (areBoth l e)))) := by
  have A0 : Bw w (w.alloc (.cells #[.slice none 0 0, .slice none 0 0, .slice none 0 0, .int .i64 0] 44)) := (Bw.refl w).alloc _
  obtain ⟨Y, hY⟩ : ∃ Y, Y = newSt l e := ⟨_, rfl⟩
  obtain ⟨Z, hZ⟩ : ∃ Z, Z = areBoth l e := ⟨_, rfl⟩
  rw [← hY, ← hZ]
  have HY := Lib.hid hY
  have HZ := Lib.hid hZ
  clear hY hZ
  go_enter Try.func26, Try.ntmps26
  go_wp2_with fail
  refine (S_l7Fine _ l e _ _ (h.bw rItems_good A0) (h'.bw rNodes_good A0)).mono ?_
  rintro e w1 ⟨rfl, hb1⟩
  have B1 := A0.then hb1
  have r0 : w1.cell? ⟨w.heap.size, 0, none⟩ = some (.slice none 0 0) := hb1.cell (by go_simp)
  have r1 : w1.cell? ⟨w.heap.size, 1, none⟩ = some (.slice none 0 0) := hb1.cell (by go_simp)
  have r2 : w1.cell? ⟨w.heap.size, 2, none⟩ = some (.slice none 0 0) := hb1.cell (by go_simp)
  have r3 : w1.cell? ⟨w.heap.size, 3, none⟩ = some (.int .i64 0) := hb1.cell (by go_simp)
  have hf1 : ∀ o, w1.frozen? ⟨w.heap.size, o, none⟩ = false := fun o => by rw [bw_frozen hb1 _ _ (by first | (simp; done) | (simp; omega))]; go_simp
  rcases Bool.eq_false_or_eq_true (areBoth l e) with e1 | e1
  · have E1 := Lib.hid e1
    rw [e1]
    clear e1
    go_wp2_with fail
    refine (S_l2Copy _ l _ (h.bw rItems_good B1) t1).mono ?_
    rintro e w2 ⟨v2, rfl, ⟨F2, o2, f2⟩, hb2⟩
    have B2 := B1.then hb2
    obtain ⟨A2, c2, rfl, _⟩ := rSl_shape (fItems_Rd o2)
    go_wp2_with fail
    refine (S_l5Copy _ e _ (h'.bw rNodes_good B2) t2).mono ?_
    rintro e w3 ⟨v3, rfl, ⟨F3, o3, f3⟩, hb3⟩
    have B3 := B2.then hb3
    obtain ⟨A3, c3, rfl, _⟩ := rSl_shape (fNodes_Rd o3)
    go_wp2_with fail
    refine (S_l7Best _ l e _ _ (h.bw rItems_good B3) (h'.bw rNodes_good B3) (areBoth_items E1.out) (areBoth_expr E1.out)).mono ?_
    rintro e w4 ⟨v4, rfl, ⟨F4, o4, f4⟩, hb4⟩
    rw [best_both E1.out] at o4
    obtain ⟨A4, c4, rfl, _⟩ := rSl_shape (fInts_Rd o4)
    have hbb := (hb2.then hb3).then hb4
    replace r0 := hbb.cell r0
    replace r1 := hbb.cell r1
    replace r2 := hbb.cell r2
    replace r3 := hbb.cell r3
    have hz1 : w.heap.size + 1 ≤ w1.heap.size := by have := hb1.size; simpa using this
    have hf4 : ∀ o, w4.frozen? ⟨w.heap.size, o, none⟩ = false := fun o => (bw_frozen hbb w.heap.size o (by omega)).trans (hf1 o)
    have lt2 := (fItems_good (B := 0)).lt o2
    have lt3 := (fNodes_good (B := 0)).lt o3
    have z2 := hb2.size
    have z3 := hb3.size
    have z4 := hb4.size
    have f2z : ∀ b ∈ F2, w.heap.size + 1 ≤ b := fun b hb => by have := f2.ge b hb; omega
    have f3z : ∀ b ∈ F3, w.heap.size + 1 ≤ b := fun b hb => by have := f3.ge b hb; omega
    have f4z : ∀ b ∈ F4, w.heap.size + 1 ≤ b := fun b hb => by have := f4.ge b hb; omega
    have o2' := (fItems_good (B := 0)).bw (hb3.then hb4) (Nat.zero_le _) o2
    have o3' := (fNodes_good (B := 0)).bw hb4 (Nat.zero_le _) o3
    have FF : Fresh w.heap.size (F2 ++ (F3 ++ F4)) := Fresh.append (m := w2.heap.size) (f2.mono (by omega)) lt2 (Fresh.append (m := w3.heap.size) f3 lt3 f4 (by omega)) (by omega)
    have B4 := B3.then hb4
    have HYY := Lib.hid (HY.out.trans (newSt_yes E1.out))
    have HZZ := Lib.hid (HZ.out.trans E1.out)
    clear HY HZ hb1 hb2 hb3 hb4 hf1 f2 f3 f4 lt2 lt3 hbb B1 B2 B3
    go_wp2
    obtain rfl := HYY.out
    obtain rfl := HZZ.out
    refine bodyPost_ret (v := .tuple #[.agg #[.slice A2 l.length c2, .slice A3 e.length c3, .slice A4 (bestItems l e).length c4, .int .i64 0], .bool true]) (by simp [results, Try.results26, go_sem, r0, r1, r2, r3]) rfl ⟨_, rfl, ⟨[.slice A2 l.length c2, .slice A3 e.length c3, .slice A4 (bestItems l e).length c4, .int .i64 0], rfl, F2 ++ (F3 ++ F4), ⟨_, _, _, F2, F3, F4, rfl, ?_, ?_, ?_, rfl⟩, FF⟩, ?_⟩
    · refine (fItems_good (B := 0)).step (fun b hb => ?_) o2'
      rcases hb with hb | hb
      · have := f2z b hb
        repeat rw [Below.heap_setCell _ _ _ _ (by dsimp only; omega)]
      · omega
    · refine (fNodes_good (B := 0)).step (fun b hb => ?_) o3'
      rcases hb with hb | hb
      · have := f3z b hb
        repeat rw [Below.heap_setCell _ _ _ _ (by dsimp only; omega)]
      · omega
    · refine (fInts_good (B := 0)).step (fun b hb => ?_) o4
      rcases hb with hb | hb
      · have := f4z b hb
        repeat rw [Below.heap_setCell _ _ _ _ (by dsimp only; omega)]
      · omega
    · repeat (first | with_reducible exact B4 | with_reducible refine Bw.set ?_ ?_ _)
      all_goals (dsimp only; omega)
  · have E1 := Lib.hid e1
    rw [e1]
    clear e1
    have HYY := Lib.hid (HY.out.trans (newSt_no E1.out))
    have HZZ := Lib.hid (HZ.out.trans E1.out)
    clear HY HZ
    go_wp2
    obtain rfl := HYY.out
    obtain rfl := HZZ.out
    refine bodyPost_ret (v := .tuple #[.agg #[.slice none 0 0, .slice none 0 0, .slice none 0 0, .int .i64 0], .bool false]) (by simp [results, Try.results26, go_sem, r0, r1, r2, r3]) rfl ⟨_, rfl, ⟨[.slice none 0 0, .slice none 0 0, .slice none 0 0, .int .i64 0], rfl, [], fSt_none _, Fresh.nil⟩, ?_⟩
    repeat (first | with_reducible exact B1 | with_reducible refine Bw.set ?_ ?_ _)
    all_goals (dsimp only; omega)
end Go.Proofs.Ytfffklkiikmieaa
