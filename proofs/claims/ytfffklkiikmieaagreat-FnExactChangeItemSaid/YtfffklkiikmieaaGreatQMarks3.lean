/- What the laws write into one item. -/
import Derived.Test.YtfffklkiikmieaaGreatQInsS2
import Derived.Test.YtfffklkiikmieaaGreatQInsI2
import Derived.Test.YtfffklkiikmieaaGreatQDelJ
import Derived.Deep.Cut
import Derived.Test.YtfffklkiikmieaaGreatQSortT
import Derived.Test.YtfffklkiikmieaaGreatQStandF
import Derived.Test.YtfffklkiikmieaaGreatQMarksC
namespace Go.Proofs.YtfffklkiikmieaaGreat
open Go.RowKit
set_option linter.unusedVariables false
theorem S_InsertItem (w : World) (s : GStanding) (x : GItem) (va vb vc u : Value) (ha : Rd rItems w s.items [va]) (hb : Rd rNodes w s.wanted [vb]) (hc : Rd rInts w s.best [vc]) (hx : Rd rInts w x.vals [u]) (t1 : totItems s.items ≤ 1048576) (t2 : totNodes s.wanted ≤ 1048576) (t3 : s.best.length ≤ 1048576) :
    Calls Tryz.prog 28 #[.agg #[va, vb, vc, .int .i64 s.tests], .agg #[.int .i64 x.id, u]] w (RetV w (TwoA fStanding w.heap.size (insM s x) (.bool (insOk s x)))) := by
  cases h : insOk s x with
  | true => rw [show insM s x = insertS s x by unfold insM; rw [h]; rfl]; exact S_InsertItem_yes w s x va vb vc u ha hb hc hx t1 t2 t3 h
  | false => rw [show insM s x = s by unfold insM; rw [h]; rfl]; exact S_InsertItem_no w s x va vb vc u ha hb hc hx t1 t2 t3 h
theorem I_InsertItem (w : World) (s : GStanding) (x : GItem) (va vb vc u : Value) (ha : Rd rItems w s.items [va]) (hb : Rd rNodes w s.wanted [vb]) (hc : Rd rInts w s.best [vc]) (hx : Rd rInts w x.vals [u]) (t1 : totItems s.items ≤ 1048576) (t2 : totNodes s.wanted ≤ 1048576) (t3 : s.best.length ≤ 1048576) :
    Calls Tryz.prog 30 #[.agg #[va, vb, vc, .int .i64 s.tests], .agg #[.int .i64 x.id, u]] w (RetV w (TwoA fStanding w.heap.size (insM s x) (.bool (insOk s x)))) := by
  cases h : insOk s x with
  | true => rw [show insM s x = insertS s x by unfold insM; rw [h]; rfl]; exact I_InsertItem_yes w s x va vb vc u ha hb hc hx t1 t2 t3 h
  | false => rw [show insM s x = s by unfold insM; rw [h]; rfl]; exact I_InsertItem_no w s x va vb vc u ha hb hc hx t1 t2 t3 h
theorem sum_const {α : Type} (f : α → Nat) (n : Nat) : ∀ {l : List α}, (∀ x ∈ l, f x = n) → sumL f l = l.length * n
  | [], _ => by simp [sumL]
  | a :: l, h => by
    have h1 := sum_const f n (l := l) (fun x hx => h x (by simp [hx]))
    have h2 := h a (by simp)
    simp only [sumL, List.length_cons, h1, h2, Nat.succ_mul]; omega
theorem put_small {l : List GItem} {x : GItem} (hl : ∀ y ∈ l, isItem y = true) (hx : isItem x = true) (hn : l.length < 16) : totItems (putM l x) ≤ 1048576 := by
  have h1 : ∀ y ∈ putM l x, y.vals.length = 3 := fun y hy => isItem_len ((putM_mem hy).elim (hl y) (fun e => by rw [e]; exact hx))
  have h2 := sum_const (fun y : GItem => y.vals.length) 3 h1
  have h3 := putM_len l x
  unfold totItems
  rw [h2, h3]; omega
theorem insM_small {s : GStanding} {x : GItem} (h : smallSt s) : smallSt (insM s x) := by
  unfold insM
  split
  · rename_i hok
    obtain ⟨E1, E2, _, h16, _⟩ := insOk_parts hok
    have hI := areBoth_items (stand_both E1).1
    have hl := stand_best_len E1
    refine ⟨put_small (fun y hy => areItems_mem hI hy) E2 h16, h.2.1, ?_⟩
    unfold insertS
    dsimp only
    split
    · omega
    · have := keptTo_len s x s.best.length
      rw [sortI_len, List.length_append, List.length_singleton]; omega
  · exact h
end Go.Proofs.YtfffklkiikmieaaGreat

namespace Go.Proofs.YtfffklkiikmieaaGreat
open Go.RowKit
set_option linter.unusedVariables false
set_option linter.unusedSimpArgs false
def chgOk (s : GStanding) (x : GItem) : Bool := isItem x && (delOk s x.id && insOk (delM s x.id) x)
def chgM (s : GStanding) (x : GItem) : GStanding := if chgOk s x then insM (delM s x.id) x else s
theorem chgM_small {s : GStanding} {x : GItem} (h : smallSt s) : smallSt (chgM s x) := by
  unfold chgM
  split
  · exact insM_small (delM_small h)
  · exact h
set_option maxRecDepth 100000 in
set_option maxHeartbeats 6400000 in
theorem S_ChangeItem (w : World) (s : GStanding) (x : GItem) (va vb vc u : Value) (ha : Rd rItems w s.items [va]) (hb : Rd rNodes w s.wanted [vb]) (hc : Rd rInts w s.best [vc]) (hx : Rd rInts w x.vals [u]) (t1 : totItems s.items ≤ 1048576) (t2 : totNodes s.wanted ≤ 1048576) (t3 : s.best.length ≤ 1048576) :
    Calls Tryz.prog 33 #[.agg #[va, vb, vc, .int .i64 s.tests], .agg #[.int .i64 x.id, u]] w (RetV w (TwoA fStanding w.heap.size (chgM s x) (.bool (chgOk s x)))) := by
  obtain ⟨A, n, c, rfl, L0, Lc, Lm⟩ := rSl_open ha
  unfold maxLen at Lm
  have L := Lib.hid L0
  clear L0
  obtain ⟨B, m, c4, rfl, M0, Mc, Mm⟩ := rSl_open hc
  unfold maxLen at Mm
  have M := Lib.hid M0
  clear M0
  obtain ⟨W0, hW0⟩ : ∃ W0, W0 = ((w.alloc (.cells #[.slice A n c, vb, .slice B m c4, .int .i64 s.tests] 47)).alloc (.cells #[.int .i64 x.id, u] 58)).alloc (.cells #[.slice none 0 0, .slice none 0 0, .slice none 0 0, .int .i64 0] 47) := ⟨_, rfl⟩
  have A0 : Bw w W0 := by rw [hW0]; exact (((Bw.refl w).alloc _).alloc _).alloc _
  have bS : Box W0 w.heap.size [.slice A n c, vb, .slice B m c4, .int .i64 s.tests] := by rw [hW0]; exact (Box.new w #[.slice A n c, vb, .slice B m c4, .int .i64 s.tests] 47).bw (((Bw.refl _).alloc _).alloc _)
  have bX : Box W0 (w.heap.size + 1) [.int .i64 x.id, u] := by
    have := Box.new (w.alloc (.cells #[.slice A n c, vb, .slice B m c4, .int .i64 s.tests] 47)) #[.int .i64 x.id, u] 58
    rw [show (w.alloc (.cells #[.slice A n c, vb, .slice B m c4, .int .i64 s.tests] 47)).heap.size = w.heap.size + 1 from by simp] at this
    rw [hW0]; exact this.bw ((Bw.refl _).alloc _)
  have bR : Box W0 (w.heap.size + 1 + 1) [.slice none 0 0, .slice none 0 0, .slice none 0 0, .int .i64 0] := by
    have := Box.new ((w.alloc (.cells #[.slice A n c, vb, .slice B m c4, .int .i64 s.tests] 47)).alloc (.cells #[.int .i64 x.id, u] 58)) #[.slice none 0 0, .slice none 0 0, .slice none 0 0, .int .i64 0] 47
    rw [show ((w.alloc (.cells #[.slice A n c, vb, .slice B m c4, .int .i64 s.tests] 47)).alloc (.cells #[.int .i64 x.id, u] 58)).heap.size = w.heap.size + 1 + 1 from by simp] at this
    rw [hW0]; exact this
  have z0 : W0.heap.size = w.heap.size + 3 := by rw [hW0]; simp
  have HW0 := Lib.hid hW0
  clear hW0
  have hcall := S_IsItem W0 x u (hx.bw rInts_good A0)
  go_enter Tryz.func33, Tryz.ntmps33
  go_wp2_with fail
  rw [← HW0.out]
  refine hcall.mono ?_
  rintro e w2 ⟨rfl, hb2⟩
  clear hcall
  rcases Bool.eq_false_or_eq_true (isItem x) with e1 | e1
  · have E1 := Lib.hid e1
    rw [e1]
    clear e1
    have bS2 := bS.bw hb2
    have bX2 := bX.bw hb2
    have y0 := bS2.c 0 _ rfl
    have y1 := bS2.c 1 _ rfl
    have y2 := bS2.c 2 _ rfl
    have y3 := bS2.c 3 _ rfl
    have yf := bS2.fr
    have z0 := bX2.c 0 _ rfl
    have z1 := bX2.c 1 _ rfl
    have zf := bX2.fr
    have hcall := S_DeleteItem w2 s x.id _ vb _ (ha.bw rItems_good (A0.then hb2)) (hb.bw rNodes_good (A0.then hb2)) (hc.bw rInts_good (A0.then hb2)) t1 t2 t3
    clear bS2 bX2
    go_wp2_with fail
    refine hcall.mono ?_
    rintro e w3 ⟨_, rfl, ⟨cs, rfl, ⟨G3, o3, f3⟩⟩, hb3⟩
    clear hcall
    obtain ⟨D, hD⟩ : ∃ D, D = delM s x.id := ⟨_, rfl⟩
    rw [← hD] at o3
    have hsm : smallSt D := by rw [hD]; exact delM_small ⟨t1, t2, t3⟩
    have HD := Lib.hid hD
    clear hD
    obtain ⟨A1, c1, A2, c2, A3, c3, rfl⟩ := fStanding_shape o3
    clear y0 y1 y2 y3 yf
    clear z0 z1 zf
    have AV := (Bw.refl w3).alloc (.cells #[.slice A1 D.items.length c1, .slice A2 D.wanted.length c2, .slice A3 D.best.length c3, .int .i64 D.tests] 47)
    have hB3 := (hb2.then hb3).then AV
    rcases Bool.eq_false_or_eq_true (delOk s x.id) with e2 | e2
    · have E2 := Lib.hid e2
      rw [e2]
      clear e2
      have bX3 := bX.bw hB3
      have bD3 := Box.new w3 #[.slice A1 D.items.length c1, .slice A2 D.wanted.length c2, .slice A3 D.best.length c3, .int .i64 D.tests] 47
      have z0 := bX3.c 0 _ rfl
      have z1 := bX3.c 1 _ rfl
      have zf := bX3.fr
      have d0 := bD3.c 0 _ rfl
      have d1 := bD3.c 1 _ rfl
      have d2 := bD3.c 2 _ rfl
      have d3 := bD3.c 3 _ rfl
      have df := bD3.fr
      obtain ⟨rd1, rd2, rd3, _⟩ := fStanding_Rds (keepBw AV fStanding_good o3)
      have hcall := S_InsertItem _ D x _ _ _ u rd1 rd2 rd3 (hx.bw rInts_good (A0.then hB3)) hsm.1 hsm.2.1 hsm.2.2
      clear rd1 rd2 rd3 bX3 bD3
      go_wp2_with fail
      refine hcall.mono ?_
      rintro e w4 ⟨_, rfl, ⟨cs, rfl, ⟨G4, o4, f4⟩⟩, hb4⟩
      clear hcall
      clear z0 z1 zf
      clear d0 d1 d2 d3 df
      obtain ⟨I, hI⟩ : ∃ I, I = insM D x := ⟨_, rfl⟩
      rw [← hI] at o4
      have HI := Lib.hid hI
      clear hI
      obtain ⟨B1, d1, B2, d2, B3, d3, rfl⟩ := fStanding_shape o4
      have AW := (Bw.refl w4).alloc (.cells #[.slice B1 I.items.length d1, .slice B2 I.wanted.length d2, .slice B3 I.best.length d3, .int .i64 I.tests] 47)
      have hB4 := (hB3.then hb4).then AW
      rcases Bool.eq_false_or_eq_true (insOk D x) with e3 | e3
      · have hok : chgOk s x = true := by unfold chgOk; rw [E1.out, E2.out, ← HD.out, e3]; rfl
        have HY := Lib.hid (show chgM s x = I by unfold chgM; rw [hok, ← HD.out, ← HI.out]; rfl)
        have HOK := Lib.hid hok
        rw [e3]
        clear e3 hok
        have bR4 := bR.bw hB4
        have bD4 := Box.new w4 #[.slice B1 I.items.length d1, .slice B2 I.wanted.length d2, .slice B3 I.best.length d3, .int .i64 I.tests] 47
        have BB := A0.then hB4
        have z4 := (hB3.then hb4).size
        have z3 := hB3.size
        obtain ⟨F1, F2, F3, o1, o2, o3', rfl⟩ := fStanding_parts (keepBw AW fStanding_good o4)
        have fz := hB3.size
        have r0 := bR4.c 0 _ rfl
        have r1 := bR4.c 1 _ rfl
        have r2 := bR4.c 2 _ rfl
        have r3 := bR4.c 3 _ rfl
        have rf := bR4.fr
        have k0 := bD4.c 0 _ rfl
        have k1 := bD4.c 1 _ rfl
        have k2 := bD4.c 2 _ rfl
        have k3 := bD4.c 3 _ rfl
        have kf := bD4.fr
        clear o4 bD4 bR4
        go_wp2
        rw [HY.out, HOK.out]
        refine bodyPost_ret (v := .tuple #[.agg #[.slice B1 I.items.length d1, .slice B2 I.wanted.length d2, .slice B3 I.best.length d3, .int .i64 I.tests], .bool true]) (by simp [results, Tryz.results33, go_sem, r0, r1, r2, r3]) rfl (stand_ret o1 o2 o3' (f4.mono (by omega)) (by omega) BB)
      · have hno : chgOk s x = false := by unfold chgOk; rw [← HD.out, e3]; simp
        rw [e3]
        clear e3
        have HNO := Lib.hid (show chgM s x = s by unfold chgM; rw [hno]; rfl)
        have HNO2 := Lib.hid hno
        clear hno
        have bS9 := bS.bw hB4
        have y0 := bS9.c 0 _ rfl
        have y1 := bS9.c 1 _ rfl
        have y2 := bS9.c 2 _ rfl
        have y3 := bS9.c 3 _ rfl
        have yf := bS9.fr
        have hcall := S_l15Copy _ s _ vb _ (ha.bw rItems_good (A0.then hB4)) (hb.bw rNodes_good (A0.then hB4)) (hc.bw rInts_good (A0.then hB4)) t1 t2 t3
        clear bS9
        go_wp2_with fail
        refine hcall.mono ?_
        rintro e w9 ⟨cs, F9, rfl, o9, f9, hb9⟩
        obtain ⟨A1, c1, A2, c2, A3, c3, rfl⟩ := fStanding_shape o9
        obtain ⟨F1, F2, F3, o1, o2, o3, rfl⟩ := fStanding_parts o9
        clear y0 y1 y2 y3 yf
        have bR9 := bR.bw (hB4.then hb9)
        have BB := A0.then (hB4.then hb9)
        have zB := (hB4).size
        clear hcall o9
        have r0 := bR9.c 0 _ rfl
        have r1 := bR9.c 1 _ rfl
        have r2 := bR9.c 2 _ rfl
        have r3 := bR9.c 3 _ rfl
        have rf := bR9.fr
        go_wp2
        rw [HNO.out, HNO2.out]
        refine bodyPost_ret (v := .tuple #[.agg #[.slice A1 s.items.length c1, .slice A2 s.wanted.length c2, .slice A3 s.best.length c3, .int .i64 s.tests], .bool false]) (by simp [results, Tryz.results33, go_sem, r0, r1, r2, r3]) rfl (stand_ret o1 o2 o3 (f9.mono (by omega)) (by omega) BB)
    · have hno : chgOk s x = false := by unfold chgOk; rw [e2]; simp
      rw [e2]
      clear e2
      have HNO := Lib.hid (show chgM s x = s by unfold chgM; rw [hno]; rfl)
      have HNO2 := Lib.hid hno
      clear hno
      have bS9 := bS.bw hB3
      have y0 := bS9.c 0 _ rfl
      have y1 := bS9.c 1 _ rfl
      have y2 := bS9.c 2 _ rfl
      have y3 := bS9.c 3 _ rfl
      have yf := bS9.fr
      have hcall := S_l15Copy _ s _ vb _ (ha.bw rItems_good (A0.then hB3)) (hb.bw rNodes_good (A0.then hB3)) (hc.bw rInts_good (A0.then hB3)) t1 t2 t3
      clear bS9
      go_wp2_with fail
      refine hcall.mono ?_
      rintro e w9 ⟨cs, F9, rfl, o9, f9, hb9⟩
      obtain ⟨A1, c1, A2, c2, A3, c3, rfl⟩ := fStanding_shape o9
      obtain ⟨F1, F2, F3, o1, o2, o3, rfl⟩ := fStanding_parts o9
      clear y0 y1 y2 y3 yf
      have bR9 := bR.bw (hB3.then hb9)
      have BB := A0.then (hB3.then hb9)
      have zB := (hB3).size
      clear hcall o9
      have r0 := bR9.c 0 _ rfl
      have r1 := bR9.c 1 _ rfl
      have r2 := bR9.c 2 _ rfl
      have r3 := bR9.c 3 _ rfl
      have rf := bR9.fr
      go_wp2
      rw [HNO.out, HNO2.out]
      refine bodyPost_ret (v := .tuple #[.agg #[.slice A1 s.items.length c1, .slice A2 s.wanted.length c2, .slice A3 s.best.length c3, .int .i64 s.tests], .bool false]) (by simp [results, Tryz.results33, go_sem, r0, r1, r2, r3]) rfl (stand_ret o1 o2 o3 (f9.mono (by omega)) (by omega) BB)
  · have hno : chgOk s x = false := by unfold chgOk; rw [e1]; rfl
    rw [e1]
    clear e1
    have HNO := Lib.hid (show chgM s x = s by unfold chgM; rw [hno]; rfl)
    have HNO2 := Lib.hid hno
    clear hno
    have bS9 := bS.bw hb2
    have y0 := bS9.c 0 _ rfl
    have y1 := bS9.c 1 _ rfl
    have y2 := bS9.c 2 _ rfl
    have y3 := bS9.c 3 _ rfl
    have yf := bS9.fr
    have hcall := S_l15Copy _ s _ vb _ (ha.bw rItems_good (A0.then hb2)) (hb.bw rNodes_good (A0.then hb2)) (hc.bw rInts_good (A0.then hb2)) t1 t2 t3
    clear bS9
    go_wp2_with fail
    refine hcall.mono ?_
    rintro e w9 ⟨cs, F9, rfl, o9, f9, hb9⟩
    obtain ⟨A1, c1, A2, c2, A3, c3, rfl⟩ := fStanding_shape o9
    obtain ⟨F1, F2, F3, o1, o2, o3, rfl⟩ := fStanding_parts o9
    clear y0 y1 y2 y3 yf
    have bR9 := bR.bw (hb2.then hb9)
    have BB := A0.then (hb2.then hb9)
    have zB := (hb2).size
    clear hcall o9
    have r0 := bR9.c 0 _ rfl
    have r1 := bR9.c 1 _ rfl
    have r2 := bR9.c 2 _ rfl
    have r3 := bR9.c 3 _ rfl
    have rf := bR9.fr
    go_wp2
    rw [HNO.out, HNO2.out]
    refine bodyPost_ret (v := .tuple #[.agg #[.slice A1 s.items.length c1, .slice A2 s.wanted.length c2, .slice A3 s.best.length c3, .int .i64 s.tests], .bool false]) (by simp [results, Tryz.results33, go_sem, r0, r1, r2, r3]) rfl (stand_ret o1 o2 o3 (f9.mono (by omega)) (by omega) BB)
end Go.Proofs.YtfffklkiikmieaaGreat

namespace Go.Proofs.YtfffklkiikmieaaGreat
open Go.RowKit
set_option linter.unusedVariables false
set_option linter.unusedSimpArgs false
set_option maxRecDepth 100000 in
set_option maxHeartbeats 6400000 in
theorem I_ChangeItem (w : World) (s : GStanding) (x : GItem) (va vb vc u : Value) (ha : Rd rItems w s.items [va]) (hb : Rd rNodes w s.wanted [vb]) (hc : Rd rInts w s.best [vc]) (hx : Rd rInts w x.vals [u]) (t1 : totItems s.items ≤ 1048576) (t2 : totNodes s.wanted ≤ 1048576) (t3 : s.best.length ≤ 1048576) :
    Calls Tryz.prog 34 #[.agg #[va, vb, vc, .int .i64 s.tests], .agg #[.int .i64 x.id, u]] w (RetV w (TwoA fStanding w.heap.size (chgM s x) (.bool (chgOk s x)))) := by
  obtain ⟨A, n, c, rfl, L0, Lc, Lm⟩ := rSl_open ha
  unfold maxLen at Lm
  have L := Lib.hid L0
  clear L0
  obtain ⟨B, m, c4, rfl, M0, Mc, Mm⟩ := rSl_open hc
  unfold maxLen at Mm
  have M := Lib.hid M0
  clear M0
  obtain ⟨W0, hW0⟩ : ∃ W0, W0 = ((w.alloc (.cells #[.slice A n c, vb, .slice B m c4, .int .i64 s.tests] 47)).alloc (.cells #[.int .i64 x.id, u] 58)).alloc (.cells #[.slice none 0 0, .slice none 0 0, .slice none 0 0, .int .i64 0] 47) := ⟨_, rfl⟩
  have A0 : Bw w W0 := by rw [hW0]; exact (((Bw.refl w).alloc _).alloc _).alloc _
  have bS : Box W0 w.heap.size [.slice A n c, vb, .slice B m c4, .int .i64 s.tests] := by rw [hW0]; exact (Box.new w #[.slice A n c, vb, .slice B m c4, .int .i64 s.tests] 47).bw (((Bw.refl _).alloc _).alloc _)
  have bX : Box W0 (w.heap.size + 1) [.int .i64 x.id, u] := by
    have := Box.new (w.alloc (.cells #[.slice A n c, vb, .slice B m c4, .int .i64 s.tests] 47)) #[.int .i64 x.id, u] 58
    rw [show (w.alloc (.cells #[.slice A n c, vb, .slice B m c4, .int .i64 s.tests] 47)).heap.size = w.heap.size + 1 from by simp] at this
    rw [hW0]; exact this.bw ((Bw.refl _).alloc _)
  have bR : Box W0 (w.heap.size + 1 + 1) [.slice none 0 0, .slice none 0 0, .slice none 0 0, .int .i64 0] := by
    have := Box.new ((w.alloc (.cells #[.slice A n c, vb, .slice B m c4, .int .i64 s.tests] 47)).alloc (.cells #[.int .i64 x.id, u] 58)) #[.slice none 0 0, .slice none 0 0, .slice none 0 0, .int .i64 0] 47
    rw [show ((w.alloc (.cells #[.slice A n c, vb, .slice B m c4, .int .i64 s.tests] 47)).alloc (.cells #[.int .i64 x.id, u] 58)).heap.size = w.heap.size + 1 + 1 from by simp] at this
    rw [hW0]; exact this
  have z0 : W0.heap.size = w.heap.size + 3 := by rw [hW0]; simp
  have HW0 := Lib.hid hW0
  clear hW0
  have hcall := I_IsItem W0 x u (hx.bw rInts_good A0)
  go_enter Tryz.func34, Tryz.ntmps34
  go_wp2_with fail
  rw [← HW0.out]
  refine hcall.mono ?_
  rintro e w2 ⟨rfl, hb2⟩
  clear hcall
  rcases Bool.eq_false_or_eq_true (isItem x) with e1 | e1
  · have E1 := Lib.hid e1
    rw [e1]
    clear e1
    have bS2 := bS.bw hb2
    have bX2 := bX.bw hb2
    have y0 := bS2.c 0 _ rfl
    have y1 := bS2.c 1 _ rfl
    have y2 := bS2.c 2 _ rfl
    have y3 := bS2.c 3 _ rfl
    have yf := bS2.fr
    have z0 := bX2.c 0 _ rfl
    have z1 := bX2.c 1 _ rfl
    have zf := bX2.fr
    have hcall := I_DeleteItem w2 s x.id _ vb _ (ha.bw rItems_good (A0.then hb2)) (hb.bw rNodes_good (A0.then hb2)) (hc.bw rInts_good (A0.then hb2)) t1 t2 t3
    clear bS2 bX2
    go_wp2_with fail
    refine hcall.mono ?_
    rintro e w3 ⟨_, rfl, ⟨cs, rfl, ⟨G3, o3, f3⟩⟩, hb3⟩
    clear hcall
    obtain ⟨D, hD⟩ : ∃ D, D = delM s x.id := ⟨_, rfl⟩
    rw [← hD] at o3
    have hsm : smallSt D := by rw [hD]; exact delM_small ⟨t1, t2, t3⟩
    have HD := Lib.hid hD
    clear hD
    obtain ⟨A1, c1, A2, c2, A3, c3, rfl⟩ := fStanding_shape o3
    clear y0 y1 y2 y3 yf
    clear z0 z1 zf
    have AV := (Bw.refl w3).alloc (.cells #[.slice A1 D.items.length c1, .slice A2 D.wanted.length c2, .slice A3 D.best.length c3, .int .i64 D.tests] 47)
    have hB3 := (hb2.then hb3).then AV
    rcases Bool.eq_false_or_eq_true (delOk s x.id) with e2 | e2
    · have E2 := Lib.hid e2
      rw [e2]
      clear e2
      have bX3 := bX.bw hB3
      have bD3 := Box.new w3 #[.slice A1 D.items.length c1, .slice A2 D.wanted.length c2, .slice A3 D.best.length c3, .int .i64 D.tests] 47
      have z0 := bX3.c 0 _ rfl
      have z1 := bX3.c 1 _ rfl
      have zf := bX3.fr
      have d0 := bD3.c 0 _ rfl
      have d1 := bD3.c 1 _ rfl
      have d2 := bD3.c 2 _ rfl
      have d3 := bD3.c 3 _ rfl
      have df := bD3.fr
      obtain ⟨rd1, rd2, rd3, _⟩ := fStanding_Rds (keepBw AV fStanding_good o3)
      have hcall := I_InsertItem _ D x _ _ _ u rd1 rd2 rd3 (hx.bw rInts_good (A0.then hB3)) hsm.1 hsm.2.1 hsm.2.2
      clear rd1 rd2 rd3 bX3 bD3
      go_wp2_with fail
      refine hcall.mono ?_
      rintro e w4 ⟨_, rfl, ⟨cs, rfl, ⟨G4, o4, f4⟩⟩, hb4⟩
      clear hcall
      clear z0 z1 zf
      clear d0 d1 d2 d3 df
      obtain ⟨I, hI⟩ : ∃ I, I = insM D x := ⟨_, rfl⟩
      rw [← hI] at o4
      have HI := Lib.hid hI
      clear hI
      obtain ⟨B1, d1, B2, d2, B3, d3, rfl⟩ := fStanding_shape o4
      have bD4 := (Box.new w3 #[.slice A1 D.items.length c1, .slice A2 D.wanted.length c2, .slice A3 D.best.length c3, .int .i64 D.tests] 47).bw hb4
      have z3 := (hb2.then hb3).size
      have hB5 := hB3.then hb4
      have nG : w3.heap.size ∉ G4 := fun h => by have := f4.ge _ h; simp at this; omega
      obtain ⟨V2, hV2⟩ : ∃ V, V = (((w4.setCell ⟨w3.heap.size, 0, none⟩ (.slice B1 I.items.length d1)).setCell ⟨w3.heap.size, 1, none⟩ (.slice B2 I.wanted.length d2)).setCell ⟨w3.heap.size, 2, none⟩ (.slice B3 I.best.length d3)).setCell ⟨w3.heap.size, 3, none⟩ (.int .i64 I.tests) := ⟨_, rfl⟩
      have hB4 : Bw W0 V2 := by rw [hV2]; exact hB5.set4 z3
      have o5 : fStanding V2 I [.slice B1 I.items.length d1, .slice B2 I.wanted.length d2, .slice B3 I.best.length d3, .int .i64 I.tests] G4 := by rw [hV2]; exact keepSet4 fStanding_good o4 nG
      have bD5 : Box V2 w3.heap.size [.slice B1 I.items.length d1, .slice B2 I.wanted.length d2, .slice B3 I.best.length d3, .int .i64 I.tests] := by rw [hV2]; exact (((bD4.set (by simp) _).set (by simp) _).set (by simp) _).set (by simp) _
      have HV2 := Lib.hid hV2
      have k0 := bD4.c 0 _ rfl
      have k1 := bD4.c 1 _ rfl
      have k2 := bD4.c 2 _ rfl
      have k3 := bD4.c 3 _ rfl
      have kf := bD4.fr
      clear hV2 o4
      rcases Bool.eq_false_or_eq_true (insOk D x) with e3 | e3
      · have hok : chgOk s x = true := by unfold chgOk; rw [E1.out, E2.out, ← HD.out, e3]; rfl
        have HY := Lib.hid (show chgM s x = I by unfold chgM; rw [hok, ← HD.out, ← HI.out]; rfl)
        have HOK := Lib.hid hok
        rw [e3]
        clear e3 hok
        have bR4 := bR.bw hB4
        have BB := A0.then hB4
        have z4 := hB3.size
        obtain ⟨F1, F2, F3, o1, o2, o3', rfl⟩ := fStanding_parts o5
        go_upto_region 6 with fail
        rw [← HV2.out]
        clear k0 k1 k2 k3 kf
        have r0 := bR4.c 0 _ rfl
        have r1 := bR4.c 1 _ rfl
        have r2 := bR4.c 2 _ rfl
        have r3 := bR4.c 3 _ rfl
        have rf := bR4.fr
        have k0 := bD5.c 0 _ rfl
        have k1 := bD5.c 1 _ rfl
        have k2 := bD5.c 2 _ rfl
        have k3 := bD5.c 3 _ rfl
        have kf := bD5.fr
        clear o5 bD4 bR4 bD5
        go_wp2
        rw [HY.out, HOK.out]
        refine bodyPost_ret (v := .tuple #[.agg #[.slice B1 I.items.length d1, .slice B2 I.wanted.length d2, .slice B3 I.best.length d3, .int .i64 I.tests], .bool true]) (by simp [results, Tryz.results34, go_sem, r0, r1, r2, r3]) rfl (stand_ret o1 o2 o3' (f4.mono (by omega)) (by omega) BB)
      · have hno : chgOk s x = false := by unfold chgOk; rw [← HD.out, e3]; simp
        rw [e3]
        clear e3
        go_upto_region 6 with fail
        rw [← HV2.out]
        clear k0 k1 k2 k3 kf
        have HNO := Lib.hid (show chgM s x = s by unfold chgM; rw [hno]; rfl)
        have HNO2 := Lib.hid hno
        clear hno
        have bS9 := bS.bw hB4
        have y0 := bS9.c 0 _ rfl
        have y1 := bS9.c 1 _ rfl
        have y2 := bS9.c 2 _ rfl
        have y3 := bS9.c 3 _ rfl
        have yf := bS9.fr
        have hcall := I_copyStanding _ s _ vb _ (ha.bw rItems_good (A0.then hB4)) (hb.bw rNodes_good (A0.then hB4)) (hc.bw rInts_good (A0.then hB4)) t1 t2 t3
        clear bS9
        go_wp2_with fail
        refine hcall.mono ?_
        rintro e w9 ⟨cs, F9, rfl, o9, f9, hb9⟩
        obtain ⟨A1, c1, A2, c2, A3, c3, rfl⟩ := fStanding_shape o9
        obtain ⟨F1, F2, F3, o1, o2, o3, rfl⟩ := fStanding_parts o9
        clear y0 y1 y2 y3 yf
        have bR9 := bR.bw (hB4.then hb9)
        have BB := A0.then (hB4.then hb9)
        have zB := (hB4).size
        clear hcall o9
        have r0 := bR9.c 0 _ rfl
        have r1 := bR9.c 1 _ rfl
        have r2 := bR9.c 2 _ rfl
        have r3 := bR9.c 3 _ rfl
        have rf := bR9.fr
        go_wp2
        rw [HNO.out, HNO2.out]
        refine bodyPost_ret (v := .tuple #[.agg #[.slice A1 s.items.length c1, .slice A2 s.wanted.length c2, .slice A3 s.best.length c3, .int .i64 s.tests], .bool false]) (by simp [results, Tryz.results34, go_sem, r0, r1, r2, r3]) rfl (stand_ret o1 o2 o3 (f9.mono (by omega)) (by omega) BB)
    · have hno : chgOk s x = false := by unfold chgOk; rw [e2]; simp
      rw [e2]
      clear e2
      have HNO := Lib.hid (show chgM s x = s by unfold chgM; rw [hno]; rfl)
      have HNO2 := Lib.hid hno
      clear hno
      have bS9 := bS.bw hB3
      have y0 := bS9.c 0 _ rfl
      have y1 := bS9.c 1 _ rfl
      have y2 := bS9.c 2 _ rfl
      have y3 := bS9.c 3 _ rfl
      have yf := bS9.fr
      have hcall := I_copyStanding _ s _ vb _ (ha.bw rItems_good (A0.then hB3)) (hb.bw rNodes_good (A0.then hB3)) (hc.bw rInts_good (A0.then hB3)) t1 t2 t3
      clear bS9
      go_wp2_with fail
      refine hcall.mono ?_
      rintro e w9 ⟨cs, F9, rfl, o9, f9, hb9⟩
      obtain ⟨A1, c1, A2, c2, A3, c3, rfl⟩ := fStanding_shape o9
      obtain ⟨F1, F2, F3, o1, o2, o3, rfl⟩ := fStanding_parts o9
      clear y0 y1 y2 y3 yf
      have bR9 := bR.bw (hB3.then hb9)
      have BB := A0.then (hB3.then hb9)
      have zB := (hB3).size
      clear hcall o9
      have r0 := bR9.c 0 _ rfl
      have r1 := bR9.c 1 _ rfl
      have r2 := bR9.c 2 _ rfl
      have r3 := bR9.c 3 _ rfl
      have rf := bR9.fr
      go_wp2
      rw [HNO.out, HNO2.out]
      refine bodyPost_ret (v := .tuple #[.agg #[.slice A1 s.items.length c1, .slice A2 s.wanted.length c2, .slice A3 s.best.length c3, .int .i64 s.tests], .bool false]) (by simp [results, Tryz.results34, go_sem, r0, r1, r2, r3]) rfl (stand_ret o1 o2 o3 (f9.mono (by omega)) (by omega) BB)
  · have hno : chgOk s x = false := by unfold chgOk; rw [e1]; rfl
    rw [e1]
    clear e1
    have HNO := Lib.hid (show chgM s x = s by unfold chgM; rw [hno]; rfl)
    have HNO2 := Lib.hid hno
    clear hno
    have bS9 := bS.bw hb2
    have y0 := bS9.c 0 _ rfl
    have y1 := bS9.c 1 _ rfl
    have y2 := bS9.c 2 _ rfl
    have y3 := bS9.c 3 _ rfl
    have yf := bS9.fr
    have hcall := I_copyStanding _ s _ vb _ (ha.bw rItems_good (A0.then hb2)) (hb.bw rNodes_good (A0.then hb2)) (hc.bw rInts_good (A0.then hb2)) t1 t2 t3
    clear bS9
    go_wp2_with fail
    refine hcall.mono ?_
    rintro e w9 ⟨cs, F9, rfl, o9, f9, hb9⟩
    obtain ⟨A1, c1, A2, c2, A3, c3, rfl⟩ := fStanding_shape o9
    obtain ⟨F1, F2, F3, o1, o2, o3, rfl⟩ := fStanding_parts o9
    clear y0 y1 y2 y3 yf
    have bR9 := bR.bw (hb2.then hb9)
    have BB := A0.then (hb2.then hb9)
    have zB := (hb2).size
    clear hcall o9
    have r0 := bR9.c 0 _ rfl
    have r1 := bR9.c 1 _ rfl
    have r2 := bR9.c 2 _ rfl
    have r3 := bR9.c 3 _ rfl
    have rf := bR9.fr
    go_wp2
    rw [HNO.out, HNO2.out]
    refine bodyPost_ret (v := .tuple #[.agg #[.slice A1 s.items.length c1, .slice A2 s.wanted.length c2, .slice A3 s.best.length c3, .int .i64 s.tests], .bool false]) (by simp [results, Tryz.results34, go_sem, r0, r1, r2, r3]) rfl (stand_ret o1 o2 o3 (f9.mono (by omega)) (by omega) BB)
end Go.Proofs.YtfffklkiikmieaaGreat

namespace Go.Proofs.YtfffklkiikmieaaGreat
open Go.RowKit
set_option linter.unusedVariables false
theorem boxNot {W : World} {b : Nat} {vs : List Value} {F : List Nat} (h : Box W b vs) (f : Fresh W.heap.size F) : b ∉ F := fun hm => by have := f.ge b hm; have := h.lt; omega
theorem cell_far' {W : World} {b c o k : Nat} {x u : Value} (h : b ≠ c) (hc : W.cell? ⟨b, k, none⟩ = some x) : (W.setCell ⟨c, o, none⟩ u).cell? ⟨b, k, none⟩ = some x := (World.cell?_of_block (Below.heap_setCell _ _ _ _ h)).trans hc
theorem far4 {W : World} {c b n o : Nat} {x a0 a1 a2 a3 : Value} (hc : c < n) (hb : n ≤ b) (h : W.cell? ⟨c, o, none⟩ = some x) : ((((W.setCell ⟨b, 0, none⟩ a0).setCell ⟨b, 1, none⟩ a1).setCell ⟨b, 2, none⟩ a2).setCell ⟨b, 3, none⟩ a3).cell? ⟨c, o, none⟩ = some x := by
  have hne : c ≠ b := by omega
  exact cell_far' hne (cell_far' hne (cell_far' hne (cell_far' hne h)))
theorem Box.four {W : World} {b : Nat} {x0 x1 x2 x3 : Value} (h : Box W b [x0, x1, x2, x3]) (a0 a1 a2 a3 : Value) : Box ((((W.setCell ⟨b, 0, none⟩ a0).setCell ⟨b, 1, none⟩ a1).setCell ⟨b, 2, none⟩ a2).setCell ⟨b, 3, none⟩ a3) b [a0, a1, a2, a3] :=
  (((h.set (by simp) a0).set (by simp) a1).set (by simp) a2).set (by simp) a3
theorem block_lt {W : World} {c o : Nat} {x : Value} (h : W.cell? ⟨c, o, none⟩ = some x) : c < W.heap.size := World.block_lt_of_cell? _ _ h
end Go.Proofs.YtfffklkiikmieaaGreat

namespace Go.Proofs.YtfffklkiikmieaaGreat
open Go.RowKit
set_option linter.unusedVariables false
set_option maxHeartbeats 800000 in
theorem L_markItem (w0 w : World) (x : GItem) (v : Value) (F : List Nat) (k : Nat) (hv : fInts w x.vals [v] F) (hF : Fresh w0.heap.size F) (hb : Bw w0 w) (hn : x.vals.length ≤ 1048576) (hk : k ≤ 8388608) :
    Calls Tryz.prog 32 #[.agg #[.int .i64 x.id, v], .int .i64 k] w (RetM fInts w0 w (mkInts x.vals k) v F (k + x.vals.length)) := by
  have B0 := hb.alloc (.cells #[.int .i64 x.id, v] 58)
  have hv1 := (fInts_good (B := w0.heap.size)).bw ((Bw.refl w).alloc (.cells #[.int .i64 x.id, v] 58)) hb.size hv
  have O0 := Only.alloc F w (.cells #[.int .i64 x.id, v] 58)
  have hcall := L_markIntS w0 _ x.vals v F k hv1 hF B0 hn hk
  go_enter Tryz.func32, Tryz.ntmps32
  go_wp2_with fail
  refine hcall.mono ?_
  rintro e w1 ⟨rfl, h1, hO, hb1⟩
  have hO' := O0.then hO (fun _ h => h)
  go_wp2
  go_ret
  exact ⟨rfl, h1, hO', hb1⟩
end Go.Proofs.YtfffklkiikmieaaGreat
