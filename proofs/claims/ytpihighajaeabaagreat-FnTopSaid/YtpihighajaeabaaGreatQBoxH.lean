/- A box that is made somewhere in a region that draws its order. -/
import Derived.Test.YtpihighajaeabaaGreatQDelS2
import Derived.Test.YtpihighajaeabaaGreatQDelI3
import Derived.Test.YtpihighajaeabaaGreatQExclI
import Derived.Test.YtpihighajaeabaaGreatQHoles
import Derived.Test.YtpihighajaeabaaGreatQSortU
import Derived.Test.YtpihighajaeabaaGreatQDelM
import Derived.Test.YtpihighajaeabaaGreatQStandP
import Derived.Deep.Cut
import Derived.Test.YtpihighajaeabaaGreatQStanding
import Derived.Test.YtpihighajaeabaaGreatProg
import Derived.Test.YtpihighajaeabaaGreatQOwn
import Derived.Deep.Slices
import Derived.OpenShut
import Derived.ShutString
import Derived.ChangeOld
import Derived.Carry
import Derived.Test.YtpihighajaeabaaGreatQDrawD
import Derived.Test.YtpihighajaeabaaGreatQRuleR
namespace Go.Proofs.YtpihighajaeabaaGreat
open Go.RowKit
set_option linter.unusedVariables false
theorem I_DeleteItem (w : World) (s : GStanding) (id : Int) (va vb vc : Value) (ha : Rd rItems w s.items [va]) (hb : Rd rNodes w s.wanted [vb]) (hc : Rd rInts w s.best [vc]) (t1 : totItems s.items ≤ 1048576) (t2 : totNodes s.wanted ≤ 1048576) (t3 : s.best.length ≤ 1048576) :
    Calls Tryz.prog 18 #[.agg #[va, vb, vc, .int .i64 s.tests], .int .i64 id] w (RetV w (TwoA fStanding w.heap.size (delM s id) (.bool (delOk s id)))) := by
  cases h : delOk s id with
  | true =>
    rw [show delM s id = delS s id by unfold delM; rw [h]; rfl]
    cases h2 : s.best.contains id with
    | true => exact I_DeleteItem_in w s id va vb vc ha hb hc t1 t2 t3 h h2
    | false => exact I_DeleteItem_out w s id va vb vc ha hb hc t1 t2 t3 h h2
  | false => rw [show delM s id = s by unfold delM; rw [h]; rfl]; exact I_DeleteItem_no w s id va vb vc ha hb hc t1 t2 t3 h
theorem sum_constB {α : Type} (f : α → Nat) (n : Nat) : ∀ {l : List α}, (∀ x ∈ l, f x = n) → sumL f l = l.length * n
  | [], _ => by simp [sumL]
  | a :: l, h => by
    have h1 := sum_constB f n (l := l) (fun x hx => h x (by simp [hx]))
    have h2 := h a (by simp)
    simp only [sumL, List.length_cons, h1, h2, Nat.succ_mul]; omega
theorem items_small {l : List GItem} (h : areItems l = true) : totItems l ≤ 64 := by
  have h2 := sum_constB (fun y : GItem => y.vals.length) 3 (fun y hy => isItem_len (areItems_mem h hy))
  have h3 := areItems_len h
  unfold totItems
  rw [h2]; omega
theorem delM_small {s : GStanding} {id : Int} (h : smallSt s) : smallSt (delM s id) := by
  unfold delM
  split
  · rename_i hok
    obtain ⟨E1, _, _⟩ := delOk_parts hok
    have hI := areBoth_items (stand_both E1).1
    have hl := stand_best_len E1
    have h4 := items_small (onlyM_items hI [id] false)
    have h5 := delLeft_len s id
    have h6 := delNew_len hI id
    unfold delS
    split
    · refine ⟨by dsimp only; omega, h.2.1, ?_⟩
      dsimp only
      rw [sortI_len, List.length_append]; omega
    · exact ⟨by dsimp only; omega, h.2.1, h.2.2⟩
  · exact h
end Go.Proofs.YtpihighajaeabaaGreat

namespace Go.Proofs.YtpihighajaeabaaGreat
open Go.RowKit
set_option linter.unusedVariables false
set_option linter.unusedSimpArgs false
def chgOk (s : GStanding) (x : GItem) : Bool := isItem x && (delOk s x.id && insOk (delM s x.id) x)
def chgM (s : GStanding) (x : GItem) : GStanding := if chgOk s x then insM (delM s x.id) x else s
end Go.Proofs.YtpihighajaeabaaGreat

namespace Go.Proofs.YtpihighajaeabaaGreat
open Go.RowKit
set_option linter.unusedVariables false
set_option linter.unusedSimpArgs false
/-- a drawn standing: small, and either valid or without best items -/
def okSt (s : GStanding) : Prop := smallSt s ∧ (isStand s = true ∨ s.best = [])
theorem okSt.len {s : GStanding} (h : okSt s) : s.best.length ≤ 16 := by
  rcases h.2 with h | h
  · exact stand_best_len h
  · rw [h]; simp
theorem okSt.new {l : List GItem} {e : List GNode} (h1 : totItems l ≤ 1048576) (h2 : totNodes e ≤ 1048576) : okSt (newSt l e) := by
  refine ⟨newSt_small h1 h2, ?_⟩
  cases h : areBoth l e with
  | true =>
    rw [newSt_yes h]
    exact .inl (stand_mk (areBoth_items h) (areBoth_expr h) (best_both h).symm ⟨by simp, by simp⟩)
  | false =>
    rw [newSt_no h]
    exact .inr rfl
end Go.Proofs.YtpihighajaeabaaGreat

namespace Go.Proofs.YtpihighajaeabaaGreat
open Go.RowKit
set_option linter.unusedVariables false
set_option linter.unusedSimpArgs false
end Go.Proofs.YtpihighajaeabaaGreat

namespace Go.Proofs.YtpihighajaeabaaGreat
open Go.RowKit
set_option linter.unusedVariables false
set_option linter.unusedSimpArgs false
end Go.Proofs.YtpihighajaeabaaGreat

namespace Go.Proofs.YtpihighajaeabaaGreat
open Go.RowKit
set_option linter.unusedVariables false
set_option linter.unusedSimpArgs false
set_option maxHeartbeats 1600000 in
theorem D_DrawBestItems (w : World) (xs : List Int) (v : Value) (h : Rd rBytes w xs [v]) (hx : wfBytes xs) : Calls Tryz.prog 29 #[v] w fun e W =>
    ∃ va ve, e = .returned (.tuple #[va, ve]) ∧ T rItems (gItems 8) W va ∧ T rNodes (gNodes 8) W ve ∧ Bw w W := by
  have hcall0 := D_l1New w xs v h hx
  clear h
  go_enter Tryz.func29, Tryz.ntmps29
  go_wp2_with fail
  refine hcall0.mono ?_
  rintro e w1 ⟨p, rfl, hA1⟩
  clear hcall0
  have hcall := D_l7Draw w w1 p hA1
  go_wp2_with fail
  refine hcall.mono ?_
  rintro e w2 ⟨u2, rfl, ⟨va, ve, rfl, ha, he⟩, hO2, hA2⟩
  clear hcall
  go_wp2
  refine bodyPost_ret (v := .tuple #[va, ve]) (by simp [results, Tryz.results29, go_sem]) rfl ?_
  exact ⟨_, _, rfl, ha.rd rItems_good, he.rd rNodes_good, hA2.bw⟩
end Go.Proofs.YtpihighajaeabaaGreat

namespace Go.Proofs.YtpihighajaeabaaGreat
open Go.RowKit
set_option linter.unusedVariables false
set_option linter.unusedSimpArgs false
set_option maxRecDepth 100000 in
set_option maxHeartbeats 6400000 in
theorem I_ChangeItem (w : World) (s : GStanding) (x : GItem) (va vb vc u : Value) (ha : Rd rItems w s.items [va]) (hb : Rd rNodes w s.wanted [vb]) (hc : Rd rInts w s.best [vc]) (hx : Rd rInts w x.vals [u]) (t1 : totItems s.items ≤ 1048576) (t2 : totNodes s.wanted ≤ 1048576) (t3 : s.best.length ≤ 1048576) :
    Calls Tryz.prog 13 #[.agg #[va, vb, vc, .int .i64 s.tests], .agg #[.int .i64 x.id, u]] w (RetV w (TwoA fStanding w.heap.size (chgM s x) (.bool (chgOk s x)))) := by
  obtain ⟨A, n, c, rfl, L0, Lc, Lm⟩ := rSl_open ha
  unfold maxLen at Lm
  have L := Lib.hid L0
  clear L0
  obtain ⟨B, m, c4, rfl, M0, Mc, Mm⟩ := rSl_open hc
  unfold maxLen at Mm
  have M := Lib.hid M0
  clear M0
  obtain ⟨W0, hW0⟩ : ∃ W0, W0 = ((w.alloc (.cells #[.slice A n c, vb, .slice B m c4, .int .i64 s.tests] 28)).alloc (.cells #[.int .i64 x.id, u] 30)).alloc (.cells #[.slice none 0 0, .slice none 0 0, .slice none 0 0, .int .i64 0] 28) := ⟨_, rfl⟩
  have A0 : Bw w W0 := by rw [hW0]; exact (((Bw.refl w).alloc _).alloc _).alloc _
  have bS : Box W0 w.heap.size [.slice A n c, vb, .slice B m c4, .int .i64 s.tests] := by rw [hW0]; exact (Box.new w #[.slice A n c, vb, .slice B m c4, .int .i64 s.tests] 28).bw (((Bw.refl _).alloc _).alloc _)
  have bX : Box W0 (w.heap.size + 1) [.int .i64 x.id, u] := by
    have := Box.new (w.alloc (.cells #[.slice A n c, vb, .slice B m c4, .int .i64 s.tests] 28)) #[.int .i64 x.id, u] 30
    rw [show (w.alloc (.cells #[.slice A n c, vb, .slice B m c4, .int .i64 s.tests] 28)).heap.size = w.heap.size + 1 from by simp] at this
    rw [hW0]; exact this.bw ((Bw.refl _).alloc _)
  have bR : Box W0 (w.heap.size + 1 + 1) [.slice none 0 0, .slice none 0 0, .slice none 0 0, .int .i64 0] := by
    have := Box.new ((w.alloc (.cells #[.slice A n c, vb, .slice B m c4, .int .i64 s.tests] 28)).alloc (.cells #[.int .i64 x.id, u] 30)) #[.slice none 0 0, .slice none 0 0, .slice none 0 0, .int .i64 0] 28
    rw [show ((w.alloc (.cells #[.slice A n c, vb, .slice B m c4, .int .i64 s.tests] 28)).alloc (.cells #[.int .i64 x.id, u] 30)).heap.size = w.heap.size + 1 + 1 from by simp] at this
    rw [hW0]; exact this
  have z0 : W0.heap.size = w.heap.size + 3 := by rw [hW0]; simp
  have HW0 := Lib.hid hW0
  clear hW0
  have hcall := I_IsItem W0 x u (hx.bw rInts_good A0)
  go_enter Tryz.func13, Tryz.ntmps13
  go_wp2_with fail
  rw [← HW0.out]
  refine hcall.mono ?_
  rintro e w2 ⟨rfl, hb2⟩
  clear hcall
  rcases Bool.eq_false_or_eq_true (isItem x) with e1 | e1
  · have E1 := Lib.hid e1
    rw [e1]
    clear e1
    have bS2 := bS.bw hb2
    have bX2 := bX.bw hb2
    have y0 := bS2.c 0 _ rfl
    have y1 := bS2.c 1 _ rfl
    have y2 := bS2.c 2 _ rfl
    have y3 := bS2.c 3 _ rfl
    have yf := bS2.fr
    have z0 := bX2.c 0 _ rfl
    have z1 := bX2.c 1 _ rfl
    have zf := bX2.fr
    have hcall := I_DeleteItem w2 s x.id _ vb _ (ha.bw rItems_good (A0.then hb2)) (hb.bw rNodes_good (A0.then hb2)) (hc.bw rInts_good (A0.then hb2)) t1 t2 t3
    clear bS2 bX2
    go_wp2_with fail
    refine hcall.mono ?_
    rintro e w3 ⟨_, rfl, ⟨cs, rfl, ⟨G3, o3, f3⟩⟩, hb3⟩
    clear hcall
    obtain ⟨D, hD⟩ : ∃ D, D = delM s x.id := ⟨_, rfl⟩
    rw [← hD] at o3
    have hsm : smallSt D := by rw [hD]; exact delM_small ⟨t1, t2, t3⟩
    have HD := Lib.hid hD
    clear hD
    obtain ⟨A1, c1, A2, c2, A3, c3, rfl⟩ := fStanding_shape o3
    clear y0 y1 y2 y3 yf
    clear z0 z1 zf
    have AV := (Bw.refl w3).alloc (.cells #[.slice A1 D.items.length c1, .slice A2 D.wanted.length c2, .slice A3 D.best.length c3, .int .i64 D.tests] 28)
    have hB3 := (hb2.then hb3).then AV
    rcases Bool.eq_false_or_eq_true (delOk s x.id) with e2 | e2
    · have E2 := Lib.hid e2
      rw [e2]
      clear e2
      have bX3 := bX.bw hB3
      have bD3 := Box.new w3 #[.slice A1 D.items.length c1, .slice A2 D.wanted.length c2, .slice A3 D.best.length c3, .int .i64 D.tests] 28
      have z0 := bX3.c 0 _ rfl
      have z1 := bX3.c 1 _ rfl
      have zf := bX3.fr
      have d0 := bD3.c 0 _ rfl
      have d1 := bD3.c 1 _ rfl
      have d2 := bD3.c 2 _ rfl
      have d3 := bD3.c 3 _ rfl
      have df := bD3.fr
      obtain ⟨rd1, rd2, rd3, _⟩ := fStanding_Rds (keepBw AV fStanding_good o3)
      have hcall := I_InsertItem _ D x _ _ _ u rd1 rd2 rd3 (hx.bw rInts_good (A0.then hB3)) hsm.1 hsm.2.1 hsm.2.2
      clear rd1 rd2 rd3 bX3 bD3
      go_wp2_with fail
      refine hcall.mono ?_
      rintro e w4 ⟨_, rfl, ⟨cs, rfl, ⟨G4, o4, f4⟩⟩, hb4⟩
      clear hcall
      clear z0 z1 zf
      clear d0 d1 d2 d3 df
      obtain ⟨I, hI⟩ : ∃ I, I = insM D x := ⟨_, rfl⟩
      rw [← hI] at o4
      have HI := Lib.hid hI
      clear hI
      obtain ⟨B1, d1, B2, d2, B3, d3, rfl⟩ := fStanding_shape o4
      have bD4 := (Box.new w3 #[.slice A1 D.items.length c1, .slice A2 D.wanted.length c2, .slice A3 D.best.length c3, .int .i64 D.tests] 28).bw hb4
      have z3 := (hb2.then hb3).size
      have hB5 := hB3.then hb4
      have nG : w3.heap.size ∉ G4 := fun h => by have := f4.ge _ h; simp at this; omega
      obtain ⟨V2, hV2⟩ : ∃ V, V = (((w4.setCell ⟨w3.heap.size, 0, none⟩ (.slice B1 I.items.length d1)).setCell ⟨w3.heap.size, 1, none⟩ (.slice B2 I.wanted.length d2)).setCell ⟨w3.heap.size, 2, none⟩ (.slice B3 I.best.length d3)).setCell ⟨w3.heap.size, 3, none⟩ (.int .i64 I.tests) := ⟨_, rfl⟩
      have hB4 : Bw W0 V2 := by rw [hV2]; exact hB5.set4 z3
      have o5 : fStanding V2 I [.slice B1 I.items.length d1, .slice B2 I.wanted.length d2, .slice B3 I.best.length d3, .int .i64 I.tests] G4 := by rw [hV2]; exact keepSet4 fStanding_good o4 nG
      have bD5 : Box V2 w3.heap.size [.slice B1 I.items.length d1, .slice B2 I.wanted.length d2, .slice B3 I.best.length d3, .int .i64 I.tests] := by rw [hV2]; exact (((bD4.set (by simp) _).set (by simp) _).set (by simp) _).set (by simp) _
      have HV2 := Lib.hid hV2
      have k0 := bD4.c 0 _ rfl
      have k1 := bD4.c 1 _ rfl
      have k2 := bD4.c 2 _ rfl
      have k3 := bD4.c 3 _ rfl
      have kf := bD4.fr
      clear hV2 o4
      rcases Bool.eq_false_or_eq_true (insOk D x) with e3 | e3
      · have hok : chgOk s x = true := by unfold chgOk; rw [E1.out, E2.out, ← HD.out, e3]; rfl
        have HY := Lib.hid (show chgM s x = I by unfold chgM; rw [hok, ← HD.out, ← HI.out]; rfl)
        have HOK := Lib.hid hok
        rw [e3]
        clear e3 hok
        have bR4 := bR.bw hB4
        have BB := A0.then hB4
        have z4 := hB3.size
        obtain ⟨F1, F2, F3, o1, o2, o3', rfl⟩ := fStanding_parts o5
        go_upto_region 6 with fail
        rw [← HV2.out]
        clear k0 k1 k2 k3 kf
        have r0 := bR4.c 0 _ rfl
        have r1 := bR4.c 1 _ rfl
        have r2 := bR4.c 2 _ rfl
        have r3 := bR4.c 3 _ rfl
        have rf := bR4.fr
        have k0 := bD5.c 0 _ rfl
        have k1 := bD5.c 1 _ rfl
        have k2 := bD5.c 2 _ rfl
        have k3 := bD5.c 3 _ rfl
        have kf := bD5.fr
        clear o5 bD4 bR4 bD5
        go_wp2
        rw [HY.out, HOK.out]
        refine bodyPost_ret (v := .tuple #[.agg #[.slice B1 I.items.length d1, .slice B2 I.wanted.length d2, .slice B3 I.best.length d3, .int .i64 I.tests], .bool true]) (by simp [results, Tryz.results13, go_sem, r0, r1, r2, r3]) rfl (stand_ret o1 o2 o3' (f4.mono (by omega)) (by omega) BB)
      · have hno : chgOk s x = false := by unfold chgOk; rw [← HD.out, e3]; simp
        rw [e3]
        clear e3
        go_upto_region 6 with fail
        rw [← HV2.out]
        clear k0 k1 k2 k3 kf
        have HNO := Lib.hid (show chgM s x = s by unfold chgM; rw [hno]; rfl)
        have HNO2 := Lib.hid hno
        clear hno
        have bS9 := bS.bw hB4
        have y0 := bS9.c 0 _ rfl
        have y1 := bS9.c 1 _ rfl
        have y2 := bS9.c 2 _ rfl
        have y3 := bS9.c 3 _ rfl
        have yf := bS9.fr
        have hcall := I_copyStanding _ s _ vb _ (ha.bw rItems_good (A0.then hB4)) (hb.bw rNodes_good (A0.then hB4)) (hc.bw rInts_good (A0.then hB4)) t1 t2 t3
        clear bS9
        go_wp2_with fail
        refine hcall.mono ?_
        rintro e w9 ⟨cs, F9, rfl, o9, f9, hb9⟩
        obtain ⟨A1, c1, A2, c2, A3, c3, rfl⟩ := fStanding_shape o9
        obtain ⟨F1, F2, F3, o1, o2, o3, rfl⟩ := fStanding_parts o9
        clear y0 y1 y2 y3 yf
        have bR9 := bR.bw (hB4.then hb9)
        have BB := A0.then (hB4.then hb9)
        have zB := (hB4).size
        clear hcall o9
        have r0 := bR9.c 0 _ rfl
        have r1 := bR9.c 1 _ rfl
        have r2 := bR9.c 2 _ rfl
        have r3 := bR9.c 3 _ rfl
        have rf := bR9.fr
        go_wp2
        rw [HNO.out, HNO2.out]
        refine bodyPost_ret (v := .tuple #[.agg #[.slice A1 s.items.length c1, .slice A2 s.wanted.length c2, .slice A3 s.best.length c3, .int .i64 s.tests], .bool false]) (by simp [results, Tryz.results13, go_sem, r0, r1, r2, r3]) rfl (stand_ret o1 o2 o3 (f9.mono (by omega)) (by omega) BB)
    · have hno : chgOk s x = false := by unfold chgOk; rw [e2]; simp
      rw [e2]
      clear e2
      have HNO := Lib.hid (show chgM s x = s by unfold chgM; rw [hno]; rfl)
      have HNO2 := Lib.hid hno
      clear hno
      have bS9 := bS.bw hB3
      have y0 := bS9.c 0 _ rfl
      have y1 := bS9.c 1 _ rfl
      have y2 := bS9.c 2 _ rfl
      have y3 := bS9.c 3 _ rfl
      have yf := bS9.fr
      have hcall := I_copyStanding _ s _ vb _ (ha.bw rItems_good (A0.then hB3)) (hb.bw rNodes_good (A0.then hB3)) (hc.bw rInts_good (A0.then hB3)) t1 t2 t3
      clear bS9
      go_wp2_with fail
      refine hcall.mono ?_
      rintro e w9 ⟨cs, F9, rfl, o9, f9, hb9⟩
      obtain ⟨A1, c1, A2, c2, A3, c3, rfl⟩ := fStanding_shape o9
      obtain ⟨F1, F2, F3, o1, o2, o3, rfl⟩ := fStanding_parts o9
      clear y0 y1 y2 y3 yf
      have bR9 := bR.bw (hB3.then hb9)
      have BB := A0.then (hB3.then hb9)
      have zB := (hB3).size
      clear hcall o9
      have r0 := bR9.c 0 _ rfl
      have r1 := bR9.c 1 _ rfl
      have r2 := bR9.c 2 _ rfl
      have r3 := bR9.c 3 _ rfl
      have rf := bR9.fr
      go_wp2
      rw [HNO.out, HNO2.out]
      refine bodyPost_ret (v := .tuple #[.agg #[.slice A1 s.items.length c1, .slice A2 s.wanted.length c2, .slice A3 s.best.length c3, .int .i64 s.tests], .bool false]) (by simp [results, Tryz.results13, go_sem, r0, r1, r2, r3]) rfl (stand_ret o1 o2 o3 (f9.mono (by omega)) (by omega) BB)
  · have hno : chgOk s x = false := by unfold chgOk; rw [e1]; rfl
    rw [e1]
    clear e1
    have HNO := Lib.hid (show chgM s x = s by unfold chgM; rw [hno]; rfl)
    have HNO2 := Lib.hid hno
    clear hno
    have bS9 := bS.bw hb2
    have y0 := bS9.c 0 _ rfl
    have y1 := bS9.c 1 _ rfl
    have y2 := bS9.c 2 _ rfl
    have y3 := bS9.c 3 _ rfl
    have yf := bS9.fr
    have hcall := I_copyStanding _ s _ vb _ (ha.bw rItems_good (A0.then hb2)) (hb.bw rNodes_good (A0.then hb2)) (hc.bw rInts_good (A0.then hb2)) t1 t2 t3
    clear bS9
    go_wp2_with fail
    refine hcall.mono ?_
    rintro e w9 ⟨cs, F9, rfl, o9, f9, hb9⟩
    obtain ⟨A1, c1, A2, c2, A3, c3, rfl⟩ := fStanding_shape o9
    obtain ⟨F1, F2, F3, o1, o2, o3, rfl⟩ := fStanding_parts o9
    clear y0 y1 y2 y3 yf
    have bR9 := bR.bw (hb2.then hb9)
    have BB := A0.then (hb2.then hb9)
    have zB := (hb2).size
    clear hcall o9
    have r0 := bR9.c 0 _ rfl
    have r1 := bR9.c 1 _ rfl
    have r2 := bR9.c 2 _ rfl
    have r3 := bR9.c 3 _ rfl
    have rf := bR9.fr
    go_wp2
    rw [HNO.out, HNO2.out]
    refine bodyPost_ret (v := .tuple #[.agg #[.slice A1 s.items.length c1, .slice A2 s.wanted.length c2, .slice A3 s.best.length c3, .int .i64 s.tests], .bool false]) (by simp [results, Tryz.results13, go_sem, r0, r1, r2, r3]) rfl (stand_ret o1 o2 o3 (f9.mono (by omega)) (by omega) BB)
end Go.Proofs.YtpihighajaeabaaGreat

namespace Go.Proofs.YtpihighajaeabaaGreat
open Go.RowKit
set_option linter.unusedVariables false
set_option linter.unusedSimpArgs false
/-- a standing in a box, to be read -/
structure StB (W : World) (b : Nat) (s : GStanding) (A1 : Option Addr) (n1 c1 : Nat) (A2 : Option Addr) (n2 c2 : Nat) (A3 : Option Addr) (n3 c3 : Nat) : Prop where
  bx : Box W b [.slice A1 n1 c1, .slice A2 n2 c2, .slice A3 n3 c3, .int .i64 s.tests]
  i : Rd rItems W s.items [.slice A1 n1 c1]
  e : Rd rNodes W s.wanted [.slice A2 n2 c2]
  b : Rd rInts W s.best [.slice A3 n3 c3]
  sm : smallSt s
section
variable {W W' : World} {b b' : Nat} {s s' : GStanding} {A1 A2 A3 B1 B2 B3 : Option Addr} {n1 c1 n2 c2 n3 c3 m1 d1 m2 d2 m3 d3 : Nat}
theorem StB.bw (h : StB W b s A1 n1 c1 A2 n2 c2 A3 n3 c3) (hb : Bw W W') : StB W' b s A1 n1 c1 A2 n2 c2 A3 n3 c3 :=
  ⟨h.bx.bw hb, h.i.bw rItems_good hb, h.e.bw rNodes_good hb, h.b.bw rInts_good hb, h.sm⟩
theorem StB.rd {va vb vc : Value} (ha : Rd rItems W s.items [va]) (hb : Rd rNodes W s.wanted [vb]) (hc : Rd rInts W s.best [vc]) (sm : smallSt s) : ∃ A1 n1 c1 A2 n2 c2 A3 n3 c3, va = .slice A1 n1 c1 ∧ vb = .slice A2 n2 c2 ∧ vc = .slice A3 n3 c3 ∧
    StB (W.alloc (.cells #[.slice A1 n1 c1, .slice A2 n2 c2, .slice A3 n3 c3, .int .i64 s.tests] 28)) W.heap.size s A1 n1 c1 A2 n2 c2 A3 n3 c3 := by
  obtain ⟨A1, n1, c1, rfl, _⟩ := rSl_open ha
  obtain ⟨A2, n2, c2, rfl, _⟩ := rSl_open hb
  obtain ⟨A3, n3, c3, rfl, _⟩ := rSl_open hc
  have hA := (Bw.refl W).alloc (.cells #[.slice A1 n1 c1, .slice A2 n2 c2, .slice A3 n3 c3, .int .i64 s.tests] 28)
  exact ⟨A1, n1, c1, A2, n2, c2, A3, n3, c3, rfl, rfl, rfl, Box.new W _ _, ha.bw rItems_good hA, hb.bw rNodes_good hA, hc.bw rInts_good hA, sm⟩
theorem StB.of {cs : List Value} {F : List Nat} (o : fStanding W s cs F) (sm : smallSt s) : ∃ A1 n1 c1 A2 n2 c2 A3 n3 c3, cs = [.slice A1 n1 c1, .slice A2 n2 c2, .slice A3 n3 c3, .int .i64 s.tests] ∧
    StB (W.alloc (.cells #[.slice A1 n1 c1, .slice A2 n2 c2, .slice A3 n3 c3, .int .i64 s.tests] 28)) W.heap.size s A1 n1 c1 A2 n2 c2 A3 n3 c3 := by
  obtain ⟨A1, c1, A2, c2, A3, c3, rfl⟩ := fStanding_shape o
  have R := fStanding_Rds o
  obtain ⟨A1', n1', c1', A2', n2', c2', A3', n3', c3', e1, e2, e3, h⟩ := StB.rd (s := s) R.1 R.2.1 R.2.2.1 sm
  exact ⟨A1', n1', c1', A2', n2', c2', A3', n3', c3', by rw [e1, e2, e3], h⟩
abbrev stv (A1 : Option Addr) (n1 c1 : Nat) (A2 : Option Addr) (n2 c2 : Nat) (A3 : Option Addr) (n3 c3 : Nat) (t : Int) : Value := .agg #[.slice A1 n1 c1, .slice A2 n2 c2, .slice A3 n3 c3, .int .i64 t]
end
end Go.Proofs.YtpihighajaeabaaGreat

namespace Go.Proofs.YtpihighajaeabaaGreat
open Go.RowKit Go.ChangeShapes Go.WideShapes Go.Deep
set_option linter.unusedVariables false

theorem own_knob : ownKnob Tryz.prog.godebug = none := by kernel_rfl
theorem laid_out : laidOutB Tryz.prog = true := by kernel_rfl
section
variable {H : Type} {enc : TypeId × Value → H} {w : World} {sp : Nat → Bool} {held : Bool}
theorem t_slice {α : Type} {t e : TypeId} {sz : Nat} {R : Rep α} {Q : α → Prop} (ht : Tryz.prog.underlying t = some (.slice e)) (hC : Tryz.prog.cellsOf e = sz) (hsz : 0 < sz)
    (hE : ∀ n cs y, DataW.trod enc Tryz.prog w 0 sp held n e cs = some y → cs.length = sz → ∃ x, R w (lt w) x cs ∧ Q x) {fuel : Nat} {cs : List Value} {x : DataW H × List MemPlace}
    (h : DataW.trod enc Tryz.prog w 0 sp held fuel t cs = some x) : ∃ xs, Rd (rSl sz R) w xs cs ∧ ∀ x ∈ xs, Q x := by
  rcases open_slice ht h with ⟨rfl, _⟩ | ⟨a, len, cap, m, n, D, Pl, rfl, _, hl, hm, hmm, _, hi⟩
  · exact ⟨[], rSl_nil, fun x hx => by simp at hx⟩
  · have hml : len ≤ m := by rw [hmm]; split <;> omega
    by_cases hl0 : len = 0
    · subst hl0
      exact ⟨[], ⟨some a, cap, rfl, Nat.zero_le _, hm, fun k x hx => by simp at hx⟩, fun x hx => by simp at hx⟩
    obtain ⟨b, o, spot⟩ := a
    have hsp : spot = none := by
      obtain ⟨cs', hc, ht'⟩ := hi 0 (by omega)
      obtain ⟨_, hlen, hat⟩ := World.cells?_some hc
      rw [hC] at hlen hat
      have h0 := hat 0 hsz
      rw [List.getElem?_eq_getElem (by omega), Nat.zero_mul] at h0
      exact World.cell?_spot h0
    subst hsp
    have key : ∀ i : Nat, ∃ x : Option α, i < len → ∃ x' us, x = some x' ∧ b < w.heap.size ∧ us.length = sz ∧ (∀ j u, us[j]? = some u → w.cell? ⟨b, o + i * sz + j, none⟩ = some u) ∧ R w (lt w) x' us ∧ Q x' := by
      intro i
      by_cases hil : i < len
      · obtain ⟨cs', hc, ht'⟩ := hi i (by omega)
        obtain ⟨_, hlen, hat⟩ := World.cells?_some hc
        rw [hC] at hlen hat
        obtain ⟨x, hR, hQ⟩ := hE _ _ _ ht' hlen
        have h0 := hat 0 hsz
        rw [List.getElem?_eq_getElem (by omega)] at h0
        have hb := World.block_lt_of_cell? _ _ h0
        refine ⟨some x, fun _ => ⟨x, cs', rfl, by rw [Go.Proofs.YtpihighajaeabaaGreat.add_block, Go.Proofs.YtpihighajaeabaaGreat.add_block] at hb; exact hb, hlen, fun j u hu => ?_, hR, hQ⟩⟩
        have hj : j < sz := by rw [← hlen]; exact (List.getElem?_eq_some_iff.1 hu).1
        have := hat j hj
        have ea : ((⟨b, o, none⟩ : Addr).add (i * sz)).add j = ⟨b, o + i * sz + j, none⟩ := by
          rw [Go.Proofs.YtpihighajaeabaaGreat.add_add, Nat.add_assoc]
          unfold Addr.add
          split
          · rename_i h; rw [h]; rfl
          · rfl
        rw [ea, hu] at this
        exact this
      · exact ⟨none, fun h => absurd h hil⟩
    obtain ⟨f, hf⟩ := Classical.axiomOfChoice key
    refine ⟨(List.range len).filterMap f, ?_, ?_⟩
    · have hlen : ((List.range len).filterMap f).length = len := by
        have : ∀ k, k ≤ len → ((List.range k).filterMap f).length = k := by
          intro k hk
          induction k with
          | zero => rfl
          | succ k ih =>
            rw [List.range_succ, List.filterMap_append, List.length_append, ih (by omega)]
            obtain ⟨x', _, e, _⟩ := hf k (by omega)
            simp [e]
        exact this len (Nat.le_refl _)
      have hget : ∀ k, k < len → ((List.range len).filterMap f)[k]? = f k := by
        have : ∀ m, m ≤ len → ∀ k, k < m → ((List.range m).filterMap f)[k]? = f k ∧ ((List.range m).filterMap f).length = m := by
          intro m hm'
          induction m with
          | zero => intro k hk; omega
          | succ m ih =>
            intro k hk
            have hl' : ((List.range m).filterMap f).length = m := by
              rcases Nat.eq_zero_or_pos m with rfl | hp
              · rfl
              · exact (ih (by omega) 0 hp).2
            obtain ⟨x', _, e, _⟩ := hf m (by omega)
            rw [List.range_succ, List.filterMap_append]
            have es : [m].filterMap f = [x'] := by simp [e]
            rw [es]
            refine ⟨?_, by simp [hl']⟩
            by_cases hkm : k < m
            · rw [List.getElem?_append_left (by omega)]
              exact (ih (by omega) k hkm).1
            · obtain rfl : k = m := by omega
              rw [List.getElem?_append_right (by omega), hl', Nat.sub_self, e]; rfl
        exact fun k hk => (this len (Nat.le_refl _) k hk).1
      refine ⟨some ⟨b, o, none⟩, cap, by rw [hlen], by rw [hlen]; exact hl, hm, fun k x hx => ?_⟩
      have hk : k < len := by
        have := (List.getElem?_eq_some_iff.1 hx).1
        omega
      rw [hget k hk] at hx
      obtain ⟨x', us, e, hb, hul, hc, hR, _⟩ := hf k hk
      rw [hx] at e
      injection e with e
      subst e
      exact ⟨b, o, us, rfl, hb, hul, hc, hR⟩
    · intro x hx
      obtain ⟨i, hi', hfi⟩ := List.mem_filterMap.1 hx
      obtain ⟨x', _, e, _, _, _, _, hQ⟩ := hf i (by simpa using hi')
      rw [hfi] at e
      injection e with e
      rw [e]; exact hQ
end
end Go.Proofs.YtpihighajaeabaaGreat

namespace Go.Proofs.YtpihighajaeabaaGreat
open Go.RowKit Go.ChangeShapes Go.WideShapes Go.Deep
set_option linter.unusedVariables false
section
variable {H : Type} {enc : TypeId × Value → H} {w : World} {sp : Nat → Bool} {held : Bool}
theorem t_u8 {n : Nat} {cs : List Value} {y : DataW H × List MemPlace} (h : DataW.trod enc Tryz.prog w 0 sp held n 5 cs = some y) : ∃ x, rU8 w (lt w) x cs ∧ (0 ≤ x ∧ x ≤ 255) := by
  obtain ⟨x, rfl, _, hw⟩ := DataW.trod_int Tryz.underlying5 h
  exact ⟨x, rfl, bounds_u8 hw⟩
theorem t_bytes {n : Nat} {cs : List Value} {y : DataW H × List MemPlace} (h : DataW.trod enc Tryz.prog w 0 sp held n 22 cs = some y) : ∃ xs, rBytes w (lt w) xs cs ∧ wfBytes xs :=
  t_slice Tryz.underlying22 (by kernel_rfl) (by omega) (fun _ _ _ h _ => t_u8 h) h
end
end Go.Proofs.YtpihighajaeabaaGreat

namespace Go.Proofs.YtpihighajaeabaaGreat
open Go.RowKit
set_option linter.unusedVariables false
theorem Box.four {W : World} {b : Nat} {x0 x1 x2 x3 : Value} (h : Box W b [x0, x1, x2, x3]) (a0 a1 a2 a3 : Value) : Box ((((W.setCell ⟨b, 0, none⟩ a0).setCell ⟨b, 1, none⟩ a1).setCell ⟨b, 2, none⟩ a2).setCell ⟨b, 3, none⟩ a3) b [a0, a1, a2, a3] :=
  (((h.set (by simp) a0).set (by simp) a1).set (by simp) a2).set (by simp) a3
end Go.Proofs.YtpihighajaeabaaGreat
