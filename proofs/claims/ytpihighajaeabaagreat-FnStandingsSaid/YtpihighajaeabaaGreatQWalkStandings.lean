/- FnStandings, walked. -/
import Derived.Test.YtpihighajaeabaaGreatQLawH
import Derived.Test.YtpihighajaeabaaGreatQOpenB
import Derived.Deep.DeepCutAuto
namespace Go.Proofs.YtpihighajaeabaaGreat
open Go.RowKit Go.ChangeShapes Go.WideShapes Go.ChangeAt
set_option linter.unusedVariables false
set_option linter.unusedSimpArgs false
/-- a comparison of a list with itself -/
theorem Ret.same {w : World} {α : Type} [DecidableEq α] {x : α} {e : Ending} {w' : World} (h : Ret w (.bool (decide (x = x))) e w') : Ret w (.bool true) e w' := by
  have e : decide (x = x) = true := decide_eq_true rfl
  rwa [e] at h
section
variable {W : World} {b b' : Nat} {s s' : GStanding} {A1 A2 A3 B1 B2 B3 : Option Addr} {n1 c1 n2 c2 n3 c3 m1 d1 m2 d2 m3 d3 : Nat}
theorem chgM_stand {s : GStanding} {x : GItem} (h : chgOk s x = true) : isStand (chgM s x) = true := by
  have h2 : insOk (delM s x.id) x = true := by
    unfold chgOk at h
    simp only [Bool.and_eq_true] at h
    exact h.2.2
  unfold chgM; rw [h]; exact insM_stand h2
theorem StB.eqS (h : StB W b s A1 n1 c1 A2 n2 c2 A3 n3 c3) (h' : StB W b' s B1 m1 d1 B2 m2 d2 B3 m3 d3) : Calls Tryz.prog 15 #[.agg #[.slice A1 n1 c1, .slice A2 n2 c2, .slice A3 n3 c3, .int .i64 s.tests], .agg #[.slice B1 m1 d1, .slice B2 m2 d2, .slice B3 m3 d3, .int .i64 s.tests]] W (Ret W (.bool true)) :=
  (S_EqualStandings W s s _ _ _ _ _ _ h.i h.e h.b h'.i h'.e h'.b).mono fun _ _ h => Ret.same h
end
theorem items_tot {l : List GItem} (gl : gItems 8 l) : totItems l ≤ 1048576 := by
  have h2 := sum_le (fun x : GItem => x.vals.length) 4 (l := l) (fun x hx => (gl.2 x hx).2.1)
  have h1 := gl.1
  unfold totItems; omega
theorem nodes_tot {q : List GNode} (gq : gNodes 8 q) : totNodes q ≤ 1048576 := gNodes_tot (by omega) gq
theorem excl16 (s : GStanding) (id : Int) : (exclM s id).length ≤ 16 := by
  by_cases h : isStand s = true
  · exact Nat.le_trans (exclM_len s id trivial) (areItems_len (areBoth_items (stand_both h).1))
  · have : exclM s id = [] := by unfold exclM; rw [if_neg (by simp [h])]
    rw [this]; simp
set_option maxRecDepth 100000 in
set_option maxHeartbeats 12800000 in
theorem walk_FnStandings (w : World) (x0 : List Int) (v : Value) (h0 : Rd rBytes w x0 [v]) (q0 : wfBytes x0) : Calls Tryz.prog 3 #[v] w (Ret w (.bool true)) := by
  obtain ⟨i0, hi, hz0, hz1, hz2⟩ := info_parts info_int
  have hcall := L_big w x0 v h0
  go_enter Tryz.func3, Tryz.ntmps3
  go_wp2_with fail
  refine hcall.mono ?_
  rintro e w1 ⟨rfl, hb1⟩
  clear hcall
  by_cases hbig : 1048576 < x0.length
  · have e1 : decide (1048576 < x0.length) = true := decide_eq_true hbig
    rw [e1]
    clear e1
    go_wp2
    go_ret
    exact ⟨rfl, hb1⟩
  · have e1 : decide (1048576 < x0.length) = false := decide_eq_false hbig
    rw [e1]
    clear e1
    have hcall := D_DrawInsertItem w1 x0 v (h0.bw rBytes_good hb1) q0
    go_wp2_with fail
    refine hcall.mono ?_
    rintro e w2 ⟨v1, v2, rfl, ⟨s, va, vb, vc, rfl, ha, hb, hc, sm⟩, ⟨x, u, rfl, hu, _⟩, hb2⟩
    clear hcall
    have B2 := hb1.then hb2
    obtain ⟨A1, n1, c1, A2, n2, c2, A3, n3, c3, rfl, rfl, rfl, Sa⟩ := StB.rd ha hb hc sm
    obtain ⟨AX, nX, cX, rfl, lX, _⟩ := rSl_open hu
    replace lX := Lib.hid lX
    have A2' := (Bw.refl (w2.alloc (.cells #[.slice A1 n1 c1, .slice A2 n2 c2, .slice A3 n3 c3, .int .i64 s.tests] 28))).alloc (.cells #[.int .i64 x.id, .slice AX nX cX] 30)
    have A1' := (Bw.refl w2).alloc (.cells #[.slice A1 n1 c1, .slice A2 n2 c2, .slice A3 n3 c3, .int .i64 s.tests] 28)
    have Sb := Sa.bw A2'
    have X1 := (hu.bw rInts_good A1').bw rInts_good A2'
    have bXx := Box.new (w2.alloc (.cells #[.slice A1 n1 c1, .slice A2 n2 c2, .slice A3 n3 c3, .int .i64 s.tests] 28)) #[.int .i64 x.id, .slice AX nX cX] 30
    have hz1 : (w2.alloc (.cells #[.slice A1 n1 c1, .slice A2 n2 c2, .slice A3 n3 c3, .int .i64 s.tests] 28)).heap.size = w2.heap.size + 1 := by simp
    rw [hz1] at bXx
    have B3 := B2.then (A1'.then A2')
    obtain ⟨bs, hbs⟩ : ∃ b, b = w2.heap.size := ⟨_, rfl⟩
    obtain ⟨bx, hbx⟩ : ∃ b, b = w2.heap.size + 1 := ⟨_, rfl⟩
    obtain ⟨W, hW⟩ : ∃ W, W = (w2.alloc (.cells #[.slice A1 n1 c1, .slice A2 n2 c2, .slice A3 n3 c3, .int .i64 s.tests] 28)).alloc (.cells #[.int .i64 x.id, .slice AX nX cX] 30) := ⟨_, rfl⟩
    rw [← hW] at Sb X1 bXx B3
    rw [← hbs] at Sb
    rw [← hbx] at bXx
    have HW := Lib.hid hW
    have HBS := Lib.hid hbs
    have HBX := Lib.hid hbx
    clear hW hbs hbx Sa A1' A2' hz1 ha hb hc hu
    obtain ⟨ok1, hok1⟩ : ∃ b, b = insOk s x := ⟨_, rfl⟩
    obtain ⟨ok2, hok2⟩ : ∃ b, b = chgOk s x := ⟨_, rfl⟩
    obtain ⟨M1, hM1⟩ : ∃ m, m = insM s x := ⟨_, rfl⟩
    obtain ⟨M2, hM2⟩ : ∃ m, m = chgM s x := ⟨_, rfl⟩
    have sm1 : smallSt M1 := by rw [hM1]; exact insM_small sm
    have sm2 : smallSt M2 := by rw [hM2]; exact chgM_small sm
    have k1 := I_InsertItem W s x _ _ _ _ Sb.i Sb.e Sb.b X1 sm.1 sm.2.1 sm.2.2
    rw [← hok1, ← hM1] at k1
    have HOK1 := Lib.hid hok1
    have HOK2 := Lib.hid hok2
    have HM1 := Lib.hid hM1
    have HM2 := Lib.hid hM2
    clear hok1 hok2 hM1 hM2
    go_wp2_with fail
    rw [← HW.out, ← HBX.out, ← HBS.out]
    refine k1.mono ?_
    rintro e w3 ⟨u3, rfl, ⟨cs, rfl, F3, o3, _⟩, hb3⟩
    clear k1
    obtain ⟨A13, n13, c13, A23, n23, c23, A33, n33, c33, rfl, S3⟩ := StB.of o3 sm1
    have AA := (Bw.refl w3).alloc (.cells #[.slice A13 n13 c13, .slice A23 n23 c23, .slice A33 n33 c33, .int .i64 (M1).tests] 28)
    have AB3 := hb3.then AA
    obtain ⟨b3, hbb⟩ : ∃ b, b = (w3).heap.size := ⟨_, rfl⟩
    obtain ⟨W3, hW⟩ : ∃ W, W = (w3).alloc (.cells #[.slice A13 n13 c13, .slice A23 n23 c23, .slice A33 n33 c33, .int .i64 (M1).tests] 28) := ⟨_, rfl⟩
    rw [← hW] at S3 AB3
    rw [← hbb] at S3
    have HW3 := Lib.hid hW
    have HB3 := Lib.hid hbb
    clear hW hbb AA o3 hb3
    have hcallI := S_InsertItem W3 s x _ _ _ _ (Sb.bw AB3).i (Sb.bw AB3).e (Sb.bw AB3).b (X1.bw rInts_good AB3) sm.1 sm.2.1 sm.2.2
    rw [← HOK1.out, ← HM1.out] at hcallI
    -- the standing and the item are loaded again, behind the new box
    have bS := Sb.bx.bw AB3
    have bQ := bXx.bw AB3
    replace Sb := Sb.bw AB3
    replace X1 := X1.bw rInts_good AB3
    replace bXx := bXx.bw AB3
    replace B3 := B3.then AB3
    have hcall := hcallI
    rw [HW3.out] at bS bQ
    have y0 := bS.c 0 _ rfl
    have y1 := bS.c 1 _ rfl
    have y2 := bS.c 2 _ rfl
    have y3 := bS.c 3 _ rfl
    have yf := bS.fr
    have z0 := bQ.c 0 _ rfl
    have z1 := bQ.c 1 _ rfl
    have zf := bQ.fr
    clear bS bQ
    go_wp2_with fail
    clear y0 y1 y2 y3 yf
    clear z0 z1 zf
    rw [← HW3.out, ← HB3.out]
    refine hcall.mono ?_
    rintro e w4 ⟨u4, rfl, ⟨cs, rfl, F4, o4, _⟩, hb4⟩
    clear hcall
    clear hcallI
    obtain ⟨A14, n14, c14, A24, n24, c24, A34, n34, c34, rfl, S4⟩ := StB.of o4 sm1
    have AA := (Bw.refl w4).alloc (.cells #[.slice A14 n14 c14, .slice A24 n24 c24, .slice A34 n34 c34, .int .i64 (M1).tests] 28)
    have AB4 := hb4.then AA
    obtain ⟨b4, hbb⟩ : ∃ b, b = (w4).heap.size := ⟨_, rfl⟩
    obtain ⟨W4, hW⟩ : ∃ W, W = (w4).alloc (.cells #[.slice A14 n14 c14, .slice A24 n24 c24, .slice A34 n34 c34, .int .i64 (M1).tests] 28) := ⟨_, rfl⟩
    rw [← hW] at S4 AB4
    rw [← hbb] at S4
    have HW4 := Lib.hid hW
    have HB4 := Lib.hid hbb
    clear hW hbb AA o4 hb4
    have hcallI := I_ChangeItem W4 s x _ _ _ _ (Sb.bw AB4).i (Sb.bw AB4).e (Sb.bw AB4).b (X1.bw rInts_good AB4) sm.1 sm.2.1 sm.2.2
    rw [← HOK2.out, ← HM2.out] at hcallI
    -- the standing and the item are loaded again, behind the new box
    have bS := Sb.bx.bw AB4
    have bQ := bXx.bw AB4
    replace Sb := Sb.bw AB4
    replace X1 := X1.bw rInts_good AB4
    replace bXx := bXx.bw AB4
    replace B3 := B3.then AB4
    have hcall := hcallI
    rw [HW4.out] at bS bQ
    have y0 := bS.c 0 _ rfl
    have y1 := bS.c 1 _ rfl
    have y2 := bS.c 2 _ rfl
    have y3 := bS.c 3 _ rfl
    have yf := bS.fr
    have z0 := bQ.c 0 _ rfl
    have z1 := bQ.c 1 _ rfl
    have zf := bQ.fr
    clear bS bQ
    go_wp2_with fail
    clear y0 y1 y2 y3 yf
    clear z0 z1 zf
    rw [← HW4.out, ← HB4.out]
    refine hcall.mono ?_
    rintro e w5 ⟨u5, rfl, ⟨cs, rfl, F5, o5, _⟩, hb5⟩
    clear hcall
    clear hcallI
    obtain ⟨A15, n15, c15, A25, n25, c25, A35, n35, c35, rfl, S5⟩ := StB.of o5 sm2
    have AA := (Bw.refl w5).alloc (.cells #[.slice A15 n15 c15, .slice A25 n25 c25, .slice A35 n35 c35, .int .i64 (M2).tests] 28)
    have AB5 := hb5.then AA
    obtain ⟨b5, hbb⟩ : ∃ b, b = (w5).heap.size := ⟨_, rfl⟩
    obtain ⟨W5, hW⟩ : ∃ W, W = (w5).alloc (.cells #[.slice A15 n15 c15, .slice A25 n25 c25, .slice A35 n35 c35, .int .i64 (M2).tests] 28) := ⟨_, rfl⟩
    rw [← hW] at S5 AB5
    rw [← hbb] at S5
    have HW5 := Lib.hid hW
    have HB5 := Lib.hid hbb
    clear hW hbb AA o5 hb5
    have hcallI := S_ChangeItem W5 s x _ _ _ _ (Sb.bw AB5).i (Sb.bw AB5).e (Sb.bw AB5).b (X1.bw rInts_good AB5) sm.1 sm.2.1 sm.2.2
    rw [← HOK2.out, ← HM2.out] at hcallI
    -- the standing and the item are loaded again, behind the new box
    have bS := Sb.bx.bw AB5
    have bQ := bXx.bw AB5
    replace Sb := Sb.bw AB5
    replace X1 := X1.bw rInts_good AB5
    replace bXx := bXx.bw AB5
    replace B3 := B3.then AB5
    have hcall := hcallI
    rw [HW5.out] at bS bQ
    have y0 := bS.c 0 _ rfl
    have y1 := bS.c 1 _ rfl
    have y2 := bS.c 2 _ rfl
    have y3 := bS.c 3 _ rfl
    have yf := bS.fr
    have z0 := bQ.c 0 _ rfl
    have z1 := bQ.c 1 _ rfl
    have zf := bQ.fr
    clear bS bQ
    go_wp2_with fail
    clear y0 y1 y2 y3 yf
    clear z0 z1 zf
    rw [← HW5.out, ← HB5.out]
    refine hcall.mono ?_
    rintro e w6 ⟨u6, rfl, ⟨cs, rfl, F6, o6, _⟩, hb6⟩
    clear hcall
    clear hcallI
    obtain ⟨A16, n16, c16, A26, n26, c26, A36, n36, c36, rfl, S6⟩ := StB.of o6 sm2
    have AA := (Bw.refl w6).alloc (.cells #[.slice A16 n16 c16, .slice A26 n26 c26, .slice A36 n36 c36, .int .i64 (M2).tests] 28)
    have AB6 := hb6.then AA
    obtain ⟨b6, hbb⟩ : ∃ b, b = (w6).heap.size := ⟨_, rfl⟩
    obtain ⟨W6, hW⟩ : ∃ W, W = (w6).alloc (.cells #[.slice A16 n16 c16, .slice A26 n26 c26, .slice A36 n36 c36, .int .i64 (M2).tests] 28) := ⟨_, rfl⟩
    rw [← hW] at S6 AB6
    rw [← hbb] at S6
    have HW6 := Lib.hid hW
    have HB6 := Lib.hid hbb
    clear hW hbb AA o6 hb6
    have G5 := S5.bw AB6
    have G4 := (S4.bw AB5).bw AB6
    have G3 := ((S3.bw AB4).bw AB5).bw AB6
    replace Sb := Sb.bw AB6
    replace B3 := B3.then AB6
    clear S3 S4 S5 X1 bXx AB3 AB4 AB5 AB6
    go_upto_region 8 with fail
    rw [← HW6.out, ← HB6.out]
    go_cut [105] (fun s105 wx => s105 = .bool false ∧ Bw w wx)
    case first => as_aux_lemma =>
      have hM1 : ok1 = false → M1 = s := fun h => by rw [HM1.out]; unfold insM; rw [← HOK1.out, h]; rfl
      have hS1 : ok1 = true → isStand M1 = true := fun h => by rw [HM1.out]; exact insM_stand (by rw [← HOK1.out, h])
      have hS2 : ok2 = true → isStand M2 = true := fun h => by rw [HM2.out]; exact chgM_stand (by rw [← HOK2.out, h])
      have HE1 := Lib.hid hM1
      have HE2 := Lib.hid hS1
      have HE3 := Lib.hid hS2
      clear hM1 hS1 hS2
      -- one call of the long test
      have g30 := G3.bx.c 0 _ rfl
      have g31 := G3.bx.c 1 _ rfl
      have g32 := G3.bx.c 2 _ rfl
      have g33 := G3.bx.c 3 _ rfl
      have g3f := G3.bx.fr
      have g40 := G4.bx.c 0 _ rfl
      have g41 := G4.bx.c 1 _ rfl
      have g42 := G4.bx.c 2 _ rfl
      have g43 := G4.bx.c 3 _ rfl
      have g4f := G4.bx.fr
      have g50 := G5.bx.c 0 _ rfl
      have g51 := G5.bx.c 1 _ rfl
      have g52 := G5.bx.c 2 _ rfl
      have g53 := G5.bx.c 3 _ rfl
      have g5f := G5.bx.fr
      have g60 := S6.bx.c 0 _ rfl
      have g61 := S6.bx.c 1 _ rfl
      have g62 := S6.bx.c 2 _ rfl
      have g63 := S6.bx.c 3 _ rfl
      have g6f := S6.bx.fr
      have gs0 := Sb.bx.c 0 _ rfl
      have gs1 := Sb.bx.c 1 _ rfl
      have gs2 := Sb.bx.c 2 _ rfl
      have gs3 := Sb.bx.c 3 _ rfl
      have gsf := Sb.bx.fr
      have hcall := G3.eqS G4
      go_wp2_with fail
      clear g30 g31 g32 g33 g3f
      clear g40 g41 g42 g43 g4f
      clear g50 g51 g52 g53 g5f
      clear g60 g61 g62 g63 g6f
      clear gs0 gs1 gs2 gs3 gsf
      refine hcall.mono ?_
      rintro e wn ⟨rfl, hbn⟩
      clear hcall
      replace G3 := G3.bw hbn
      replace G4 := G4.bw hbn
      replace G5 := G5.bw hbn
      replace S6 := S6.bw hbn
      replace Sb := Sb.bw hbn
      replace B3 := B3.then hbn
      clear hbn
      cases ok2 with
      | true =>
        -- one call of the long test
        have g30 := G3.bx.c 0 _ rfl
        have g31 := G3.bx.c 1 _ rfl
        have g32 := G3.bx.c 2 _ rfl
        have g33 := G3.bx.c 3 _ rfl
        have g3f := G3.bx.fr
        have g40 := G4.bx.c 0 _ rfl
        have g41 := G4.bx.c 1 _ rfl
        have g42 := G4.bx.c 2 _ rfl
        have g43 := G4.bx.c 3 _ rfl
        have g4f := G4.bx.fr
        have g50 := G5.bx.c 0 _ rfl
        have g51 := G5.bx.c 1 _ rfl
        have g52 := G5.bx.c 2 _ rfl
        have g53 := G5.bx.c 3 _ rfl
        have g5f := G5.bx.fr
        have g60 := S6.bx.c 0 _ rfl
        have g61 := S6.bx.c 1 _ rfl
        have g62 := S6.bx.c 2 _ rfl
        have g63 := S6.bx.c 3 _ rfl
        have g6f := S6.bx.fr
        have gs0 := Sb.bx.c 0 _ rfl
        have gs1 := Sb.bx.c 1 _ rfl
        have gs2 := Sb.bx.c 2 _ rfl
        have gs3 := Sb.bx.c 3 _ rfl
        have gsf := Sb.bx.fr
        have hcall := G5.eqS S6
        go_wp2_with fail
        clear g30 g31 g32 g33 g3f
        clear g40 g41 g42 g43 g4f
        clear g50 g51 g52 g53 g5f
        clear g60 g61 g62 g63 g6f
        clear gs0 gs1 gs2 gs3 gsf
        refine hcall.mono ?_
        rintro e wn ⟨rfl, hbn⟩
        clear hcall
        replace G3 := G3.bw hbn
        replace G4 := G4.bw hbn
        replace G5 := G5.bw hbn
        replace S6 := S6.bw hbn
        replace Sb := Sb.bw hbn
        replace B3 := B3.then hbn
        clear hbn
        cases ok1 with
        | true =>
          have k := G3.isI
          rw [HE2.out (by simp)] at k
          -- one call of the long test
          have g30 := G3.bx.c 0 _ rfl
          have g31 := G3.bx.c 1 _ rfl
          have g32 := G3.bx.c 2 _ rfl
          have g33 := G3.bx.c 3 _ rfl
          have g3f := G3.bx.fr
          have g40 := G4.bx.c 0 _ rfl
          have g41 := G4.bx.c 1 _ rfl
          have g42 := G4.bx.c 2 _ rfl
          have g43 := G4.bx.c 3 _ rfl
          have g4f := G4.bx.fr
          have g50 := G5.bx.c 0 _ rfl
          have g51 := G5.bx.c 1 _ rfl
          have g52 := G5.bx.c 2 _ rfl
          have g53 := G5.bx.c 3 _ rfl
          have g5f := G5.bx.fr
          have g60 := S6.bx.c 0 _ rfl
          have g61 := S6.bx.c 1 _ rfl
          have g62 := S6.bx.c 2 _ rfl
          have g63 := S6.bx.c 3 _ rfl
          have g6f := S6.bx.fr
          have gs0 := Sb.bx.c 0 _ rfl
          have gs1 := Sb.bx.c 1 _ rfl
          have gs2 := Sb.bx.c 2 _ rfl
          have gs3 := Sb.bx.c 3 _ rfl
          have gsf := Sb.bx.fr
          have hcall := k
          go_wp2_with fail
          clear g30 g31 g32 g33 g3f
          clear g40 g41 g42 g43 g4f
          clear g50 g51 g52 g53 g5f
          clear g60 g61 g62 g63 g6f
          clear gs0 gs1 gs2 gs3 gsf
          refine hcall.mono ?_
          rintro e wn ⟨rfl, hbn⟩
          clear hcall
          replace G3 := G3.bw hbn
          replace G4 := G4.bw hbn
          replace G5 := G5.bw hbn
          replace S6 := S6.bw hbn
          replace Sb := Sb.bw hbn
          replace B3 := B3.then hbn
          clear hbn
          have k := G5.isI
          rw [HE3.out (by simp)] at k
          -- one call of the long test
          have g30 := G3.bx.c 0 _ rfl
          have g31 := G3.bx.c 1 _ rfl
          have g32 := G3.bx.c 2 _ rfl
          have g33 := G3.bx.c 3 _ rfl
          have g3f := G3.bx.fr
          have g40 := G4.bx.c 0 _ rfl
          have g41 := G4.bx.c 1 _ rfl
          have g42 := G4.bx.c 2 _ rfl
          have g43 := G4.bx.c 3 _ rfl
          have g4f := G4.bx.fr
          have g50 := G5.bx.c 0 _ rfl
          have g51 := G5.bx.c 1 _ rfl
          have g52 := G5.bx.c 2 _ rfl
          have g53 := G5.bx.c 3 _ rfl
          have g5f := G5.bx.fr
          have g60 := S6.bx.c 0 _ rfl
          have g61 := S6.bx.c 1 _ rfl
          have g62 := S6.bx.c 2 _ rfl
          have g63 := S6.bx.c 3 _ rfl
          have g6f := S6.bx.fr
          have gs0 := Sb.bx.c 0 _ rfl
          have gs1 := Sb.bx.c 1 _ rfl
          have gs2 := Sb.bx.c 2 _ rfl
          have gs3 := Sb.bx.c 3 _ rfl
          have gsf := Sb.bx.fr
          have hcall := k
          go_wp2_with fail
          clear g30 g31 g32 g33 g3f
          clear g40 g41 g42 g43 g4f
          clear g50 g51 g52 g53 g5f
          clear g60 g61 g62 g63 g6f
          clear gs0 gs1 gs2 gs3 gsf
          refine hcall.mono ?_
          rintro e wn ⟨rfl, hbn⟩
          clear hcall
          replace G3 := G3.bw hbn
          replace G4 := G4.bw hbn
          replace G5 := G5.bw hbn
          replace S6 := S6.bw hbn
          replace Sb := Sb.bw hbn
          replace B3 := B3.then hbn
          clear hbn
          go_wp2_with fail
          go_meet
          exact ⟨rfl, B3⟩
        | false =>
          have k := G5.isI
          rw [HE3.out (by simp)] at k
          -- one call of the long test
          have g30 := G3.bx.c 0 _ rfl
          have g31 := G3.bx.c 1 _ rfl
          have g32 := G3.bx.c 2 _ rfl
          have g33 := G3.bx.c 3 _ rfl
          have g3f := G3.bx.fr
          have g40 := G4.bx.c 0 _ rfl
          have g41 := G4.bx.c 1 _ rfl
          have g42 := G4.bx.c 2 _ rfl
          have g43 := G4.bx.c 3 _ rfl
          have g4f := G4.bx.fr
          have g50 := G5.bx.c 0 _ rfl
          have g51 := G5.bx.c 1 _ rfl
          have g52 := G5.bx.c 2 _ rfl
          have g53 := G5.bx.c 3 _ rfl
          have g5f := G5.bx.fr
          have g60 := S6.bx.c 0 _ rfl
          have g61 := S6.bx.c 1 _ rfl
          have g62 := S6.bx.c 2 _ rfl
          have g63 := S6.bx.c 3 _ rfl
          have g6f := S6.bx.fr
          have gs0 := Sb.bx.c 0 _ rfl
          have gs1 := Sb.bx.c 1 _ rfl
          have gs2 := Sb.bx.c 2 _ rfl
          have gs3 := Sb.bx.c 3 _ rfl
          have gsf := Sb.bx.fr
          have hcall := k
          go_wp2_with fail
          clear g30 g31 g32 g33 g3f
          clear g40 g41 g42 g43 g4f
          clear g50 g51 g52 g53 g5f
          clear g60 g61 g62 g63 g6f
          clear gs0 gs1 gs2 gs3 gsf
          refine hcall.mono ?_
          rintro e wn ⟨rfl, hbn⟩
          clear hcall
          replace G3 := G3.bw hbn
          replace G4 := G4.bw hbn
          replace G5 := G5.bw hbn
          replace S6 := S6.bw hbn
          replace Sb := Sb.bw hbn
          replace B3 := B3.then hbn
          clear hbn
          obtain rfl := HE1.out (by simp)
          -- one call of the long test
          have g30 := G3.bx.c 0 _ rfl
          have g31 := G3.bx.c 1 _ rfl
          have g32 := G3.bx.c 2 _ rfl
          have g33 := G3.bx.c 3 _ rfl
          have g3f := G3.bx.fr
          have g40 := G4.bx.c 0 _ rfl
          have g41 := G4.bx.c 1 _ rfl
          have g42 := G4.bx.c 2 _ rfl
          have g43 := G4.bx.c 3 _ rfl
          have g4f := G4.bx.fr
          have g50 := G5.bx.c 0 _ rfl
          have g51 := G5.bx.c 1 _ rfl
          have g52 := G5.bx.c 2 _ rfl
          have g53 := G5.bx.c 3 _ rfl
          have g5f := G5.bx.fr
          have g60 := S6.bx.c 0 _ rfl
          have g61 := S6.bx.c 1 _ rfl
          have g62 := S6.bx.c 2 _ rfl
          have g63 := S6.bx.c 3 _ rfl
          have g6f := S6.bx.fr
          have gs0 := Sb.bx.c 0 _ rfl
          have gs1 := Sb.bx.c 1 _ rfl
          have gs2 := Sb.bx.c 2 _ rfl
          have gs3 := Sb.bx.c 3 _ rfl
          have gsf := Sb.bx.fr
          have hcall := G3.eqS Sb
          go_wp2_with fail
          clear g30 g31 g32 g33 g3f
          clear g40 g41 g42 g43 g4f
          clear g50 g51 g52 g53 g5f
          clear g60 g61 g62 g63 g6f
          clear gs0 gs1 gs2 gs3 gsf
          refine hcall.mono ?_
          rintro e wn ⟨rfl, hbn⟩
          clear hcall
          replace G3 := G3.bw hbn
          replace G4 := G4.bw hbn
          replace G5 := G5.bw hbn
          replace S6 := S6.bw hbn
          replace Sb := Sb.bw hbn
          replace B3 := B3.then hbn
          clear hbn
          go_wp2_with fail
          go_meet
          exact ⟨rfl, B3⟩
      | false =>
        -- one call of the long test
        have g30 := G3.bx.c 0 _ rfl
        have g31 := G3.bx.c 1 _ rfl
        have g32 := G3.bx.c 2 _ rfl
        have g33 := G3.bx.c 3 _ rfl
        have g3f := G3.bx.fr
        have g40 := G4.bx.c 0 _ rfl
        have g41 := G4.bx.c 1 _ rfl
        have g42 := G4.bx.c 2 _ rfl
        have g43 := G4.bx.c 3 _ rfl
        have g4f := G4.bx.fr
        have g50 := G5.bx.c 0 _ rfl
        have g51 := G5.bx.c 1 _ rfl
        have g52 := G5.bx.c 2 _ rfl
        have g53 := G5.bx.c 3 _ rfl
        have g5f := G5.bx.fr
        have g60 := S6.bx.c 0 _ rfl
        have g61 := S6.bx.c 1 _ rfl
        have g62 := S6.bx.c 2 _ rfl
        have g63 := S6.bx.c 3 _ rfl
        have g6f := S6.bx.fr
        have gs0 := Sb.bx.c 0 _ rfl
        have gs1 := Sb.bx.c 1 _ rfl
        have gs2 := Sb.bx.c 2 _ rfl
        have gs3 := Sb.bx.c 3 _ rfl
        have gsf := Sb.bx.fr
        have hcall := G5.eqS S6
        go_wp2_with fail
        clear g30 g31 g32 g33 g3f
        clear g40 g41 g42 g43 g4f
        clear g50 g51 g52 g53 g5f
        clear g60 g61 g62 g63 g6f
        clear gs0 gs1 gs2 gs3 gsf
        refine hcall.mono ?_
        rintro e wn ⟨rfl, hbn⟩
        clear hcall
        replace G3 := G3.bw hbn
        replace G4 := G4.bw hbn
        replace G5 := G5.bw hbn
        replace S6 := S6.bw hbn
        replace Sb := Sb.bw hbn
        replace B3 := B3.then hbn
        clear hbn
        cases ok1 with
        | true =>
          have k := G3.isI
          rw [HE2.out (by simp)] at k
          -- one call of the long test
          have g30 := G3.bx.c 0 _ rfl
          have g31 := G3.bx.c 1 _ rfl
          have g32 := G3.bx.c 2 _ rfl
          have g33 := G3.bx.c 3 _ rfl
          have g3f := G3.bx.fr
          have g40 := G4.bx.c 0 _ rfl
          have g41 := G4.bx.c 1 _ rfl
          have g42 := G4.bx.c 2 _ rfl
          have g43 := G4.bx.c 3 _ rfl
          have g4f := G4.bx.fr
          have g50 := G5.bx.c 0 _ rfl
          have g51 := G5.bx.c 1 _ rfl
          have g52 := G5.bx.c 2 _ rfl
          have g53 := G5.bx.c 3 _ rfl
          have g5f := G5.bx.fr
          have g60 := S6.bx.c 0 _ rfl
          have g61 := S6.bx.c 1 _ rfl
          have g62 := S6.bx.c 2 _ rfl
          have g63 := S6.bx.c 3 _ rfl
          have g6f := S6.bx.fr
          have gs0 := Sb.bx.c 0 _ rfl
          have gs1 := Sb.bx.c 1 _ rfl
          have gs2 := Sb.bx.c 2 _ rfl
          have gs3 := Sb.bx.c 3 _ rfl
          have gsf := Sb.bx.fr
          have hcall := k
          go_wp2_with fail
          clear g30 g31 g32 g33 g3f
          clear g40 g41 g42 g43 g4f
          clear g50 g51 g52 g53 g5f
          clear g60 g61 g62 g63 g6f
          clear gs0 gs1 gs2 gs3 gsf
          refine hcall.mono ?_
          rintro e wn ⟨rfl, hbn⟩
          clear hcall
          replace G3 := G3.bw hbn
          replace G4 := G4.bw hbn
          replace G5 := G5.bw hbn
          replace S6 := S6.bw hbn
          replace Sb := Sb.bw hbn
          replace B3 := B3.then hbn
          clear hbn
          go_wp2_with fail
          go_meet
          exact ⟨rfl, B3⟩
        | false =>
          obtain rfl := HE1.out (by simp)
          -- one call of the long test
          have g30 := G3.bx.c 0 _ rfl
          have g31 := G3.bx.c 1 _ rfl
          have g32 := G3.bx.c 2 _ rfl
          have g33 := G3.bx.c 3 _ rfl
          have g3f := G3.bx.fr
          have g40 := G4.bx.c 0 _ rfl
          have g41 := G4.bx.c 1 _ rfl
          have g42 := G4.bx.c 2 _ rfl
          have g43 := G4.bx.c 3 _ rfl
          have g4f := G4.bx.fr
          have g50 := G5.bx.c 0 _ rfl
          have g51 := G5.bx.c 1 _ rfl
          have g52 := G5.bx.c 2 _ rfl
          have g53 := G5.bx.c 3 _ rfl
          have g5f := G5.bx.fr
          have g60 := S6.bx.c 0 _ rfl
          have g61 := S6.bx.c 1 _ rfl
          have g62 := S6.bx.c 2 _ rfl
          have g63 := S6.bx.c 3 _ rfl
          have g6f := S6.bx.fr
          have gs0 := Sb.bx.c 0 _ rfl
          have gs1 := Sb.bx.c 1 _ rfl
          have gs2 := Sb.bx.c 2 _ rfl
          have gs3 := Sb.bx.c 3 _ rfl
          have gsf := Sb.bx.fr
          have hcall := G3.eqS Sb
          go_wp2_with fail
          clear g30 g31 g32 g33 g3f
          clear g40 g41 g42 g43 g4f
          clear g50 g51 g52 g53 g5f
          clear g60 g61 g62 g63 g6f
          clear gs0 gs1 gs2 gs3 gsf
          refine hcall.mono ?_
          rintro e wn ⟨rfl, hbn⟩
          clear hcall
          replace G3 := G3.bw hbn
          replace G4 := G4.bw hbn
          replace G5 := G5.bw hbn
          replace S6 := S6.bw hbn
          replace Sb := Sb.bw hbn
          replace B3 := B3.then hbn
          clear hbn
          go_wp2_with fail
          go_meet
          exact ⟨rfl, B3⟩
    case rest => as_aux_lemma =>
      obtain ⟨rfl, hbc⟩ := hcut
      clear G3 G4 G5 S6 Sb B3 HOK1 HOK2 HM1 HM2 sm1 sm2 sm hb2 B2 lX hb1
      have hcall := D_DrawDeleteItem wc x0 v (h0.bw rBytes_good hbc) q0
      go_wp2_with fail
      refine hcall.mono ?_
      rintro e w7 ⟨v7, id, rfl, ⟨t, va, vb, vc, rfl, ha, hb, hc, smt⟩, hb7⟩
      clear hcall
      obtain ⟨A1, n1, c1, A2, n2, c2, A3, n3, c3, rfl, rfl, rfl, T⟩ := StB.rd ha hb hc smt
      have AA := (Bw.refl w7).alloc (.cells #[.slice A1 n1 c1, .slice A2 n2 c2, .slice A3 n3 c3, .int .i64 t.tests] 28)
      have B7 := (hbc.then hb7).then AA
      obtain ⟨bt, hbt⟩ : ∃ b, b = w7.heap.size := ⟨_, rfl⟩
      obtain ⟨W7, hW⟩ : ∃ W, W = w7.alloc (.cells #[.slice A1 n1 c1, .slice A2 n2 c2, .slice A3 n3 c3, .int .i64 t.tests] 28) := ⟨_, rfl⟩
      rw [← hW] at T B7
      rw [← hbt] at T
      have HW7 := Lib.hid hW
      have HBT := Lib.hid hbt
      clear hW hbt AA ha hb hc hbc hb7
      obtain ⟨ok, hok⟩ : ∃ b, b = delOk t id := ⟨_, rfl⟩
      obtain ⟨M, hM⟩ : ∃ m, m = delM t id := ⟨_, rfl⟩
      have smM : smallSt M := by rw [hM]; exact delM_small smt
      have HOK := Lib.hid hok
      have HM := Lib.hid hM
      have hcall := I_DeleteItem W7 t id _ _ _ T.i T.e T.b smt.1 smt.2.1 smt.2.2
      rw [← hok, ← hM] at hcall
      clear hok hM
      go_wp2_with fail
      rw [← HW7.out, ← HBT.out]
      refine hcall.mono ?_
      rintro e w8 ⟨u8, rfl, ⟨cs, rfl, F8, o8, _⟩, hb8⟩
      clear hcall
      obtain ⟨A18, n18, c18, A28, n28, c28, A38, n38, c38, rfl, S8⟩ := StB.of o8 smM
      have AA := (Bw.refl w8).alloc (.cells #[.slice A18 n18 c18, .slice A28 n28 c28, .slice A38 n38 c38, .int .i64 (M).tests] 28)
      have AB8 := hb8.then AA
      obtain ⟨b8, hbb⟩ : ∃ b, b = (w8).heap.size := ⟨_, rfl⟩
      obtain ⟨W8, hW⟩ : ∃ W, W = (w8).alloc (.cells #[.slice A18 n18 c18, .slice A28 n28 c28, .slice A38 n38 c38, .int .i64 (M).tests] 28) := ⟨_, rfl⟩
      rw [← hW] at S8 AB8
      rw [← hbb] at S8
      have HW8 := Lib.hid hW
      have HB8 := Lib.hid hbb
      clear hW hbb AA o8 hb8
      have bS := T.bx.bw AB8
      replace T := T.bw AB8
      replace B7 := B7.then AB8
      have hcall := S_DeleteItem W8 t id _ _ _ T.i T.e T.b smt.1 smt.2.1 smt.2.2
      rw [← HOK.out, ← HM.out] at hcall
      rw [HW8.out] at bS
      have y0 := bS.c 0 _ rfl
      have y1 := bS.c 1 _ rfl
      have y2 := bS.c 2 _ rfl
      have y3 := bS.c 3 _ rfl
      have yf := bS.fr
      clear bS
      go_wp2_with fail
      clear y0 y1 y2 y3 yf
      rw [← HW8.out, ← HB8.out]
      refine hcall.mono ?_
      rintro e w9 ⟨u9, rfl, ⟨cs, rfl, F9, o9, _⟩, hb9⟩
      clear hcall
      obtain ⟨A19, n19, c19, A29, n29, c29, A39, n39, c39, rfl, S9⟩ := StB.of o9 smM
      have AA := (Bw.refl w9).alloc (.cells #[.slice A19 n19 c19, .slice A29 n29 c29, .slice A39 n39 c39, .int .i64 (M).tests] 28)
      have AB9 := hb9.then AA
      obtain ⟨b9, hbb⟩ : ∃ b, b = (w9).heap.size := ⟨_, rfl⟩
      obtain ⟨W9, hW⟩ : ∃ W, W = (w9).alloc (.cells #[.slice A19 n19 c19, .slice A29 n29 c29, .slice A39 n39 c39, .int .i64 (M).tests] 28) := ⟨_, rfl⟩
      rw [← hW] at S9 AB9
      rw [← hbb] at S9
      have HW9 := Lib.hid hW
      have HB9 := Lib.hid hbb
      clear hW hbb AA o9 hb9
      replace T := T.bw AB9
      replace B7 := B7.then AB9
      have G8 := S8.bw AB9
      clear S8 AB8 AB9
      go_upto_region 13 with fail
      rw [← HW9.out, ← HB9.out]
      go_cut [146] (fun s146 wx => s146 = .bool false ∧ Bw W9 wx)
      case first => as_aux_lemma =>
        have hS1 : ok = true → isStand M = true := fun h => by rw [HM.out]; exact delM_stand (by rw [← HOK.out, h])
        have hF1 : ok = true → findIdx M.items id < 0 := fun h => by rw [HM.out]; exact del_find (by rw [← HOK.out, h])
        have HE1 := Lib.hid hS1
        have HE2 := Lib.hid hF1
        have BB := Bw.refl W9
        clear hS1 hF1
        have g80 := G8.bx.c 0 _ rfl
        have g81 := G8.bx.c 1 _ rfl
        have g82 := G8.bx.c 2 _ rfl
        have g83 := G8.bx.c 3 _ rfl
        have g8f := G8.bx.fr
        have g90 := S9.bx.c 0 _ rfl
        have g91 := S9.bx.c 1 _ rfl
        have g92 := S9.bx.c 2 _ rfl
        have g93 := S9.bx.c 3 _ rfl
        have g9f := S9.bx.fr
        have hcall := G8.eqS S9
        go_wp2_with fail
        clear g80 g81 g82 g83 g8f
        clear g90 g91 g92 g93 g9f
        refine hcall.mono ?_
        rintro e wn ⟨rfl, hbn⟩
        clear hcall
        replace G8 := G8.bw hbn
        replace S9 := S9.bw hbn
        replace BB := BB.then hbn
        clear hbn
        cases ok with
        | true =>
          have k := G8.isI
          rw [HE1.out (by simp)] at k
          have g80 := G8.bx.c 0 _ rfl
          have g81 := G8.bx.c 1 _ rfl
          have g82 := G8.bx.c 2 _ rfl
          have g83 := G8.bx.c 3 _ rfl
          have g8f := G8.bx.fr
          have g90 := S9.bx.c 0 _ rfl
          have g91 := S9.bx.c 1 _ rfl
          have g92 := S9.bx.c 2 _ rfl
          have g93 := S9.bx.c 3 _ rfl
          have g9f := S9.bx.fr
          have hcall := k
          go_wp2_with fail
          clear g80 g81 g82 g83 g8f
          clear g90 g91 g92 g93 g9f
          refine hcall.mono ?_
          rintro e wn ⟨rfl, hbn⟩
          clear hcall
          replace G8 := G8.bw hbn
          replace S9 := S9.bw hbn
          replace BB := BB.then hbn
          clear hbn
          have hf := HE2.out (by simp)
          have k := S_FindItem wn M.items id _ G8.i
          obtain ⟨ix, hix⟩ : ∃ i, i = findIdx M.items id := ⟨_, rfl⟩
          rw [← hix] at k hf
          have hge : decide (ix ≥ 0) = false := by simpa using hf
          clear hix
          have g80 := G8.bx.c 0 _ rfl
          have g81 := G8.bx.c 1 _ rfl
          have g82 := G8.bx.c 2 _ rfl
          have g83 := G8.bx.c 3 _ rfl
          have g8f := G8.bx.fr
          have g90 := S9.bx.c 0 _ rfl
          have g91 := S9.bx.c 1 _ rfl
          have g92 := S9.bx.c 2 _ rfl
          have g93 := S9.bx.c 3 _ rfl
          have g9f := S9.bx.fr
          have hcall := k
          go_wp2_with fail
          clear g80 g81 g82 g83 g8f
          clear g90 g91 g92 g93 g9f
          refine hcall.mono ?_
          rintro e wn ⟨rfl, hbn⟩
          clear hcall
          replace G8 := G8.bw hbn
          replace S9 := S9.bw hbn
          replace BB := BB.then hbn
          clear hbn
          go_wp2_with fail
          go_meet
          exact ⟨rfl, BB⟩
        | false =>
          go_wp2_with fail
          go_meet
          exact ⟨rfl, BB⟩
      case rest => as_aux_lemma =>
        obtain ⟨rfl, hbc⟩ := hcut
        replace T := T.bw hbc
        replace B7 := B7.then hbc
        clear G8 S9 HOK HM smM
        have hv0 := fSl_empty (e := 3) (sz := 1) (R := fInt) wc
        have A10 : Bw wc (wc.alloc (.cells #[] 3)) := (Bw.refl wc).alloc _
        obtain ⟨nT, _, _⟩ := rSl_len T.b
        have NT := Lib.hid nT
        have hn3m : n3 ≤ 1048576 := by rw [nT]; exact T.sm.2.2
        obtain ⟨st, hst⟩ : ∃ b, b = isStand t := ⟨_, rfl⟩
        have HST := Lib.hid hst
        clear nT hst
        go_wp2
        go_loopg [19, 20] n3 (fun gg sv i w' => ∃ (k : Nat) (F : List Nat), k ≤ n3 ∧ gg = n3 - k ∧ i = .int .i64 k ∧ fInts w' (seenTo t k) [sv] F ∧ Fresh wc.heap.size F ∧ Bw wc w' ∧ (k = 0 ∨ st = true))
        case atStart => exact ⟨0, _, by omega, rfl, rfl, hv0, ⟨by simp, by simp⟩, A10, .inl rfl⟩
        case round =>
          clear hv0 A10
          obtain ⟨k, F, hk, rfl, rfl, hv, hF, hB, hor⟩ := hrel
          have Tr := T.bw hB
          by_cases hlt : k < n3
          · have i1 : (0 : Int) ≤ (k : Int) := by omega
            have i2 : (k : Int) < (n3 : Int) := by omega
            have HK1 := Lib.hid (show k + 1 ≤ n3 from hlt)
            have kk := Tr.isS
            rw [← HST.out] at kk
            have t0 := Tr.bx.c 0 _ rfl
            have t1 := Tr.bx.c 1 _ rfl
            have t2 := Tr.bx.c 2 _ rfl
            have t3 := Tr.bx.c 3 _ rfl
            have tf := Tr.bx.fr
            go_wp2_with fail
            clear t0 t1 t2 t3 tf
            refine kk.mono ?_
            rintro e w11 ⟨rfl, hb11⟩
            clear kk
            replace Tr := Tr.bw hb11
            have hvv := keepBw hb11 fInts_good hv
            replace hB := hB.then hb11
            clear hv hb11
            cases st with
            | false => as_aux_lemma =>
              have BW := B7.then hB
              have TT := Tr
              clear hor
              have hcall := D_DrawNewStanding w11 x0 v (h0.bw rBytes_good BW) q0
              go_wp2_with fail
              refine hcall.mono ?_
              rintro e w20 ⟨vl, ve, rfl, ⟨l, hl, gl⟩, ⟨q, hq, gq⟩, hb20⟩
              clear hcall
              replace TT := TT.bw hb20
              replace BW := BW.then hb20
              have t1 := items_tot gl
              have t2 := nodes_tot gq
              obtain ⟨N, hN⟩ : ∃ N, N = newSt l q := ⟨_, rfl⟩
              obtain ⟨ab, hab⟩ : ∃ b, b = areBoth l q := ⟨_, rfl⟩
              have smN : smallSt N := by rw [hN]; exact newSt_small t1 t2
              have hcall := I_NewStanding w20 l q _ _ hl hq t1 t2
              rw [← hN, ← hab] at hcall
              have HN := Lib.hid hN
              have HAB := Lib.hid hab
              clear hN hab gl gq
              go_wp2_with fail
              refine hcall.mono ?_
              rintro e w21 ⟨u21, rfl, ⟨cs, rfl, F21, o21, _⟩, hb21⟩
              clear hcall
              obtain ⟨A121, n121, c121, A221, n221, c221, A321, n321, c321, rfl, S21⟩ := StB.of o21 smN
              have AA := (Bw.refl w21).alloc (.cells #[.slice A121 n121 c121, .slice A221 n221 c221, .slice A321 n321 c321, .int .i64 (N).tests] 28)
              have AB21 := hb21.then AA
              obtain ⟨b21, hbb⟩ : ∃ b, b = (w21).heap.size := ⟨_, rfl⟩
              obtain ⟨W21, hW⟩ : ∃ W, W = (w21).alloc (.cells #[.slice A121 n121 c121, .slice A221 n221 c221, .slice A321 n321 c321, .int .i64 (N).tests] 28) := ⟨_, rfl⟩
              rw [← hW] at S21 AB21
              rw [← hbb] at S21
              have HW21 := Lib.hid hW
              have HB21 := Lib.hid hbb
              clear hW hbb AA o21 hb21
              replace TT := TT.bw AB21
              replace BW := BW.then AB21
              have hcall := S_NewStanding W21 l q _ _ (hl.bw rItems_good AB21) (hq.bw rNodes_good AB21) t1 t2
              rw [← HN.out, ← HAB.out] at hcall
              clear hl hq t1 t2
              go_wp2_with fail
              rw [← HW21.out, ← HB21.out]
              refine hcall.mono ?_
              rintro e w22 ⟨u22, rfl, ⟨cs, rfl, F22, o22, _⟩, hb22⟩
              clear hcall
              obtain ⟨A122, n122, c122, A222, n222, c222, A322, n322, c322, rfl, S22⟩ := StB.of o22 smN
              have AA := (Bw.refl w22).alloc (.cells #[.slice A122 n122 c122, .slice A222 n222 c222, .slice A322 n322 c322, .int .i64 (N).tests] 28)
              have AB22 := hb22.then AA
              obtain ⟨b22, hbb⟩ : ∃ b, b = (w22).heap.size := ⟨_, rfl⟩
              obtain ⟨W22, hW⟩ : ∃ W, W = (w22).alloc (.cells #[.slice A122 n122 c122, .slice A222 n222 c222, .slice A322 n322 c322, .int .i64 (N).tests] 28) := ⟨_, rfl⟩
              rw [← hW] at S22 AB22
              rw [← hbb] at S22
              have HW22 := Lib.hid hW
              have HB22 := Lib.hid hbb
              clear hW hbb AA o22 hb22
              replace TT := TT.bw AB22
              replace BW := BW.then AB22
              have Q21 := S21.bw AB22
              clear S21 AB22 AB21 HN HAB smN
              have D1 : Bw W22 W22.drew := (Bw.refl W22).drew
              have hBB := Bw.refl W22.drew
              obtain ⟨E, hE⟩ : ∃ E, E = exclM t id := ⟨_, rfl⟩
              have C1 := Lib.hid (fun W (B : Bw W22 W) => (Q21.bw B).eqS (S22.bw B))
              have C2 := Lib.hid (fun W (B : Bw W22 W) => (show Calls Tryz.prog 16 #[.agg #[.slice A1 n1 c1, .slice A2 n2 c2, .slice A3 n3 c3, .int .i64 t.tests]] W (Ret W (.bool false)) from by have h := (TT.bw B).isI; rw [← HST.out] at h; exact h))
              have C3 := Lib.hid (fun W (B : Bw W22 W) => (show Calls Tryz.prog 21 #[.agg #[.slice A1 n1 c1, .slice A2 n2 c2, .slice A3 n3 c3, .int .i64 t.tests]] W (Ret W (.bool false)) from by have h := (TT.bw B).isS; rw [← HST.out] at h; exact h))
              have C4 := Lib.hid (fun W (B : Bw W22 W) => (show Calls Tryz.prog 22 #[.agg #[.slice A1 n1 c1, .slice A2 n2 c2, .slice A3 n3 c3, .int .i64 t.tests], .int .i64 id] W (RetV W (Made fInts W.heap.size E)) from by rw [hE]; exact I_ExclusiveOf W t id _ _ _ (TT.bw B).i (TT.bw B).e (TT.bw B).b))
              have C5 := Lib.hid (fun W (B : Bw W22 W) => (show Calls Tryz.prog 28 #[.agg #[.slice A1 n1 c1, .slice A2 n2 c2, .slice A3 n3 c3, .int .i64 t.tests], .int .i64 id] W (RetV W (Made fInts W.heap.size E)) from by rw [hE]; exact S_ExclusiveOf W t id _ _ _ (TT.bw B).i (TT.bw B).e (TT.bw B).b))
              clear hE
              have Qd := Q21.bw D1
              have Sd := S22.bw D1
              have Td := TT.bw D1
              have eab : (ab == ab) = true := by simp
              have est : (false == false) = true := by simp
              go_wp2_with fail
              rw [← HW22.out, ← HB22.out]
              have a0 := Qd.bx.c 0 _ rfl
              have a1 := Qd.bx.c 1 _ rfl
              have a2 := Qd.bx.c 2 _ rfl
              have a3 := Qd.bx.c 3 _ rfl
              have af := Qd.bx.fr
              have g0 := Sd.bx.c 0 _ rfl
              have g1 := Sd.bx.c 1 _ rfl
              have g2 := Sd.bx.c 2 _ rfl
              have g3 := Sd.bx.c 3 _ rfl
              have gf := Sd.bx.fr
              have t0 := Td.bx.c 0 _ rfl
              have t1 := Td.bx.c 1 _ rfl
              have t2 := Td.bx.c 2 _ rfl
              have t3 := Td.bx.c 3 _ rfl
              have tf := Td.bx.fr
              clear Qd Sd Td
              go_region_held3 (fun w' => (w'.cell? ⟨b21, 0, none⟩ = some (.slice A121 n121 c121) ∧ w'.cell? ⟨b21, 1, none⟩ = some (.slice A221 n221 c221) ∧ w'.cell? ⟨b21, 2, none⟩ = some (.slice A321 n321 c321) ∧ w'.cell? ⟨b21, 3, none⟩ = some (.int .i64 N.tests)) ∧ (w'.cell? ⟨b22, 0, none⟩ = some (.slice A122 n122 c122) ∧ w'.cell? ⟨b22, 1, none⟩ = some (.slice A222 n222 c222) ∧ w'.cell? ⟨b22, 2, none⟩ = some (.slice A322 n322 c322) ∧ w'.cell? ⟨b22, 3, none⟩ = some (.int .i64 N.tests)) ∧ (w'.cell? ⟨bt, 0, none⟩ = some (.slice A1 n1 c1) ∧ w'.cell? ⟨bt, 1, none⟩ = some (.slice A2 n2 c2) ∧ w'.cell? ⟨bt, 2, none⟩ = some (.slice A3 n3 c3) ∧ w'.cell? ⟨bt, 3, none⟩ = some (.int .i64 t.tests)))
                (first | exact ⟨⟨a0, a1, a2, a3⟩, ⟨g0, g1, g2, g3⟩, ⟨t0, t1, t2, t3⟩⟩ | exact ⟨⟨hBB.cell a0, hBB.cell a1, hBB.cell a2, hBB.cell a3⟩, ⟨hBB.cell g0, hBB.cell g1, hBB.cell g2, hBB.cell g3⟩, ⟨hBB.cell t0, hBB.cell t1, hBB.cell t2, hBB.cell t3⟩⟩)
                (first
                  | (go_at_call 15; refine (C1.out _ (D1.then hBB)).mono ?_; rintro e' wn ⟨rfl, hbn⟩; replace hBB := hBB.then hbn)
                  | (go_at_call 16; refine (C2.out _ (D1.then hBB)).mono ?_; rintro e' wn ⟨rfl, hbn⟩; replace hBB := hBB.then hbn)
                  | (go_at_call 21; refine (C3.out _ (D1.then hBB)).mono ?_; rintro e' wn ⟨rfl, hbn⟩; replace hBB := hBB.then hbn)
                  | (go_at_call 22; refine (C4.out _ (D1.then hBB)).mono ?_; rintro e' wn ⟨vx, rfl, ⟨FX, oX, _⟩, hbn⟩; (try replace rY := rY.bw rInts_good hbn); replace hBB := hBB.then hbn; have rX := fInts_Rd oX)
                  | (go_at_call 28; refine (C5.out _ (D1.then hBB)).mono ?_; rintro e' wn ⟨vy, rfl, ⟨FY, oY, _⟩, hbn⟩; (try replace rX := rX.bw rInts_good hbn); replace hBB := hBB.then hbn; have rY := fInts_Rd oY)
                  | (go_at_call 27; refine ((L_sameInts _ E E _ _ rX rY).mono fun _ _ h => Ret.same h).mono ?_; rintro e' wn ⟨rfl, hbn⟩; replace hBB := hBB.then hbn))
              all_goals
                go_wp2
                go_ret
                exact ⟨rfl, BW.then (D1.then hBB)⟩
            | true => as_aux_lemma =>
              obtain ⟨y, hy⟩ := get_of_lt (xs := t.best) (k := k) (by have := NT.out; omega)
              obtain ⟨bb, oo, eA, _, hc0⟩ := rInts_at Tr.b hy
              subst eA
              have HYY := Lib.hid hy
              obtain ⟨R, hR⟩ : ∃ R, R = exclM t y := ⟨_, rfl⟩
              have HR := Lib.hid hR
              have hSN := fun (j : Nat) (v : Int) (hv : R[j]? = some v) => seen_not (s := t) (k := k) (j := j) (b := y) (v := v) (by rw [← HST.out]) hy (by rw [← hR]; exact hv)
              rw [← hR] at hSN
              have HSN := Lib.hid hSN
              have HSL := Lib.hid (seen_len (s := t) (by rw [← HST.out]) k)
              have D1 : Bw w11 w11.drew := (Bw.refl w11).drew
              have hBB := Bw.refl w11.drew
              have Td := Tr.bw D1
              have q4 := D1.cell hc0
              have C1 := Lib.hid (fun W (B : Bw w11 W) => (show Calls Tryz.prog 22 #[.agg #[.slice A1 n1 c1, .slice A2 n2 c2, .slice (some ⟨bb, oo, none⟩) n3 c3, .int .i64 t.tests], .int .i64 y] W (RetV W (Made fInts W.heap.size R)) from by rw [HR.out]; exact I_ExclusiveOf W t y _ _ _ (Tr.bw B).i (Tr.bw B).e (Tr.bw B).b))
              have t0 := Tr.bx.c 0 _ rfl
              have t1 := Tr.bx.c 1 _ rfl
              have t2 := Tr.bx.c 2 _ rfl
              have t3 := Tr.bx.c 3 _ rfl
              have tf := Tr.bx.fr
              have q0 := Td.bx.c 0 _ rfl
              have q1 := Td.bx.c 1 _ rfl
              have q2 := Td.bx.c 2 _ rfl
              have q3 := Td.bx.c 3 _ rfl
              have qf := Td.bx.fr
              clear hy hR hSN hc0
              go_wp2_with fail
              clear t0 t1 t2 t3 tf
              go_region_held3 (fun w' => w'.cell? ⟨bt, 0, none⟩ = some (.slice A1 n1 c1) ∧ w'.cell? ⟨bt, 1, none⟩ = some (.slice A2 n2 c2) ∧ w'.cell? ⟨bt, 2, none⟩ = some (.slice (some ⟨bb, oo, none⟩) n3 c3) ∧ w'.cell? ⟨bt, 3, none⟩ = some (.int .i64 t.tests) ∧ w'.cell? ⟨bb, oo + k, none⟩ = some (.int .i64 y)) (first | exact ⟨q0, q1, q2, q3, q4⟩ | exact ⟨hBB.cell q0, hBB.cell q1, hBB.cell q2, hBB.cell q3, hBB.cell q4⟩)
                (first | (go_at_call 22; refine (C1.out _ (D1.then hBB)).mono ?_; rintro e' w12 ⟨v12, rfl, ⟨FR, oR, fR⟩, hb12⟩; replace hBB := hBB.then hb12))
              all_goals
                have rR := fInts_Rd oR
                obtain ⟨AR, m, cR, rfl, L0, Lc, Lm⟩ := rSl_open rR
                unfold maxLen at Lm
                have L := Lib.hid L0
                clear L0
                have hm16 : m ≤ 16 := by rw [L.out, HR.out]; exact excl16 t y
                have hvW := keepBw (D1.then hBB) fInts_good hvv
                have hFlt := (fInts_good (B := 0)).lt hvv
                have BW := hB.then (D1.then hBB)
                have NFR := Lib.hid (show ∀ z ∈ F, z ∉ FR from fun z hz h2 => by have := hFlt z hz; have := fR.ge z h2; have := D1.size; omega)
                clear q0 q1 q2 q3 qf
                clear q4 C1 hBB D1 Td hb12 rR hvv hFlt
                go_wp2
                go_loopg [19, 22] m (fun gg sv i w' => ∃ (j : Nat) (F' : List Nat), j ≤ m ∧ gg = m - j ∧ i = .int .i64 j ∧ fInts w' (seenTo t k ++ R.take j) [sv] F' ∧ Fresh wc.heap.size F' ∧ Bw wc w' ∧ fInts w' R [.slice AR m cR] FR ∧ Hid (∀ z ∈ F', z ∉ FR))
                case atStart => exact ⟨0, F, by omega, rfl, rfl, by rw [List.take_zero, List.append_nil]; exact hvW, hF, BW, oR, NFR⟩
                case round =>
                  clear hvW BW oR hF NFR hB Tr
                  obtain ⟨j, F', hj, rfl, rfl, hv, hF, hB, oR, NF⟩ := hrel
                  obtain ⟨As, ns, cs, rfl, ls, _⟩ := rSl_open (fInts_Rd hv)
                  replace ls := Lib.hid ls
                  by_cases hlt2 : j < m
                  · obtain ⟨z, hz⟩ := get_of_lt (xs := R) (k := j) (by have := L.out; omega)
                    obtain ⟨br, or', eR, _, cr⟩ := rInts_at (fInts_Rd oR) hz
                    subst eR
                    have Tr := T.bw hB
                    obtain ⟨e1, e2⟩ := HSN.out j z hz
                    have hts : seenTo t k ++ R.take (j + 1) = seenTo t k ++ R.take j ++ [z] := by rw [List.take_add_one, hz, List.append_assoc]; rfl
                    have HTS := Lib.hid hts
                    have j1 : (0 : Int) ≤ (j : Int) := by omega
                    have j2 : (j : Int) < (m : Int) := by omega
                    have s0 := since_cell cr
                    have s1 := since_cell (Tr.bx.c 2 _ rfl)
                    have hvR := fInts_Rd hv
                    have cc1 : ∀ s : Since wr, Calls Tryz.prog 23 #[.slice As ns cs, .int .i64 z] s.1 (Ret s.1 (.bool false)) := fun s => by rw [← e1]; exact L_has _ _ z _ (Rd.bw rInts_good hvR s.bw)
                    have cc2 : ∀ s : Since wr, Calls Tryz.prog 23 #[.slice (some ⟨bb, oo, none⟩) n3 c3, .int .i64 z] s.1 (Ret s.1 (.bool false)) := fun s => by rw [← e2]; exact L_has _ _ z _ (Rd.bw rInts_good Tr.b s.bw)
                    have HC1 := Lib.hid e1
                    clear hz e1 e2 hts
                    go_wp2
                    refine wp_region_since (by kernel_rfl) (by kernel_rfl) ?_
                    repeat (first | go_big_quiet_skip | (go_big_quiet_want; go_big_quiet_op; first | go_big_quiet_on | (apply Exists.intro; refine ⟨fun _ => ?_, ?_⟩; (· (((go_at_call 23; first | (with_reducible exact Calls_since (cc1 _)) | (with_reducible exact Calls_since (cc2 _)))))); go_big_quiet_on)))
                    refine wpQuiet_nil ?_
                    rintro ⟨wq, hbq⟩
                    dsimp only at *
                    have cr2 := hbq.cell cr
                    have hv2 := keepBw hbq fInts_good hv
                    have hA := (Bw.refl wq).alloc (.cells #[.int .i64 z] 3)
                    have hvW := keepBw hA fInts_good hv2
                    have oR2 := keepBw (hbq.then hA) fInts_good oR
                    have hFm := (fInts_good (B := 0)).lt hv2
                    have hRm := (fInts_good (B := 0)).lt (keepBw hbq fInts_good oR)
                    have hbW := (hB.then hbq).then hA
                    have hcl := cell_one_new wq (.int .i64 z) 3
                    have hbs := (hB.then hbq).size
                    have HLN := Lib.hid (show (seenTo t k ++ R.take j).length ≤ 20000000 by
                      rw [List.length_append, List.length_take]
                      have := HSL.out
                      have h3 := T.sm.2.2
                      have h4 := NT.out
                      omega)
                    clear cc1 cc2 s0 s1 hv hv2 cr hvR
                    go_wp2_with (at_builtin; refine wpList_push2 _ rfl (.tmp 187) (.tmp 192) 26 rfl wc 3 i0 _ 1 8 Tryz.underlying26 hi hz0 hz1 hz2 rfl (by omega) fInt_good _ (seenTo t k ++ R.take j) F' rfl hvW hF ⟨wq.heap.size, 0, none⟩ 1 rfl z [.int .i64 z] [] hcl ⟨rfl, rfl⟩ rfl wq.heap.size hFm Fresh.nil hbs (by have := HLN.out; omega) (by have := HLN.out; omega) hbW ?_; intro v' w' F'' hv' hF' hb' hO' hs')
                    have NF' := Lib.hid (show ∀ z ∈ F'', z ∉ FR from fun z hz h2 => (hs' z hz).elim (fun h => NF.out z h h2) (fun h => h.elim (fun h => by simp at h) (fun h => by have := hRm z h2; have := hA.size; omega)))
                    have oR3 := hO'.keeps fInts_good oR2 (fun c h h2 => NF.out c h2 h)
                    go_roundg (m - (j + 1))
                    case measure => omega
                    case rel => exact ⟨j + 1, F'', by omega, rfl, by go_num, by rw [HTS.out]; exact hv', hF', hb', oR3, NF'⟩
                  · obtain rfl : j = m := by omega
                    rw [List.take_of_length_le (by rw [← L.out]; exact Nat.le_refl _), HR.out, ← seenTo_succ HYY.out] at hv
                    go_wp2
                    go_roundg (n3 - (k + 1))
                    case measure => omega
                    case rel => exact ⟨k + 1, F', HK1.out, rfl, by go_num, hv, hF, hB, .inr (by simp)⟩
          · obtain rfl : n3 = k := by omega
            have j2 : ¬ (n3 : Int) < (n3 : Int) := by omega
            have t0 := Tr.bx.c 0 _ rfl
            have t1 := Tr.bx.c 1 _ rfl
            have t2 := Tr.bx.c 2 _ rfl
            have t3 := Tr.bx.c 3 _ rfl
            have tf := Tr.bx.fr
            go_upto_region 26 with fail
            clear t0 t1 t2 t3 tf
            have BW := B7.then hB
            have TT := Tr
            clear hor
            have hcall := D_DrawNewStanding wr x0 v (h0.bw rBytes_good BW) q0
            go_wp2_with fail
            refine hcall.mono ?_
            rintro e w20 ⟨vl, ve, rfl, ⟨l, hl, gl⟩, ⟨q, hq, gq⟩, hb20⟩
            clear hcall
            replace TT := TT.bw hb20
            replace BW := BW.then hb20
            have t1 := items_tot gl
            have t2 := nodes_tot gq
            obtain ⟨N, hN⟩ : ∃ N, N = newSt l q := ⟨_, rfl⟩
            obtain ⟨ab, hab⟩ : ∃ b, b = areBoth l q := ⟨_, rfl⟩
            have smN : smallSt N := by rw [hN]; exact newSt_small t1 t2
            have hcall := I_NewStanding w20 l q _ _ hl hq t1 t2
            rw [← hN, ← hab] at hcall
            have HN := Lib.hid hN
            have HAB := Lib.hid hab
            clear hN hab gl gq
            go_wp2_with fail
            refine hcall.mono ?_
            rintro e w21 ⟨u21, rfl, ⟨cs, rfl, F21, o21, _⟩, hb21⟩
            clear hcall
            obtain ⟨A121, n121, c121, A221, n221, c221, A321, n321, c321, rfl, S21⟩ := StB.of o21 smN
            have AA := (Bw.refl w21).alloc (.cells #[.slice A121 n121 c121, .slice A221 n221 c221, .slice A321 n321 c321, .int .i64 (N).tests] 28)
            have AB21 := hb21.then AA
            obtain ⟨b21, hbb⟩ : ∃ b, b = (w21).heap.size := ⟨_, rfl⟩
            obtain ⟨W21, hW⟩ : ∃ W, W = (w21).alloc (.cells #[.slice A121 n121 c121, .slice A221 n221 c221, .slice A321 n321 c321, .int .i64 (N).tests] 28) := ⟨_, rfl⟩
            rw [← hW] at S21 AB21
            rw [← hbb] at S21
            have HW21 := Lib.hid hW
            have HB21 := Lib.hid hbb
            clear hW hbb AA o21 hb21
            replace TT := TT.bw AB21
            replace BW := BW.then AB21
            have hcall := S_NewStanding W21 l q _ _ (hl.bw rItems_good AB21) (hq.bw rNodes_good AB21) t1 t2
            rw [← HN.out, ← HAB.out] at hcall
            clear hl hq t1 t2
            go_wp2_with fail
            rw [← HW21.out, ← HB21.out]
            refine hcall.mono ?_
            rintro e w22 ⟨u22, rfl, ⟨cs, rfl, F22, o22, _⟩, hb22⟩
            clear hcall
            obtain ⟨A122, n122, c122, A222, n222, c222, A322, n322, c322, rfl, S22⟩ := StB.of o22 smN
            have AA := (Bw.refl w22).alloc (.cells #[.slice A122 n122 c122, .slice A222 n222 c222, .slice A322 n322 c322, .int .i64 (N).tests] 28)
            have AB22 := hb22.then AA
            obtain ⟨b22, hbb⟩ : ∃ b, b = (w22).heap.size := ⟨_, rfl⟩
            obtain ⟨W22, hW⟩ : ∃ W, W = (w22).alloc (.cells #[.slice A122 n122 c122, .slice A222 n222 c222, .slice A322 n322 c322, .int .i64 (N).tests] 28) := ⟨_, rfl⟩
            rw [← hW] at S22 AB22
            rw [← hbb] at S22
            have HW22 := Lib.hid hW
            have HB22 := Lib.hid hbb
            clear hW hbb AA o22 hb22
            replace TT := TT.bw AB22
            replace BW := BW.then AB22
            have Q21 := S21.bw AB22
            clear S21 AB22 AB21 HN HAB smN
            have D1 : Bw W22 W22.drew := (Bw.refl W22).drew
            have hBB := Bw.refl W22.drew
            obtain ⟨E, hE⟩ : ∃ E, E = exclM t id := ⟨_, rfl⟩
            have C1 := Lib.hid (fun W (B : Bw W22 W) => (Q21.bw B).eqS (S22.bw B))
            have C2 := Lib.hid (fun W (B : Bw W22 W) => (show Calls Tryz.prog 16 #[.agg #[.slice A1 n1 c1, .slice A2 n2 c2, .slice A3 n3 c3, .int .i64 t.tests]] W (Ret W (.bool st)) from by have h := (TT.bw B).isI; rw [← HST.out] at h; exact h))
            have C3 := Lib.hid (fun W (B : Bw W22 W) => (show Calls Tryz.prog 21 #[.agg #[.slice A1 n1 c1, .slice A2 n2 c2, .slice A3 n3 c3, .int .i64 t.tests]] W (Ret W (.bool st)) from by have h := (TT.bw B).isS; rw [← HST.out] at h; exact h))
            have C4 := Lib.hid (fun W (B : Bw W22 W) => (show Calls Tryz.prog 22 #[.agg #[.slice A1 n1 c1, .slice A2 n2 c2, .slice A3 n3 c3, .int .i64 t.tests], .int .i64 id] W (RetV W (Made fInts W.heap.size E)) from by rw [hE]; exact I_ExclusiveOf W t id _ _ _ (TT.bw B).i (TT.bw B).e (TT.bw B).b))
            have C5 := Lib.hid (fun W (B : Bw W22 W) => (show Calls Tryz.prog 28 #[.agg #[.slice A1 n1 c1, .slice A2 n2 c2, .slice A3 n3 c3, .int .i64 t.tests], .int .i64 id] W (RetV W (Made fInts W.heap.size E)) from by rw [hE]; exact S_ExclusiveOf W t id _ _ _ (TT.bw B).i (TT.bw B).e (TT.bw B).b))
            clear hE
            have Qd := Q21.bw D1
            have Sd := S22.bw D1
            have Td := TT.bw D1
            have eab : (ab == ab) = true := by simp
            have est : (st == st) = true := by simp
            go_wp2_with fail
            rw [← HW22.out, ← HB22.out]
            have a0 := Qd.bx.c 0 _ rfl
            have a1 := Qd.bx.c 1 _ rfl
            have a2 := Qd.bx.c 2 _ rfl
            have a3 := Qd.bx.c 3 _ rfl
            have af := Qd.bx.fr
            have g0 := Sd.bx.c 0 _ rfl
            have g1 := Sd.bx.c 1 _ rfl
            have g2 := Sd.bx.c 2 _ rfl
            have g3 := Sd.bx.c 3 _ rfl
            have gf := Sd.bx.fr
            have t0 := Td.bx.c 0 _ rfl
            have t1 := Td.bx.c 1 _ rfl
            have t2 := Td.bx.c 2 _ rfl
            have t3 := Td.bx.c 3 _ rfl
            have tf := Td.bx.fr
            clear Qd Sd Td
            go_region_held3 (fun w' => (w'.cell? ⟨b21, 0, none⟩ = some (.slice A121 n121 c121) ∧ w'.cell? ⟨b21, 1, none⟩ = some (.slice A221 n221 c221) ∧ w'.cell? ⟨b21, 2, none⟩ = some (.slice A321 n321 c321) ∧ w'.cell? ⟨b21, 3, none⟩ = some (.int .i64 N.tests)) ∧ (w'.cell? ⟨b22, 0, none⟩ = some (.slice A122 n122 c122) ∧ w'.cell? ⟨b22, 1, none⟩ = some (.slice A222 n222 c222) ∧ w'.cell? ⟨b22, 2, none⟩ = some (.slice A322 n322 c322) ∧ w'.cell? ⟨b22, 3, none⟩ = some (.int .i64 N.tests)) ∧ (w'.cell? ⟨bt, 0, none⟩ = some (.slice A1 n1 c1) ∧ w'.cell? ⟨bt, 1, none⟩ = some (.slice A2 n2 c2) ∧ w'.cell? ⟨bt, 2, none⟩ = some (.slice A3 n3 c3) ∧ w'.cell? ⟨bt, 3, none⟩ = some (.int .i64 t.tests)))
              (first | exact ⟨⟨a0, a1, a2, a3⟩, ⟨g0, g1, g2, g3⟩, ⟨t0, t1, t2, t3⟩⟩ | exact ⟨⟨hBB.cell a0, hBB.cell a1, hBB.cell a2, hBB.cell a3⟩, ⟨hBB.cell g0, hBB.cell g1, hBB.cell g2, hBB.cell g3⟩, ⟨hBB.cell t0, hBB.cell t1, hBB.cell t2, hBB.cell t3⟩⟩)
              (first
                | (go_at_call 15; refine (C1.out _ (D1.then hBB)).mono ?_; rintro e' wn ⟨rfl, hbn⟩; replace hBB := hBB.then hbn)
                | (go_at_call 16; refine (C2.out _ (D1.then hBB)).mono ?_; rintro e' wn ⟨rfl, hbn⟩; replace hBB := hBB.then hbn)
                | (go_at_call 21; refine (C3.out _ (D1.then hBB)).mono ?_; rintro e' wn ⟨rfl, hbn⟩; replace hBB := hBB.then hbn)
                | (go_at_call 22; refine (C4.out _ (D1.then hBB)).mono ?_; rintro e' wn ⟨vx, rfl, ⟨FX, oX, _⟩, hbn⟩; (try replace rY := rY.bw rInts_good hbn); replace hBB := hBB.then hbn; have rX := fInts_Rd oX)
                | (go_at_call 28; refine (C5.out _ (D1.then hBB)).mono ?_; rintro e' wn ⟨vy, rfl, ⟨FY, oY, _⟩, hbn⟩; (try replace rX := rX.bw rInts_good hbn); replace hBB := hBB.then hbn; have rY := fInts_Rd oY)
                | (go_at_call 27; refine ((L_sameInts _ E E _ _ rX rY).mono fun _ _ h => Ret.same h).mono ?_; rintro e' wn ⟨rfl, hbn⟩; replace hBB := hBB.then hbn))
            all_goals
              go_wp2
              go_ret
              exact ⟨rfl, BW.then (D1.then hBB)⟩
end Go.Proofs.YtpihighajaeabaaGreat
