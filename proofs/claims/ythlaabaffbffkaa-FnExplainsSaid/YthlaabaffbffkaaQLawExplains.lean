/- For every input, FnExplains returns true and leaves its argument as it was. No condition. -/
import Derived.Test.YthlaabaffbffkaaRows
import Derived.Test.YthlaabaffbffkaaQLawH
import Derived.Test.YthlaabaffbffkaaQDrawM
import Derived.Test.YthlaabaffbffkaaQExplP
import Derived.Test.YthlaabaffbffkaaQStand
import Derived.Test.YthlaabaffbffkaaQOpenB
namespace Go.Proofs.Ythlaabaffbffkaa
open Go.RowKit Go.ChangeShapes Go.WideShapes Go.ChangeAt
set_option linter.unusedVariables false
set_option linter.unusedSimpArgs false
/-- a comparison of a list with itself -/
theorem Ret.same {w : World} {α : Type} [DecidableEq α] {x : α} {e : Ending} {w' : World} (h : Ret w (.bool (decide (x = x))) e w') : Ret w (.bool true) e w' := by
  have e : decide (x = x) = true := decide_eq_true rfl
  rwa [e] at h
theorem gItems_tot {n : Nat} {xs : List GItem} (hn : n ≤ 16) (h : gItems n xs) : totItems xs ≤ 1048576 := by
  have h2 := sum_const (fun x : GItem => x.vals.length) (B := 4) (l := xs) (fun x hx => (h.2 x hx).2.1)
  have h1 := h.1
  unfold totItems; omega
/-- a list of one item -/
theorem rItems_one {w : World} {x : GItem} {u : Value} (h : Rd rInts w x.vals [u]) : Rd rItems (w.alloc (.cells #[.int .i64 x.id, u] 30)) [x] [.slice (some ⟨w.heap.size, 0, none⟩) 1 1] := by
  have hA := (Bw.refl w).alloc (.cells #[.int .i64 x.id, u] 30)
  refine ⟨_, 1, rfl, Nat.le_refl _, by simp [maxLen], fun k y hy => ?_⟩
  have hk : k = 0 := by have := (List.getElem?_eq_some_iff.1 hy).1; simpa using this
  subst hk
  have hxy : x = y := by simpa using hy
  subst hxy
  refine ⟨w.heap.size, 0, [.int .i64 x.id, u], rfl, by simp, rfl, fun j t ht => ?_, _, rfl, h.bw rInts_good hA⟩
  have := World.news_of_block (cs := #[.int .i64 x.id, u]) (t := 30) (fr := (0, 0)) (heap_alloc_new w (.cells #[.int .i64 x.id, u] 30)) j t ht
  have hadd : (⟨w.heap.size, 0, none⟩ : Addr).add j = ⟨w.heap.size, j, none⟩ := by unfold Addr.add; split <;> simp_all
  rw [hadd] at this
  simpa using this
set_option maxRecDepth 100000 in
set_option maxHeartbeats 12800000 in
theorem walk_FnExplains (w : World) (x0 : List Int) (v : Value) (h0 : Rd rBytes w x0 [v]) (q0 : wfBytes x0) : Calls Try.prog 3 #[v] w (Ret w (.bool true)) := by
  have hcall := L_big w x0 v h0
  go_enter Try.func3, Try.ntmps3
  go_wp2_with fail
  refine hcall.mono ?_
  rintro e w1 ⟨rfl, hb1⟩
  clear hcall
  by_cases hbig : 1048576 < x0.length
  · have e1 : decide (1048576 < x0.length) = true := decide_eq_true hbig
    rw [e1]
    clear e1
    go_wp2
    go_ret
    exact ⟨rfl, hb1⟩
  · have e1 : decide (1048576 < x0.length) = false := decide_eq_false hbig
    rw [e1]
    clear e1
    have hcall := D_DrawSmallestChange w1 x0 v (h0.bw rBytes_good hb1) q0
    go_wp2_with fail
    refine hcall.mono ?_
    rintro e w2 ⟨va, vb, id, rfl, ⟨l, hl, gl⟩, ⟨q, hq, gq⟩, hid, hb2⟩
    clear hcall
    have B2 := hb1.then hb2
    have ht := gItems_tot (by omega) gl
    obtain ⟨ok, hok⟩ : ∃ ok, ok = changeOk l q id := ⟨_, rfl⟩
    obtain ⟨X, hX⟩ : ∃ X, X = changeX l q id := ⟨_, rfl⟩
    obtain ⟨C, hC⟩ : ∃ C, C = changeC l q id := ⟨_, rfl⟩
    have HOK := Lib.hid hok
    have HX := Lib.hid hX
    have HC := Lib.hid hC
    have hXl : X.vals.length ≤ 1048576 := by
      rw [hX]; unfold changeX; split
      · have := chTo_len l q (itemAt l id) id 1000; omega
      · exact Nat.zero_le _
    have HXL := Lib.hid hXl
    clear hok hX hC hXl
    have k1 := I_SmallestChange w2 l q id va vb hl hq
    rw [← HOK.out, ← HX.out, ← HC.out] at k1
    have hcall := k1
    go_wp2_with fail
    refine hcall.mono ?_
    rintro e w3 ⟨u3, rfl, ⟨cs, rfl, F3, ⟨vx, rfl, hvx⟩, f3⟩, hb3⟩
    clear hcall
    have rx := fInts_Rd hvx
    obtain ⟨Ax, nx, cx, rfl, lx, _⟩ := rSl_open rx
    have LX := Lib.hid lx
    clear lx
    have bX := Box.new w3 #[.int .i64 X.id, .slice Ax nx cx] 30
    have A3 := (Bw.refl w3).alloc (.cells #[.int .i64 X.id, .slice Ax nx cx] 30)
    have h23 := hb3.then A3
    have k2 := S_SmallestChange _ l q id va vb (hl.bw rItems_good h23) (hq.bw rNodes_good h23)
    rw [← HOK.out, ← HX.out, ← HC.out] at k2
    clear k1
    have hcall := k2
    go_wp2_with fail
    refine hcall.mono ?_
    rintro e w4 ⟨u4, rfl, ⟨cs, rfl, F4, ⟨vy, rfl, hvy⟩, f4⟩, hb4⟩
    clear hcall
    have ry := fInts_Rd hvy
    obtain ⟨Ay, ny, cy, rfl, ly, _⟩ := rSl_open ry
    have LY := Lib.hid ly
    clear ly
    have bY := Box.new w4 #[.int .i64 X.id, .slice Ay ny cy] 30
    have A4 := (Bw.refl w4).alloc (.cells #[.int .i64 X.id, .slice Ay ny cy] 30)
    have h24 := (h23.then hb4).then A4
    have rx4 := ((rx.bw rInts_good A3).bw rInts_good hb4).bw rInts_good A4
    have ry4 := ry.bw rInts_good A4
    replace bX := (bX.bw hb4).bw A4
    have gN : (ok != ok) = false := by simp
    have gC : (C != C) = false := by simp
    have q1 := rItems_one rx4
    have A5 := (Bw.refl (w4.alloc (.cells #[.int .i64 X.id, .slice Ay ny cy] 30))).alloc (.cells #[.int .i64 X.id, .slice Ax nx cx] 30)
    have q2 := rItems_one (ry4.bw rInts_good A5)
    have A6 := (Bw.refl ((w4.alloc (.cells #[.int .i64 X.id, .slice Ay ny cy] 30)).alloc (.cells #[.int .i64 X.id, .slice Ax nx cx] 30))).alloc (.cells #[.int .i64 X.id, .slice Ay ny cy] 30)
    have k5 := (S_EqualItems _ _ _ _ _ (q1.bw rItems_good A6) q2).mono fun _ _ h => Ret.same h
    have x0 := bX.c 0 _ rfl
    have x1 := bX.c 1 _ rfl
    have xf := bX.fr
    have bY5 := bY.bw A5
    have y0 := bY5.c 0 _ rfl
    have y1 := bY5.c 1 _ rfl
    have yf := bY5.fr
    have n1 : (w4.alloc (.cells #[.int .i64 X.id, .slice Ay ny cy] 30)).heap.size = w4.heap.size + 1 := by simp
    have n2 : ((w4.alloc (.cells #[.int .i64 X.id, .slice Ay ny cy] 30)).alloc (.cells #[.int .i64 X.id, .slice Ax nx cx] 30)).heap.size = w4.heap.size + 1 + 1 := by simp
    rw [n2, n1] at k5
    have h45 := A5.then A6
    clear k2 q1 q2 hvx hvy f3 f4 rx ry n1 n2
    go_wp2_with fail
    refine k5.mono ?_
    rintro e w5 ⟨rfl, hb5⟩
    have h2w5 := (h24.then h45).then hb5
    have h4w5 := h45.then hb5
    replace bX := bX.bw h4w5
    replace bY := bY.bw h4w5
    have sx := rx4.bw rInts_good h4w5
    have sy := ry4.bw rInts_good h4w5
    clear x0 x1 xf
    clear y0 y1 yf
    clear k5 A3 A4 A5 A6 bY5 rx4 ry4 h45 hb5 hb3 hb4 h23
    have k6 := I_ExplainItem w5 l q id va vb (hl.bw rItems_good h2w5) (hq.bw rNodes_good h2w5)
    obtain ⟨E, hE⟩ : ∃ E, E = explLine l q id := ⟨_, rfl⟩
    have HE := Lib.hid hE
    rw [← hE] at k6
    clear hE
    have hcall := k6
    go_wp2_with fail
    refine hcall.mono ?_
    rintro e w6 ⟨rfl, hb6⟩
    clear hcall
    have h26 := h2w5.then hb6
    have k7 := S_ExplainItem w6 l q id va vb (hl.bw rItems_good h26) (hq.bw rNodes_good h26)
    rw [← HE.out] at k7
    have gE : (E.toList == E.toList) = true := by simp
    have gE2 : (E.toList != E.toList) = false := by simp
    have hcall := k7
    go_wp2_with fail
    refine hcall.mono ?_
    rintro e w7 ⟨rfl, hb7⟩
    clear hcall
    have h57 := hb6.then hb7
    have h27 := h2w5.then h57
    have B7 := B2.then h27
    replace bX := bX.bw h57
    replace bY := bY.bw h57
    replace sx := sx.bw rInts_good h57
    have hl7 := hl.bw rItems_good h27
    have hq7 := hq.bw rNodes_good h27
    clear k6 k7 sy h26 h57 h4w5 h24 h2w5 hb6 hb7 B2 hl hq h27 hb2 HE gC gN
    obtain ⟨Al, nl, cl, rfl, ll, _⟩ := rSl_open hl7
    have LL := Lib.hid ll
    clear ll
    cases ok with
    | false =>
      go_wp2
      go_ret
      exact ⟨rfl, B7⟩
    | true =>
      obtain ⟨j, p, hB, hf, hp, hpid, hia, hip⟩ := change_old HOK.out.symm
      have HDO := Lib.hid (show changeOk l q id = true from HOK.out.symm)
      have HIP := Lib.hid hip
      have HIA := Lib.hid hia
      obtain ⟨bl, ol, Ap, cp, rfl, _, d0, d1, hpv⟩ := rItems_at hl7 hp
      have HJ := Lib.hid (show j < nl by rw [LL.out]; exact (List.getElem?_eq_some_iff.1 hp).1)
      have hjl := HJ.out
      have j1 : (0 : Int) ≤ (j : Int) := by omega
      have j2 : (j : Int) < (nl : Int) := by omega
      have HB := Lib.hid hB
      have HF := Lib.hid hf
      have HPI := Lib.hid hpid
      have k8 := S_FindItem w7 l id _ hl7
      rw [HF.out] at k8
      have HP := Lib.hid hp
      have hp3 : p.vals.length = 3 := isItem_len hip
      rw [hp3] at d1 hpv
      have HP3 := Lib.hid hp3
      clear gE gE2 hB hf hpid hp hip hia hp3
      have hcall := k8
      go_wp2_with fail
      refine hcall.mono ?_
      rintro e w8 ⟨rfl, hb8⟩
      clear hcall
      replace d0 := hb8.cell d0
      replace d1 := hb8.cell d1
      replace bX := bX.bw hb8
      clear k8
      have bP := Box.new w8 #[.int .i64 p.id, .slice Ap 3 cp] 30
      have A8 := (Bw.refl w8).alloc (.cells #[.int .i64 p.id, .slice Ap 3 cp] 30)
      have h8 := hb8.then A8
      have bX8 := bX.bw A8
      have sx8 := sx.bw rInts_good h8
      have hl8 := hl7.bw rItems_good h8
      have hq8 := hq7.bw rNodes_good h8
      have k9 := I_ReplaceItem _ l X _ _ hl8 sx8 ht HXL.out
      have x0 := bX8.c 0 _ rfl
      have x1 := bX8.c 1 _ rfl
      have xf := bX8.fr
      go_wp2_with fail
      refine k9.mono ?_
      rintro e w9 ⟨v9, rfl, ⟨F9, o9, f9⟩, hb9⟩
      have r9 := fItems_Rd o9
      have h89 := A8.then hb9
      replace bX := (bX.bw A8).bw hb9
      replace bP := bP.bw hb9
      have sx9 := sx8.bw rInts_good hb9
      have hl9 := hl8.bw rItems_good hb9
      have hq9 := hq8.bw rNodes_good hb9
      have hp9 := Rd.bw rInts_good (Rd.bw rInts_good hpv h8) hb9
      have B9 := B7.then (h8.then hb9)
      clear x0 x1 xf
      clear k9 o9 f9 bX8 sx sx8 hl7 hl8 hq7 hq8 hb8 A8 h8 h89 hb9 d0 d1 bY hpv B7 hjl j1 j2
      have k10 := S_IsBest w9 (replM l X) q id v9 vb r9 hq9
      rw [show (bestItems (replM l X) q).contains id = true from by rw [HX.out]; exact expl_best HDO.out] at k10
      have x0 := bX.c 0 _ rfl
      have x1 := bX.c 1 _ rfl
      have xf := bX.fr
      have y0 := bP.c 0 _ rfl
      have y1 := bP.c 1 _ rfl
      have yf := bP.fr
      have hcall := k10
      go_wp2_with fail
      refine hcall.mono ?_
      rintro e w10 ⟨rfl, hb10⟩
      clear hcall
      clear k10
      clear x0 x1 xf
      clear y0 y1 yf
      replace bX := bX.bw hb10
      replace bP := bP.bw hb10
      have x0 := bX.c 0 _ rfl
      have x1 := bX.c 1 _ rfl
      have xf := bX.fr
      have y0 := bP.c 0 _ rfl
      have y1 := bP.c 1 _ rfl
      have yf := bP.fr
      have k11 := I_CostOf w10 X p (.slice Ax nx cx) (.slice Ap 3 cp) (sx9.bw rInts_good hb10) (Rd.bw rInts_good hp9 hb10)
      rw [show costOf X p = C from by rw [HX.out, HC.out, ← HIA.out]; exact expl_cost HDO.out] at k11
      have gC : (C != C) = false := by simp
      have hcall := k11
      go_wp2_with fail
      refine hcall.mono ?_
      rintro e w11 ⟨rfl, hb11⟩
      clear hcall
      have h911 := hb10.then hb11
      have k12 := S_IsBest w11 l q id _ vb (hl9.bw rItems_good h911) (hq9.bw rNodes_good h911)
      rw [show (bestItems l q).contains id = (C == 0) from by rw [HC.out, ← expl_zero HDO.out]; rfl] at k12
      have gz : ((C == 0) != (C == 0)) = false := by simp
      have hcall := k12
      go_wp2_with fail
      refine hcall.mono ?_
      rintro e w12 ⟨rfl, hb12⟩
      clear hcall
      have h912 := h911.then hb12
      have bP12 := (bP.bw hb11).bw hb12
      have hl12 := hl9.bw rItems_good h912
      have hq12 := hq9.bw rNodes_good h912
      have hp12 := Rd.bw rInts_good hp9 h912
      have B12 := B9.then h912
      clear x0 x1 xf
      clear y0 y1 yf
      clear k11 k12 gC sx9 hl9 hq9 hp9 hb10 hb11 hb12 h911 h912 r9 bX bP B9
      have KAT := Lib.hid (fun (W : World) (B : Bw w W) (I : Int) (m : Nat) (hI : I = (m : Int)) (hm : m ≤ 100) => (show Calls Try.prog 15 #[v, .int .i64 I] W (Ret W (.int .i64 (atM x0 m))) from by
        rw [hI]; exact L_at W x0 m v (h0.bw rBytes_good B) q0 (by omega) (by omega)))
      have HA := Lib.hid (fun m => atM_nat q0 m)
      go_wp2
      go_loopg [13, 14] 8 (fun g i z w' => ∃ k : Nat, k ≤ 8 ∧ g = 8 - k ∧ i = .int .i64 k ∧ Bw w12 w')
      case atStart => exact ⟨0, by omega, rfl, rfl, Bw.refl _⟩
      case round =>
        obtain ⟨k, hk, rfl, rfl, hB⟩ := hrel
        by_cases hlt : k < 8
        · have i1 : (0 : Int) ≤ (k : Int) := by omega
          have i2 : (k : Int) < 8 := by omega
          have BW := B12.then hB
          have ha1 := HA.out k
          have ha2 := HA.out (k + 8)
          have ha3 := HA.out (k + 16)
          obtain ⟨a1, e1⟩ : ∃ a1 : Nat, atM x0 k = (a1 : Int) := ⟨(atM x0 k).toNat, by omega⟩
          obtain ⟨a2, e2⟩ : ∃ a2 : Nat, atM x0 (k + 8) = (a2 : Int) := ⟨(atM x0 (k + 8)).toNat, by omega⟩
          obtain ⟨a3, e3⟩ : ∃ a3 : Nat, atM x0 (k + 16) = (a3 : Int) := ⟨(atM x0 (k + 16)).toNat, by omega⟩
          have E1 := Lib.hid e1
          have E2 := Lib.hid e2
          have E3 := Lib.hid e3
          clear ha1 ha2 ha3 e1 e2 e3
          go_wp2_with fail
          refine (KAT.out wr BW _ k (by first | rfl | omega) (by omega)).mono ?_
          rintro e w13 ⟨rfl, hb13⟩
          rw [E1.out]
          go_wp2_with fail
          refine (KAT.out w13 (BW.then hb13) _ (k + 8) (by first | rfl | omega) (by omega)).mono ?_
          rintro e w14 ⟨rfl, hb14⟩
          rw [E2.out]
          go_wp2_with fail
          refine (KAT.out w14 ((BW.then hb13).then hb14) _ (k + 16) (by first | rfl | omega) (by omega)).mono ?_
          rintro e w15 ⟨rfl, hb15⟩
          rw [E3.out]
          have hB15 := ((hB.then hb13).then hb14).then hb15
          have A15 := (Bw.refl w15).alloc (.cells #[.int .i64 ((a1 : Int) % 10), .int .i64 ((a2 : Int) % 10), .int .i64 ((a3 : Int) % 10)] 3)
          have A16 := (Bw.refl (w15.alloc (.cells #[.int .i64 ((a1 : Int) % 10), .int .i64 ((a2 : Int) % 10), .int .i64 ((a3 : Int) % 10)] 3))).alloc (.cells #[.int .i64 id, .slice (some ⟨w15.heap.size, 0, none⟩) 3 3] 30)
          have bZ := Box.new (w15.alloc (.cells #[.int .i64 ((a1 : Int) % 10), .int .i64 ((a2 : Int) % 10), .int .i64 ((a3 : Int) % 10)] 3)) #[.int .i64 id, .slice (some ⟨w15.heap.size, 0, none⟩) 3 3] 30
          rw [show (w15.alloc (.cells #[.int .i64 ((a1 : Int) % 10), .int .i64 ((a2 : Int) % 10), .int .i64 ((a3 : Int) % 10)] 3)).heap.size = w15.heap.size + 1 by simp] at bZ
          have hz := fInts_Rd (keepBw A16 fInts_good (fInts_tri w15 ((a1 : Int) % 10) ((a2 : Int) % 10) ((a3 : Int) % 10)))
          have h1217 := hB15.then (A15.then A16)
          have bP17 := bP12.bw h1217
          have hmin := Lib.hid (fun hlt => expl_min HDO.out (a := (a1 : Int) % 10) (b := (a2 : Int) % 10) (c := (a3 : Int) % 10) (by omega) (by omega) (by omega) hlt)
          obtain ⟨r1, hr1⟩ : ∃ r1, r1 = (a1 : Int) % 10 := ⟨_, rfl⟩
          obtain ⟨r2, hr2⟩ : ∃ r2, r2 = (a2 : Int) % 10 := ⟨_, rfl⟩
          obtain ⟨r3, hr3⟩ : ∃ r3, r3 = (a3 : Int) % 10 := ⟨_, rfl⟩
          have k16 := S_CostOf ((w15.alloc (.cells #[.int .i64 ((a1 : Int) % 10), .int .i64 ((a2 : Int) % 10), .int .i64 ((a3 : Int) % 10)] 3)).alloc (.cells #[.int .i64 id, .slice (some ⟨w15.heap.size, 0, none⟩) 3 3] 30)) ⟨id, [(a1 : Int) % 10, (a2 : Int) % 10, (a3 : Int) % 10]⟩ p _ _ hz (Rd.bw rInts_good hp12 h1217)
          have HMIN := Lib.hid (show costOf ⟨id, [(a1 : Int) % 10, (a2 : Int) % 10, (a3 : Int) % 10]⟩ p < C → (bestItems (replM l ⟨id, [(a1 : Int) % 10, (a2 : Int) % 10, (a3 : Int) % 10]⟩) q).contains id = false from fun hlt => hmin.out (by rw [HIA.out, ← HC.out]; exact hlt))
          obtain ⟨Z, hZ⟩ : ∃ Z : GItem, Z = ⟨id, [(a1 : Int) % 10, (a2 : Int) % 10, (a3 : Int) % 10]⟩ := ⟨_, rfl⟩
          have hzi : Z.id = id := by rw [hZ]
          have hzl : Z.vals.length = 3 := by rw [hZ]; rfl
          have hzv : Rd rInts ((w15.alloc (.cells #[.int .i64 ((a1 : Int) % 10), .int .i64 ((a2 : Int) % 10), .int .i64 ((a3 : Int) % 10)] 3)).alloc (.cells #[.int .i64 id, .slice (some ⟨w15.heap.size, 0, none⟩) 3 3] 30)) Z.vals [.slice (some ⟨w15.heap.size, 0, none⟩) 3 3] := by rw [hZ]; exact hz
          have k17 := fun (W : World) (B : Bw ((w15.alloc (.cells #[.int .i64 ((a1 : Int) % 10), .int .i64 ((a2 : Int) % 10), .int .i64 ((a3 : Int) % 10)] 3)).alloc (.cells #[.int .i64 id, .slice (some ⟨w15.heap.size, 0, none⟩) 3 3] 30)) W) => S_ReplaceItem W l Z _ _ (hl12.bw rItems_good (h1217.then B)) (hzv.bw rInts_good B) ht (by omega)
          simp only [hzi] at k17
          have K17 := Lib.hid k17
          rw [← hZ] at k16 HMIN
          rw [hzi] at k16
          obtain ⟨cz, hcz⟩ : ∃ cz, cz = costOf Z p := ⟨_, rfl⟩
          rw [← hcz] at k16 HMIN
          have y0 := bP17.c 0 _ rfl
          have y1 := bP17.c 1 _ rfl
          have yf := bP17.fr
          clear hr1 hr2 hr3 hmin k17 hzv hzl hzi hZ hcz hz
          go_wp2_with fail
          refine k16.mono ?_
          rintro e w18 ⟨rfl, hb18⟩
          clear k16
          clear y0 y1 yf
          have h1218 := h1217.then hb18
          replace bZ := bZ.bw hb18
          have y0 := bZ.c 0 _ rfl
          have y1 := bZ.c 1 _ rfl
          have yf := bZ.fr
          by_cases hlz : cz < C
          · have k19 := K17.out w18 hb18
            have hfal := HMIN.out hlz
            go_wp2_with fail
            refine k19.mono ?_
            rintro e w19 ⟨v19, rfl, ⟨F19, o19, f19⟩, hb19⟩
            have r19 := fItems_Rd o19
            clear k19 o19 f19
            have k20 := S_IsBest w19 (replM l Z) q id v19 vb r19 (hq12.bw rNodes_good (h1218.then hb19))
            rw [hfal] at k20
            clear hfal
            go_wp2_with fail
            refine k20.mono ?_
            rintro e w20 ⟨rfl, hb20⟩
            clear k20
            clear y0 y1 yf
            go_wp2
            go_roundg (8 - (k + 1))
            case measure => omega
            case rel => exact ⟨k + 1, by omega, rfl, by go_num, (h1218.then hb19).then hb20⟩
          · clear y0 y1 yf
            go_wp2
            go_roundg (8 - (k + 1))
            case measure => omega
            case rel => exact ⟨k + 1, by omega, rfl, by go_num, h1218⟩
        · obtain rfl : k = 8 := by omega
          have BW := B12.then hB
          clear hlt
          have hcall := D_DrawReplaceItem wr x0 v (h0.bw rBytes_good BW) q0
          go_wp2_with fail
          refine hcall.mono ?_
          rintro e w30 ⟨vl, vi, rfl, ⟨a, ha, ga⟩, ⟨b, u, rfl, hu, gb⟩, hb30⟩
          clear hcall
          obtain ⟨Au, nu, cu, rfl, lu, _⟩ := rSl_open hu
          have hta := gItems_tot (by omega) ga
          have hbl : b.vals.length ≤ 1048576 := by have := gb.2.1; omega
          have A30 := (Bw.refl w30).alloc (.cells #[.int .i64 b.id, .slice Au nu cu] 30)
          have bB := Box.new w30 #[.int .i64 b.id, .slice Au nu cu] 30
          have B30 := (BW.then hb30).then A30
          clear lu
          have hcall := D_DrawCostOf _ x0 v (h0.bw rBytes_good B30) q0
          go_wp2_with fail
          refine hcall.mono ?_
          rintro e w31 ⟨vc, vd, rfl, ⟨c, t, rfl, hc, gc⟩, ⟨d, s, rfl, hd, gd⟩, hb31⟩
          clear hcall
          obtain ⟨At, nt, ct, rfl, lt', _⟩ := rSl_open hc
          obtain ⟨As, ns, cs, rfl, ls, _⟩ := rSl_open hd
          have A31 := (Bw.refl w31).alloc (.cells #[.int .i64 c.id, .slice At nt ct] 30)
          have A32 := (Bw.refl (w31.alloc (.cells #[.int .i64 c.id, .slice At nt ct] 30))).alloc (.cells #[.int .i64 d.id, .slice As ns cs] 30)
          have AD := (A31.then A32).then ((Bw.refl _).drew)
          have bCc := ((Box.new w31 #[.int .i64 c.id, .slice At nt ct] 30).bw A32).bw ((Bw.refl _).drew)
          have bDd := (Box.new (w31.alloc (.cells #[.int .i64 c.id, .slice At nt ct] 30)) #[.int .i64 d.id, .slice As ns cs] 30).bw ((Bw.refl _).drew)
          rw [show (w31.alloc (.cells #[.int .i64 c.id, .slice At nt ct] 30)).heap.size = w31.heap.size + 1 by simp] at bDd
          have hBD := hb31.then AD
          have bBb := bB.bw hBD
          have BD := B30.then hBD
          have ha3 := (ha.bw rItems_good A30).bw rItems_good hBD
          have hu3 := (hu.bw rInts_good A30).bw rInts_good hBD
          have hc3 := hc.bw rInts_good AD
          have hd3 := hd.bw rInts_good AD
          obtain ⟨V, hV⟩ : ∃ V, V = (w31.alloc (.cells #[.int .i64 c.id, .slice At nt ct] 30)).alloc (.cells #[.int .i64 d.id, .slice As ns cs] 30) := ⟨_, rfl⟩
          rw [← hV] at bCc bDd bBb BD ha3 hu3 hc3 hd3
          have HV := Lib.hid hV
          obtain ⟨kc, hkc⟩ : ∃ kc, kc = costOf c d := ⟨_, rfl⟩
          have HKC := Lib.hid hkc
          have C1 := Lib.hid (fun W (B : Bw V.drew W) => I_ReplaceItem W a b _ _ (ha3.bw rItems_good B) (hu3.bw rInts_good B) hta hbl)
          have C2 := Lib.hid (fun W (B : Bw V.drew W) => S_ReplaceItem W a b _ _ (ha3.bw rItems_good B) (hu3.bw rInts_good B) hta hbl)
          have c3 := fun W (B : Bw V.drew W) => I_CostOf W c d _ _ (hc3.bw rInts_good B) (hd3.bw rInts_good B)
          have c4 := fun W (B : Bw V.drew W) => S_CostOf W c d _ _ (hc3.bw rInts_good B) (hd3.bw rInts_good B)
          simp only [← hkc] at c3 c4
          have C3 := Lib.hid c3
          have C4 := Lib.hid c4
          have m0 := bBb.c 0 _ rfl
          have m1 := bBb.c 1 _ rfl
          have m2 := bCc.c 0 _ rfl
          have m3 := bCc.c 1 _ rfl
          have m4 := bDd.c 0 _ rfl
          have m5 := bDd.c 1 _ rfl
          have hBB := Bw.refl V.drew
          have gkc : (kc == kc) = true := by simp
          clear hV hkc c3 c4 lt' ls bCc bDd bBb bB A30 A31 A32 AD
          go_wp2_with fail
          rw [← HV.out]
          go_region_held3 (fun w' => (w'.cell? ⟨w30.heap.size, 0, none⟩ = some (.int .i64 b.id) ∧ w'.cell? ⟨w30.heap.size, 1, none⟩ = some (.slice Au nu cu)) ∧ (w'.cell? ⟨w31.heap.size, 0, none⟩ = some (.int .i64 c.id) ∧ w'.cell? ⟨w31.heap.size, 1, none⟩ = some (.slice At nt ct)) ∧ w'.cell? ⟨w31.heap.size + 1, 0, none⟩ = some (.int .i64 d.id) ∧ w'.cell? ⟨w31.heap.size + 1, 1, none⟩ = some (.slice As ns cs)) (first | exact ⟨⟨m0, m1⟩, ⟨m2, m3⟩, m4, m5⟩ | exact ⟨⟨hBB.cell m0, hBB.cell m1⟩, ⟨hBB.cell m2, hBB.cell m3⟩, hBB.cell m4, hBB.cell m5⟩)
            (first
              | (go_at_call 13; refine (C1.out _ hBB).mono ?_; rintro e' w41 ⟨v41, rfl, ⟨F41, o41, f41⟩, hb41⟩; replace hBB := hBB.then hb41; have r41 := fItems_Rd o41; (try replace r42 := r42.bw rItems_good hb41); clear o41 f41)
              | (go_at_call 17; refine (C2.out _ hBB).mono ?_; rintro e' w42 ⟨v42, rfl, ⟨F42, o42, f42⟩, hb42⟩; replace hBB := hBB.then hb42; have r42 := fItems_Rd o42; (try replace r41 := r41.bw rItems_good hb42); clear o42 f42)
              | (go_at_call 8; refine ((S_EqualItems _ _ _ _ _ r41 r42).mono fun _ _ h => Ret.same h).mono ?_; rintro e' w43 ⟨rfl, hb43⟩; replace hBB := hBB.then hb43)
              | (go_at_call 14; refine (C3.out _ hBB).mono ?_; rintro e' w44 ⟨rfl, hb44⟩; replace hBB := hBB.then hb44)
              | (go_at_call 16; refine (C4.out _ hBB).mono ?_; rintro e' w45 ⟨rfl, hb45⟩; replace hBB := hBB.then hb45))
          all_goals
            go_wp2
            go_ret
            exact ⟨rfl, BD.then hBB⟩
set_option maxRecDepth 100000 in
theorem lifted_FnExplains (os : Os) (started : os.Started) (H : Type) (enc : TypeId × Value → H) :
    ReturnsInHanded {} Try.checked os 3 .any (Rows.fnExplainsSpec.pre6 enc Try.prog Try.f3 Rows.fnExplainsRow.domain false) (Rows.fnExplainsSpec.post enc Try.prog Try.f3 false true false false) := by
  refine returnsInHanded_of_change (C := Try.checked) own_knob started (by kernel_rfl) Try.func3
    (ChangeSpec.witness6 (enc := enc) (C := Try.checked) false ⟨#[], #[.slice none 0 0], []⟩ 8 (by kernel_rfl) (by kernel_rfl) (by kernel_rfl) (by kernel_rfl)) ?_
  intro W base args ds gs before hval0 hW hcnd _
  have hval : ∀ (j : Nat) t v, Try.f3.params[j]? = some t → args[j]? = some v → Value.okWide Try.prog W .any base t v := hval0
  have hW' := hW
  obtain ⟨p, q, hA0, hV, rfl, hfz, hnd⟩ := hW
  have hA : DataW.TrodAll enc Try.prog W 0 (fun _ => true) true Try.f3.params.toList args.toList ds p := hA0
  rw [Try.params3] at hA hval
  obtain ⟨v0, vs0, d0, ds0, p0, q0, hargs, rfl, rfl, h0, r0⟩ := trodAll_cons hA
  obtain ⟨rfl, rfl, rfl⟩ := trodAll_nil r0
  obtain rfl : args = #[v0] := by cases args; simp_all
  obtain ⟨rfl, rfl⟩ := trodVars_none hV
  have k0 := h0
  have lt0 : ∀ x ∈ p0, x.block < W.heap.size := by obtain ⟨m, hm⟩ := k0; exact DataW.trod_lt m _ _ _ hm
  obtain ⟨a0, len0, cap0, rfl⟩ := okWide_slice Try.underlying22 (hval 0 22 v0 rfl rfl)
  obtain ⟨x0, R0, Q0⟩ : ∃ xs, Rd rBytes W xs [.slice a0 len0 cap0] ∧ wfBytes xs := by obtain ⟨m, hm⟩ := h0; exact t_bytes hm
  clear hA0 hval0
  refine (walk_FnExplains W x0 _ R0 Q0).mono fun e W' ⟨he, bel⟩ => ?_
  subst he
  exact ⟨_, rfl, _, _, _, [], _, [], hW', trodAll_mk1 (shut_bool Try.underlying4 _), (trodAll_cons_mk (Below.trod laid_out (by kernel_rfl) (of_decide_eq_true (by kernel_rfl)) k0 bel lt0) trodAll_mk0), rfl, Below.frame bel _, fun h => by cases h⟩
/-- the statement -/
theorem FnExplains_holds : Rows.FnExplainsSaid :=
  OpenClaim.holds_of_wide 3 Try.f3 rfl rfl rfl rfl rfl rfl rfl ⟨rfl, rfl, rfl, rfl, rfl⟩ rfl rfl rfl rfl rfl (by kernel_rfl) Try.func3 (by kernel_rfl)
    (of_decide_eq_true (by kernel_rfl)) (by unfold Func.isWrapper; first | (rw [if_pos (by decide +kernel)]; kernel_rfl) | (rw [if_neg (by decide +kernel)]; exact ⟨rfl, rfl⟩))
    (fun os started H enc _ => lifted_FnExplains os started H enc)
end Go.Proofs.Ythlaabaffbffkaa
