/- For every input, FnExactReplaceItem returns true and leaves its arguments as they were. No condition. -/
import Derived.Test.YtjhieohbobfjjaaRows
import Derived.Test.YtjhieohbobfjjaaReplace
import Derived.Test.YtjhieohbobfjjaaMarks3
import Derived.Test.YtjhieohbobfjjaaOpen
namespace Go.Proofs.Ytjhieohbobfjjaa
open Go.RowKit Go.ChangeShapes Go.WideShapes Go.ChangeAt
set_option linter.unusedVariables false
theorem sumL_set {α : Type} (f : α → Nat) : ∀ (xs : List α) (j : Nat) (x : α), sumL f (xs.set j x) ≤ sumL f xs + f x
  | [], _, _ => by simp [sumL]
  | y :: xs, 0, x => by simp only [List.set_cons_zero, sumL]; omega
  | y :: xs, j + 1, x => by have := sumL_set f xs j x; simp only [List.set_cons_succ, sumL]; omega
theorem tot_repl {xs : List GItem} {x : GItem} (h : totItems xs + x.vals.length ≤ 1048576) : totItems (replM xs x) ≤ 1048576 := by
  unfold replM
  split
  · have := sumL_set (fun x : GItem => x.vals.length) xs (findIdx xs x.id).toNat x
    unfold totItems at h ⊢
    rw [List.length_set]
    omega
  · omega
set_option maxRecDepth 100000 in
set_option maxHeartbeats 6000000 in
theorem walk_FnExactReplaceItem (w : World) (x0 : List GItem) (v0 : Value) (h0 : Rd rItems w x0 [v0]) (q0 : ∀ x ∈ x0, wfItem x) (x1 : GItem) (v1 : Value) (h1 : Rd rInts w x1.vals [v1]) (q1 : wfItem x1) :
    Calls Try.prog 7 #[v0, .agg #[.int .i64 x1.id, v1]] w (Ret w (.bool true)) := by
  go_enter Try.func7, Try.ntmps7
  have B0 : Bw w (w.alloc (.cells #[.int .i64 x1.id, v1] 30)) := ((Bw.refl w).alloc _)
  have k1_0 : (w.alloc (.cells #[.int .i64 x1.id, v1] 30)).cell? ⟨w.heap.size, 0, none⟩ = some (.int .i64 x1.id) := by go_simp
  have k1_1 : (w.alloc (.cells #[.int .i64 x1.id, v1] 30)).cell? ⟨w.heap.size, 1, none⟩ = some (v1) := by go_simp
  go_wp2_with fail
  refine (L_szItemS _ x0 _ (h0.bw rItems_good B0) (1048576 : Int) (by omega) (by omega)).mono ?_
  rintro e w1 ⟨rfl, hb1⟩
  have B1 : Bw w _ := B0.then hb1
  replace k1_0 := hb1.cell k1_0
  replace k1_1 := hb1.cell k1_1
  by_cases s0 : (1048576 : Int) < ((totItems x0 : Nat) : Int)
  · rw [show szM (1048576 : Int) (totItems x0) = -1 from if_pos s0]
    go_wp2
    go_ret
    exact Ret.bool rfl B1
  rw [show szM (1048576 : Int) (totItems x0) = ((1048576 : Int) - ((totItems x0 : Nat) : Int)) from if_neg s0]
  have t0 : totItems x0 ≤ 1048576 := by omega
  go_wp2_with fail
  refine (L_szItem _ x1 _ (h1.bw rInts_good B1) ((1048576 : Int) - ((totItems x0 : Nat) : Int)) (by omega) (by omega)).mono ?_
  rintro e w2 ⟨rfl, hb2⟩
  have B2 : Bw w _ := B1.then hb2
  replace k1_0 := hb2.cell k1_0
  replace k1_1 := hb2.cell k1_1
  by_cases s1 : ((1048576 : Int) - ((totItems x0 : Nat) : Int)) < ((x1.vals.length : Nat) : Int)
  · rw [show szM ((1048576 : Int) - ((totItems x0 : Nat) : Int)) (x1.vals.length) = -1 from if_pos s1]
    go_wp2
    go_ret
    exact Ret.bool rfl B2
  rw [show szM ((1048576 : Int) - ((totItems x0 : Nat) : Int)) (x1.vals.length) = (((1048576 : Int) - ((totItems x0 : Nat) : Int)) - ((x1.vals.length : Nat) : Int)) from if_neg s1]
  have t1 : x1.vals.length ≤ 1048576 := by omega
  go_wp2_with fail
  have B3 : Bw w w2.drew := B2.drew
  replace k1_0 : w2.drew.cell? ⟨w.heap.size, 0, none⟩ = some (.int .i64 x1.id) := k1_0
  replace k1_1 : w2.drew.cell? ⟨w.heap.size, 1, none⟩ = some (v1) := k1_1
  go_region_held3 (fun w' => w'.cell? ⟨w.heap.size, 0, none⟩ = some (.int .i64 x1.id) ∧ w'.cell? ⟨w.heap.size, 1, none⟩ = some (v1)) (first | go_keep | exact ⟨k1_0, k1_1⟩)
    (first
      | (go_at_call_of 36 v0; refine (L_toItemS _ x0 _ (by exact (h0.bw rItems_good B3)) t0).mono ?_; rintro e w3 ⟨a0, rfl, ⟨aF0, ao0, af0⟩, hb3⟩; have B4 : Bw w _ := B3.then hb3; replace k1_0 := hb3.cell k1_0; replace k1_1 := hb3.cell k1_1; have ar0 := fItems_Rd ao0)
      | (go_at_call_of 22 v1; refine (L_toItem _ x1 _ (by exact (h1.bw rInts_good B4)) t1).mono ?_; rintro e w4 ⟨a1, rfl, ⟨aF1, ao1, af1⟩, hb4⟩; have B5 : Bw w _ := B4.then hb4; replace k1_0 := hb4.cell k1_0; replace k1_1 := hb4.cell k1_1; replace ar0 := ar0.bw rItems_good hb4; have ar1 := fInts_Rd ao1)
      | (go_at_call 35; refine (S_ReplaceItem _ x0 x1 _ _ (by exact ar0) (by exact ar1) t0 t1).mono ?_; rintro e w5 ⟨vW, rfl, ⟨FW, oW, fW⟩, hb5⟩; have B6 : Bw w _ := B5.then hb5; replace k1_0 := hb5.cell k1_0; replace k1_1 := hb5.cell k1_1; replace ar0 := ar0.bw rItems_good hb5; replace ar1 := ar1.bw rInts_good hb5))
  obtain ⟨Y, hY⟩ : ∃ Y, Y = replM x0 x1 := ⟨_, rfl⟩
  have tY : totItems Y ≤ 1048576 := by rw [hY]; exact tot_repl (by omega)
  rw [← hY] at oW
  have rW := fItems_Rd oW
  have k0 := h0.bw rItems_good B6
  have k1 := h1.bw rInts_good B6
  have HY := Lib.hid hY
  clear hY oW fW ar0 ao0 af0 ar1 ao1 af1
  have k1_0B := k1_0
  have k1_1B := k1_1
  go_wp2_with fail
  refine (L_toItemS _ x0 _ (by exact (k0.bw rItems_good (Bw.refl w5))) t0).mono ?_
  rintro e w6 ⟨b0, rfl, ⟨bF0, bo0, bf0⟩, hb6⟩
  have C1 : Bw w5 _ := (Bw.refl w5).then hb6
  replace k1_0 := hb6.cell k1_0
  replace k1_1 := hb6.cell k1_1
  replace bf0 := bf0.mono (Bw.refl w5).size
  have lt0_1 := (fItems_good (B := 0)).lt bo0
  go_wp2_with fail
  refine (L_toItem _ x1 _ (by exact (k1.bw rInts_good C1)) t1).mono ?_
  rintro e w7 ⟨b1, rfl, ⟨bF1, bo1, bf1⟩, hb7⟩
  have C2 : Bw w5 _ := C1.then hb7
  replace bo0 := (fItems_good (B := w5.heap.size)).bw hb7 C1.size bo0
  replace k1_0 := hb7.cell k1_0
  replace k1_1 := hb7.cell k1_1
  have hd0_1 : ∀ b ∈ bF1, b ∉ bF0 := fun b hb hb2 => by have := bf1.ge b hb; have := lt0_1 b hb2; omega
  replace bf1 := bf1.mono C1.size
  obtain ⟨Ab1, cb1, rfl, _⟩ := rSl_shape (fInts_Rd bo1)
  have bx1_0 : w7.heap.size ∉ bF0 := fun h => by have := (fItems_good (B := 0)).lt bo0 _ h; omega
  have bx1_1 : w7.heap.size ∉ bF1 := fun h => by have := (fInts_good (B := 0)).lt bo1 _ h; omega
  have hA1 := (Bw.refl w7).alloc (.cells #[.int .i64 x1.id, .slice Ab1 x1.vals.length cb1] 33)
  have C3 : Bw w5 _ := C2.then hA1
  replace bo0 := (fItems_good (B := w5.heap.size)).bw hA1 C2.size bo0
  replace bo1 := (fInts_good (B := w5.heap.size)).bw hA1 C2.size bo1
  replace k1_0 := hA1.cell k1_0
  replace k1_1 := hA1.cell k1_1
  have j1_0 : (w7.alloc (.cells #[.int .i64 x1.id, .slice Ab1 x1.vals.length cb1] 33)).cell? ⟨w7.heap.size, 0, none⟩ = some (.int .i64 x1.id) := by go_simp
  have j1_1 : (w7.alloc (.cells #[.int .i64 x1.id, .slice Ab1 x1.vals.length cb1] 33)).cell? ⟨w7.heap.size, 1, none⟩ = some (.slice Ab1 x1.vals.length cb1) := by go_simp
  have lt0_G := (fItems_good (B := 0)).lt bo0
  have lt1_G := (fInts_good (B := 0)).lt bo1
  go_wp2_with fail
  refine (I_ReplaceItem _ x0 x1 _ _ (by exact fItems_Rd bo0) (by exact fInts_Rd bo1) t0 t1).mono ?_
  rintro e w8 ⟨vG, rfl, ⟨FG, oG, fG⟩, hb8⟩
  have C4 : Bw w5 _ := C3.then hb8
  replace bo0 := (fItems_good (B := w5.heap.size)).bw hb8 C3.size bo0
  replace bo1 := (fInts_good (B := w5.heap.size)).bw hb8 C3.size bo1
  replace k1_0 := hb8.cell k1_0
  replace k1_1 := hb8.cell k1_1
  replace j1_0 := hb8.cell j1_0
  replace j1_1 := hb8.cell j1_1
  have hd0_G : ∀ b ∈ FG, b ∉ bF0 := fun b hb hb2 => by have := fG.ge b hb; have := lt0_G b hb2; omega
  have hd1_G : ∀ b ∈ FG, b ∉ bF1 := fun b hb hb2 => by have := fG.ge b hb; have := lt1_G b hb2; omega
  replace fG := fG.mono C3.size
  rw [← HY.out] at oG
  go_wp2_with fail
  refine (L_eqItemS _ Y Y _ _ (fItems_Rd oG) (rW.bw rItems_good C4)).mono ?_
  rintro e w9 ⟨rfl, hb9⟩
  have C5 : Bw w5 _ := C4.then hb9
  replace bo0 := (fItems_good (B := w5.heap.size)).bw hb9 C4.size bo0
  replace bo1 := (fInts_good (B := w5.heap.size)).bw hb9 C4.size bo1
  replace oG := (fItems_good (B := w5.heap.size)).bw hb9 C4.size oG
  replace k1_0 := hb9.cell k1_0
  replace k1_1 := hb9.cell k1_1
  replace j1_0 := hb9.cell j1_0
  replace j1_1 := hb9.cell j1_1
  rw [show decide (Y = Y) = true from by simp]
  go_wp2_with fail
  refine (L_toItemS _ x0 _ (by exact (k0.bw rItems_good C5)) t0).mono ?_
  rintro e w10 ⟨c0, rfl, ⟨cF0, co0, cf0⟩, hb10⟩
  have C6 : Bw w5 _ := C5.then hb10
  replace bo0 := (fItems_good (B := w5.heap.size)).bw hb10 C5.size bo0
  replace bo1 := (fInts_good (B := w5.heap.size)).bw hb10 C5.size bo1
  replace oG := (fItems_good (B := w5.heap.size)).bw hb10 C5.size oG
  replace k1_0 := hb10.cell k1_0
  replace k1_1 := hb10.cell k1_1
  replace j1_0 := hb10.cell j1_0
  replace j1_1 := hb10.cell j1_1
  go_wp2_with fail
  refine (L_eqItemS _ x0 x0 _ _ (fItems_Rd bo0) (fItems_Rd co0)).mono ?_
  rintro e w11 ⟨rfl, hb11⟩
  have C7 : Bw w5 _ := C6.then hb11
  replace bo0 := (fItems_good (B := w5.heap.size)).bw hb11 C6.size bo0
  replace bo1 := (fInts_good (B := w5.heap.size)).bw hb11 C6.size bo1
  replace oG := (fItems_good (B := w5.heap.size)).bw hb11 C6.size oG
  replace k1_0 := hb11.cell k1_0
  replace k1_1 := hb11.cell k1_1
  replace j1_0 := hb11.cell j1_0
  replace j1_1 := hb11.cell j1_1
  rw [show decide (x0 = x0) = true from by simp]
  clear co0 cf0
  go_wp2_with fail
  have C8 : Bw w5 _ := C7.drew
  have hdr := fun (W : World) => (Bw.refl W).drew
  replace bo0 := (fItems_good (B := w5.heap.size)).bw (hdr _) C7.size bo0
  replace bo1 := (fInts_good (B := w5.heap.size)).bw (hdr _) C7.size bo1
  replace oG := (fItems_good (B := w5.heap.size)).bw (hdr _) C7.size oG
  replace k1_0 := (hdr _).cell k1_0
  replace k1_1 := (hdr _).cell k1_1
  replace j1_0 := (hdr _).cell j1_0
  replace j1_1 := (hdr _).cell j1_1
  clear hdr
  go_region_held3 (fun w' => w'.cell? ⟨w.heap.size, 0, none⟩ = some (.int .i64 x1.id) ∧ w'.cell? ⟨w.heap.size, 1, none⟩ = some (v1) ∧ w'.cell? ⟨w7.heap.size, 0, none⟩ = some (.int .i64 x1.id) ∧ w'.cell? ⟨w7.heap.size, 1, none⟩ = some (.slice Ab1 x1.vals.length cb1)) (first | go_keep | exact ⟨k1_0, k1_1, j1_0, j1_1⟩)
    (first
      | (go_at_call 22; refine (L_toItem _ x1 _ (by exact (k1.bw rInts_good C8)) t1).mono ?_; rintro e w12 ⟨c1, rfl, ⟨cF1, co1, cf1⟩, hb12⟩; have C9 : Bw w5 _ := C8.then hb12; replace bo0 := (fItems_good (B := w5.heap.size)).bw hb12 C8.size bo0; replace bo1 := (fInts_good (B := w5.heap.size)).bw hb12 C8.size bo1; replace oG := (fItems_good (B := w5.heap.size)).bw hb12 C8.size oG; replace k1_0 := hb12.cell k1_0; replace k1_1 := hb12.cell k1_1; replace j1_0 := hb12.cell j1_0; replace j1_1 := hb12.cell j1_1)
      | (go_at_call 24; refine (L_eqItem _ x1 x1 _ _ (by exact (fInts_Rd bo1)) (by exact (fInts_Rd co1))).mono ?_; rintro e w13 ⟨rfl, hb13⟩; have C10 : Bw w5 _ := C9.then hb13; replace bo0 := (fItems_good (B := w5.heap.size)).bw hb13 C9.size bo0; replace bo1 := (fInts_good (B := w5.heap.size)).bw hb13 C9.size bo1; replace oG := (fItems_good (B := w5.heap.size)).bw hb13 C9.size oG; replace co1 := (fInts_good (B := w5.heap.size)).bw hb13 C9.size co1; replace k1_0 := hb13.cell k1_0; replace k1_1 := hb13.cell k1_1; replace j1_0 := hb13.cell j1_0; replace j1_1 := hb13.cell j1_1))
  clear co1 cf1
  have hm14 := fun (W : World) (o : _) (c : Bw w5 W) => L_markItemS w5 W x0 b0 bF0 1 o bf0 c (by omega) (by omega)
  obtain ⟨T0, hT0⟩ : ∃ T0, T0 = 1 + totItems x0 := ⟨_, rfl⟩
  rw [← hT0] at hm14
  have BT0 : T0 ≤ 1048577 := by omega
  have HT0 := Lib.hid hT0
  clear hT0
  go_wp2_with fail
  refine (hm14 _ bo0 C10).mono ?_
  rintro e w14 ⟨rfl, nw14, hO14, C11⟩
  replace bo1 := hO14.keeps (fInts_good (B := 0)) bo1 hd0_1
  replace oG := hO14.keeps (fItems_good (B := 0)) oG hd0_G
  replace k1_0 := C11.cell k1_0B
  replace k1_1 := C11.cell k1_1B
  replace j1_0 := hO14.cell j1_0 bx1_0
  replace j1_1 := hO14.cell j1_1 bx1_0
  replace bo0 := nw14
  clear hm14 nw14 hO14
  clear bo0
  have hm15 := fun (W : World) (o : _) (c : Bw w5 W) => L_markItem w5 W x1 (.slice Ab1 x1.vals.length cb1) bF1 T0 o bf1 c (by omega) (by omega)
  obtain ⟨T1, hT1⟩ : ∃ T1, T1 = T0 + x1.vals.length := ⟨_, rfl⟩
  rw [← hT1] at hm15
  have BT1 : T1 ≤ 1048577 := by have := HT0.out; omega
  have HT1 := Lib.hid hT1
  clear hT1
  go_wp2_with fail
  refine (hm15 _ bo1 C11).mono ?_
  rintro e w15 ⟨rfl, nw15, hO15, C12⟩
  replace oG := hO15.keeps (fItems_good (B := 0)) oG hd1_G
  replace k1_0 := C12.cell k1_0B
  replace k1_1 := C12.cell k1_1B
  replace j1_0 := hO15.cell j1_0 bx1_1
  replace j1_1 := hO15.cell j1_1 bx1_1
  replace bo1 := nw15
  clear hm15 nw15 hO15
  clear bo1
  clear j1_0
  clear j1_1
  go_wp2_with fail
  refine (L_eqItemS _ Y Y _ _ (fItems_Rd oG) (rW.bw rItems_good C12)).mono ?_
  rintro e w16 ⟨rfl, hb16⟩
  have C13 : Bw w5 _ := C12.then hb16
  replace oG := (fItems_good (B := w5.heap.size)).bw hb16 C12.size oG
  replace k1_0 := hb16.cell k1_0
  replace k1_1 := hb16.cell k1_1
  rw [show decide (Y = Y) = true from by simp]
  have hm17 := fun (W : World) (o : _) (c : Bw w5 W) => L_markItemS w5 W Y vG FG 1 o fG c (by omega) (by omega)
  obtain ⟨TM, hTM⟩ : ∃ TM, TM = 1 + totItems Y := ⟨_, rfl⟩
  rw [← hTM] at hm17
  have BTM : TM ≤ 1048577 := by omega
  have HTM := Lib.hid hTM
  clear hTM
  go_wp2_with fail
  refine (hm17 _ oG C13).mono ?_
  rintro e w17 ⟨rfl, nw17, hO17, C14⟩
  replace k1_0 := C14.cell k1_0B
  replace k1_1 := C14.cell k1_1B
  replace oG := nw17
  clear hm17 nw17 hO17
  have hh17 := fun (W : World) (o : _) => L_heldItemS W Y vG 1 o (by omega) (by omega)
  rw [← HTM.out] at hh17
  go_wp2_with fail
  refine (hh17 _ (fItems_Rd oG)).mono ?_
  rintro e w18 ⟨rfl, hb18⟩
  have C15 : Bw w5 _ := C14.then hb18
  replace oG := (fItems_good (B := w5.heap.size)).bw hb18 C14.size oG
  replace k1_0 := hb18.cell k1_0
  replace k1_1 := hb18.cell k1_1
  clear hh17
  go_wp2_with fail
  have C16 : Bw w5 _ := C15.drew
  have hdr := fun (W : World) => (Bw.refl W).drew
  replace oG := (fItems_good (B := w5.heap.size)).bw (hdr _) C15.size oG
  replace k1_0 := (hdr _).cell k1_0
  replace k1_1 := (hdr _).cell k1_1
  clear hdr
  go_region_held3 (fun w' => w'.cell? ⟨w.heap.size, 0, none⟩ = some (.int .i64 x1.id) ∧ w'.cell? ⟨w.heap.size, 1, none⟩ = some (v1)) (first | go_keep | exact ⟨k1_0, k1_1⟩)
    (first
      | (go_at_call 36; refine (L_toItemS _ x0 _ (by exact (k0.bw rItems_good C16)) t0).mono ?_; rintro e w19 ⟨d0, rfl, ⟨dF0, do0, df0⟩, hb19⟩; have C17 : Bw w5 _ := C16.then hb19; replace oG := (fItems_good (B := w5.heap.size)).bw hb19 C16.size oG; replace k1_0 := hb19.cell k1_0; replace k1_1 := hb19.cell k1_1)
      | (go_at_call 22; refine (L_toItem _ x1 _ (by exact (k1.bw rInts_good C17)) t1).mono ?_; rintro e w20 ⟨d1, rfl, ⟨dF1, do1, df1⟩, hb20⟩; have C18 : Bw w5 _ := C17.then hb20; replace oG := (fItems_good (B := w5.heap.size)).bw hb20 C17.size oG; replace do0 := (fItems_good (B := w5.heap.size)).bw hb20 C17.size do0; replace k1_0 := hb20.cell k1_0; replace k1_1 := hb20.cell k1_1)
      | (go_at_call 37; refine (I_ReplaceItem _ x0 x1 _ _ (by exact fItems_Rd do0) (by exact fInts_Rd do1) t0 t1).mono ?_; rintro e w21 ⟨vH, rfl, ⟨FH, oH, fH⟩, hb21⟩; have C19 : Bw w5 _ := C18.then hb21; replace oG := (fItems_good (B := w5.heap.size)).bw hb21 C18.size oG; replace do0 := (fItems_good (B := w5.heap.size)).bw hb21 C18.size do0; replace do1 := (fInts_good (B := w5.heap.size)).bw hb21 C18.size do1; replace k1_0 := hb21.cell k1_0; replace k1_1 := hb21.cell k1_1))
  rw [← HY.out] at oH
  clear do0 df0
  clear do1 df1
  go_wp2_with fail
  refine (L_eqItemS _ Y Y _ _ (fItems_Rd oH) (rW.bw rItems_good C19)).mono ?_
  rintro e w22 ⟨rfl, hb22⟩
  have C20 : Bw w5 _ := C19.then hb22
  replace oG := (fItems_good (B := w5.heap.size)).bw hb22 C19.size oG
  replace k1_0 := hb22.cell k1_0
  replace k1_1 := hb22.cell k1_1
  rw [show decide (Y = Y) = true from by simp]
  have hh22 := fun (W : World) (o : _) => L_heldItemS W Y vG 1 o (by omega) (by omega)
  rw [← HTM.out] at hh22
  go_wp2_with fail
  refine (hh22 _ (fItems_Rd oG)).mono ?_
  rintro e w23 ⟨rfl, hb23⟩
  have C21 : Bw w5 _ := C20.then hb23
  replace oG := (fItems_good (B := w5.heap.size)).bw hb23 C20.size oG
  replace k1_0 := hb23.cell k1_0
  replace k1_1 := hb23.cell k1_1
  clear hh22
  go_wp2
  go_ret
  exact Ret.bool rfl (B6.then C21)
set_option maxRecDepth 100000 in
theorem lifted_FnExactReplaceItem (os : Os) (started : os.Started) (H : Type) (enc : TypeId × Value → H) :
    ReturnsInHanded {} Try.checked os 7 .any (Rows.fnExactReplaceItemSpec.pre6 enc Try.prog Try.f7 Rows.fnExactReplaceItemRow.domain false) (Rows.fnExactReplaceItemSpec.post enc Try.prog Try.f7 false true false false) := by
  refine returnsInHanded_of_change (C := Try.checked) own_knob started (by kernel_rfl) Try.func7
    (ChangeSpec.witness6 (enc := enc) (C := Try.checked) false ⟨#[], #[.slice none 0 0, .agg #[.int .i64 0, .slice none 0 0]], []⟩ 8 (by kernel_rfl) (by kernel_rfl) (by kernel_rfl) (by kernel_rfl)) ?_
  intro W base args ds gs before hval0 hW hcnd _
  have hval : ∀ (j : Nat) t v, Try.f7.params[j]? = some t → args[j]? = some v → Value.okWide Try.prog W .any base t v := hval0
  have hW' := hW
  obtain ⟨p, q, hA0, hV, rfl, hfz, hnd⟩ := hW
  have hA : DataW.TrodAll enc Try.prog W 0 (fun _ => true) true Try.f7.params.toList args.toList ds p := hA0
  rw [Try.params7] at hA hval
  obtain ⟨v0, vs0, d0, ds0, p0, q0, hargs, rfl, rfl, h0, r0⟩ := trodAll_cons hA
  obtain ⟨v1, vs1, d1, ds1, p1, q1, rfl, rfl, rfl, h1, r1⟩ := trodAll_cons r0
  obtain ⟨rfl, rfl, rfl⟩ := trodAll_nil r1
  obtain rfl : args = #[v0, v1] := by cases args; simp_all
  obtain ⟨rfl, rfl⟩ := trodVars_none hV
  have k0 := h0
  have lt0 : ∀ x ∈ p0, x.block < W.heap.size := by obtain ⟨m, hm⟩ := k0; exact DataW.trod_lt m _ _ _ hm
  obtain ⟨a0, len0, cap0, rfl⟩ := okWide_slice Try.underlying45 (hval 0 45 v0 rfl rfl)
  obtain ⟨x0, R0, Q0⟩ : ∃ xs, Rd rItems W xs [.slice a0 len0 cap0] ∧ ∀ x ∈ xs, wfItem x := by obtain ⟨m, hm⟩ := h0; exact t_items hm
  have k1 := h1
  have lt1 : ∀ x ∈ p1, x.block < W.heap.size := by obtain ⟨m, hm⟩ := k1; exact DataW.trod_lt m _ _ _ hm
  obtain ⟨cs1, rfl, hsz1⟩ := okWide_struct Try.underlying30 (hval 1 30 v1 rfl rfl)
  obtain ⟨x1, R1, Q1⟩ : ∃ xs, Rd rItem W xs cs1.toList ∧ wfItem xs := by obtain ⟨m, hm⟩ := h1; exact t_item hm
  obtain ⟨u1, e1, R1⟩ := R1
  obtain rfl : cs1 = #[.int .i64 x1.id, u1] := Array.toList_inj.1 e1
  clear hA0 hval0
  refine (walk_FnExactReplaceItem W x0 _ R0 Q0 x1 _ R1 Q1).mono fun e W' ⟨he, bel⟩ => ?_
  subst he
  exact ⟨_, rfl, _, _, _, [], _, [], hW', trodAll_mk1 (shut_bool Try.underlying4 _), (trodAll_cons_mk (Below.trod laid_out (by kernel_rfl) (of_decide_eq_true (by kernel_rfl)) k0 bel lt0) (trodAll_cons_mk (Below.trod laid_out (by kernel_rfl) (of_decide_eq_true (by kernel_rfl)) k1 bel lt1) trodAll_mk0)), rfl, Below.frame bel _, fun h => by cases h⟩
/-- the statement -/
theorem FnExactReplaceItem_holds : Rows.FnExactReplaceItemSaid :=
  OpenClaim.holds_of_wide 7 Try.f7 rfl rfl rfl rfl rfl rfl rfl ⟨rfl, rfl, rfl, rfl, rfl⟩ rfl rfl rfl rfl rfl (by kernel_rfl) Try.func7 (by kernel_rfl)
    (of_decide_eq_true (by kernel_rfl)) (by unfold Func.isWrapper; first | (rw [if_pos (by decide +kernel)]; kernel_rfl) | (rw [if_neg (by decide +kernel)]; exact ⟨rfl, rfl⟩))
    (fun os started H enc _ => lifted_FnExactReplaceItem os started H enc)
end Go.Proofs.Ytjhieohbobfjjaa
