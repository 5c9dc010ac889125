/- The couples of two lists of items, in both programs. -/
import Derived.Test.YtfffklkiikmieaaQOwn3
import Derived.Test.YtfffklkiikmieaaQCoupF
namespace Go.Proofs.Ytfffklkiikmieaa
open Go.RowKit
set_option linter.unusedVariables false
def coupL (x : GItem) (f g : Int) : List GItem → List GPair
  | [] => []
  | y :: ys => if valAt x f = valAt y g then ⟨x.id, y.id⟩ :: coupL x f g ys else coupL x f g ys
def coupA (f g : Int) (b : List GItem) : List GItem → List GPair
  | [] => []
  | x :: xs => coupL x f g b ++ coupA f g b xs
def coupOk (a b : List GItem) (f g : Int) : Bool := areItems a && (areItems b && (inB f 0 2 && inB g 0 2))
def couples (a b : List GItem) (f g : Int) : List GPair := if coupOk a b f g then coupA f g b a else []
theorem coupL_len (x : GItem) (f g : Int) : ∀ l : List GItem, (coupL x f g l).length ≤ l.length
  | [] => Nat.le_refl _
  | y :: l => by
    have := coupL_len x f g l
    unfold coupL; split <;> simp <;> omega
theorem coupA_len (f g : Int) (b : List GItem) (hb : b.length ≤ 16) : ∀ a : List GItem, (coupA f g b a).length ≤ 16 * a.length
  | [] => Nat.le_refl _
  | x :: a => by
    have := coupA_len f g b hb a
    have := coupL_len x f g b
    simp only [coupA, List.length_append, List.length_cons]; omega
theorem couples_len (a b : List GItem) (f g : Int) : (couples a b f g).length ≤ 256 := by
  unfold couples
  split
  · rename_i h
    simp only [coupOk, Bool.and_eq_true] at h
    have h1 := coupA_len f g b (areItems_len h.2.1) a
    have h2 := areItems_len h.1
    omega
  · simp
theorem coupL_yes {x y : GItem} {f g : Int} {b : List GItem} {k : Nat} (h : b[k]? = some y) (he : valAt x f = valAt y g) : coupL x f g (b.drop k) = ⟨x.id, y.id⟩ :: coupL x f g (b.drop (k + 1)) := by rw [drop_cons h, coupL, if_pos he]
theorem coupL_no {x y : GItem} {f g : Int} {b : List GItem} {k : Nat} (h : b[k]? = some y) (he : valAt x f ≠ valAt y g) : coupL x f g (b.drop k) = coupL x f g (b.drop (k + 1)) := by rw [drop_cons h, coupL, if_neg he]
theorem coupA_drop {f g : Int} {a b : List GItem} {i : Nat} {x : GItem} (h : a[i]? = some x) : coupA f g b (a.drop i) = coupL x f g b ++ coupA f g b (a.drop (i + 1)) := by rw [drop_cons h, coupA]
theorem natOf {x lo hi : Int} (h : inB x lo hi = true) (h0 : 0 ≤ lo) : ∃ n : Nat, x = n ∧ (n : Int) ≤ hi := by
  have := inB_iff.1 h
  exact ⟨x.toNat, by omega, by omega⟩
theorem fPairs_one {e : TypeId} (w : World) (p : GPair) : fSl e 2 fPair (w.alloc (.cells #[.int .i64 p.fst, .int .i64 p.snd] e)) [p] [.slice (some ⟨w.heap.size, 0, none⟩) 1 1] [w.heap.size] := by
  refine ⟨_, [[.int .i64 p.fst, .int .i64 p.snd]], [[]], rfl, ?_, ⟨⟨⟨rfl, rfl⟩, rfl⟩, trivial⟩, by simp [Value.ownBlock]⟩
  exact World.ownsRow_lit w #[.int .i64 p.fst, .int .i64 p.snd] 1 (Nat.zero_le _) (by simp [maxLen]) rfl
set_option maxHeartbeats 400000 in
theorem S_l17Field (w : World) (f : Int) : Calls Try.prog 144 #[.int .i64 f] w (Ret w (.bool (inB f 0 2))) := by
  go_enter Try.func144, Try.ntmps144
  go_wp2_with fail
  refine (S_l1In _ _ _ _).mono ?_
  rintro e w2 ⟨rfl, hb2⟩
  go_wp2
  go_ret
  exact Ret.bool (rfl) (hb2)
set_option maxRecDepth 100000 in
set_option maxHeartbeats 3200000 in
theorem I_Couples_no (w : World) (a b : List GItem) (f g : Int) (va vb : Value) (ha : Rd rItems w a [va]) (hb : Rd rItems w b [vb]) (hno : coupOk a b f g = false) :
    Calls Try.prog 54 #[va, vb, .int .i64 f, .int .i64 g] w (RetV w (Made fCouples w.heap.size [])) := by
  have A0 : Bw w (w.alloc (.cells #[] 83)) := (Bw.refl w).alloc _
  have hv0 := fSl_empty (e := 83) (sz := 2) (R := fPair) w
  have fin : ∀ W, Bw (w.alloc (.cells #[] 83)) W → RetV w (Made fCouples w.heap.size []) (.returned (.slice (some ⟨w.heap.size, 0, none⟩) 0 0)) W := fun W hW =>
    ⟨_, rfl, ⟨_, (fCouples_good (B := w.heap.size)).bw hW A0.size hv0, ⟨by simp, by simp⟩⟩, A0.then hW⟩
  have HNO := Lib.hid hno
  clear hno
  go_enter Try.func54, Try.ntmps54
  go_wp2_with fail
  refine (I_AreItems _ a _ (ha.bw rItems_good A0)).mono ?_
  rintro e w1 ⟨rfl, hb1⟩
  rcases Bool.eq_false_or_eq_true (areItems a) with c1 | c1
  · go_wp2_with fail
    refine (I_AreItems _ b _ (hb.bw rItems_good (A0.then hb1))).mono ?_
    rintro e w2 ⟨rfl, hb2⟩
    rcases Bool.eq_false_or_eq_true (areItems b) with c2 | c2
    · go_wp2_with fail
      refine (I_within _ _ _ _).mono ?_
      rintro e w3 ⟨rfl, hb3⟩
      rcases Bool.eq_false_or_eq_true (inB f 0 2) with c3 | c3
      · go_wp2_with fail
        refine (I_within _ _ _ _).mono ?_
        rintro e w4 ⟨rfl, hb4⟩
        rcases Bool.eq_false_or_eq_true (inB g 0 2) with c4 | c4
        · exact absurd HNO.out (by simp [coupOk, c1, c2, c3, c4])
        · go_wp2
          go_ret
          exact fin _ (((hb1.then hb2).then hb3).then hb4)
      · go_wp2
        go_ret
        exact fin _ ((hb1.then hb2).then hb3)
    · go_wp2
      go_ret
      exact fin _ (hb1.then hb2)
  · go_wp2
    go_ret
    exact fin _ hb1
set_option maxRecDepth 100000 in
set_option maxHeartbeats 6400000 in
theorem I_Couples_yes (w : World) (a b : List GItem) (f g : Nat) (va vb : Value) (ha : Rd rItems w a [va]) (hb : Rd rItems w b [vb]) (ya : areItems a = true) (yb : areItems b = true) (hf : f ≤ 2) (hg : g ≤ 2) :
    Calls Try.prog 54 #[va, vb, .int .i64 f, .int .i64 g] w (RetV w (Made fCouples w.heap.size (coupA f g b a))) := by
  obtain ⟨i0, hi, hz0, hz1, hz2⟩ := info_parts info_Couple
  have A0 : Bw w (w.alloc (.cells #[] 83)) := (Bw.refl w).alloc _
  have hv0 := fSl_empty (e := 83) (sz := 2) (R := fPair) w
  obtain ⟨A1, n, c1, rfl, L10, L1c, L1m⟩ := rSl_open ha
  unfold maxLen at L1m
  have L1 := Lib.hid L10
  clear L10
  obtain ⟨A2, m, c2, rfl, L20, L2c, L2m⟩ := rSl_open hb
  unfold maxLen at L2m
  have L2 := Lib.hid L20
  clear L20
  have c3 : inB (f : Int) 0 2 = true := inB_iff.2 (by omega)
  have c4 : inB (g : Int) 0 2 = true := inB_iff.2 (by omega)
  have f1 : f < 3 := by omega
  have f2 : (f : Int) < 3 := by omega
  have f3 : (0 : Int) ≤ (f : Int) := by omega
  have g1 : g < 3 := by omega
  have g2 : (g : Int) < 3 := by omega
  have g3 : (0 : Int) ≤ (g : Int) := by omega
  have ita := Lib.hid (fun x hx => areItems_mem ya (x := x) hx)
  have itb := Lib.hid (fun x hx => areItems_mem yb (x := x) hx)
  have TOT := Lib.hid (show (coupA f g b a).length ≤ 256 by
    have h1 := coupA_len f g b (areItems_len yb) a
    have h2 := areItems_len ya
    omega)
  go_enter Try.func54, Try.ntmps54
  go_wp2_with fail
  refine (I_AreItems _ a _ (ha.bw rItems_good A0)).mono ?_
  rintro e w1 ⟨rfl, hb1⟩
  rw [ya]
  go_wp2_with fail
  refine (I_AreItems _ b _ (hb.bw rItems_good (A0.then hb1))).mono ?_
  rintro e w2 ⟨rfl, hb2⟩
  rw [yb]
  go_wp2_with fail
  refine (I_within _ _ _ _).mono ?_
  rintro e w3 ⟨rfl, hb3⟩
  rw [c3]
  go_wp2_with fail
  refine (I_within _ _ _ _).mono ?_
  rintro e w4 ⟨rfl, hb4⟩
  rw [c4]
  have B1 := (((hb1.then hb2).then hb3).then hb4)
  replace hv0 := (fCouples_good (B := w.heap.size)).bw B1 A0.size hv0
  replace B1 := A0.then B1
  clear hb1 hb2 hb3 hb4 c3 c4 ya yb A0
  go_wp2
  go_loopg [9, 36] n (fun gh s i w' => ∃ (k : Nat) (acc : List GPair) (F : List Nat), k ≤ n ∧ gh = n - k ∧ i = .int .i64 k ∧ fCouples w' acc [s] F ∧ Fresh w.heap.size F ∧ Hid (acc ++ coupA f g b (a.drop k) = coupA f g b a) ∧ Bw w w')
  case atStart => exact ⟨0, [], _, by omega, rfl, rfl, hv0, ⟨by simp, by simp⟩, Lib.hid (by simp), B1⟩
  case round =>
    clear hv0 B1
    obtain ⟨i, acc, F, hk, rfl, rfl, hv, hF, HE, hbw⟩ := hrel
    by_cases hlt : i < n
    · obtain ⟨x, hx⟩ := get_of_lt (xs := a) (k := i) (by have := L1.out; omega)
      have hix := ita.out x (List.mem_of_getElem? hx)
      obtain ⟨ba, oa, A', c', rfl, _, hc0, hc1, hin⟩ := rItems_at ha hx
      rw [isItem_len hix] at hc1 hin
      have hcx0 := hbw.cell hc0
      have hcx1 := hbw.cell hc1
      obtain ⟨bx, ox, rfl, _, hcv⟩ := rInts_at hin (valAt_get hix hf)
      have HE2 := Lib.hid (show acc ++ (coupL x f g (b.drop 0) ++ coupA f g b (a.drop (i + 1))) = coupA f g b a by rw [← HE.out, coupA_drop hx]; rfl)
      have hb1 := hbw.alloc (.cells #[.int .i64 x.id, .slice (some ⟨bx, ox, none⟩) 3 c'] 110)
      have hv1 := (fCouples_good (B := w.heap.size)).bw ((Bw.refl wr).alloc (.cells #[.int .i64 x.id, .slice (some ⟨bx, ox, none⟩) 3 c'] 110)) hbw.size hv
      have kx0 : (wr.alloc (.cells #[.int .i64 x.id, .slice (some ⟨bx, ox, none⟩) 3 c'] 110)).cell? ⟨wr.heap.size, 0, none⟩ = some (.int .i64 x.id) := by go_simp
      have kx1 : (wr.alloc (.cells #[.int .i64 x.id, .slice (some ⟨bx, ox, none⟩) 3 c'] 110)).cell? ⟨wr.heap.size, 1, none⟩ = some (.slice (some ⟨bx, ox, none⟩) 3 c') := by go_simp
      obtain ⟨w1, hw1⟩ : ∃ w1, w1 = wr.alloc (.cells #[.int .i64 x.id, .slice (some ⟨bx, ox, none⟩) 3 c'] 110) := ⟨_, rfl⟩
      clear hx HE hix
      go_wp2
      rw [← hw1] at hb1 hv1 kx0 kx1 ⊢
      obtain ⟨q, hq⟩ : ∃ q, q = wr.heap.size := ⟨_, rfl⟩
      have hqs : w.heap.size ≤ q := by rw [hq]; exact hbw.size
      rw [← hq] at kx0 kx1 ⊢
      have hFq : ∀ z ∈ F, z ≠ q := fun z hz => by have := (fCouples_good (B := 0)).lt hv z hz; omega
      clear hw1 hq hcx0 hcx1 hc0 hc1 hbw
      go_loopg [9, 42] m (fun gh s i2 w' => ∃ (k : Nat) (acc : List GPair) (F : List Nat), k ≤ m ∧ gh = m - k ∧ i2 = .int .i64 k ∧ fCouples w' acc [s] F ∧ Fresh w.heap.size F ∧ (∀ z ∈ F, z ≠ q) ∧ Hid (acc ++ (coupL x f g (b.drop k) ++ coupA f g b (a.drop (i + 1))) = coupA f g b a) ∧ Bw w w' ∧ w'.cell? ⟨q, 0, none⟩ = some (.int .i64 x.id) ∧ w'.cell? ⟨q, 1, none⟩ = some (.slice (some ⟨bx, ox, none⟩) 3 c'))
      case atStart => exact ⟨0, acc, F, by omega, rfl, rfl, hv1, hF, hFq, HE2, hb1, kx0, kx1⟩
      case round =>
        clear hv hv1 hF HE2 hb1 kx0 kx1
        obtain ⟨k, acc, F, hk2, rfl, rfl, hv, hF, hFq, HE, hbw, kx0, kx1⟩ := hrel
        by_cases hlt2 : k < m
        · obtain ⟨y, hy⟩ := get_of_lt (xs := b) (k := k) (by have := L2.out; omega)
          have hiy := itb.out y (List.mem_of_getElem? hy)
          obtain ⟨bb, ob, A', c2', rfl, _, hd0, hd1, hiny⟩ := rItems_at hb hy
          rw [isItem_len hiy] at hd1 hiny
          obtain ⟨by', oy, rfl, _, hdv⟩ := rInts_at hiny (valAt_get hiy hg)
          have hdx0 := hbw.cell hd0
          have hdx1 := hbw.cell hd1
          have hcv1 := hbw.cell hcv
          have hdv1 := hbw.cell hdv
          have kd : ∀ o : Obj, (wr.alloc o).cell? ⟨q, 0, none⟩ = some (.int .i64 x.id) ∧ (wr.alloc o).cell? ⟨q, 1, none⟩ = some (.slice (some ⟨bx, ox, none⟩) 3 c') := fun o => ⟨((Bw.refl wr).alloc o).cell kx0, ((Bw.refl wr).alloc o).cell kx1⟩
          have hqw : q < wr.heap.size := by simpa using World.block_lt_of_cell? _ _ kx0
          have hbx : bx < wr.heap.size := by simpa using World.block_lt_of_cell? _ _ hcv1
          have hby : by' < wr.heap.size := by simpa using World.block_lt_of_cell? _ _ hdv1
          have yb0 : (wr.alloc (.cells #[.int .i64 y.id, .slice (some ⟨by', oy, none⟩) 3 c2'] 110)).cell? ⟨wr.heap.size, 0, none⟩ = some (.int .i64 y.id) := by go_simp
          by_cases he : valAt x f = valAt y g
          · have e1 : (valAt x f == valAt y g) = true := by simpa using he
            have hla := TOT.out
            rw [← HE.out, coupL_yes hy he] at hla
            have HA := Lib.hid (show acc.length + 1 ≤ 257 by simp at hla; omega)
            have HE3 := Lib.hid (show (acc ++ [⟨x.id, y.id⟩]) ++ (coupL x f g (b.drop (k + 1)) ++ coupA f g b (a.drop (i + 1))) = coupA f g b a by rw [← HE.out, coupL_yes hy he]; simp)
            clear hy hiy hla HE he
            go_wp2
            go_quiet (fail)
            have A1 : Bw wr ((wr.alloc (.cells #[.int .i64 y.id, .slice (some ⟨by', oy, none⟩) 3 c2'] 110)).drewN nq) := ((Bw.refl wr).alloc _).drewN _
            obtain ⟨W0, hW0⟩ : ∃ W0, W0 = (wr.alloc (.cells #[.int .i64 y.id, .slice (some ⟨by', oy, none⟩) 3 c2'] 110)).drewN nq := ⟨_, rfl⟩
            have jx0 : W0.cell? ⟨q, 0, none⟩ = some (.int .i64 x.id) := by rw [hW0]; exact A1.cell kx0
            have jx1 : W0.cell? ⟨q, 1, none⟩ = some (.slice (some ⟨bx, ox, none⟩) 3 c') := by rw [hW0]; exact A1.cell kx1
            have jy0 : W0.cell? ⟨wr.heap.size, 0, none⟩ = some (.int .i64 y.id) := by rw [hW0]; exact yb0
            rw [← hW0] at A1 ⊢
            have A2 : Bw W0 (W0.alloc (.cells #[.int .i64 x.id, .int .i64 y.id] 83)) := (Bw.refl W0).alloc _
            have hvW := (fCouples_good (B := w.heap.size)).bw (A1.then A2) hbw.size hv
            have hbW := hbw.then (A1.then A2)
            have hFm := (fCouples_good (B := 0)).lt hv
            have hcl : ∀ j t, [Value.int .i64 x.id, .int .i64 y.id][j]? = some t → (W0.alloc (.cells #[.int .i64 x.id, .int .i64 y.id] 83)).cell? ((⟨W0.heap.size, 0, none⟩ : Addr).add j) = some t := World.news_of_block (cs := #[.int .i64 x.id, .int .i64 y.id]) (t := 83) (fr := (0, 0)) (heap_alloc_new _ _)
            have hqW : q < (W0.alloc (.cells #[.int .i64 x.id, .int .i64 y.id] 83)).heap.size := Nat.lt_of_lt_of_le hqw (A1.then A2).size
            have jz0 := A2.cell jx0
            have jz1 := A2.cell jx1
            clear hW0 hv yb0 kx0 kx1
            go_wp2_with (at_builtin; refine wpList_push2 _ rfl (.tmp 57) (.tmp 63) 26 rfl w 83 i0 _ 2 16 Try.underlying26 hi hz0 hz1 hz2 rfl (by omega) fPair_good _ acc F rfl hvW hF ⟨W0.heap.size, 0, none⟩ 1 rfl ⟨x.id, y.id⟩ [.int .i64 x.id, .int .i64 y.id] [] hcl ⟨rfl, rfl⟩ rfl wr.heap.size hFm Fresh.nil hbw.size (by have := HA.out; omega) (by have := HA.out; omega) hbW ?_; intro v' w' F' hv' hF' hb' hO' hF2)
            have lx0 := hO'.cell jz0 (fun h => hFq _ h rfl)
            have lx1 := hO'.cell jz1 (fun h => hFq _ h rfl)
            have hFq' : ∀ z ∈ F', z ≠ q := fun z hz => by
              rcases hF2 z hz with h | h | h
              · exact hFq z h
              · simp at h
              · omega
            go_roundg (m - (k + 1))
            case measure => omega
            case rel => exact ⟨k + 1, _, F', by omega, rfl, by go_num, hv', hF', hFq', HE3, hb', lx0, lx1⟩
          · have e1 : (valAt x f == valAt y g) = false := by simpa using he
            have HE3 := Lib.hid (show acc ++ (coupL x f g (b.drop (k + 1)) ++ coupA f g b (a.drop (i + 1))) = coupA f g b a by rw [← HE.out, coupL_no hy he])
            clear hy hiy HE he
            go_wp2
            go_quiet (fail)
            have A1 : Bw wr ((wr.alloc (.cells #[.int .i64 y.id, .slice (some ⟨by', oy, none⟩) 3 c2'] 110)).drewN nq) := ((Bw.refl wr).alloc _).drewN _
            obtain ⟨W0, hW0⟩ : ∃ W0, W0 = (wr.alloc (.cells #[.int .i64 y.id, .slice (some ⟨by', oy, none⟩) 3 c2'] 110)).drewN nq := ⟨_, rfl⟩
            rw [← hW0] at A1 ⊢
            clear hW0
            have jx0 := A1.cell kx0
            have jx1 := A1.cell kx1
            have hvW := (fCouples_good (B := w.heap.size)).bw A1 hbw.size hv
            have hbW := hbw.then A1
            go_wp2
            go_roundg (m - (k + 1))
            case measure => omega
            case rel => exact ⟨k + 1, acc, F, by omega, rfl, by go_num, hvW, hF, hFq, HE3, hbW, jx0, jx1⟩
        · obtain rfl : k = m := by omega
          have HE3 := Lib.hid (show acc ++ coupA f g b (a.drop (i + 1)) = coupA f g b a by rw [← HE.out, show b.drop k = [] from List.drop_of_length_le (by rw [← L2.out]; exact Nat.le_refl _), coupL]; simp)
          clear HE
          go_wp2
          go_roundg (n - (i + 1))
          case measure => omega
          case rel => exact ⟨i + 1, acc, F, by omega, rfl, by go_num, hv, hF, HE3, hbw⟩
    · obtain rfl : i = n := by omega
      have HF := Lib.hid (show acc = coupA f g b a by rw [← HE.out, List.drop_of_length_le (by rw [← L1.out]; exact Nat.le_refl _)]; simp [coupA])
      go_wp2
      go_ret
      exact ⟨_, rfl, ⟨F, by rw [← HF.out]; exact hv, hF⟩, hbw⟩
set_option maxRecDepth 100000 in
set_option maxHeartbeats 3200000 in
theorem S_Couples_no (w : World) (a b : List GItem) (f g : Int) (va vb : Value) (ha : Rd rItems w a [va]) (hb : Rd rItems w b [vb]) (hno : coupOk a b f g = false) :
    Calls Try.prog 56 #[va, vb, .int .i64 f, .int .i64 g] w (RetV w (Made fCouples w.heap.size [])) := by
  have A0 : Bw w (w.alloc (.cells #[] 83)) := (Bw.refl w).alloc _
  have hv0 := fSl_empty (e := 83) (sz := 2) (R := fPair) w
  have fin : ∀ W, Bw (w.alloc (.cells #[] 83)) W → RetV w (Made fCouples w.heap.size []) (.returned (.slice (some ⟨w.heap.size, 0, none⟩) 0 0)) W := fun W hW =>
    ⟨_, rfl, ⟨_, (fCouples_good (B := w.heap.size)).bw hW A0.size hv0, ⟨by simp, by simp⟩⟩, A0.then hW⟩
  have HNO := Lib.hid hno
  clear hno
  obtain ⟨A1, n, c1, rfl, L10, L1c, L1m⟩ := rSl_open ha
  unfold maxLen at L1m
  have L1 := Lib.hid L10
  clear L10
  go_enter Try.func56, Try.ntmps56
  go_wp2
  go_loopg [9, 10] 1 (fun gh s i w' => gh = 1 ∧ i = .int .i64 (0 : Nat) ∧ s = .slice (some ⟨w.heap.size, 0, none⟩) 0 0 ∧ Bw (w.alloc (.cells #[] 83)) w')
  case atStart => exact ⟨rfl, rfl, rfl, Bw.refl _⟩
  case round =>
    obtain ⟨rfl, rfl, rfl, hbw⟩ := hrel
    by_cases hn : 0 < n
    · go_wp2_with fail
      refine (S_AreItems _ a _ (ha.bw rItems_good (A0.then hbw))).mono ?_
      rintro e w1 ⟨rfl, hb1⟩
      rcases Bool.eq_false_or_eq_true (areItems a) with c1 | c1
      · go_wp2_with fail
        refine (S_AreItems _ b _ (hb.bw rItems_good ((A0.then hbw).then hb1))).mono ?_
        rintro e w2 ⟨rfl, hb2⟩
        rcases Bool.eq_false_or_eq_true (areItems b) with c2 | c2
        · go_wp2_with fail
          refine (S_l17Field _ _).mono ?_
          rintro e w3 ⟨rfl, hb3⟩
          rcases Bool.eq_false_or_eq_true (inB f 0 2) with c3 | c3
          · go_wp2_with fail
            refine (S_l17Field _ _).mono ?_
            rintro e w4 ⟨rfl, hb4⟩
            rcases Bool.eq_false_or_eq_true (inB g 0 2) with c4 | c4
            · exact absurd HNO.out (by simp [coupOk, c1, c2, c3, c4])
            · go_wp2
              go_ret
              exact fin _ ((((hbw.then hb1).then hb2).then hb3).then hb4)
          · go_wp2
            go_ret
            exact fin _ (((hbw.then hb1).then hb2).then hb3)
        · go_wp2
          go_ret
          exact fin _ ((hbw.then hb1).then hb2)
      · go_wp2
        go_ret
        exact fin _ (hbw.then hb1)
    · obtain rfl : n = 0 := by omega
      go_wp2
      go_ret
      exact fin _ hbw
set_option maxRecDepth 100000 in
set_option maxHeartbeats 6400000 in
theorem S_Couples_yes (w : World) (a b : List GItem) (f g : Nat) (va vb : Value) (ha : Rd rItems w a [va]) (hb : Rd rItems w b [vb]) (ya : areItems a = true) (yb : areItems b = true) (hf : f ≤ 2) (hg : g ≤ 2) :
    Calls Try.prog 56 #[va, vb, .int .i64 f, .int .i64 g] w (RetV w (Made fCouples w.heap.size (coupA f g b a))) := by
  obtain ⟨i0, hi, hz0, hz1, hz2⟩ := info_parts info_Couple
  have A0 : Bw w (w.alloc (.cells #[] 83)) := (Bw.refl w).alloc _
  have hv0 := fSl_empty (e := 83) (sz := 2) (R := fPair) w
  obtain ⟨A1, n, c1, rfl, L10, L1c, L1m⟩ := rSl_open ha
  unfold maxLen at L1m
  have L1 := Lib.hid L10
  clear L10
  obtain ⟨A2, m, c2, rfl, L20, L2c, L2m⟩ := rSl_open hb
  unfold maxLen at L2m
  have L2 := Lib.hid L20
  clear L20
  have C3 := Lib.hid (show inB (f : Int) 0 2 = true from inB_iff.2 (by omega))
  have C4 := Lib.hid (show inB (g : Int) 0 2 = true from inB_iff.2 (by omega))
  have f1 : f < 3 := by omega
  have g1 : g < 3 := by omega
  have YA := Lib.hid ya
  have YB := Lib.hid yb
  have ita := Lib.hid (fun x hx => areItems_mem ya (x := x) hx)
  have itb := Lib.hid (fun x hx => areItems_mem yb (x := x) hx)
  have TOT := Lib.hid (show (coupA f g b a).length ≤ 256 by
    have h1 := coupA_len f g b (areItems_len yb) a
    have h2 := areItems_len ya
    omega)
  clear ya yb
  go_enter Try.func56, Try.ntmps56
  go_wp2
  go_loopg [9, 10] n (fun gh s i w' => ∃ (k : Nat) (acc : List GPair) (F : List Nat), k ≤ n ∧ gh = n - k ∧ i = .int .i64 k ∧ fCouples w' acc [s] F ∧ Fresh w.heap.size F ∧ Hid (acc ++ coupA f g b (a.drop k) = coupA f g b a) ∧ Bw w w')
  case atStart => exact ⟨0, [], _, by omega, rfl, rfl, hv0, ⟨by simp, by simp⟩, Lib.hid (by simp), A0⟩
  case round =>
    clear hv0 A0
    obtain ⟨i, acc, F, hk, rfl, rfl, hv, hF, HE, hbw⟩ := hrel
    by_cases hlt : i < n
    · obtain ⟨x, hx⟩ := get_of_lt (xs := a) (k := i) (by have := L1.out; omega)
      have hix := ita.out x (List.mem_of_getElem? hx)
      obtain ⟨ba, oa, A', c', rfl, _, hc0, hc1, hin⟩ := rItems_at ha hx
      rw [isItem_len hix] at hc1 hin
      obtain ⟨bx, ox, rfl, _, hcv⟩ := rInts_at hin (valAt_get hix hf)
      have HE2 := Lib.hid (show acc ++ (coupL x f g (b.drop 0) ++ coupA f g b (a.drop (i + 1))) = coupA f g b a by rw [← HE.out, coupA_drop hx]; rfl)
      clear hx HE hix
      go_wp2_with fail
      refine (S_AreItems _ a _ (ha.bw rItems_good hbw)).mono ?_
      rintro e w1 ⟨rfl, hb1⟩
      rw [YA.out]
      go_wp2_with fail
      refine (S_AreItems _ b _ (hb.bw rItems_good (hbw.then hb1))).mono ?_
      rintro e w2 ⟨rfl, hb2⟩
      rw [YB.out]
      go_wp2_with fail
      refine (S_l17Field _ _).mono ?_
      rintro e w3 ⟨rfl, hb3⟩
      rw [C3.out]
      go_wp2_with fail
      refine (S_l17Field _ _).mono ?_
      rintro e w4 ⟨rfl, hb4⟩
      rw [C4.out]
      have hb5 := ((hb1.then hb2).then hb3).then hb4
      have hv1 := (fCouples_good (B := w.heap.size)).bw hb5 hbw.size hv
      have hbw1 := hbw.then hb5
      clear hb1 hb2 hb3 hb4 hb5 hv hbw
      go_wp2
      go_loopg [9, 11] m (fun gh s i2 w' => ∃ (k : Nat) (acc : List GPair) (F : List Nat), k ≤ m ∧ gh = m - k ∧ i2 = .int .i64 k ∧ fCouples w' acc [s] F ∧ Fresh w.heap.size F ∧ Hid (acc ++ (coupL x f g (b.drop k) ++ coupA f g b (a.drop (i + 1))) = coupA f g b a) ∧ Bw w w')
      case atStart => exact ⟨0, acc, F, by omega, rfl, rfl, hv1, hF, HE2, hbw1⟩
      case round =>
        clear hv1 hF HE2 hbw1
        obtain ⟨k, acc, F, hk2, rfl, rfl, hv, hF, HE, hbw⟩ := hrel
        by_cases hlt2 : k < m
        · obtain ⟨y, hy⟩ := get_of_lt (xs := b) (k := k) (by have := L2.out; omega)
          have hiy := itb.out y (List.mem_of_getElem? hy)
          obtain ⟨bb, ob, A', c2', rfl, _, hd0, hd1, hiny⟩ := rItems_at hb hy
          rw [isItem_len hiy] at hd1 hiny
          obtain ⟨by', oy, rfl, _, hdv⟩ := rInts_at hiny (valAt_get hiy hg)
          have hdx0 := hbw.cell hd0
          have hdx1 := hbw.cell hd1
          have hcx0 := hbw.cell hc0
          have hcx1 := hbw.cell hc1
          have hcv1 := hbw.cell hcv
          have hdv1 := hbw.cell hdv
          by_cases he : valAt x f = valAt y g
          · have e1 : (valAt x f == valAt y g) = true := by simpa using he
            have hla := TOT.out
            rw [← HE.out, coupL_yes hy he] at hla
            have HA := Lib.hid (show acc.length + 1 ≤ 257 by simp at hla; omega)
            have HE3 := Lib.hid (show (acc ++ [⟨x.id, y.id⟩]) ++ (coupL x f g (b.drop (k + 1)) ++ coupA f g b (a.drop (i + 1))) = coupA f g b a by rw [← HE.out, coupL_yes hy he]; simp)
            clear hy hiy hla HE he
            have i1 : (0 : Int) ≤ (i : Int) := by omega
            have i2 : (i : Int) < (n : Int) := by omega
            have k1 : (0 : Int) ≤ (k : Int) := by omega
            have k2 : (k : Int) < (m : Int) := by omega
            go_wp2
            go_quiet (fail)
            have D1 : Bw wr (wr.drewN nq).drew := ((Bw.refl wr).drewN _).drew
            have hAl : Bw (wr.drewN nq).drew ((wr.drewN nq).drew.alloc (.cells #[.int .i64 x.id, .int .i64 y.id] 83)) := (Bw.refl _).alloc _
            have hvW := (fCouples_good (B := w.heap.size)).bw (D1.then hAl) hbw.size hv
            have hbW := hbw.then (D1.then hAl)
            have hFm := (fCouples_good (B := 0)).lt hv
            have hcl : ∀ j t, [Value.int .i64 x.id, .int .i64 y.id][j]? = some t → ((wr.drewN nq).drew.alloc (.cells #[.int .i64 x.id, .int .i64 y.id] 83)).cell? ((⟨(wr.drewN nq).drew.heap.size, 0, none⟩ : Addr).add j) = some t := World.news_of_block (cs := #[.int .i64 x.id, .int .i64 y.id]) (t := 83) (fr := (0, 0)) (heap_alloc_new _ _)
            go_wp2_with fail
            go_region_held3 (fun w' => w'.cell? ⟨ba, oa + i * 2, none⟩ = some (.int .i64 x.id) ∧ w'.cell? ⟨bb, ob + k * 2, none⟩ = some (.int .i64 y.id)) (first | go_keep | exact ⟨hcx0, hdx0⟩ | exact ⟨(D1.then hAl).cell hcx0, (D1.then hAl).cell hdx0⟩ | exact ⟨hb'.cell hc0, hb'.cell hd0⟩ | fail)
              (first
                | (refine step_push _ (by rfl) (.tmp 58) (.tmp 70) 26 (by rfl) w 83 i0 _ 2 16 Try.underlying26 hi hz0 hz1 hz2 rfl (by omega) fPair_good _ acc F (by rfl) hvW hF ⟨(wr.drewN nq).drew.heap.size, 0, none⟩ 1 (by rfl) ⟨x.id, y.id⟩ [.int .i64 x.id, .int .i64 y.id] [] hcl ⟨rfl, rfl⟩ rfl wr.heap.size hFm Fresh.nil hbw.size (by have := HA.out; omega) (by have := HA.out; omega) hbW ?_; intro v' w' F' hv' hF' hb')
                | fail)
            go_wp2
            go_roundg (m - (k + 1))
            case measure => omega
            case rel => exact ⟨k + 1, _, F', by omega, rfl, by go_num, hv', hF', HE3, hb'⟩
          · have e1 : (valAt x f == valAt y g) = false := by simpa using he
            have HE3 := Lib.hid (show acc ++ (coupL x f g (b.drop (k + 1)) ++ coupA f g b (a.drop (i + 1))) = coupA f g b a by rw [← HE.out, coupL_no hy he])
            clear hy hiy HE he
            go_wp2
            go_quiet (fail)
            have hvW := (fCouples_good (B := w.heap.size)).bw ((Bw.refl wr).drewN nq) hbw.size hv
            have hbW := hbw.drewN nq
            go_wp2
            go_roundg (m - (k + 1))
            case measure => omega
            case rel => exact ⟨k + 1, acc, F, by omega, rfl, by go_num, hvW, hF, HE3, hbW⟩
        · obtain rfl : k = m := by omega
          have HE3 := Lib.hid (show acc ++ coupA f g b (a.drop (i + 1)) = coupA f g b a by rw [← HE.out, show b.drop k = [] from List.drop_of_length_le (by rw [← L2.out]; exact Nat.le_refl _), coupL]; simp)
          clear HE
          go_wp2
          go_roundg (n - (i + 1))
          case measure => omega
          case rel => exact ⟨i + 1, acc, F, by omega, rfl, by go_num, hv, hF, HE3, hbw⟩
    · obtain rfl : i = n := by omega
      have HF := Lib.hid (show acc = coupA f g b a by rw [← HE.out, List.drop_of_length_le (by rw [← L1.out]; exact Nat.le_refl _)]; simp [coupA])
      go_wp2
      go_ret
      exact ⟨_, rfl, ⟨F, by rw [← HF.out]; exact hv, hF⟩, hbw⟩
theorem S_Couples (w : World) (a b : List GItem) (f g : Int) (va vb : Value) (ha : Rd rItems w a [va]) (hb : Rd rItems w b [vb]) :
    Calls Try.prog 56 #[va, vb, .int .i64 f, .int .i64 g] w (RetV w (Made fCouples w.heap.size (couples a b f g))) := by
  by_cases h : coupOk a b f g = true
  · rw [couples, if_pos h]
    simp only [coupOk, Bool.and_eq_true] at h
    obtain ⟨ya, yb, h1, h2⟩ := h
    obtain ⟨f', rfl, h1⟩ := natOf h1 (by omega)
    obtain ⟨g', rfl, h2⟩ := natOf h2 (by omega)
    exact S_Couples_yes w a b f' g' va vb ha hb ya yb (by omega) (by omega)
  · rw [couples, if_neg h]
    exact S_Couples_no w a b f g va vb ha hb (by simpa using h)
theorem I_Couples (w : World) (a b : List GItem) (f g : Int) (va vb : Value) (ha : Rd rItems w a [va]) (hb : Rd rItems w b [vb]) :
    Calls Try.prog 54 #[va, vb, .int .i64 f, .int .i64 g] w (RetV w (Made fCouples w.heap.size (couples a b f g))) := by
  by_cases h : coupOk a b f g = true
  · rw [couples, if_pos h]
    simp only [coupOk, Bool.and_eq_true] at h
    obtain ⟨ya, yb, h1, h2⟩ := h
    obtain ⟨f', rfl, h1⟩ := natOf h1 (by omega)
    obtain ⟨g', rfl, h2⟩ := natOf h2 (by omega)
    exact I_Couples_yes w a b f' g' va vb ha hb ya yb (by omega) (by omega)
  · rw [couples, if_neg h]
    exact I_Couples_no w a b f g va vb ha hb (by simpa using h)
end Go.Proofs.Ytfffklkiikmieaa
