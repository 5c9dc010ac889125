/- The best couples by way of the locally best items, in both programs. -/
import Derived.Test.YtfffklkiikmieaaQCoupB
import Derived.Test.YtfffklkiikmieaaQLocalI
import Derived.Test.YtfffklkiikmieaaQLocalS
import Derived.Test.YtfffklkiikmieaaQSlicesI
import Derived.Test.YtfffklkiikmieaaQBoxT
namespace Go.Proofs.Ytfffklkiikmieaa
open Go.RowKit
set_option linter.unusedVariables false
set_option linter.unusedSimpArgs false
def someC (x y : List Int) (l : List GPair) : List GPair := l.filter fun c => x.contains c.fst && y.contains c.snd
def someTo (x y : List Int) (l : List GPair) (k : Nat) : List GPair := (l.take k).filter fun c => x.contains c.fst && y.contains c.snd
theorem someTo_yes {x y : List Int} {l : List GPair} {k : Nat} {c : GPair} (hc : l[k]? = some c) (h1 : x.contains c.fst = true) (h2 : y.contains c.snd = true) : someTo x y l (k + 1) = someTo x y l k ++ [c] := by
  unfold someTo; rw [List.take_add_one, hc, List.filter_append]
  simp only [Option.toList_some, List.filter_cons, List.filter_nil, h1, h2, Bool.and_self, if_true]
theorem someTo_no {x y : List Int} {l : List GPair} {k : Nat} {c : GPair} (hc : l[k]? = some c) (h : (x.contains c.fst && y.contains c.snd) = false) : someTo x y l (k + 1) = someTo x y l k := by
  unfold someTo; rw [List.take_add_one, hc, List.filter_append]
  simp only [Option.toList_some, List.filter_cons, List.filter_nil, h, List.append_nil, Bool.false_eq_true, if_false]
theorem someTo_end {x y : List Int} {l : List GPair} {k : Nat} (h : l.length ≤ k) : someTo x y l k = someC x y l := by unfold someTo someC; rw [List.take_of_length_le h]
theorem someTo_len {x y : List Int} {l : List GPair} {k : Nat} : (someTo x y l k).length ≤ k := by
  unfold someTo
  exact Nat.le_trans (List.length_filter_le _ _) (by rw [List.length_take]; omega)
def fastS (a b : List GItem) (f g : Int) (p q : List GNode) : List GPair := someC (localM a f p) (localM b g q) (couples a b f g)
def fastL (a b : List GItem) (f g : Int) (p q : List GNode) : List GPair := if isExpr p && isExpr q then bestC a b p q (fastS a b f g p q) else []
def fastN (a b : List GItem) (f g : Int) (p q : List GNode) : Int := if isExpr p && isExpr q then (((fastS a b f g p q).length : Nat) : Int) else 0
theorem fastS_len (a b : List GItem) (f g : Int) (p q : List GNode) : (fastS a b f g p q).length ≤ 256 := Nat.le_trans (List.length_filter_le _ _) (couples_len _ _ _ _)
theorem fastL_len (a b : List GItem) (f g : Int) (p q : List GNode) : (fastL a b f g p q).length ≤ 256 := by
  unfold fastL; split
  · exact Nat.le_trans (List.length_filter_le _ _) (fastS_len _ _ _ _ _ _)
  · simp
theorem fastS_fit {a b : List GItem} {f g : Int} {p q : List GNode} : ∀ c ∈ fastS a b f g p q, fitC a b c := fun c hc => couples_fit c (List.mem_filter.1 hc).1
theorem fast_yes {a b : List GItem} {f g : Int} {p q : List GNode} (h1 : isExpr p = true) (h2 : isExpr q = true) : fastL a b f g p q = bestC a b p q (fastS a b f g p q) ∧ fastN a b f g p q = (((fastS a b f g p q).length : Nat) : Int) := by unfold fastL fastN; rw [h1, h2]; exact ⟨rfl, rfl⟩
theorem fast_no {a b : List GItem} {f g : Int} {p q : List GNode} (h : (isExpr p && isExpr q) = false) : fastL a b f g p q = [] ∧ fastN a b f g p q = 0 := by unfold fastL fastN; rw [h]; exact ⟨rfl, rfl⟩
set_option maxRecDepth 100000 in
set_option maxHeartbeats 3200000 in
theorem I_FastCouples (w : World) (a b : List GItem) (f g : Int) (p q : List GNode) (va vb vp vq : Value) (ha : Rd rItems w a [va]) (hb : Rd rItems w b [vb]) (hp : Rd rNodes w p [vp]) (hq : Rd rNodes w q [vq]) :
    Calls Try.prog 16 #[va, vb, .int .i64 f, .int .i64 g, vp, vq] w (RetV w (Two fCouples w.heap.size (fastL a b f g p q) (.int .i64 (fastN a b f g p q)))) := by
  obtain ⟨i0, hi, hz0, hz1, hz2⟩ := info_parts info_Couple
  have A0 : Bw w (w.alloc (.cells #[] 83)) := (Bw.refl w).alloc _
  have hv0 := fSl_empty (e := 83) (sz := 2) (R := fPair) w
  go_enter Try.func16, Try.ntmps16
  go_wp2_with fail
  refine (I_IsExpression _ p _ (hp.bw rNodes_good A0)).mono ?_
  rintro e w1 ⟨rfl, hb1⟩
  have B1 := A0.then hb1
  rcases Bool.eq_false_or_eq_true (isExpr p) with e1 | e1
  · have E1 := Lib.hid e1
    rw [e1]
    clear e1
    go_wp2_with fail
    refine (I_IsExpression _ q _ (hq.bw rNodes_good B1)).mono ?_
    rintro e w2 ⟨rfl, hb2⟩
    have B2 := B1.then hb2
    rcases Bool.eq_false_or_eq_true (isExpr q) with e2 | e2
    · have E2 := Lib.hid e2
      rw [e2]
      clear e2
      go_wp2_with fail
      refine (I_LocalBest _ a f p _ _ (ha.bw rItems_good B2) (hp.bw rNodes_good B2)).mono ?_
      rintro e w3 ⟨vx, rfl, ⟨Fx, ox, fx⟩, hb3⟩
      have B3 := B2.then hb3
      go_wp2_with fail
      refine (I_LocalBest _ b g q _ _ (hb.bw rItems_good B3) (hq.bw rNodes_good B3)).mono ?_
      rintro e w4 ⟨vy, rfl, ⟨Fy, oy, fy⟩, hb4⟩
      have B4 := B3.then hb4
      go_wp2_with fail
      refine (I_Couples _ a b f g _ _ (ha.bw rItems_good B4) (hb.bw rItems_good B4)).mono ?_
      rintro e w5 ⟨vl, rfl, ⟨Fl, ol, fl⟩, hb5⟩
      have B5 := B4.then hb5
      have ox5 := (fInts_good (B := 0)).bw hb5 (Nat.zero_le _) ((fInts_good (B := 0)).bw hb4 (Nat.zero_le _) ox)
      have oy5 := (fInts_good (B := 0)).bw hb5 (Nat.zero_le _) oy
      have hv5 := (fCouples_good (B := w.heap.size)).bw (((hb1.then hb2).then hb3).then (hb4.then hb5)) A0.size hv0
      have hL := couples_len a b f g
      have HM : Hid (fastS a b f g p q = someC (localM a f p) (localM b g q) (couples a b f g)) := Lib.hid rfl
      have zs : (w.alloc (.cells #[] 83)).heap.size = w.heap.size + 1 := by simp
      have zx : ∀ z ∈ Fx, z ∉ [w.heap.size] := fun z hz => by have h1 := fx.ge z hz; have h2 := (hb1.then hb2).size; simp only [List.mem_singleton]; omega
      have zy : ∀ z ∈ Fy, z ∉ [w.heap.size] := fun z hz => by have h1 := fy.ge z hz; have h2 := ((hb1.then hb2).then hb3).size; simp only [List.mem_singleton]; omega
      have zl : ∀ z ∈ Fl, z ∉ [w.heap.size] := fun z hz => by have h1 := fl.ge z hz; have h2 := (((hb1.then hb2).then hb3).then hb4).size; simp only [List.mem_singleton]; omega
      obtain ⟨l, hle⟩ : ∃ l, l = couples a b f g := ⟨_, rfl⟩
      obtain ⟨X, hX⟩ : ∃ X, X = localM a f p := ⟨_, rfl⟩
      obtain ⟨Y, hY⟩ : ∃ Y, Y = localM b g q := ⟨_, rfl⟩
      rw [← hle] at ol hL HM
      rw [← hX] at ox5 HM
      rw [← hY] at oy5 HM
      have hl := fCouples_Rd ol
      obtain ⟨A, n, c0, rfl, L0, Lc, Lm⟩ := rSl_open hl
      unfold maxLen at Lm
      have L := Lib.hid L0
      clear L0
      rw [← L.out] at hL
      clear hl
      have ZX := Lib.hid zx
      have ZY := Lib.hid zy
      have ZL := Lib.hid zl
      have OX := Lib.hid ox5
      have OY := Lib.hid oy5
      have OL := Lib.hid ol
      have ZS := Lib.hid (show w.heap.size < w5.heap.size by have := (((hb1.then hb2).then hb3).then (hb4.then hb5)).size; omega)
      clear hle hX hY ox oy ox5 oy5 hv0 hb1 hb2 hb3 hb4 hb5 B1 B2 B3 B4 fx fy fl A0 zx zy zl zs ol
      go_wp2
      go_loopg [14, 43] n (fun g2 s i w' => ∃ (k : Nat) (F : List Nat), k ≤ n ∧ g2 = n - k ∧ i = .int .i64 k ∧ fCouples w' (someTo X Y l k) [s] F ∧ Fresh w.heap.size F ∧ Bw w w' ∧ Only [w.heap.size] w5 w' ∧ Hid (∀ z ∈ F, z = w.heap.size ∨ w5.heap.size ≤ z))
      case atStart => exact ⟨0, _, by omega, rfl, rfl, hv5, ⟨by simp, by simp⟩, B5, Only.refl _ _, Lib.hid (fun z hz => .inl (by simpa using hz))⟩
      case round =>
        clear hv5 B5
        obtain ⟨k, F, hk, rfl, rfl, hv, hF, hb5, hO5, HF⟩ := hrel
        by_cases hlt : k < n
        · have hl := fCouples_Rd (hO5.keeps fCouples_good OL.out ZL.out)
          have hx := fInts_Rd (hO5.keeps fInts_good OX.out ZX.out)
          have hy := fInts_Rd (hO5.keeps fInts_good OY.out ZY.out)
          obtain ⟨c, hc⟩ := get_of_lt (xs := l) (k := k) (by have := L.out; omega)
          obtain ⟨ba, oa, rfl, _, hc0, hc1⟩ := rPairs_at hl hc
          have i1 : (0 : Int) ≤ (k : Int) := by omega
          have i2 : (k : Int) < (n : Int) := by omega
          have hbx := World.block_lt_of_cell? _ _ hc0
          have HYES := Lib.hid (fun h1 h2 => someTo_yes (x := X) (y := Y) hc h1 h2)
          have HNO := Lib.hid (fun h => someTo_no (x := X) (y := Y) hc h)
          have hbA : Bw wr (wr.alloc (.cells #[.int .i64 c.fst, .int .i64 c.snd] 83)) := (Bw.refl wr).alloc _
          have hvA := (fCouples_good (B := w.heap.size)).bw hbA hb5.size hv
          have hFm := (fCouples_good (B := 0)).lt hvA
          have kx0 : (wr.alloc (.cells #[.int .i64 c.fst, .int .i64 c.snd] 83)).cell? ⟨wr.heap.size, 0, none⟩ = some (.int .i64 c.fst) := by go_simp
          have kx1 : (wr.alloc (.cells #[.int .i64 c.fst, .int .i64 c.snd] 83)).cell? ⟨wr.heap.size, 1, none⟩ = some (.int .i64 c.snd) := by go_simp
          have hsz : (wr.alloc (.cells #[.int .i64 c.fst, .int .i64 c.snd] 83)).heap.size = wr.heap.size + 1 := by simp
          have HX := Lib.hid hx
          have HY := Lib.hid hy
          clear hc hl hv hx hy
          go_wp2_with fail
          refine (slices_Contains_ints _ X c.fst _ (HX.out.bw rInts_good hbA)).mono ?_
          rintro e w6 ⟨rfl, hb6⟩
          have kk0 := hb6.cell kx0
          have kk1 := hb6.cell kx1
          have hb9 := hbA.then hb6
          have hv1 := (fCouples_good (B := w.heap.size)).bw hb6 (hb5.then hbA).size hvA
          rcases Bool.eq_false_or_eq_true (X.contains c.fst) with e1 | e1
          · have C1 := Lib.hid e1
            rw [e1]
            clear e1
            go_wp2_with fail
            refine (slices_Contains_ints _ Y c.snd _ (HY.out.bw rInts_good hb9)).mono ?_
            rintro e w7 ⟨rfl, hb7⟩
            replace kk0 := hb7.cell kk0
            replace kk1 := hb7.cell kk1
            have hbw := hb9.then hb7
            have hv2 := (fCouples_good (B := w.heap.size)).bw hb7 (hb5.then hb9).size hv1
            rcases Bool.eq_false_or_eq_true (Y.contains c.snd) with e2 | e2
            · have HB2 := Lib.hid (HYES.out C1.out e2)
              rw [e2]
              clear e2 hv1 hvA hbA hb9
              have hbl := someTo_len (x := X) (y := Y) (l := l) (k := k)
              have HBL := Lib.hid hbl
              have hvW := (fCouples_good (B := w.heap.size)).bw ((Bw.refl w7).alloc (.cells #[.int .i64 c.fst, .int .i64 c.snd] 83)) (hb5.then hbw).size hv2
              have hbW := (hb5.then hbw).alloc (.cells #[.int .i64 c.fst, .int .i64 c.snd] 83)
              have hcl : ∀ j t, [Value.int .i64 c.fst, .int .i64 c.snd][j]? = some t → (w7.alloc (.cells #[.int .i64 c.fst, .int .i64 c.snd] 83)).cell? ((⟨w7.heap.size, 0, none⟩ : Addr).add j) = some t := World.news_of_block (cs := #[.int .i64 c.fst, .int .i64 c.snd]) (t := 83) (fr := (0, 0)) (heap_alloc_new w7 _)
              have hb0 := hb5.size
              have hFm2 : ∀ b ∈ F, b < wr.heap.size + 1 := fun b hb => by have := hFm b hb; omega
              have hOW := Lib.hid (Only.then hO5 ((hbw.alloc (.cells #[.int .i64 c.fst, .int .i64 c.snd] 83)).only []) (by simp))
              clear hv2 hbl hO5
              go_wp2_with (at_builtin; refine wpList_push2 _ rfl (.tmp 57) (.tmp 59) 26 rfl w 83 i0 _ 2 16 Try.underlying26 hi hz0 hz1 hz2 rfl (by omega) fPair_good _ (someTo X Y l k) F rfl hvW hF ⟨w7.heap.size, 0, none⟩ 1 rfl c [.int .i64 c.fst, .int .i64 c.snd] [] hcl ⟨rfl, rfl⟩ rfl (wr.heap.size + 1) hFm2 Fresh.nil (by omega) (by have := HBL.out; omega) (by have := HBL.out; omega) hbW ?_; intro v' w' F' hv' hF' hb' hO' hs')
              have hOn := Only.push hOW.out hO' HF.out
              have HF' := Lib.hid (show ∀ z ∈ F', z = w.heap.size ∨ w5.heap.size ≤ z from fun z hz => (hs' z hz).elim (fun h => HF.out z h) (fun h => h.elim (fun h => by simp at h) (fun h => .inr (Nat.le_trans hOW.out.1 h))))
              go_roundg (n - (k + 1))
              case measure => omega
              case rel => exact ⟨k + 1, F', by omega, rfl, by go_num, by rw [HB2.out]; exact hv', hF', hb', hOn, HF'⟩
            · have HB2 := Lib.hid (HNO.out (by rw [C1.out, e2]; rfl))
              rw [e2]
              clear e2
              go_wp2
              go_roundg (n - (k + 1))
              case measure => omega
              case rel => exact ⟨k + 1, F, by omega, rfl, by go_num, by rw [HB2.out]; exact hv2, hF, hb5.then hbw, hO5.then (hbw.only []) (by simp), HF⟩
          · have HB2 := Lib.hid (HNO.out (by rw [e1]; rfl))
            rw [e1]
            clear e1
            go_wp2
            go_roundg (n - (k + 1))
            case measure => omega
            case rel => exact ⟨k + 1, F, by omega, rfl, by go_num, by rw [HB2.out]; exact hv1, hF, hb5.then hb9, hO5.then (hb9.only []) (by simp), HF⟩
        · obtain rfl : k = n := by omega
          rw [someTo_end (by rw [← L.out]; exact Nat.le_refl _), ← HM.out] at hv
          have hS := fastS_len a b f g p q
          have HY := fast_yes (a := a) (b := b) (f := f) (g := g) (p := p) (q := q) E1.out E2.out
          obtain ⟨A', c', rfl, _⟩ := rSl_shape (fCouples_Rd hv)
          go_wp2_with fail
          refine (I_bestOf _ a b p q (fastS a b f g p q) _ _ _ _ _ (ha.bw rItems_good hb5) (hb.bw rItems_good hb5) (hp.bw rNodes_good hb5) (hq.bw rNodes_good hb5) (fCouples_Rd hv) (by omega) fastS_fit E1.out E2.out).mono ?_
          rintro e w7 ⟨v7, rfl, ⟨F7, o7, f7⟩, hb7⟩
          rw [← HY.1] at o7
          have HZ := Lib.hid HY.2
          have hb8 := hb5.then hb7
          have f8 : Fresh w.heap.size F7 := f7.mono hb5.size
          clear HY hv hS
          go_wp2
          refine bodyPost_ret (v := .tuple #[v7, .int .i64 (((fastS a b f g p q).length : Nat) : Int)]) (by simp [results, Try.results16, go_sem]) rfl (RetV.two o7 f8 (by rw [HZ.out]) hb8)
    · have E2 := Lib.hid (fast_no (a := a) (b := b) (f := f) (g := g) (p := p) (q := q) (by rw [E1.out, e2]; rfl))
      rw [e2]
      clear e2
      have hv2 := (fCouples_good (B := w.heap.size)).bw (hb1.then hb2) A0.size hv0
      rw [← E2.out.1] at hv2
      go_wp2
      refine bodyPost_ret (v := .tuple #[.slice (some ⟨w.heap.size, 0, none⟩) 0 0, .int .i64 0]) (by simp [results, Try.results16, go_sem]) rfl (RetV.two hv2 ⟨by simp, by simp⟩ (by rw [E2.out.2]) B2)
  · have E1 := Lib.hid (fast_no (a := a) (b := b) (f := f) (g := g) (p := p) (q := q) (by rw [e1]; rfl))
    rw [e1]
    clear e1
    have hv2 := (fCouples_good (B := w.heap.size)).bw hb1 A0.size hv0
    rw [← E1.out.1] at hv2
    go_wp2
    refine bodyPost_ret (v := .tuple #[.slice (some ⟨w.heap.size, 0, none⟩) 0 0, .int .i64 0]) (by simp [results, Try.results16, go_sem]) rfl (RetV.two hv2 ⟨by simp, by simp⟩ (by rw [E1.out.2]) B1)
set_option maxRecDepth 100000 in
set_option maxHeartbeats 3200000 in
theorem S_FastCouples (w : World) (a b : List GItem) (f g : Int) (p q : List GNode) (va vb vp vq : Value) (ha : Rd rItems w a [va]) (hb : Rd rItems w b [vb]) (hp : Rd rNodes w p [vp]) (hq : Rd rNodes w q [vq]) :
    Calls Try.prog 13 #[va, vb, .int .i64 f, .int .i64 g, vp, vq] w (RetV w (Two fCouples w.heap.size (fastL a b f g p q) (.int .i64 (fastN a b f g p q)))) := by
  obtain ⟨i0, hi, hz0, hz1, hz2⟩ := info_parts info_Couple
  go_enter Try.func13, Try.ntmps13
  go_wp2_with fail
  refine (S_IsExpression _ p _ hp).mono ?_
  rintro e w1 ⟨rfl, hb1⟩
  rcases Bool.eq_false_or_eq_true (isExpr p) with e1 | e1
  · have E1 := Lib.hid e1
    rw [e1]
    clear e1
    go_wp2_with fail
    refine (S_IsExpression _ q _ (hq.bw rNodes_good hb1)).mono ?_
    rintro e w2 ⟨rfl, hb2⟩
    have B2 := hb1.then hb2
    rcases Bool.eq_false_or_eq_true (isExpr q) with e2 | e2
    · have E2 := Lib.hid e2
      rw [e2]
      clear e2
      go_wp2_with fail
      refine (S_LocalBest _ a f p _ _ (ha.bw rItems_good B2) (hp.bw rNodes_good B2)).mono ?_
      rintro e w3 ⟨vx, rfl, ⟨Fx, ox, fx⟩, hb3⟩
      have B3 := B2.then hb3
      go_wp2_with fail
      refine (S_LocalBest _ b g q _ _ (hb.bw rItems_good B3) (hq.bw rNodes_good B3)).mono ?_
      rintro e w4 ⟨vy, rfl, ⟨Fy, oy, fy⟩, hb4⟩
      have B4 := B3.then hb4
      go_wp2_with fail
      refine (S_Couples _ a b f g _ _ (ha.bw rItems_good B4) (hb.bw rItems_good B4)).mono ?_
      rintro e w5 ⟨vl, rfl, ⟨Fl, ol, fl⟩, hb5⟩
      have B5 := B4.then hb5
      have hx := ((fInts_Rd ox).bw rInts_good hb4).bw rInts_good hb5
      have hy := (fInts_Rd oy).bw rInts_good hb5
      have hl := fCouples_Rd ol
      have hv0 := fSl_empty (e := 83) (sz := 2) (R := fPair) w5
      have hL := couples_len a b f g
      have HM : Hid (fastS a b f g p q = someC (localM a f p) (localM b g q) (couples a b f g)) := Lib.hid rfl
      obtain ⟨l, hle⟩ : ∃ l, l = couples a b f g := ⟨_, rfl⟩
      obtain ⟨X, hX⟩ : ∃ X, X = localM a f p := ⟨_, rfl⟩
      obtain ⟨Y, hY⟩ : ∃ Y, Y = localM b g q := ⟨_, rfl⟩
      rw [← hle] at hl hL HM
      rw [← hX] at hx HM
      rw [← hY] at hy HM
      obtain ⟨A, n, c0, rfl, L0, Lc, Lm⟩ := rSl_open hl
      unfold maxLen at Lm
      have L := Lib.hid L0
      clear L0
      rw [← L.out] at hL
      have B5' := B5
      clear hle hX hY ox oy ol hb1 hb2 hb3 hb4 hb5 B2 B3 B4 fx fy fl
      go_wp2
      go_loopg [17, 18] n (fun g2 s i w' => ∃ (k : Nat) (F : List Nat), k ≤ n ∧ g2 = n - k ∧ i = .int .i64 k ∧ fCouples w' (someTo X Y l k) [s] F ∧ Fresh w5.heap.size F ∧ Bw w5 w')
      case atStart => exact ⟨0, _, by omega, rfl, rfl, hv0, ⟨by simp, by simp⟩, (Bw.refl _).alloc _⟩
      case round =>
        clear hv0
        obtain ⟨k, F, hk, rfl, rfl, hv, hF, hb5⟩ := hrel
        by_cases hlt : k < n
        · obtain ⟨c, hc⟩ := get_of_lt (xs := l) (k := k) (by have := L.out; omega)
          obtain ⟨ba, oa, rfl, _, hc0, hc1⟩ := rPairs_at hl hc
          have i1 : (0 : Int) ≤ (k : Int) := by omega
          have i2 : (k : Int) < (n : Int) := by omega
          replace hc0 := hb5.cell hc0
          replace hc1 := hb5.cell hc1
          have HYES := Lib.hid (fun h1 h2 => someTo_yes (x := X) (y := Y) hc h1 h2)
          have HNO := Lib.hid (fun h => someTo_no (x := X) (y := Y) hc h)
          have HL := Lib.hid hl
          have HX := Lib.hid hx
          have HY := Lib.hid hy
          clear hc hl hx hy
          go_wp2_with fail
          refine (S_l2Has _ X c.fst _ (HX.out.bw rInts_good hb5)).mono ?_
          rintro e w6 ⟨rfl, hb6⟩
          replace hc0 := hb6.cell hc0
          replace hc1 := hb6.cell hc1
          have hb9 := hb5.then hb6
          have hv1 := (fCouples_good (B := w5.heap.size)).bw hb6 hb5.size hv
          rcases Bool.eq_false_or_eq_true (X.contains c.fst) with e1 | e1
          · have C1 := Lib.hid e1
            rw [e1]
            clear e1
            go_wp2_with fail
            refine (S_l2Has _ Y c.snd _ (HY.out.bw rInts_good hb9)).mono ?_
            rintro e w7 ⟨rfl, hb7⟩
            replace hc0 := hb7.cell hc0
            replace hc1 := hb7.cell hc1
            have hbw := hb9.then hb7
            have hv2 := (fCouples_good (B := w5.heap.size)).bw hb7 hb9.size hv1
            have hl := HL.out
            have hx := HX.out
            have hy := HY.out
            rcases Bool.eq_false_or_eq_true (Y.contains c.snd) with e2 | e2
            · have HB2 := Lib.hid (HYES.out C1.out e2)
              rw [e2]
              clear e2 hv1 hb9
              have HBL := Lib.hid (someTo_len (x := X) (y := Y) (l := l) (k := k))
              have hvW := (fCouples_good (B := w5.heap.size)).bw ((Bw.refl w7).alloc (.cells #[.int .i64 c.fst, .int .i64 c.snd] 83)) hbw.size hv2
              have hFm := (fCouples_good (B := 0)).lt hv2
              have hbW := hbw.alloc (.cells #[.int .i64 c.fst, .int .i64 c.snd] 83)
              have hcl : ∀ j t, [Value.int .i64 c.fst, .int .i64 c.snd][j]? = some t → (w7.alloc (.cells #[.int .i64 c.fst, .int .i64 c.snd] 83)).cell? ((⟨w7.heap.size, 0, none⟩ : Addr).add j) = some t := World.news_of_block (cs := #[.int .i64 c.fst, .int .i64 c.snd]) (t := 83) (fr := (0, 0)) (heap_alloc_new w7 _)
              have hb0 := hbw.size
              clear hv2
              go_wp2_with (at_builtin; refine wpList_push _ rfl (.tmp 64) (.tmp 69) 26 rfl w5 83 i0 _ 2 16 Try.underlying26 hi hz0 hz1 hz2 rfl (by omega) fPair_good _ (someTo X Y l k) F rfl hvW hF ⟨w7.heap.size, 0, none⟩ 1 rfl c [.int .i64 c.fst, .int .i64 c.snd] [] hcl ⟨rfl, rfl⟩ rfl w7.heap.size hFm Fresh.nil (by omega) (by have := HBL.out; omega) (by have := HBL.out; omega) hbW ?_; intro v' w' F' hv' hF' hb')
              go_roundg (n - (k + 1))
              case measure => omega
              case rel => exact ⟨k + 1, F', by omega, rfl, by go_num, by rw [HB2.out]; exact hv', hF', hb'⟩
            · have HB2 := Lib.hid (HNO.out (by rw [C1.out, e2]; rfl))
              rw [e2]
              clear e2
              go_wp2
              go_roundg (n - (k + 1))
              case measure => omega
              case rel => exact ⟨k + 1, F, by omega, rfl, by go_num, by rw [HB2.out]; exact hv2, hF, hbw⟩
          · have HB2 := Lib.hid (HNO.out (by rw [e1]; rfl))
            rw [e1]
            clear e1
            have hl := HL.out
            have hx := HX.out
            have hy := HY.out
            go_wp2
            go_roundg (n - (k + 1))
            case measure => omega
            case rel => exact ⟨k + 1, F, by omega, rfl, by go_num, by rw [HB2.out]; exact hv1, hF, hb9⟩
        · obtain rfl : k = n := by omega
          rw [someTo_end (by rw [← L.out]; exact Nat.le_refl _), ← HM.out] at hv
          have hS := fastS_len a b f g p q
          have HY := fast_yes (a := a) (b := b) (f := f) (g := g) (p := p) (q := q) E1.out E2.out
          have B6 := B5'.then hb5
          obtain ⟨A', c', rfl, _⟩ := rSl_shape (fCouples_Rd hv)
          go_wp2_with fail
          refine (S_l17Best _ a b p q (fastS a b f g p q) _ _ _ _ _ (ha.bw rItems_good B6) (hb.bw rItems_good B6) (hp.bw rNodes_good B6) (hq.bw rNodes_good B6) (fCouples_Rd hv) (by omega) fastS_fit E1.out E2.out).mono ?_
          rintro e w7 ⟨v7, rfl, ⟨F7, o7, f7⟩, hb7⟩
          rw [← HY.1] at o7
          have HZ := Lib.hid HY.2
          have hb8 := B6.then hb7
          have f8 : Fresh w.heap.size F7 := f7.mono B6.size
          clear HY hv hS
          go_wp2
          refine bodyPost_ret (v := .tuple #[v7, .int .i64 (((fastS a b f g p q).length : Nat) : Int)]) (by simp [results, Try.results13, go_sem]) rfl (RetV.two o7 f8 (by rw [HZ.out]) hb8)
    · have E2 := Lib.hid (fast_no (a := a) (b := b) (f := f) (g := g) (p := p) (q := q) (by rw [E1.out, e2]; rfl))
      rw [e2]
      clear e2
      have hv2 := fSl_empty (e := 83) (sz := 2) (R := fPair) w2
      have hz := B2.size
      rw [← E2.out.1] at hv2
      go_wp2
      refine bodyPost_ret (v := .tuple #[.slice (some ⟨w2.heap.size, 0, none⟩) 0 0, .int .i64 0]) (by simp [results, Try.results13, go_sem]) rfl (RetV.two hv2 ⟨by simp, by simpa using hz⟩ (by rw [E2.out.2]) (B2.alloc _))
  · have E1 := Lib.hid (fast_no (a := a) (b := b) (f := f) (g := g) (p := p) (q := q) (by rw [e1]; rfl))
    rw [e1]
    clear e1
    have hv2 := fSl_empty (e := 83) (sz := 2) (R := fPair) w1
    have hz := hb1.size
    rw [← E1.out.1] at hv2
    go_wp2
    refine bodyPost_ret (v := .tuple #[.slice (some ⟨w1.heap.size, 0, none⟩) 0 0, .int .i64 0]) (by simp [results, Try.results13, go_sem]) rfl (RetV.two hv2 ⟨by simp, by simpa using hz⟩ (by rw [E1.out.2]) (hb1.alloc _))
end Go.Proofs.Ytfffklkiikmieaa
