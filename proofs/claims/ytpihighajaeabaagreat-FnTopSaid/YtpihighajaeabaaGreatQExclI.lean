/- The items that one best item alone keeps off, in the program. -/
import Derived.Test.YtpihighajaeabaaGreatQSortU
import Derived.Test.YtpihighajaeabaaGreatQInsI2
import Derived.Test.YtpihighajaeabaaGreatQSortL
import Derived.Test.YtpihighajaeabaaGreatQRuleR
namespace Go.Proofs.YtpihighajaeabaaGreat
open Go.RowKit
set_option linter.unusedVariables false
theorem I_InsertItem (w : World) (s : GStanding) (x : GItem) (va vb vc u : Value) (ha : Rd rItems w s.items [va]) (hb : Rd rNodes w s.wanted [vb]) (hc : Rd rInts w s.best [vc]) (hx : Rd rInts w x.vals [u]) (t1 : totItems s.items ≤ 1048576) (t2 : totNodes s.wanted ≤ 1048576) (t3 : s.best.length ≤ 1048576) :
    Calls Tryz.prog 11 #[.agg #[va, vb, vc, .int .i64 s.tests], .agg #[.int .i64 x.id, u]] w (RetV w (TwoA fStanding w.heap.size (insM s x) (.bool (insOk s x)))) := by
  cases h : insOk s x with
  | true => rw [show insM s x = insertS s x by unfold insM; rw [h]; rfl]; exact I_InsertItem_yes w s x va vb vc u ha hb hc hx t1 t2 t3 h
  | false => rw [show insM s x = s by unfold insM; rw [h]; rfl]; exact I_InsertItem_no w s x va vb vc u ha hb hc hx t1 t2 t3 h
theorem sum_const {α : Type} (f : α → Nat) (n : Nat) : ∀ {l : List α}, (∀ x ∈ l, f x = n) → sumL f l = l.length * n
  | [], _ => by simp [sumL]
  | a :: l, h => by
    have h1 := sum_const f n (l := l) (fun x hx => h x (by simp [hx]))
    have h2 := h a (by simp)
    simp only [sumL, List.length_cons, h1, h2, Nat.succ_mul]; omega
theorem put_small {l : List GItem} {x : GItem} (hl : ∀ y ∈ l, isItem y = true) (hx : isItem x = true) (hn : l.length < 16) : totItems (putM l x) ≤ 1048576 := by
  have h1 : ∀ y ∈ putM l x, y.vals.length = 3 := fun y hy => isItem_len ((putM_mem hy).elim (hl y) (fun e => by rw [e]; exact hx))
  have h2 := sum_const (fun y : GItem => y.vals.length) 3 h1
  have h3 := putM_len l x
  unfold totItems
  rw [h2, h3]; omega
theorem insM_small {s : GStanding} {x : GItem} (h : smallSt s) : smallSt (insM s x) := by
  unfold insM
  split
  · rename_i hok
    obtain ⟨E1, E2, _, h16, _⟩ := insOk_parts hok
    have hI := areBoth_items (stand_both E1).1
    have hl := stand_best_len E1
    refine ⟨put_small (fun y hy => areItems_mem hI hy) E2 h16, h.2.1, ?_⟩
    unfold insertS
    dsimp only
    split
    · omega
    · have := keptTo_len s x s.best.length
      rw [sortI_len, List.length_append, List.length_singleton]; omega
  · exact h
end Go.Proofs.YtpihighajaeabaaGreat

namespace Go.Proofs.YtpihighajaeabaaGreat
open Go.RowKit
set_option linter.unusedVariables false
set_option linter.unusedSimpArgs false
set_option maxRecDepth 100000 in
set_option maxHeartbeats 6400000 in
theorem I_ExclusiveOf (w : World) (s : GStanding) (id : Int) (va vb vc : Value) (ha : Rd rItems w s.items [va]) (hb : Rd rNodes w s.wanted [vb]) (hc : Rd rInts w s.best [vc]) :
    Calls Tryz.prog 22 #[.agg #[va, vb, vc, .int .i64 s.tests], .int .i64 id] w (RetV w (Made fInts w.heap.size (exclM s id))) := by
  obtain ⟨i0, hi, hz0, hz1, hz2⟩ := info_parts info_int
  obtain ⟨A, n, c, rfl, L0, Lc, Lm⟩ := rSl_open ha
  unfold maxLen at Lm
  have L := Lib.hid L0
  clear L0
  obtain ⟨B, m, c2, rfl, M0, Mc, Mm⟩ := rSl_open hc
  unfold maxLen at Mm
  have M := Lib.hid M0
  clear M0
  obtain ⟨W0, hW0⟩ : ∃ W0, W0 = w.alloc (.cells #[.slice A n c, vb, .slice B m c2, .int .i64 s.tests] 28) := ⟨_, rfl⟩
  have B0 : Bw w W0 := by rw [hW0]; exact (Bw.refl w).alloc _
  have z0 : W0.cell? ⟨w.heap.size, 0, none⟩ = some (.slice A n c) := by rw [hW0]; go_simp
  have z1 : W0.cell? ⟨w.heap.size, 1, none⟩ = some vb := by rw [hW0]; go_simp
  have z2 : W0.cell? ⟨w.heap.size, 2, none⟩ = some (.slice B m c2) := by rw [hW0]; go_simp
  have z3 : W0.cell? ⟨w.heap.size, 3, none⟩ = some (.int .i64 s.tests) := by rw [hW0]; go_simp
  have hs0 : W0.heap.size = w.heap.size + 1 := by rw [hW0]; simp
  have HS0 := Lib.hid hs0
  obtain ⟨Y, hY⟩ : ∃ Y, Y = exclM s id := ⟨_, rfl⟩
  rw [← hY]
  have HY := Lib.hid hY
  clear hY
  have HW0 := Lib.hid hW0
  have hv0 := fSl_empty (e := 3) (sz := 1) (R := fInt) W0
  have A0 : Bw W0 (W0.alloc (.cells #[] 3)) := (Bw.refl W0).alloc _
  have y0 := A0.cell z0
  have y1 := A0.cell z1
  have y2 := A0.cell z2
  have y3 := A0.cell z3
  have hst := fun W (b : Bw w W) => I_IsStanding W s _ _ _ (ha.bw rItems_good b) (hb.bw rNodes_good b) (hc.bw rInts_good b)
  have HC := Lib.hid hc
  have HA := Lib.hid ha
  have HST := Lib.hid hst
  have hYs : (W0.alloc (.cells #[] 3)).heap.size = W0.heap.size + 1 := by simp
  rw [hs0] at hv0
  clear hW0 hst ha hc hs0
  obtain ⟨Y0, hY0⟩ : ∃ Y0, Y0 = W0.alloc (.cells #[] 3) := ⟨_, rfl⟩
  rw [← hY0] at y0 y1 y2 y3 A0 hv0
  have HY0 := Lib.hid hY0
  clear hY0 hYs
  go_enter Tryz.func22, Tryz.ntmps22
  go_wp2_with fail
  rw [← HW0.out, ← HY0.out]
  refine (HST.out _ (B0.then A0)).mono ?_
  rintro e w1 ⟨rfl, hb1⟩
  replace y0 := hb1.cell y0
  replace y1 := hb1.cell y1
  replace y2 := hb1.cell y2
  have C1 := A0.then hb1
  have hv1 := (fInts_good (B := W0.heap.size)).bw hb1 A0.size hv0
  rcases Bool.eq_false_or_eq_true (isStand s) with e1 | e1
  · have E1 := Lib.hid e1
    rw [e1]
    clear e1
    go_wp2_with fail
    refine (slices_Contains_ints _ s.best id _ (HC.out.bw rInts_good (B0.then C1))).mono ?_
    rintro e w2 ⟨rfl, hb2⟩
    replace y0 := hb2.cell y0
    replace y1 := hb2.cell y1
    replace y2 := hb2.cell y2
    have C2 := C1.then hb2
    have hv2 := (fInts_good (B := W0.heap.size)).bw hb2 C1.size hv1
    rcases Bool.eq_false_or_eq_true (s.best.contains id) with e2 | e2
    · have E2 := Lib.hid e2
      rw [e2]
      clear e2
      have HB := Lib.hid (stand_both E1.out).1
      have HI := Lib.hid (areBoth_items HB.out)
      have n16 : n ≤ 16 := by rw [L.out]; exact areItems_len HI.out
      have hidm : id ∈ s.best := by simpa using E2.out
      have HIDM := Lib.hid hidm
      clear hidm hv1 hv0 C1 z0 z1 z2 z3 y3
      obtain ⟨f, hf⟩ : ∃ f, f = exIn s id := ⟨_, rfl⟩
      have HF := Lib.hid hf
      clear hf
      go_wp2
      go_loopg [5, 26] n (fun g t i w' => ∃ (k : Nat) (F : List Nat), k ≤ n ∧ g = n - k ∧ i = .int .i64 k ∧ fInts w' (idsTo f s.items k) [t] F ∧ Fresh W0.heap.size F ∧ w'.cell? ⟨w.heap.size, 0, none⟩ = some (.slice A n c) ∧ w'.cell? ⟨w.heap.size, 1, none⟩ = some vb ∧ w'.cell? ⟨w.heap.size, 2, none⟩ = some (.slice B m c2) ∧ Bw W0 w')
      case atStart => exact ⟨0, _, by omega, rfl, rfl, hv2, ⟨by simp, fun b hb => by have := HS0.out; simp at hb; omega⟩, y0, y1, y2, C2⟩
      case round =>
        clear hv2 C2 y0 y1 y2
        obtain ⟨k, F, hk, rfl, rfl, hv, hF, y0, y1, y2, hbb⟩ := hrel
        obtain ⟨wo, hwo⟩ : ∃ wo, wo = wr := ⟨_, rfl⟩
        subst hwo
        have bw0 := B0.then hbb
        have ha := HA.out.bw rItems_good bw0
        by_cases hlt : k < n
        · obtain ⟨x, hx⟩ := get_of_lt (xs := s.items) (k := k) (by have := L.out; omega)
          obtain ⟨bx, ox, Ax, cx, rfl, _, hd0, hd1, hin2⟩ := rItems_at ha hx
          have HPx := Lib.hid (areItems_mem HI.out (List.mem_of_getElem? hx))
          have hlen := isItem_len HPx.out
          rw [hlen] at hd1 hin2
          have i1 : (0 : Int) ≤ (k : Int) := by omega
          have i2 : (k : Int) < (n : Int) := by omega
          have HYES := Lib.hid (fun hf => idsTo_yes (f := f) hx hf)
          have HNO := Lib.hid (fun hf => idsTo_no (f := f) hx hf)
          have HFX := Lib.hid (show f x = decide (byL s x = [id]) by rw [HF.out, by_iff E1.out HIDM.out (List.mem_of_getElem? hx)])
          have hwz : w.heap.size < wo.heap.size := World.block_lt_of_cell? _ _ y0
          have D0 : Bw wo (wo.alloc (.cells #[.int .i64 x.id, .slice Ax 3 cx] 30)) := (Bw.refl wo).alloc _
          obtain ⟨W1, hW1⟩ : ∃ W1, W1 = wo.alloc (.cells #[.int .i64 x.id, .slice Ax 3 cx] 30) := ⟨_, rfl⟩
          have kx0 : W1.cell? ⟨wo.heap.size, 0, none⟩ = some (.int .i64 x.id) := by rw [hW1]; go_simp
          have hW1s : W1.heap.size = wo.heap.size + 1 := by rw [hW1]; simp
          rw [← hW1] at D0
          have D1 : Bw W1 (W1.alloc (.cells #[] 3)) := (Bw.refl W1).alloc _
          have hby0 := fSl_empty (e := 3) (sz := 1) (R := fInt) W1
          rw [hW1s] at hby0
          obtain ⟨W2, hW2⟩ : ∃ W2, W2 = W1.alloc (.cells #[] 3) := ⟨_, rfl⟩
          have hW2s : W2.heap.size = wo.heap.size + 2 := by rw [hW2]; simp [hW1s]
          rw [← hW2] at D1 hby0
          have D2 := D0.then D1
          replace kx0 := D1.cell kx0
          have hdom := I_DominatorsOf W2 s.items s.wanted x.id _ _ (ha.bw rItems_good D2) (hb.bw rNodes_good (bw0.then D2))
          have k0 := D2.cell y0
          have k1 := D2.cell y1
          have k2 := D2.cell y2
          have HW1 := Lib.hid hW1
          have HW2 := Lib.hid hW2
          have HW2S := Lib.hid hW2s
          have HAA := Lib.hid ha
          have hb2o := D2
          clear hx hlen hW1 hW2 ha hin2 hW1s hW2s k0 k1 k2
          go_wp2_with fail
          rw [← HW1.out, ← HW2.out]
          refine hdom.mono ?_
          rintro e w5 ⟨vd, rfl, ⟨FD, od, fd⟩, hb5⟩
          have D5 := D2.then hb5
          have hby5 := (fInts_good (B := 0)).bw hb5 (Nat.zero_le _) hby0
          replace kx0 := hb5.cell kx0
          have zD : ∀ z ∈ FD, z ∉ [wo.heap.size + 1] := fun z hz => by have := fd.ge z hz; have := HW2S.out; simp only [List.mem_singleton]; omega
          have hw5s : wo.heap.size + 2 ≤ w5.heap.size := by have := hb5.size; have := HW2S.out; omega
          obtain ⟨D, hD⟩ : ∃ D, D = relM s.items s.wanted x.id 1 := ⟨_, rfl⟩
          have HBE := Lib.hid (show ∀ k, D.length ≤ k → byTo s D k = byL s x from fun k h => by rw [hD]; exact byTo_end (by rw [← hD]; exact h))
          rw [← hD] at od
          have hdl : D.length ≤ s.items.length := by rw [hD]; exact relM_len _ _ _ _
          rw [← L.out] at hdl
          have hodr := fInts_Rd od
          obtain ⟨A3, n3, c3, rfl, L30, L3c, L3m⟩ := rSl_open hodr
          unfold maxLen at L3m
          have L3 := Lib.hid L30
          clear L30
          rw [← L3.out] at hdl
          have OD := Lib.hid od
          have ZD := Lib.hid zD
          have HW5 := Lib.hid hw5s
          have HKX := Lib.hid kx0
          clear hD hodr od zD hdom hby0 D0 D1 hb2o fd hd0 hd1
          go_wp2
          go_loopg [8, 39] n3 (fun g t i2 w' => ∃ (j : Nat) (FB : List Nat), j ≤ n3 ∧ g = n3 - j ∧ i2 = .int .i64 j ∧ fInts w' (byTo s D j) [t] FB ∧ Fresh wo.heap.size FB ∧ Bw wo w' ∧ Only [wo.heap.size + 1] w5 w' ∧ Hid (∀ z ∈ FB, z = wo.heap.size + 1 ∨ w5.heap.size ≤ z))
          case atStart => exact ⟨0, _, by omega, rfl, rfl, hby5, ⟨by simp, by simp⟩, D5, Only.refl _ _, Lib.hid (fun z hz => .inl (by simpa using hz))⟩
          case round =>
            clear hby5
            obtain ⟨j, FB, hj, rfl, rfl, hbv, hFB, hbj, hO5, HFB⟩ := hrel
            have t0 := hbj.cell y0
            have t1 := hbj.cell y1
            have t2 := hbj.cell y2
            have bwj := bw0.then hbj
            by_cases hlt2 : j < n3
            · obtain ⟨d, hd⟩ := get_of_lt (xs := D) (k := j) (by have := L3.out; omega)
              obtain ⟨bb, ob, rfl, _, hcd⟩ := rInts_at (fInts_Rd (hO5.keeps fInts_good OD.out ZD.out)) hd
              have i3 : (0 : Int) ≤ (j : Int) := by omega
              have i4 : (j : Int) < (n3 : Int) := by omega
              have HBY := Lib.hid (fun h => byTo_yes (s := s) hd h)
              have HBN := Lib.hid (fun h => byTo_no (s := s) hd h)
              clear hd
              go_wp2_with fail
              refine (slices_Contains_ints _ s.best d _ (HC.out.bw rInts_good bwj)).mono ?_
              rintro e w6 ⟨rfl, hb6⟩
              have hb6o := hbj.then hb6
              have hbv6 := (fInts_good (B := wo.heap.size)).bw hb6 hbj.size hbv
              have hO6 := hO5.then (hb6.only []) (by simp)
              rcases Bool.eq_false_or_eq_true (s.best.contains d) with e3 | e3
              · have HB2 := Lib.hid (HBY.out e3)
                rw [e3]
                clear e3
                have HBL := Lib.hid (byTo_len (s := s) (D := D) (k := j))
                have hFm := (fInts_good (B := 0)).lt hbv6
                have A3' : Bw w6 (w6.alloc (.cells #[.int .i64 d] 3)) := (Bw.refl w6).alloc _
                have hvW := (fInts_good (B := wo.heap.size)).bw A3' hb6o.size hbv6
                have hbW := hb6o.then A3'
                have hOW := Lib.hid (hO6.then (A3'.only []) (by simp))
                have hcl := cell_one_new w6 (.int .i64 d) 3
                have hbs := hb6o.size
                clear hbv6 hbv hO5 hO6
                go_wp2_with (at_builtin; refine wpList_push2 _ rfl (.tmp 47) (.tmp 49) 26 rfl wo 3 i0 _ 1 8 Tryz.underlying26 hi hz0 hz1 hz2 rfl (by omega) fInt_good _ (byTo s D j) FB rfl hvW hFB ⟨w6.heap.size, 0, none⟩ 1 rfl d [.int .i64 d] [] hcl ⟨rfl, rfl⟩ rfl _ hFm Fresh.nil hbs (by have := HBL.out; omega) (by have := HBL.out; omega) hbW ?_; intro v' w' F' hv' hF' hb' hO' hs')
                have hOn := Only.push hOW.out hO' HFB.out
                have HF' := Lib.hid (show ∀ z ∈ F', z = wo.heap.size + 1 ∨ w5.heap.size ≤ z from fun z hz => (hs' z hz).elim (fun h => HFB.out z h) (fun h => h.elim (fun h => by simp at h) (fun h => .inr (Nat.le_trans hOW.out.1 h))))
                go_roundg (n3 - (j + 1))
                case measure => omega
                case rel => exact ⟨j + 1, F', by omega, rfl, by go_num, by rw [HB2.out]; exact hv', hF', hb', hOn, HF'⟩
              · have HB2 := Lib.hid (HBN.out e3)
                rw [e3]
                clear e3
                go_wp2
                go_roundg (n3 - (j + 1))
                case measure => omega
                case rel => exact ⟨j + 1, FB, by omega, rfl, by go_num, by rw [HB2.out]; exact hbv6, hFB, hb6o, hO6, HFB⟩
            · obtain rfl : j = n3 := by omega
              rw [HBE.out _ (by rw [← L3.out]; exact Nat.le_refl _)] at hbv
              have kk0 := hO5.cell HKX.out (by simp)
              have bbj := hbb.then hbj
              have hv1 := (fInts_good (B := W0.heap.size)).bw hbj hbb.size hv
              obtain ⟨BY, hBY⟩ : ∃ BY, BY = byL s x := ⟨_, rfl⟩
              rw [← hBY] at hbv HFX
              have hbr := fInts_Rd hbv
              obtain ⟨A5, n5, c5, rfl, L50, L5c, L5m⟩ := rSl_open hbr
              unfold maxLen at L5m
              have L5 := Lib.hid L50
              clear L50
              clear hBY hv hbv hlt2
              by_cases h1 : n5 = 1
              · subst h1
                obtain ⟨d0, hd0⟩ : ∃ d0, BY = [d0] := by
                  have := L5.out
                  match BY, this with
                  | [d0], _ => exact ⟨d0, rfl⟩
                obtain ⟨bb, ob, rfl, _, hcd⟩ := rInts_at (k := 0) hbr (x := d0) (by rw [hd0]; rfl)
                rw [Nat.add_zero] at hcd
                by_cases hdd : d0 = id
                · have e0 : (d0 == id) = true := by simpa using hdd
                  have HB2 := Lib.hid (HYES.out (by rw [HFX.out, hd0, hdd]; simp))
                  have HBL := Lib.hid (idsTo_len (f := f) (l := s.items) (k := k))
                  have hFm := (fInts_good (B := 0)).lt hv1
                  have A3' : Bw wr (wr.alloc (.cells #[.int .i64 x.id] 3)) := (Bw.refl wr).alloc _
                  have hvW := (fInts_good (B := W0.heap.size)).bw A3' bbj.size hv1
                  have hbW := bbj.then A3'
                  have hcl := cell_one_new wr (.int .i64 x.id) 3
                  have hbs := bbj.size
                  have hzz : w.heap.size < W0.heap.size := by have := HS0.out; omega
                  clear hv1 hd0 hdd hbr HYES HNO
                  go_wp2_with (at_builtin; refine wpList_push _ rfl (.tmp 62) (.tmp 65) 26 rfl W0 3 i0 _ 1 8 Tryz.underlying26 hi hz0 hz1 hz2 rfl (by omega) fInt_good _ (idsTo f s.items k) F rfl hvW hF ⟨wr.heap.size, 0, none⟩ 1 rfl x.id [.int .i64 x.id] [] hcl ⟨rfl, rfl⟩ rfl _ hFm Fresh.nil hbs (by have := HBL.out; omega) (by have := HBL.out; omega) hbW ?_; intro v' w' F' hv' hF' hb'; have hcell : ∀ o u, wr.cell? ⟨w.heap.size, o, none⟩ = some u → w'.cell? ⟨w.heap.size, o, none⟩ = some u := (fun o u h => (Below.cell hb' (p := ⟨w.heap.size, o, none⟩) hzz).trans ((Below.cell bbj (p := ⟨w.heap.size, o, none⟩) hzz).symm.trans h)); replace t0 := hcell _ _ t0; replace t1 := hcell _ _ t1; replace t2 := hcell _ _ t2; clear hcell)
                  go_roundg (n - (k + 1))
                  case measure => omega
                  case rel => exact ⟨k + 1, F', by omega, rfl, by go_num, by rw [HB2.out]; exact hv', hF', t0, t1, t2, hb'⟩
                · have e0 : (d0 == id) = false := by simpa using hdd
                  have HB2 := Lib.hid (HNO.out (by rw [HFX.out, hd0]; simpa using hdd))
                  clear hdd hd0 hbr
                  go_wp2
                  go_roundg (n - (k + 1))
                  case measure => omega
                  case rel => exact ⟨k + 1, F, by omega, rfl, by go_num, by rw [HB2.out]; exact hv1, hF, t0, t1, t2, bbj⟩
              · have e0 : ((n5 : Int) == 1) = false := by
                  rw [beq_eq_false_iff_ne]; omega
                have HB2 := Lib.hid (HNO.out (by
                  rw [HFX.out, decide_eq_false_iff_not]
                  intro h
                  have := L5.out
                  rw [h] at this
                  simp at this
                  omega))
                clear h1 hbr
                go_wp2
                go_roundg (n - (k + 1))
                case measure => omega
                case rel => exact ⟨k + 1, F, by omega, rfl, by go_num, by rw [HB2.out]; exact hv1, hF, t0, t1, t2, bbj⟩
        · obtain rfl : k = n := by omega
          rw [idsTo_end (by rw [← L.out]; exact Nat.le_refl _), HF.out, ← excl_yes E1.out E2.out, ← HY.out] at hv
          go_wp2
          go_ret
          exact ⟨_, rfl, ⟨F, hv, hF.mono B0.size⟩, bw0⟩
    · have E2 := Lib.hid (excl_no (s := s) (id := id) (by rw [E1.out, e2]; rfl))
      rw [e2]
      rw [← E2.out, ← HY.out] at hv2
      clear e2
      go_wp2
      go_ret
      exact ⟨_, rfl, ⟨_, hv2, ⟨by simp, by simp⟩⟩, B0.then C2⟩
  · have E2 := Lib.hid (excl_no (s := s) (id := id) (by rw [e1]; rfl))
    rw [e1]
    rw [← E2.out, ← HY.out] at hv1
    clear e1
    go_wp2
    go_ret
    exact ⟨_, rfl, ⟨_, hv1, ⟨by simp, by simp⟩⟩, B0.then C1⟩
end Go.Proofs.YtpihighajaeabaaGreat
