/- FnTop, walked. -/
import Derived.Test.YtpihighajaeabaaGreatQOnly
import Derived.Test.YtpihighajaeabaaGreatQBlockI
import Derived.Test.YtpihighajaeabaaGreatQApplyI
import Derived.Test.YtpihighajaeabaaGreatQSortP
import Derived.Test.YtpihighajaeabaaGreatQBand
import Derived.Test.YtpihighajaeabaaGreatQDrawB
import Derived.Test.YtpihighajaeabaaGreatQDrawD
import Derived.Test.YtpihighajaeabaaGreatQBoxH
import Derived.Deep.DeepCutAuto
import Derived.Deep.RegionLaw
namespace Go.Proofs.YtpihighajaeabaaGreat
open Go.RowKit Go.ChangeShapes Go.WideShapes Go.ChangeAt
set_option linter.unusedVariables false
set_option linter.unusedSimpArgs false
theorem Ret.sameT {w : World} {α : Type} [DecidableEq α] {x : α} {e : Ending} {w' : World} (h : Ret w (.bool (decide (x = x))) e w') : Ret w (.bool true) e w' := by
  have e : decide (x = x) = true := decide_eq_true rfl
  rwa [e] at h
theorem L_atT (w : World) (xs : List Int) (i : Nat) (j : Int) (v : Value) (h : Rd rBytes w xs [v]) (hx : wfBytes xs) (hn : xs.length ≤ 1048576) (hi : i ≤ 1048576) (hj : j = (i : Int)) : Calls Tryz.prog 41 #[v, .int .i64 j] w (Ret w (.int .i64 (atM xs i))) := by
  subst hj
  exact L_at w xs i v h hx hn hi
theorem cmpC_yes {e : List GNode} {x y : GItem} (he : isExpr e = true) (hx : isItem x = true) (hy : isItem y = true) : cmpC e x y = cmpBy e x y := by unfold cmpC; rw [he, hx, hy]; rfl
/-- how many of the first items beat it -/
def hitN (e : List GNode) (l : List GItem) (x : GItem) (j : Nat) : Nat := ((l.take j).filter fun y => beats e y x).length
theorem hitN_succ {e : List GNode} {l : List GItem} {x y : GItem} {j : Nat} (h : l[j]? = some y) : hitN e l x (j + 1) = hitN e l x j + (if cmpBy e y x = 1 then 1 else 0) := by
  unfold hitN
  rw [List.take_add_one, h, List.filter_append, List.length_append]
  congr 1
  unfold beats
  by_cases hc : cmpBy e y x = 1 <;> simp [hc]
theorem hitN_free {e : List GNode} {l : List GItem} {x : GItem} {j : Nat} (h : l.length ≤ j) : freeIn l e x = decide (hitN e l x j = 0) := by
  unfold hitN
  rw [List.take_of_length_le h, Bool.eq_iff_iff, decide_eq_true_eq, free_iff]
  constructor
  · intro hf
    rw [List.length_eq_zero_iff, List.filter_eq_nil_iff]
    intro z hz
    rw [hf z hz]; decide
  · intro h0 z hz
    have := List.filter_eq_nil_iff.1 (List.length_eq_zero_iff.1 h0) z hz
    simpa using this
theorem L_sameT (w : World) (a : List Int) (v u : Value) (h : Rd rInts w a [v]) (h' : Rd rInts w a [u]) : Calls Tryz.prog 27 #[v, u] w (Ret w (.bool true)) := (L_sameInts w a a v u h h').mono fun _ _ h => Ret.sameT h
theorem items_totT {l : List GItem} (gl : gItems 8 l) : totItems l ≤ 1048576 := by
  have h2 := sum_le (fun x : GItem => x.vals.length) 4 (l := l) (fun x hx => (gl.2 x hx).2.1)
  have h1 := gl.1
  unfold totItems; omega
theorem newSt_stand {l : List GItem} {e : List GNode} (h : areBoth l e = true) : isStand (newSt l e) = true ∧ (newSt l e).wanted = e ∧ (newSt l e).best = bestItems l e := by
  rw [newSt_yes h]
  refine ⟨?_, rfl, rfl⟩
  unfold isStand
  dsimp only
  rw [h, ← best_both h]
  simp [inB]
/-- the standing that the box holds -/
structure TopInv (W : World) (b : Nat) (e : List GNode) : Prop where
  ex : ∃ (s : GStanding) (A1 : Option Addr) (n1 c1 : Nat) (A2 : Option Addr) (n2 c2 : Nat) (A3 : Option Addr) (n3 c3 : Nat) (F : List Nat), Box W b [.slice A1 n1 c1, .slice A2 n2 c2, .slice A3 n3 c3, .int .i64 s.tests] ∧ fStanding W s [.slice A1 n1 c1, .slice A2 n2 c2, .slice A3 n3 c3, .int .i64 s.tests] F ∧ (∀ x ∈ F, x ≠ b) ∧ isStand s = true ∧ s.wanted = e ∧ smallSt s
theorem TopInv.mk' {W : World} {b : Nat} {e : List GNode} {s : GStanding} {A1 A2 A3 : Option Addr} {n1 c1 n2 c2 n3 c3 : Nat} {F : List Nat} (h1 : Box W b [.slice A1 n1 c1, .slice A2 n2 c2, .slice A3 n3 c3, .int .i64 s.tests]) (h2 : fStanding W s [.slice A1 n1 c1, .slice A2 n2 c2, .slice A3 n3 c3, .int .i64 s.tests] F) (h3 : ∀ x ∈ F, x ≠ b) (h4 : isStand s = true) (h5 : s.wanted = e) (h6 : smallSt s) : TopInv W b e :=
  ⟨s, A1, n1, c1, A2, n2, c2, A3, n3, c3, F, h1, h2, h3, h4, h5, h6⟩
theorem TopInv.bw {W W' : World} {b : Nat} {e : List GNode} (h : TopInv W b e) (hb : Bw W W') : TopInv W' b e := by
  obtain ⟨s, A1, n1, c1, A2, n2, c2, A3, n3, c3, F, h1, h2, h3, h4, h5, h6⟩ := h.ex
  exact TopInv.mk' (h1.bw hb) ((fStanding_good (B := 0)).bw hb (Nat.zero_le _) h2) h3 h4 h5 h6
theorem best_stand {s : GStanding} (h : isStand s = true) : s.best = bestItems s.items s.wanted := by
  unfold bestItems
  rw [if_pos (stand_both h).1]
  exact (stand_both h).2
theorem insM_keeps {s : GStanding} {x : GItem} {e : List GNode} (h : isStand s = true) (hw : s.wanted = e) (sm : smallSt s) : isStand (insM s x) = true ∧ (insM s x).wanted = e ∧ smallSt (insM s x) := by
  refine ⟨?_, ?_, insM_small sm⟩
  · cases hok : insOk s x with
    | true => exact insM_stand hok
    | false => unfold insM; rw [hok]; exact h
  · unfold insM; split
    · exact hw
    · exact hw
theorem delM_keeps {s : GStanding} {id : Int} {e : List GNode} (h : isStand s = true) (hw : s.wanted = e) (sm : smallSt s) : isStand (delM s id) = true ∧ (delM s id).wanted = e ∧ smallSt (delM s id) := by
  refine ⟨?_, ?_, delM_small sm⟩
  · cases hok : delOk s id with
    | true => exact delM_stand hok
    | false => unfold delM; rw [hok]; exact h
  · unfold delM; split
    · unfold delS; split <;> exact hw
    · exact hw
theorem chgM_keeps {s : GStanding} {x : GItem} {e : List GNode} (h : isStand s = true) (hw : s.wanted = e) (sm : smallSt s) : isStand (chgM s x) = true ∧ (chgM s x).wanted = e ∧ smallSt (chgM s x) := by
  unfold chgM
  split
  · have hd := delM_keeps (id := x.id) h hw sm
    exact insM_keeps hd.1 hd.2.1 hd.2.2
  · exact ⟨h, hw, sm⟩
theorem set4_st {W : World} {s : GStanding} {cs : List Value} {F : List Nat} {b : Nat} (h : fStanding W s cs F) (hb : ∀ x ∈ F, x ≠ b) (a0 a1 a2 a3 : Value) : fStanding ((((W.setCell ⟨b, 0, none⟩ a0).setCell ⟨b, 1, none⟩ a1).setCell ⟨b, 2, none⟩ a2).setCell ⟨b, 3, none⟩ a3) s cs F := by
  refine (fStanding_good (B := 0)).step (fun x hx => ?_) h
  rcases hx with hx | hx
  · have := hb x hx
    repeat rw [Below.heap_setCell _ _ _ _ (by dsimp only; omega)]
  · omega
theorem Box.far4 {W : World} {c b : Nat} {vs : List Value} (h : Box W c vs) (hne : c ≠ b) (a0 a1 a2 a3 : Value) : Box ((((W.setCell ⟨b, 0, none⟩ a0).setCell ⟨b, 1, none⟩ a1).setCell ⟨b, 2, none⟩ a2).setCell ⟨b, 3, none⟩ a3) c vs := by
  refine h.only (F := [b]) ⟨by simp, fun x hx hn => ?_⟩ (by simpa using hne)
  have : x ≠ b := by simpa using hn
  repeat rw [Below.heap_setCell _ _ _ _ (by dsimp only; omega)]
set_option maxRecDepth 100000 in
set_option maxHeartbeats 12800000 in
theorem walk_FnTop (w : World) (x0 : List Int) (v : Value) (h0 : Rd rBytes w x0 [v]) (q0 : wfBytes x0) : Calls Tryz.prog 4 #[v] w (Ret w (.bool true)) := by
  obtain ⟨i0, hi, hz0, hz1, hz2⟩ := info_parts info_int
  have hcall := L_big w x0 v h0
  go_enter Tryz.func4, Tryz.ntmps4
  go_wp2_with fail
  refine hcall.mono ?_
  rintro e w1 ⟨rfl, hb1⟩
  clear hcall
  by_cases hbig : 1048576 < x0.length
  · have e1 : decide (1048576 < x0.length) = true := decide_eq_true hbig
    rw [e1]
    clear e1
    go_wp2
    go_ret
    exact ⟨rfl, hb1⟩
  have e1 : decide (1048576 < x0.length) = false := decide_eq_false hbig
  rw [e1]
  clear e1
  have hcall := D_DrawBestItems w1 x0 v (h0.bw rBytes_good hb1) q0
  go_wp2_with fail
  refine hcall.mono ?_
  rintro e1 w2 ⟨vl, ve, rfl, ⟨l, hl, gl⟩, ⟨e, he, ge⟩, hb2⟩
  clear hcall
  have B2 := hb1.then hb2
  have t2 : totNodes e ≤ 1048576 := gNodes_tot (by omega) ge
  have hcall := S_AreItems w2 l _ hl
  go_wp2_with fail
  refine hcall.mono ?_
  rintro e1 w3 ⟨rfl, hb3⟩
  clear hcall
  have B3 := B2.then hb3
  replace hl := hl.bw rItems_good hb3
  replace he := he.bw rNodes_good hb3
  rcases Bool.eq_false_or_eq_true (areItems l) with hI | hI
  rotate_left
  · rw [hI]
    go_wp2
    go_ret
    exact ⟨rfl, B3⟩
  rw [hI]
  have HI := Lib.hid hI
  clear hI
  have hcall := S_IsExpression w3 e _ he
  go_wp2_with fail
  refine hcall.mono ?_
  rintro e1 w4 ⟨rfl, hb4⟩
  clear hcall
  replace B3 := B3.then hb4
  replace hl := hl.bw rItems_good hb4
  replace he := he.bw rNodes_good hb4
  rcases Bool.eq_false_or_eq_true (isExpr e) with hE | hE
  rotate_left
  · rw [hE]
    go_wp2
    go_ret
    exact ⟨rfl, B3⟩
  rw [hE]
  have HE := Lib.hid hE
  clear hE hb1 hb2 hb3 hb4 B2
  have hAB : areBoth l e = true := by unfold areBoth; rw [HI.out, HE.out]; rfl
  have HAB := Lib.hid hAB
  obtain ⟨A, n, c, rfl, L, lc, lm⟩ := rSl_open hl
  unfold maxLen at lm
  replace L := Lib.hid L
  have n16 : n ≤ 16 := by rw [L.out]; exact areItems_len HI.out
  have T1 := Lib.hid gl
  clear gl ge hAB
  have hv0 := fSl_empty (e := 3) (sz := 1) (R := fInt) w4
  have HH := Lib.hid hl
  go_wp2
  go_loopg [5, 6] n (fun g s i w' => ∃ (k : Nat) (F : List Nat), k ≤ n ∧ g = n - k ∧ i = .int .i64 k ∧ fInts w' (bestTo l e k) [s] F ∧ Fresh w4.heap.size F ∧ Bw w4 w')
  case atStart => exact ⟨0, _, by omega, rfl, rfl, hv0, ⟨by simp, by simp⟩, (Bw.refl _).alloc _⟩
  case round =>
    clear hv0
    obtain ⟨k, F, hk, rfl, rfl, hv, hF, hb⟩ := hrel
    by_cases hlt : k < n
    · as_aux_lemma =>
      obtain ⟨x, hx⟩ := get_of_lt (xs := l) (k := k) (by have := L.out; omega)
      obtain ⟨ba, oa, Ax, cx, rfl, _, hc0, hc1, hin⟩ := rItems_at HH.out hx
      have HP := Lib.hid (areItems_mem HI.out (List.mem_of_getElem? hx))
      obtain ⟨mx, hmx⟩ : ∃ m, m = x.vals.length := ⟨_, rfl⟩
      rw [← hmx] at hc1 hin
      have i1 : (0 : Int) ≤ (k : Int) := by omega
      have i2 : (k : Int) < (n : Int) := by omega
      replace hc0 := hb.cell hc0
      replace hc1 := hb.cell hc1
      have HYES := Lib.hid (fun hf => bestTo_yes (e := e) hx hf)
      have HNO := Lib.hid (fun hf => bestTo_no (e := e) hx hf)
      clear hx hmx hl
      go_wp2
      go_loopg [7, 8] n (fun g cv i2 w' => ∃ (j q : Nat), j ≤ n ∧ g = n - j ∧ i2 = .int .i64 j ∧ cv = .int .i64 q ∧ q ≤ j ∧ Hid (q = hitN e l x j) ∧ Bw wr w')
      case atStart => exact ⟨0, 0, by omega, rfl, rfl, rfl, by omega, Lib.hid rfl, Bw.refl _⟩
      case round =>
        obtain ⟨j, q, hj, rfl, rfl, rfl, hqj, HQ, hbj⟩ := hrel
        have hbw := hb.then hbj
        by_cases hlt2 : j < n
        · obtain ⟨y, hy⟩ := get_of_lt (xs := l) (k := j) (by have := L.out; omega)
          obtain ⟨b2, o2, Ay, cy, eA, _, hd0, hd1, hin2⟩ := rItems_at HH.out hy
          injection eA with eA
          injection eA with eA1 eA2
          subst eA1 eA2
          have HPy := Lib.hid (areItems_mem HI.out (List.mem_of_getElem? hy))
          obtain ⟨my, hmy⟩ : ∃ m, m = y.vals.length := ⟨_, rfl⟩
          rw [← hmy] at hd1 hin2
          have j1 : (0 : Int) ≤ (j : Int) := by omega
          have j2 : (j : Int) < (n : Int) := by omega
          have s0 := since_cell (hbw.cell hd0)
          have s1 := since_cell (hbw.cell hd1)
          have s2 := since_cell (hbj.cell hc0)
          have s3 := since_cell (hbj.cell hc1)
          have hst := hitN_succ (e := e) (x := x) hy
          have hcall := fun (s : Since wr) => S_CompareBy s.1 e y x _ _ _ (he.bw rNodes_good (hbw.then s.bw)) (Rd.bw rInts_good hin2 (hbw.then s.bw)) (Rd.bw rInts_good hin (hbw.then s.bw))
          rw [cmpC_yes HE.out HPy.out HP.out] at hcall
          obtain ⟨r, hr⟩ : ∃ r, r = cmpBy e y x := ⟨_, rfl⟩
          rw [← hr, ← HQ.out] at hst
          simp only [← hr] at hcall
          obtain ⟨d, hd, hdn⟩ : ∃ d : Nat, (if (r == 1) = true then (1 : Int) else 0) = (d : Int) ∧ d = (if r = 1 then 1 else 0) := by
            by_cases hr1 : r = 1
            · exact ⟨1, by simp [hr1], by simp [hr1]⟩
            · exact ⟨0, by simp [hr1], by simp [hr1]⟩
          have hbt := fun (s : Since wr) => L_btoi s.1 (r == 1)
          simp only [hd] at hbt
          have hd1' : d ≤ 1 := by rw [hdn]; split <;> omega
          rw [← hdn] at hst
          have HQ2 := Lib.hid hst.symm
          clear hy hmy hr hd hdn hst HQ hd0 hd1 hin2
          go_wp2_with fail
          refine wp_region_since (by kernel_rfl) (by kernel_rfl) ?_
          repeat (first | go_big_quiet_skip | (go_big_quiet_want; go_big_quiet_op; first | go_big_quiet_on | (apply Exists.intro; refine ⟨fun _ => ?_, ?_⟩; (· (((first | (go_at_call 33; exact Calls_since (hcall _)) | (go_at_call 32; exact Calls_since (hbt _)))))); go_big_quiet_on)))
          refine wpQuiet_nil ?_
          rintro ⟨wq, hbq⟩
          dsimp only at *
          go_wp2
          go_roundg (n - (j + 1))
          case measure => omega
          case rel => exact ⟨j + 1, q + d, by omega, rfl, by go_num, by go_num, by omega, HQ2, hbj.then hbq⟩
        · obtain rfl : j = n := by omega
          have HF := Lib.hid (show freeIn l e x = decide (q = 0) by rw [HQ.out]; exact hitN_free (by rw [← L.out]; exact Nat.le_refl _))
          have hv1 := (fInts_good (B := w4.heap.size)).bw hbj hb.size hv
          have hc0' := hbj.cell hc0
          clear HQ hlt2 hv
          by_cases hq : q = 0
          · have HB := Lib.hid (HYES.out (HF.out.trans (decide_eq_true hq)))
            have hbl := bestTo_len (l := l) (e := e) (k := k)
            have HBL := Lib.hid hbl
            have hbx := World.block_lt_of_cell? _ _ hc0'
            have hvW := (fInts_good (B := w4.heap.size)).bw ((Bw.refl wr).alloc (.cells #[.int .i64 x.id] 3)) hbw.size hv1
            have hFm := (fInts_good (B := 0)).lt hv1
            have hbW := hbw.alloc (.cells #[.int .i64 x.id] 3)
            have hcl := cell_one_new wr (.int .i64 x.id) 3
            have hb0 := hbw.size
            subst hq
            clear hv1 hbl HF
            go_wp2_with (at_builtin; refine wpList_push _ rfl (.tmp 65) (.tmp 71) 26 rfl w4 3 i0 _ 1 8 Tryz.underlying26 hi hz0 hz1 hz2 rfl (by omega) fInt_good _ (bestTo l e k) F rfl hvW hF ⟨wr.heap.size, 0, none⟩ 1 rfl x.id [.int .i64 x.id] [] hcl ⟨rfl, rfl⟩ rfl _ hFm Fresh.nil hb0 (by have := HBL.out; omega) (by have := HBL.out; omega) hbW ?_; intro v' w' F' hv' hF' hb')
            go_roundg (j - (k + 1))
            case measure => omega
            case rel => exact ⟨k + 1, F', by omega, rfl, by go_num, by rw [HB.out]; exact hv', hF', hb'⟩
          · have HB := Lib.hid (HNO.out (HF.out.trans (decide_eq_false hq)))
            have eq0 : ((q : Int) == 0) = false := by simp; omega
            go_wp2
            go_roundg (j - (k + 1))
            case measure => omega
            case rel => exact ⟨k + 1, F, by omega, rfl, by go_num, by rw [HB.out]; exact hv1, hF, hbw⟩
    · obtain rfl : n = k := by omega
      rw [bestTo_end (by rw [← L.out]; exact Nat.le_refl _)] at hv
      have hbe : bestItems l e = bestM l e := by unfold bestItems; rw [if_pos HAB.out]
      rw [← hbe] at hv
      have HBE := Lib.hid hbe
      clear hbe
      have r5 := fInts_Rd hv
      obtain ⟨A5, n5, c5, rfl, l5, _, lm5⟩ := rSl_open r5
      unfold maxLen at lm5
      have L5 := Lib.hid l5
      clear l5
      replace hl := hl.bw rItems_good hb
      replace he := he.bw rNodes_good hb
      replace B3 := B3.then hb
      clear hv hb hF hlt hk
      have t1 : totItems l ≤ 1048576 := items_totT T1.out
      have hcall := (show Calls Tryz.prog 34 #[_, _, .int .i64 1] _ _ from I_BlockBest _ l e 1 _ _ hl he HAB.out (by omega) (by omega))
      go_wp2_with fail
      refine hcall.mono ?_
      rintro e1 wn ⟨va, qa, rfl, ra, hbn⟩
      clear hcall
      replace hl := hl.bw rItems_good hbn
      replace he := he.bw rNodes_good hbn
      replace r5 := r5.bw rInts_good hbn
      replace B3 := B3.then hbn
      clear hbn
      have hcall := (show Calls Tryz.prog 34 #[_, _, .int .i64 2] _ _ from I_BlockBest _ l e 2 _ _ hl he HAB.out (by omega) (by omega))
      go_wp2_with fail
      refine hcall.mono ?_
      rintro e1 wn ⟨vb, qb, rfl, rb, hbn⟩
      clear hcall
      replace hl := hl.bw rItems_good hbn
      replace he := he.bw rNodes_good hbn
      replace r5 := r5.bw rInts_good hbn
      replace B3 := B3.then hbn
      replace ra := ra.bw rInts_good hbn
      clear hbn
      have hcall := I_DivideBest _ l e _ _ hl he HAB.out
      go_wp2_with fail
      refine hcall.mono ?_
      rintro e1 wn ⟨vc, qc, rfl, rc, hbn⟩
      clear hcall
      replace hl := hl.bw rItems_good hbn
      replace he := he.bw rNodes_good hbn
      replace r5 := r5.bw rInts_good hbn
      replace B3 := B3.then hbn
      replace ra := ra.bw rInts_good hbn
      replace rb := rb.bw rInts_good hbn
      clear hbn
      have hcall := I_ProgressiveBest _ l e _ _ hl he
      go_wp2_with fail
      refine hcall.mono ?_
      rintro e1 wn ⟨vp, rfl, ⟨Fp, op, _⟩, hbn⟩
      clear hcall
      replace hl := hl.bw rItems_good hbn
      replace he := he.bw rNodes_good hbn
      replace r5 := r5.bw rInts_good hbn
      replace B3 := B3.then hbn
      replace ra := ra.bw rInts_good hbn
      replace rb := rb.bw rInts_good hbn
      replace rc := rc.bw rInts_good hbn
      clear hbn
      have rp := fInts_Rd op
      clear op
      obtain ⟨Ap, np, cp, rfl, lp, _⟩ := rSl_open rp
      have P := prog_best l e
      have enp : np = n5 := by rw [lp, L5.out, P.1]
      have P2 := Lib.hid P.2
      clear lp P
      subst enp
      go_upto_region 21 with fail
      go_cut [147] (fun s147 wx => s147 = .bool false ∧ Bw wn wx)
      case first => as_aux_lemma =>
        replace B3 := Bw.refl wn
        have hS : subsetM (progM l e) (bestItems l e) = true := by
          unfold subsetM
          rw [List.all_eq_true]
          intro z hz
          simpa using P2.out z hz
        have HS := Lib.hid hS
        clear hS
        have hcall := I_BestItems _ l e _ _ hl he
        go_wp2_with fail
        refine hcall.mono ?_
        rintro e1 wn ⟨vy, rfl, ⟨Fy, oy, _⟩, hbn⟩
        clear hcall
        replace hl := hl.bw rItems_good hbn
        replace he := he.bw rNodes_good hbn
        replace r5 := r5.bw rInts_good hbn
        replace B3 := B3.then hbn
        replace ra := ra.bw rInts_good hbn
        replace rb := rb.bw rInts_good hbn
        replace rc := rc.bw rInts_good hbn
        replace rp := rp.bw rInts_good hbn
        clear hbn
        have hcall := L_sameT _ (bestItems l e) _ _ (fInts_Rd oy) r5
        go_wp2_with fail
        refine hcall.mono ?_
        rintro e1 wn ⟨rfl, hbn⟩
        clear hcall
        replace hl := hl.bw rItems_good hbn
        replace he := he.bw rNodes_good hbn
        replace r5 := r5.bw rInts_good hbn
        replace B3 := B3.then hbn
        replace ra := ra.bw rInts_good hbn
        replace rb := rb.bw rInts_good hbn
        replace rc := rc.bw rInts_good hbn
        replace rp := rp.bw rInts_good hbn
        clear hbn
        clear oy
        have hcall := L_sameT _ (bestItems l e) _ _ ra r5
        go_wp2_with fail
        refine hcall.mono ?_
        rintro e1 wn ⟨rfl, hbn⟩
        clear hcall
        replace hl := hl.bw rItems_good hbn
        replace he := he.bw rNodes_good hbn
        replace r5 := r5.bw rInts_good hbn
        replace B3 := B3.then hbn
        replace ra := ra.bw rInts_good hbn
        replace rb := rb.bw rInts_good hbn
        replace rc := rc.bw rInts_good hbn
        replace rp := rp.bw rInts_good hbn
        clear hbn
        have hcall := L_sameT _ (bestItems l e) _ _ rb r5
        go_wp2_with fail
        refine hcall.mono ?_
        rintro e1 wn ⟨rfl, hbn⟩
        clear hcall
        replace hl := hl.bw rItems_good hbn
        replace he := he.bw rNodes_good hbn
        replace r5 := r5.bw rInts_good hbn
        replace B3 := B3.then hbn
        replace ra := ra.bw rInts_good hbn
        replace rb := rb.bw rInts_good hbn
        replace rc := rc.bw rInts_good hbn
        replace rp := rp.bw rInts_good hbn
        clear hbn
        have hcall := L_sameT _ (bestItems l e) _ _ rc r5
        go_wp2_with fail
        refine hcall.mono ?_
        rintro e1 wn ⟨rfl, hbn⟩
        clear hcall
        replace hl := hl.bw rItems_good hbn
        replace he := he.bw rNodes_good hbn
        replace r5 := r5.bw rInts_good hbn
        replace B3 := B3.then hbn
        replace ra := ra.bw rInts_good hbn
        replace rb := rb.bw rInts_good hbn
        replace rc := rc.bw rInts_good hbn
        replace rp := rp.bw rInts_good hbn
        clear hbn
        have k := L_subset wn (progM l e) (bestItems l e) _ _ rp r5
        rw [HS.out] at k
        have eN : ((np : Int) != (np : Int)) = false := by simp
        have hcall := k
        go_wp2_with fail
        refine hcall.mono ?_
        rintro e1 wn ⟨rfl, hbn⟩
        clear hcall
        replace hl := hl.bw rItems_good hbn
        replace he := he.bw rNodes_good hbn
        replace r5 := r5.bw rInts_good hbn
        replace B3 := B3.then hbn
        replace ra := ra.bw rInts_good hbn
        replace rb := rb.bw rInts_good hbn
        replace rc := rc.bw rInts_good hbn
        replace rp := rp.bw rInts_good hbn
        clear hbn
        clear k
        have hcall := I_SkybandOf _ l e 1 _ _ hl he
        go_wp2_with fail
        refine hcall.mono ?_
        rintro e1 wn ⟨vy, rfl, ⟨Fy, oy, _⟩, hbn⟩
        clear hcall
        replace hl := hl.bw rItems_good hbn
        replace he := he.bw rNodes_good hbn
        replace r5 := r5.bw rInts_good hbn
        replace B3 := B3.then hbn
        replace ra := ra.bw rInts_good hbn
        replace rb := rb.bw rInts_good hbn
        replace rc := rc.bw rInts_good hbn
        replace rp := rp.bw rInts_good hbn
        clear hbn
        rw [band_one HAB.out, ← HBE.out] at oy
        have hcall := L_sameT _ (bestItems l e) _ _ (fInts_Rd oy) r5
        go_wp2_with fail
        refine hcall.mono ?_
        rintro e1 wn ⟨rfl, hbn⟩
        clear hcall
        replace hl := hl.bw rItems_good hbn
        replace he := he.bw rNodes_good hbn
        replace r5 := r5.bw rInts_good hbn
        replace B3 := B3.then hbn
        replace ra := ra.bw rInts_good hbn
        replace rb := rb.bw rInts_good hbn
        replace rc := rc.bw rInts_good hbn
        replace rp := rp.bw rInts_good hbn
        clear hbn
        clear oy
        have hcall := I_NormalizeExpression _ e _ he t2
        go_wp2_with fail
        refine hcall.mono ?_
        rintro e1 wn ⟨vy, rfl, ⟨Fy, oy, _⟩, hbn⟩
        clear hcall
        replace hl := hl.bw rItems_good hbn
        replace he := he.bw rNodes_good hbn
        replace r5 := r5.bw rInts_good hbn
        replace B3 := B3.then hbn
        replace ra := ra.bw rInts_good hbn
        replace rb := rb.bw rInts_good hbn
        replace rc := rc.bw rInts_good hbn
        replace rp := rp.bw rInts_good hbn
        clear hbn
        have hcall := I_BestItems _ l (normM e) _ _ hl (fNodes_Rd oy)
        go_wp2_with fail
        refine hcall.mono ?_
        rintro e1 wn ⟨vz, rfl, ⟨Fz, oz, _⟩, hbn⟩
        clear hcall
        replace hl := hl.bw rItems_good hbn
        replace he := he.bw rNodes_good hbn
        replace r5 := r5.bw rInts_good hbn
        replace B3 := B3.then hbn
        replace ra := ra.bw rInts_good hbn
        replace rb := rb.bw rInts_good hbn
        replace rc := rc.bw rInts_good hbn
        replace rp := rp.bw rInts_good hbn
        clear hbn
        rw [best_norm HE.out] at oz
        have hcall := L_sameT _ (bestItems l e) _ _ (fInts_Rd oz) r5
        go_wp2_with fail
        refine hcall.mono ?_
        rintro e1 wn ⟨rfl, hbn⟩
        clear hcall
        replace hl := hl.bw rItems_good hbn
        replace he := he.bw rNodes_good hbn
        replace r5 := r5.bw rInts_good hbn
        replace B3 := B3.then hbn
        replace ra := ra.bw rInts_good hbn
        replace rb := rb.bw rInts_good hbn
        replace rc := rc.bw rInts_good hbn
        replace rp := rp.bw rInts_good hbn
        clear hbn
        go_wp2_with fail
        go_meet
        exact ⟨rfl, B3⟩
      case rest => as_aux_lemma =>
        obtain ⟨rfl, hbc⟩ := hcut
        replace hl := hl.bw rItems_good hbc
        replace he := he.bw rNodes_good hbc
        replace r5 := r5.bw rInts_good hbc
        replace B3 := B3.then hbc
        clear ra rb rc rp P2 hbc
        have hS0 := newSt_stand HAB.out
        have smS : smallSt (newSt l e) := newSt_small t1 t2
        have hcall := I_NewStanding _ l e _ _ hl he t1 t2
        rw [HAB.out] at hcall
        obtain ⟨S, hS⟩ : ∃ S, S = newSt l e := ⟨_, rfl⟩
        rw [← hS] at hcall hS0 smS
        have HST := Lib.hid hS0
        clear hS hS0
        go_wp2_with fail
        refine hcall.mono ?_
        rintro e1 w21 ⟨u21, rfl, ⟨cs, rfl, F21, o21, _⟩, hb21⟩
        clear hcall
        replace B3 := B3.then hb21
        replace he := he.bw rNodes_good hb21
        replace r5 := r5.bw rInts_good hb21
        obtain ⟨A1, c1, A2, c2, A3, c3, rfl⟩ := fStanding_shape o21
        obtain ⟨m1, hm1⟩ : ∃ m, m = S.items.length := ⟨_, rfl⟩
        obtain ⟨m2, hm2⟩ : ∃ m, m = S.wanted.length := ⟨_, rfl⟩
        obtain ⟨m3, hm3⟩ : ∃ m, m = S.best.length := ⟨_, rfl⟩
        rw [← hm1, ← hm2, ← hm3] at o21
        have hlt21 := (fStanding_good (B := 0)).lt o21
        have AA := (Bw.refl w21).alloc (.cells #[.slice A1 m1 c1, .slice A2 m2 c2, .slice A3 m3 c3, .int .i64 S.tests] 28)
        have oW := (fStanding_good (B := 0)).bw AA (Nat.zero_le _) o21
        have bW := Box.new w21 #[.slice A1 m1 c1, .slice A2 m2 c2, .slice A3 m3 c3, .int .i64 S.tests] 28
        have r3 := (fStanding_Rds oW).2.2.1
        rw [HST.out.2.2] at r3
        have HM := Lib.hid (show m1 = S.items.length ∧ m2 = S.wanted.length ∧ m3 = S.best.length from ⟨hm1, hm2, hm3⟩)
        rw [← hm1, ← hm2, ← hm3]
        clear hm1 hm2 hm3 hb21 o21 hl
        have hcall := L_sameT _ (bestItems l e) _ _ r3 (r5.bw rInts_good AA)
        go_wp2_with fail
        refine hcall.mono ?_
        rintro e1 w22 ⟨rfl, hb22⟩
        clear hcall
        have I0 := TopInv.mk' bW oW (fun b hb h => by have := hlt21 b hb; omega) HST.out.1 HST.out.2.1 smS
        replace I0 := I0.bw hb22
        have BB := AA.then hb22
        clear oW bW r3 AA hb22 hlt21 HM HST smS
        go_wp2
        go_loopg [18] 6 (fun g i w' => ∃ k : Nat, k ≤ 6 ∧ g = 6 - k ∧ i = .int .i64 k ∧ TopInv w' w21.heap.size e ∧ Bw w21 w')
        case atStart => exact ⟨0, by omega, by omega, rfl, I0, BB⟩
        case round =>
          clear I0 BB
          obtain ⟨k, hk, rfl, rfl, II, hB⟩ := hrel
          by_cases hlt : k < 6
          · as_aux_lemma =>
            obtain ⟨s, A1, n1, c1, A2, n2, c2, A3, n3, c3, F, bx, o, hFb, hs, hw, sm⟩ := II.ex
            have HS := Lib.hid hs
            have HW := Lib.hid hw
            have BX := B3.then hB
            have i9 : (k : Int) < 6 := by omega
            clear II hs hw
            -- a byte of the code at idxi, modulo m
            have hna := atM_nat q0 (k)
            have hca := L_atT wr x0 (k) ((k : Int)) _ (h0.bw rBytes_good BX) q0 (by omega) (by omega) (by omega)
            obtain ⟨Ab, hA⟩ : ∃ A : Nat, atM x0 (k) = (A : Int) := ⟨(atM x0 (k)).toNat, by omega⟩
            rw [hA] at hca
            obtain ⟨id, hQ⟩ : ∃ Q, Q = Ab % 12 := ⟨_, rfl⟩
            have tid : (Ab : Int).tmod 12 = (id : Int) := by rw [Int.tmod_eq_emod_of_nonneg (by omega)]; omega
            have mid : (Ab : Int) % 12 = (id : Int) := by omega
            have lid : id < 12 := by omega
            clear hA hna hQ
            go_wp2_with fail
            refine hca.mono ?_
            rintro e1 w5 ⟨rfl, hb5⟩
            clear hca
            replace BX := BX.then hb5
            -- a byte of the code at idxi, modulo m
            have hna := atM_nat q0 (k + 6)
            have hca := L_atT w5 x0 (k + 6) ((k : Int) + 6) _ (h0.bw rBytes_good BX) q0 (by omega) (by omega) (by omega)
            obtain ⟨Ab, hA⟩ : ∃ A : Nat, atM x0 (k + 6) = (A : Int) := ⟨(atM x0 (k + 6)).toNat, by omega⟩
            rw [hA] at hca
            obtain ⟨va1, hQ⟩ : ∃ Q, Q = Ab % 4 := ⟨_, rfl⟩
            have tva1 : (Ab : Int).tmod 4 = (va1 : Int) := by rw [Int.tmod_eq_emod_of_nonneg (by omega)]; omega
            have mva1 : (Ab : Int) % 4 = (va1 : Int) := by omega
            have lva1 : va1 < 4 := by omega
            clear hA hna hQ
            go_wp2_with fail
            refine hca.mono ?_
            rintro e1 w6 ⟨rfl, hb6⟩
            clear hca
            replace BX := BX.then hb6
            -- a byte of the code at idxi, modulo m
            have hna := atM_nat q0 (k + 12)
            have hca := L_atT w6 x0 (k + 12) ((k : Int) + 12) _ (h0.bw rBytes_good BX) q0 (by omega) (by omega) (by omega)
            obtain ⟨Ab, hA⟩ : ∃ A : Nat, atM x0 (k + 12) = (A : Int) := ⟨(atM x0 (k + 12)).toNat, by omega⟩
            rw [hA] at hca
            obtain ⟨va2, hQ⟩ : ∃ Q, Q = Ab % 4 := ⟨_, rfl⟩
            have tva2 : (Ab : Int).tmod 4 = (va2 : Int) := by rw [Int.tmod_eq_emod_of_nonneg (by omega)]; omega
            have mva2 : (Ab : Int) % 4 = (va2 : Int) := by omega
            have lva2 : va2 < 4 := by omega
            clear hA hna hQ
            go_wp2_with fail
            refine hca.mono ?_
            rintro e1 w7 ⟨rfl, hb7⟩
            clear hca
            replace BX := BX.then hb7
            -- a byte of the code at idxi, modulo m
            have hna := atM_nat q0 (k + 18)
            have hca := L_atT w7 x0 (k + 18) ((k : Int) + 18) _ (h0.bw rBytes_good BX) q0 (by omega) (by omega) (by omega)
            obtain ⟨Ab, hA⟩ : ∃ A : Nat, atM x0 (k + 18) = (A : Int) := ⟨(atM x0 (k + 18)).toNat, by omega⟩
            rw [hA] at hca
            obtain ⟨va3, hQ⟩ : ∃ Q, Q = Ab % 4 := ⟨_, rfl⟩
            have tva3 : (Ab : Int).tmod 4 = (va3 : Int) := by rw [Int.tmod_eq_emod_of_nonneg (by omega)]; omega
            have mva3 : (Ab : Int) % 4 = (va3 : Int) := by omega
            have lva3 : va3 < 4 := by omega
            clear hA hna hQ
            go_wp2_with fail
            refine hca.mono ?_
            rintro e1 w8 ⟨rfl, hb8⟩
            clear hca
            replace BX := BX.then hb8
            have hbb := hb5.then (hb6.then (hb7.then hb8))
            have bx8 := bx.bw hbb
            have o8 := (fStanding_good (B := 0)).bw hbb (Nat.zero_le _) o
            have B8 := hB.then hbb
            clear bx o hbb hb5 hb6 hb7 hb8 hB
            have hA1 := (Bw.refl w8).alloc (.cells #[.int .i64 (va1 : Int), .int .i64 (va2 : Int), .int .i64 (va3 : Int)] 3)
            have hA2 := hA1.alloc (.cells #[.int .i64 (id : Int), .slice (some ⟨w8.heap.size, 0, none⟩) 3 3] 30)
            have hA3 := hA2.alloc (.cells #[.slice A1 n1 c1, .slice A2 n2 c2, .slice A3 n3 c3, .int .i64 s.tests] 28)
            have bxA := bx8.bw hA2
            have g0 := bxA.c 0 _ rfl
            have g1 := bxA.c 1 _ rfl
            have g2 := bxA.c 2 _ rfl
            have g3 := bxA.c 3 _ rfl
            have gf := bxA.fr
            have hna := atM_nat q0 (k + 24)
            have hca := L_atT (((w8.alloc (.cells #[.int .i64 (va1 : Int), .int .i64 (va2 : Int), .int .i64 (va3 : Int)] 3)).alloc (.cells #[.int .i64 (id : Int), .slice (some ⟨w8.heap.size, 0, none⟩) 3 3] 30)).alloc (.cells #[.slice A1 n1 c1, .slice A2 n2 c2, .slice A3 n3 c3, .int .i64 s.tests] 28)) x0 (k + 24) ((k : Int) + 24) _ (h0.bw rBytes_good (BX.then hA3)) q0 (by omega) (by omega) (by omega)
            obtain ⟨Ab, hA⟩ : ∃ A : Nat, atM x0 (k + 24) = (A : Int) := ⟨(atM x0 (k + 24)).toNat, by omega⟩
            rw [hA] at hca
            obtain ⟨op, hQ⟩ : ∃ Q, Q = Ab % 3 := ⟨_, rfl⟩
            have top : (Ab : Int).tmod 3 = (op : Int) := by rw [Int.tmod_eq_emod_of_nonneg (by omega)]; omega
            have mop : (Ab : Int) % 3 = (op : Int) := by omega
            have lop : op < 3 := by omega
            clear hA hna hQ
            go_wp2_with fail
            refine hca.mono ?_
            rintro e1 w10 ⟨rfl, hb10⟩
            clear hca g0 g1 g2 g3 gf
            have A10 := hA3.then hb10
            have B10 := B8.then A10
            have BX10 := BX.then A10
            have bx10 := bx8.bw A10
            have o10 := (fStanding_good (B := 0)).bw A10 (Nat.zero_le _) o8
            have hx10 := ((fInts_Rd (fInts_tri w8 (va1 : Int) (va2 : Int) (va3 : Int))).bw rInts_good ((Bw.refl _).alloc (.cells #[.int .i64 (id : Int), .slice (some ⟨w8.heap.size, 0, none⟩) 3 3] 30))).bw rInts_good (((Bw.refl _).alloc (.cells #[.slice A1 n1 c1, .slice A2 n2 c2, .slice A3 n3 c3, .int .i64 s.tests] 28)).then hb10)
            have ib10 := (Box.new (w8.alloc (.cells #[.int .i64 (va1 : Int), .int .i64 (va2 : Int), .int .i64 (va3 : Int)] 3)) #[.int .i64 (id : Int), .slice (some ⟨w8.heap.size, 0, none⟩) 3 3] 30).bw (((Bw.refl _).alloc (.cells #[.slice A1 n1 c1, .slice A2 n2 c2, .slice A3 n3 c3, .int .i64 s.tests] 28)).then hb10)
            have yb10 := (Box.new ((w8.alloc (.cells #[.int .i64 (va1 : Int), .int .i64 (va2 : Int), .int .i64 (va3 : Int)] 3)).alloc (.cells #[.int .i64 (id : Int), .slice (some ⟨w8.heap.size, 0, none⟩) 3 3] 30)) #[.slice A1 n1 c1, .slice A2 n2 c2, .slice A3 n3 c3, .int .i64 s.tests] 28).bw hb10
            rw [show (w8.alloc (.cells #[.int .i64 (va1 : Int), .int .i64 (va2 : Int), .int .i64 (va3 : Int)] 3)).heap.size = w8.heap.size + 1 by simp] at ib10
            rw [show ((w8.alloc (.cells #[.int .i64 (va1 : Int), .int .i64 (va2 : Int), .int .i64 (va3 : Int)] 3)).alloc (.cells #[.int .i64 (id : Int), .slice (some ⟨w8.heap.size, 0, none⟩) 3 3] 30)).heap.size = w8.heap.size + 1 + 1 by simp] at yb10
            have z8 := B8.size
            have hlt8 := bx8.lt
            have RR := fStanding_Rds o10
            obtain ⟨pi, hpi⟩ : ∃ p, p = w8.heap.size + 1 := ⟨_, rfl⟩
            obtain ⟨py, hpy⟩ : ∃ p, p = w8.heap.size + 1 + 1 := ⟨_, rfl⟩
            obtain ⟨ps, hps⟩ : ∃ p, p = w21.heap.size := ⟨_, rfl⟩
            rw [← hpi] at ib10
            rw [← hpy] at yb10
            rw [← hps] at bx10
            have HPI := Lib.hid hpi
            have HPY := Lib.hid hpy
            have HPS := Lib.hid hps
            have HLT := Lib.hid (show ps < py by rw [hps, hpy]; omega)
            rw [← hpy, ← hpi, ← hps]
            clear hpi hpy hps hA1 hA2 hA3 bxA bx8 o8 o10 hb10 A10 BX hlt8
            rcases (by omega : op = 0 ∨ op = 1 ∨ op = 2) with h | h | h
            · as_aux_lemma =>
              have e1 : ((op : Int) == 0) = true := by simp [h]
              clear h
              have hcall := I_InsertItem w10 s ⟨(id : Int), [(va1 : Int), (va2 : Int), (va3 : Int)]⟩ _ _ _ _ RR.1 RR.2.1 RR.2.2.1 hx10 sm.1 sm.2.1 sm.2.2
              have g0 := bx10.c 0 _ rfl
              have g1 := bx10.c 1 _ rfl
              have g2 := bx10.c 2 _ rfl
              have g3 := bx10.c 3 _ rfl
              have gf := bx10.fr
              have p0 := ib10.c 0 _ rfl
              have p1 := ib10.c 1 _ rfl
              have pf := ib10.fr
              go_wp2_with fail
              clear g0 g1 g2 g3 gf
              clear p0 p1 pf
              refine hcall.mono ?_
              rintro e1 w11 ⟨u11, rfl, ⟨cs, rfl, F11, o11, f11⟩, hb11⟩
              clear hcall
              obtain ⟨B1, d1, B2, d2, B3', d3, rfl⟩ := fStanding_shape o11
              have yb11 := yb10.bw hb11
              have y0 := yb11.c 0 _ rfl
              have y1 := yb11.c 1 _ rfl
              have y2 := yb11.c 2 _ rfl
              have y3 := yb11.c 3 _ rfl
              have yf := yb11.fr
              have hst := Lib.hid (insM_keeps (x := ⟨(id : Int), [(va1 : Int), (va2 : Int), (va3 : Int)]⟩) HS.out HW.out sm)
              go_upto_region 37 with fail
              obtain ⟨M, hM⟩ : ∃ M, M = insM s ⟨(id : Int), [(va1 : Int), (va2 : Int), (va3 : Int)]⟩ := ⟨_, rfl⟩
              rw [← hM] at hst o11
              rw [← hM]
              clear hM
              obtain ⟨k1, hk1⟩ : ∃ m, m = M.items.length := ⟨_, rfl⟩
              obtain ⟨k2, hk2⟩ : ∃ m, m = M.wanted.length := ⟨_, rfl⟩
              obtain ⟨k3, hk3⟩ : ∃ m, m = M.best.length := ⟨_, rfl⟩
              rw [← hk1, ← hk2, ← hk3] at o11
              rw [← hk1, ← hk2, ← hk3]
              clear hk1 hk2 hk3 y0 y1 y2 y3 yf
              obtain ⟨W, hW⟩ : ∃ W, W = (((w11.setCell ⟨py, 0, none⟩ (.slice B1 k1 d1)).setCell ⟨py, 1, none⟩ (.slice B2 k2 d2)).setCell ⟨py, 2, none⟩ (.slice B3' k3 d3)).setCell ⟨py, 3, none⟩ (.int .i64 M.tests) := ⟨_, rfl⟩
              have zz := yb10.lt
              have hz21 : w21.heap.size ≤ py := by have := HLT.out; have := HPS.out; omega
              have hFy : ∀ x ∈ F11, x ≠ py := fun x hx => by have := f11.ge x hx; omega
              have hFs : ∀ x ∈ F11, x ≠ ps := fun x hx => by have := f11.ge x hx; have := HLT.out; omega
              have o12 := set4_st o11 hFy (.slice B1 k1 d1) (.slice B2 k2 d2) (.slice B3' k3 d3) (.int .i64 M.tests)
              have yb12 := Box.four yb11 (.slice B1 k1 d1) (.slice B2 k2 d2) (.slice B3' k3 d3) (.int .i64 M.tests)
              have bx12 := Box.far4 (bx10.bw hb11) (by have := HLT.out; omega) (b := py) (.slice B1 k1 d1) (.slice B2 k2 d2) (.slice B3' k3 d3) (.int .i64 M.tests)
              have B12 := ((((B10.then hb11).set (p := ⟨py, 0, none⟩) hz21 (.slice B1 k1 d1)).set (p := ⟨py, 1, none⟩) hz21 (.slice B2 k2 d2)).set (p := ⟨py, 2, none⟩) hz21 (.slice B3' k3 d3)).set (p := ⟨py, 3, none⟩) hz21 (.int .i64 M.tests)
              rw [← hW] at o12 yb12 bx12 B12
              rw [← hW]
              have HWW := Lib.hid hW
              clear hW o11 yb11 bx10 yb10 ib10 hx10 RR zz hz21 hb11 B10 BX10 hFy f11
              have RM := fStanding_Rds o12
              have HMM := hst
              have HFS := Lib.hid hFs
              clear hst hFs
              have D1 : Bw W W.drew := (Bw.refl W).drew
              have hBB := Bw.refl W.drew
              have C1 := Lib.hid (fun W' (B : Bw W W') => S_BestItems W' M.items e _ _ (RM.1.bw rItems_good B) (he.bw rNodes_good (B12.then B)))
              have C2 := Lib.hid (fun W' (B : Bw W W') => (show Calls Tryz.prog 30 #[.slice B1 k1 d1] W' (Ret W' (.bool true)) from by have h := S_AreItems W' M.items _ (RM.1.bw rItems_good B); rw [areBoth_items (stand_both HMM.out.1).1] at h; exact h))
              have C3 := Lib.hid (fun W' (B : Bw W W') => (show Rd rInts W' (bestItems M.items e) [.slice B3' k3 d3] from by have h := RM.2.2.1.bw rInts_good B; rw [best_stand HMM.out.1, HMM.out.2.1] at h; exact h))
              clear RM
              have y0 := yb12.c 0 _ rfl
              have y1 := yb12.c 1 _ rfl
              have y2 := yb12.c 2 _ rfl
              have y3 := yb12.c 3 _ rfl
              have yf := yb12.fr
              go_wp2_with fail
              go_region_held3 (fun w' => w'.cell? ⟨py, 0, none⟩ = some (.slice B1 k1 d1) ∧ w'.cell? ⟨py, 1, none⟩ = some (.slice B2 k2 d2) ∧ w'.cell? ⟨py, 2, none⟩ = some (.slice B3' k3 d3) ∧ w'.cell? ⟨py, 3, none⟩ = some (.int .i64 M.tests))
                (first | exact ⟨y0, y1, y2, y3⟩ | exact ⟨D1.cell y0, D1.cell y1, D1.cell y2, D1.cell y3⟩ | exact ⟨(D1.then hBB).cell y0, (D1.then hBB).cell y1, (D1.then hBB).cell y2, (D1.then hBB).cell y3⟩)
                (first
                  | (go_at_call 42; refine (C1.out _ (D1.then hBB)).mono ?_; rintro e' wn ⟨vx, rfl, ⟨FX, oX, _⟩, hbn⟩; replace hBB := hBB.then hbn; have rX := fInts_Rd oX)
                  | (go_at_call 27; refine (L_sameT _ (bestItems M.items e) _ _ (C3.out _ (D1.then hBB)) rX).mono ?_; rintro e' wn ⟨rfl, hbn⟩; replace hBB := hBB.then hbn)
                  | (go_at_call 30; refine (C2.out _ (D1.then hBB)).mono ?_; rintro e' wn ⟨rfl, hbn⟩; replace hBB := hBB.then hbn))
              all_goals
                have hp := HPS.out
                subst hp
                have BE := D1.then hBB
                have ybE := yb12.bw BE
                have bxE := bx12.bw BE
                have oE := (fStanding_good (B := 0)).bw BE (Nat.zero_le _) o12
                clear y0 y1 y2 y3 yf
                have y0 := ybE.c 0 _ rfl
                have y1 := ybE.c 1 _ rfl
                have y2 := ybE.c 2 _ rfl
                have y3 := ybE.c 3 _ rfl
                have yf := ybE.fr
                have g0 := bxE.c 0 _ rfl
                have g1 := bxE.c 1 _ rfl
                have g2 := bxE.c 2 _ rfl
                have g3 := bxE.c 3 _ rfl
                have gf := bxE.fr
                go_wp2
                go_roundg (6 - (k + 1))
                case measure => omega
                case rel =>
                  have hz : w21.heap.size ≤ w21.heap.size := Nat.le_refl _
                  refine ⟨k + 1, by omega, rfl, by go_num, ?_, ?_⟩
                  · exact TopInv.mk' (Box.four bxE _ _ _ _) (set4_st oE HFS.out _ _ _ _) HFS.out HMM.out.1 HMM.out.2.1 HMM.out.2.2
                  · exact ((((B12.then BE).set (p := ⟨w21.heap.size, 0, none⟩) hz _).set (p := ⟨w21.heap.size, 1, none⟩) hz _).set (p := ⟨w21.heap.size, 2, none⟩) hz _).set (p := ⟨w21.heap.size, 3, none⟩) hz _
            · as_aux_lemma =>
              have e1 : ((op : Int) == 0) = false := by simp [h]
              have e2 : ((op : Int) == 1) = true := by simp [h]
              clear h
              have hcall := I_DeleteItem w10 s (id : Int) _ _ _ RR.1 RR.2.1 RR.2.2.1 sm.1 sm.2.1 sm.2.2
              have g0 := bx10.c 0 _ rfl
              have g1 := bx10.c 1 _ rfl
              have g2 := bx10.c 2 _ rfl
              have g3 := bx10.c 3 _ rfl
              have gf := bx10.fr
              have p0 := ib10.c 0 _ rfl
              have p1 := ib10.c 1 _ rfl
              have pf := ib10.fr
              go_wp2_with fail
              clear g0 g1 g2 g3 gf
              clear p0 p1 pf
              refine hcall.mono ?_
              rintro e1 w11 ⟨u11, rfl, ⟨cs, rfl, F11, o11, f11⟩, hb11⟩
              clear hcall
              obtain ⟨B1, d1, B2, d2, B3', d3, rfl⟩ := fStanding_shape o11
              have yb11 := yb10.bw hb11
              have y0 := yb11.c 0 _ rfl
              have y1 := yb11.c 1 _ rfl
              have y2 := yb11.c 2 _ rfl
              have y3 := yb11.c 3 _ rfl
              have yf := yb11.fr
              have hst := Lib.hid (delM_keeps (id := (id : Int)) HS.out HW.out sm)
              go_upto_region 37 with fail
              obtain ⟨M, hM⟩ : ∃ M, M = delM s (id : Int) := ⟨_, rfl⟩
              rw [← hM] at hst o11
              rw [← hM]
              clear hM
              obtain ⟨k1, hk1⟩ : ∃ m, m = M.items.length := ⟨_, rfl⟩
              obtain ⟨k2, hk2⟩ : ∃ m, m = M.wanted.length := ⟨_, rfl⟩
              obtain ⟨k3, hk3⟩ : ∃ m, m = M.best.length := ⟨_, rfl⟩
              rw [← hk1, ← hk2, ← hk3] at o11
              rw [← hk1, ← hk2, ← hk3]
              clear hk1 hk2 hk3 y0 y1 y2 y3 yf
              obtain ⟨W, hW⟩ : ∃ W, W = (((w11.setCell ⟨py, 0, none⟩ (.slice B1 k1 d1)).setCell ⟨py, 1, none⟩ (.slice B2 k2 d2)).setCell ⟨py, 2, none⟩ (.slice B3' k3 d3)).setCell ⟨py, 3, none⟩ (.int .i64 M.tests) := ⟨_, rfl⟩
              have zz := yb10.lt
              have hz21 : w21.heap.size ≤ py := by have := HLT.out; have := HPS.out; omega
              have hFy : ∀ x ∈ F11, x ≠ py := fun x hx => by have := f11.ge x hx; omega
              have hFs : ∀ x ∈ F11, x ≠ ps := fun x hx => by have := f11.ge x hx; have := HLT.out; omega
              have o12 := set4_st o11 hFy (.slice B1 k1 d1) (.slice B2 k2 d2) (.slice B3' k3 d3) (.int .i64 M.tests)
              have yb12 := Box.four yb11 (.slice B1 k1 d1) (.slice B2 k2 d2) (.slice B3' k3 d3) (.int .i64 M.tests)
              have bx12 := Box.far4 (bx10.bw hb11) (by have := HLT.out; omega) (b := py) (.slice B1 k1 d1) (.slice B2 k2 d2) (.slice B3' k3 d3) (.int .i64 M.tests)
              have B12 := ((((B10.then hb11).set (p := ⟨py, 0, none⟩) hz21 (.slice B1 k1 d1)).set (p := ⟨py, 1, none⟩) hz21 (.slice B2 k2 d2)).set (p := ⟨py, 2, none⟩) hz21 (.slice B3' k3 d3)).set (p := ⟨py, 3, none⟩) hz21 (.int .i64 M.tests)
              rw [← hW] at o12 yb12 bx12 B12
              rw [← hW]
              have HWW := Lib.hid hW
              clear hW o11 yb11 bx10 yb10 ib10 hx10 RR zz hz21 hb11 B10 BX10 hFy f11
              have RM := fStanding_Rds o12
              have HMM := hst
              have HFS := Lib.hid hFs
              clear hst hFs
              have D1 : Bw W W.drew := (Bw.refl W).drew
              have hBB := Bw.refl W.drew
              have C1 := Lib.hid (fun W' (B : Bw W W') => S_BestItems W' M.items e _ _ (RM.1.bw rItems_good B) (he.bw rNodes_good (B12.then B)))
              have C2 := Lib.hid (fun W' (B : Bw W W') => (show Calls Tryz.prog 30 #[.slice B1 k1 d1] W' (Ret W' (.bool true)) from by have h := S_AreItems W' M.items _ (RM.1.bw rItems_good B); rw [areBoth_items (stand_both HMM.out.1).1] at h; exact h))
              have C3 := Lib.hid (fun W' (B : Bw W W') => (show Rd rInts W' (bestItems M.items e) [.slice B3' k3 d3] from by have h := RM.2.2.1.bw rInts_good B; rw [best_stand HMM.out.1, HMM.out.2.1] at h; exact h))
              clear RM
              have y0 := yb12.c 0 _ rfl
              have y1 := yb12.c 1 _ rfl
              have y2 := yb12.c 2 _ rfl
              have y3 := yb12.c 3 _ rfl
              have yf := yb12.fr
              go_wp2_with fail
              go_region_held3 (fun w' => w'.cell? ⟨py, 0, none⟩ = some (.slice B1 k1 d1) ∧ w'.cell? ⟨py, 1, none⟩ = some (.slice B2 k2 d2) ∧ w'.cell? ⟨py, 2, none⟩ = some (.slice B3' k3 d3) ∧ w'.cell? ⟨py, 3, none⟩ = some (.int .i64 M.tests))
                (first | exact ⟨y0, y1, y2, y3⟩ | exact ⟨D1.cell y0, D1.cell y1, D1.cell y2, D1.cell y3⟩ | exact ⟨(D1.then hBB).cell y0, (D1.then hBB).cell y1, (D1.then hBB).cell y2, (D1.then hBB).cell y3⟩)
                (first
                  | (go_at_call 42; refine (C1.out _ (D1.then hBB)).mono ?_; rintro e' wn ⟨vx, rfl, ⟨FX, oX, _⟩, hbn⟩; replace hBB := hBB.then hbn; have rX := fInts_Rd oX)
                  | (go_at_call 27; refine (L_sameT _ (bestItems M.items e) _ _ (C3.out _ (D1.then hBB)) rX).mono ?_; rintro e' wn ⟨rfl, hbn⟩; replace hBB := hBB.then hbn)
                  | (go_at_call 30; refine (C2.out _ (D1.then hBB)).mono ?_; rintro e' wn ⟨rfl, hbn⟩; replace hBB := hBB.then hbn))
              all_goals
                have hp := HPS.out
                subst hp
                have BE := D1.then hBB
                have ybE := yb12.bw BE
                have bxE := bx12.bw BE
                have oE := (fStanding_good (B := 0)).bw BE (Nat.zero_le _) o12
                clear y0 y1 y2 y3 yf
                have y0 := ybE.c 0 _ rfl
                have y1 := ybE.c 1 _ rfl
                have y2 := ybE.c 2 _ rfl
                have y3 := ybE.c 3 _ rfl
                have yf := ybE.fr
                have g0 := bxE.c 0 _ rfl
                have g1 := bxE.c 1 _ rfl
                have g2 := bxE.c 2 _ rfl
                have g3 := bxE.c 3 _ rfl
                have gf := bxE.fr
                go_wp2
                go_roundg (6 - (k + 1))
                case measure => omega
                case rel =>
                  have hz : w21.heap.size ≤ w21.heap.size := Nat.le_refl _
                  refine ⟨k + 1, by omega, rfl, by go_num, ?_, ?_⟩
                  · exact TopInv.mk' (Box.four bxE _ _ _ _) (set4_st oE HFS.out _ _ _ _) HFS.out HMM.out.1 HMM.out.2.1 HMM.out.2.2
                  · exact ((((B12.then BE).set (p := ⟨w21.heap.size, 0, none⟩) hz _).set (p := ⟨w21.heap.size, 1, none⟩) hz _).set (p := ⟨w21.heap.size, 2, none⟩) hz _).set (p := ⟨w21.heap.size, 3, none⟩) hz _
            · as_aux_lemma =>
              have e1 : ((op : Int) == 0) = false := by simp [h]
              have e2 : ((op : Int) == 1) = false := by simp [h]
              clear h
              have hcall := I_ChangeItem w10 s ⟨(id : Int), [(va1 : Int), (va2 : Int), (va3 : Int)]⟩ _ _ _ _ RR.1 RR.2.1 RR.2.2.1 hx10 sm.1 sm.2.1 sm.2.2
              have g0 := bx10.c 0 _ rfl
              have g1 := bx10.c 1 _ rfl
              have g2 := bx10.c 2 _ rfl
              have g3 := bx10.c 3 _ rfl
              have gf := bx10.fr
              have p0 := ib10.c 0 _ rfl
              have p1 := ib10.c 1 _ rfl
              have pf := ib10.fr
              go_wp2_with fail
              clear g0 g1 g2 g3 gf
              clear p0 p1 pf
              refine hcall.mono ?_
              rintro e1 w11 ⟨u11, rfl, ⟨cs, rfl, F11, o11, f11⟩, hb11⟩
              clear hcall
              obtain ⟨B1, d1, B2, d2, B3', d3, rfl⟩ := fStanding_shape o11
              have yb11 := yb10.bw hb11
              have y0 := yb11.c 0 _ rfl
              have y1 := yb11.c 1 _ rfl
              have y2 := yb11.c 2 _ rfl
              have y3 := yb11.c 3 _ rfl
              have yf := yb11.fr
              have hst := Lib.hid (chgM_keeps (x := ⟨(id : Int), [(va1 : Int), (va2 : Int), (va3 : Int)]⟩) HS.out HW.out sm)
              go_upto_region 37 with fail
              obtain ⟨M, hM⟩ : ∃ M, M = chgM s ⟨(id : Int), [(va1 : Int), (va2 : Int), (va3 : Int)]⟩ := ⟨_, rfl⟩
              rw [← hM] at hst o11
              rw [← hM]
              clear hM
              obtain ⟨k1, hk1⟩ : ∃ m, m = M.items.length := ⟨_, rfl⟩
              obtain ⟨k2, hk2⟩ : ∃ m, m = M.wanted.length := ⟨_, rfl⟩
              obtain ⟨k3, hk3⟩ : ∃ m, m = M.best.length := ⟨_, rfl⟩
              rw [← hk1, ← hk2, ← hk3] at o11
              rw [← hk1, ← hk2, ← hk3]
              clear hk1 hk2 hk3 y0 y1 y2 y3 yf
              obtain ⟨W, hW⟩ : ∃ W, W = (((w11.setCell ⟨py, 0, none⟩ (.slice B1 k1 d1)).setCell ⟨py, 1, none⟩ (.slice B2 k2 d2)).setCell ⟨py, 2, none⟩ (.slice B3' k3 d3)).setCell ⟨py, 3, none⟩ (.int .i64 M.tests) := ⟨_, rfl⟩
              have zz := yb10.lt
              have hz21 : w21.heap.size ≤ py := by have := HLT.out; have := HPS.out; omega
              have hFy : ∀ x ∈ F11, x ≠ py := fun x hx => by have := f11.ge x hx; omega
              have hFs : ∀ x ∈ F11, x ≠ ps := fun x hx => by have := f11.ge x hx; have := HLT.out; omega
              have o12 := set4_st o11 hFy (.slice B1 k1 d1) (.slice B2 k2 d2) (.slice B3' k3 d3) (.int .i64 M.tests)
              have yb12 := Box.four yb11 (.slice B1 k1 d1) (.slice B2 k2 d2) (.slice B3' k3 d3) (.int .i64 M.tests)
              have bx12 := Box.far4 (bx10.bw hb11) (by have := HLT.out; omega) (b := py) (.slice B1 k1 d1) (.slice B2 k2 d2) (.slice B3' k3 d3) (.int .i64 M.tests)
              have B12 := ((((B10.then hb11).set (p := ⟨py, 0, none⟩) hz21 (.slice B1 k1 d1)).set (p := ⟨py, 1, none⟩) hz21 (.slice B2 k2 d2)).set (p := ⟨py, 2, none⟩) hz21 (.slice B3' k3 d3)).set (p := ⟨py, 3, none⟩) hz21 (.int .i64 M.tests)
              rw [← hW] at o12 yb12 bx12 B12
              rw [← hW]
              have HWW := Lib.hid hW
              clear hW o11 yb11 bx10 yb10 ib10 hx10 RR zz hz21 hb11 B10 BX10 hFy f11
              have RM := fStanding_Rds o12
              have HMM := hst
              have HFS := Lib.hid hFs
              clear hst hFs
              have D1 : Bw W W.drew := (Bw.refl W).drew
              have hBB := Bw.refl W.drew
              have C1 := Lib.hid (fun W' (B : Bw W W') => S_BestItems W' M.items e _ _ (RM.1.bw rItems_good B) (he.bw rNodes_good (B12.then B)))
              have C2 := Lib.hid (fun W' (B : Bw W W') => (show Calls Tryz.prog 30 #[.slice B1 k1 d1] W' (Ret W' (.bool true)) from by have h := S_AreItems W' M.items _ (RM.1.bw rItems_good B); rw [areBoth_items (stand_both HMM.out.1).1] at h; exact h))
              have C3 := Lib.hid (fun W' (B : Bw W W') => (show Rd rInts W' (bestItems M.items e) [.slice B3' k3 d3] from by have h := RM.2.2.1.bw rInts_good B; rw [best_stand HMM.out.1, HMM.out.2.1] at h; exact h))
              clear RM
              have y0 := yb12.c 0 _ rfl
              have y1 := yb12.c 1 _ rfl
              have y2 := yb12.c 2 _ rfl
              have y3 := yb12.c 3 _ rfl
              have yf := yb12.fr
              go_wp2_with fail
              go_region_held3 (fun w' => w'.cell? ⟨py, 0, none⟩ = some (.slice B1 k1 d1) ∧ w'.cell? ⟨py, 1, none⟩ = some (.slice B2 k2 d2) ∧ w'.cell? ⟨py, 2, none⟩ = some (.slice B3' k3 d3) ∧ w'.cell? ⟨py, 3, none⟩ = some (.int .i64 M.tests))
                (first | exact ⟨y0, y1, y2, y3⟩ | exact ⟨D1.cell y0, D1.cell y1, D1.cell y2, D1.cell y3⟩ | exact ⟨(D1.then hBB).cell y0, (D1.then hBB).cell y1, (D1.then hBB).cell y2, (D1.then hBB).cell y3⟩)
                (first
                  | (go_at_call 42; refine (C1.out _ (D1.then hBB)).mono ?_; rintro e' wn ⟨vx, rfl, ⟨FX, oX, _⟩, hbn⟩; replace hBB := hBB.then hbn; have rX := fInts_Rd oX)
                  | (go_at_call 27; refine (L_sameT _ (bestItems M.items e) _ _ (C3.out _ (D1.then hBB)) rX).mono ?_; rintro e' wn ⟨rfl, hbn⟩; replace hBB := hBB.then hbn)
                  | (go_at_call 30; refine (C2.out _ (D1.then hBB)).mono ?_; rintro e' wn ⟨rfl, hbn⟩; replace hBB := hBB.then hbn))
              all_goals
                have hp := HPS.out
                subst hp
                have BE := D1.then hBB
                have ybE := yb12.bw BE
                have bxE := bx12.bw BE
                have oE := (fStanding_good (B := 0)).bw BE (Nat.zero_le _) o12
                clear y0 y1 y2 y3 yf
                have y0 := ybE.c 0 _ rfl
                have y1 := ybE.c 1 _ rfl
                have y2 := ybE.c 2 _ rfl
                have y3 := ybE.c 3 _ rfl
                have yf := ybE.fr
                have g0 := bxE.c 0 _ rfl
                have g1 := bxE.c 1 _ rfl
                have g2 := bxE.c 2 _ rfl
                have g3 := bxE.c 3 _ rfl
                have gf := bxE.fr
                go_wp2
                go_roundg (6 - (k + 1))
                case measure => omega
                case rel =>
                  have hz : w21.heap.size ≤ w21.heap.size := Nat.le_refl _
                  refine ⟨k + 1, by omega, rfl, by go_num, ?_, ?_⟩
                  · exact TopInv.mk' (Box.four bxE _ _ _ _) (set4_st oE HFS.out _ _ _ _) HFS.out HMM.out.1 HMM.out.2.1 HMM.out.2.2
                  · exact ((((B12.then BE).set (p := ⟨w21.heap.size, 0, none⟩) hz _).set (p := ⟨w21.heap.size, 1, none⟩) hz _).set (p := ⟨w21.heap.size, 2, none⟩) hz _).set (p := ⟨w21.heap.size, 3, none⟩) hz _
          · as_aux_lemma =>
            obtain rfl : k = 6 := by omega
            by_cases hn0 : n = 0
            · have e1 : ((n : Int) == 0) = true := by simp [hn0]
              clear hn0
              go_wp2
              go_ret
              exact ⟨rfl, B3.then hB⟩
            · have e1 : ((n : Int) == 0) = false := by simp; omega
              have hne : l ≠ [] := fun h => hn0 (by rw [L.out, h]; rfl)
              have hbp := best_pos HE.out hne (fun x hx => areItems_mem HI.out hx)
              have hnp : np ≠ 0 := fun h => hbp (List.eq_nil_of_length_eq_zero (by rw [← HBE.out, ← L5.out]; exact h))
              have hd : decide (0 < np) = true := decide_eq_true (by omega)
              clear hn0 hbp hne
              go_wp2
              go_ret
              exact ⟨rfl, B3.then hB⟩
end Go.Proofs.YtpihighajaeabaaGreat
