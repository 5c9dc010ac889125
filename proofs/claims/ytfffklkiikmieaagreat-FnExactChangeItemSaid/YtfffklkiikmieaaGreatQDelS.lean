/- An item is taken from a standing answer, in the reference. -/
import Derived.Test.YtfffklkiikmieaaGreatQItems
import Derived.Test.YtfffklkiikmieaaGreatQOnly
import Derived.Test.YtfffklkiikmieaaGreatQSortT
import Derived.Test.YtfffklkiikmieaaGreatQCopies
import Derived.Test.YtfffklkiikmieaaGreatQReach
import Derived.Test.YtfffklkiikmieaaGreatQDelM
import Derived.Test.YtfffklkiikmieaaGreatQStandC
import Derived.Test.YtfffklkiikmieaaGreatQStandT
namespace Go.Proofs.YtfffklkiikmieaaGreat
open Go.RowKit
set_option linter.unusedVariables false
theorem info_ints : (Tryz.prog.info? 41).map (fun i => (i.zero, i.size, i.bytes)) = some (some (.slice none 0 0), 1, 24) := by kernel_rfl
abbrev fIntss : Fp (List (List Int)) := fSl 41 1 fInts
theorem fIntss_good {B : Nat} : GoodF B fIntss := fSl_good fInts_good
theorem fIntss_rd {B : Nat} {w : World} {xs : List (List Int)} {cs : List Value} {F : List Nat} (h : fIntss w xs cs F) : rIntss w (fun b => b ∈ F ∨ b < B) xs cs := fSl_rd rInts_good (fun _ _ _ h => fInts_rd h) h
theorem fIntss_Rd {w : World} {xs : List (List Int)} {cs : List Value} {F : List Nat} (h : fIntss w xs cs F) : Rd rIntss w xs cs := Rd.of rIntss_good (B := 0) (fIntss_rd h) ((fIntss_good (B := 0)).lt h) (Nat.zero_le _)
def totIntss (xs : List (List Int)) : Nat := xs.length + sumL (fun x => x.length) xs
set_option maxRecDepth 100000 in
set_option maxHeartbeats 800000 in
theorem L_eqIntSS (w : World) (xs ys : List (List Int)) (v1 v2 : Value) (h1 : Rd rIntss w xs [v1]) (h2 : Rd rIntss w ys [v2]) :
    Calls Tryz.prog 13 #[v1, v2] w (Ret w (.bool (decide (xs = ys)))) := by
  obtain ⟨A1, n1, c1, rfl, a1, a2, a3⟩ := rSl_open h1
  obtain ⟨A2, n2, c2, rfl, b1, b2, b3⟩ := rSl_open h2
  unfold maxLen at a3 b3
  have L1 := Lib.hid a1
  have L2 := Lib.hid b1
  clear a1 b1
  by_cases hl : n1 = n2
  · subst hl
    go_enter Tryz.func13, Tryz.ntmps13
    go_wp2
    go_loopw [5] (fun i w' => ∃ k : Nat, k ≤ n1 ∧ i = .int .i64 k ∧ xs.take k = ys.take k ∧ Bw w w') (fun i _ => n1 - (intOf i).toNat)
    case atStart => exact ⟨0, by omega, rfl, by simp, Bw.refl _⟩
    case round =>
      obtain ⟨k, hk, rfl, he, hb⟩ := hrel
      have HE := Lib.hid he
      clear he
      by_cases hlt : k < n1
      · obtain ⟨x, hx⟩ := get_of_lt (xs := xs) (k := k) (by rw [← L1.out]; exact hlt)
        obtain ⟨y, hy⟩ := get_of_lt (xs := ys) (k := k) (by rw [← L2.out]; exact hlt)
        obtain ⟨ba, oa, Ax, cx, rfl, _, hcx, hix⟩ := rIntss_at (h1.bw rIntss_good hb) hx
        obtain ⟨bb, ob, Ay, cy, rfl, _, hcy, hiy⟩ := rIntss_at (h2.bw rIntss_good hb) hy
        have HX := Lib.hid hx
        have HY := Lib.hid hy
        clear hx hy h1 h2
        go_wp2_with fail
        go_still_tail 8, (by kernel_rfl)
        change wpList _ _ _ _ _ wr.drew
        have hix' : Rd rInts wr.drew x [.slice Ax x.length cx] := hix
        have hiy' : Rd rInts wr.drew y [.slice Ay y.length cy] := hiy
        clear hix hiy
        go_wp2_with fail
        refine (L_eqIntS _ x y _ _ hix' hiy').mono ?_
        rintro e w2 ⟨rfl, hb2⟩
        have hbb : Bw w w2 := hb.drew.then hb2
        by_cases hxy : x = y
        · have HD : decide (x = y) = true := by simpa using hxy
          have HXY := Lib.hid hxy
          clear hxy
          go_wp2
          go_roundw
          case rel => exact ⟨k + 1, by omega, by go_num, take_step HE.out HX.out HY.out HXY.out, hbb⟩
          case measure => simp [intOf]; omega
        · have HD : decide (x = y) = false := by simpa using hxy
          go_wp2
          go_ret
          exact Ret.bool (by simpa using ne_of_at HX.out HY.out hxy) hbb
      · go_wp2
        go_ret
        exact Ret.bool (by simpa using eq_of_take HE.out (by rw [← L1.out]; omega) (by rw [← L2.out]; omega)) hb
  · go_enter Tryz.func13, Tryz.ntmps13
    go_wp2
    go_ret
    exact Ret.bool (by simp; intro e; exact hl (by rw [L1.out, L2.out, e])) (Bw.refl _)
end Go.Proofs.YtfffklkiikmieaaGreat

namespace Go.Proofs.YtfffklkiikmieaaGreat
open Go.RowKit
set_option linter.unusedVariables false
set_option linter.unusedSimpArgs false
theorem info_row : (Tryz.prog.info? 41).map (fun i => (i.zero, i.size, i.bytes)) = some (some (.slice none 0 0), 1, 24) := by kernel_rfl
theorem rItems_keep {w w' : World} {S : Blocks} {xs : List GItem} {cs : List Value} (h : rItems w S xs cs) (hk : ∀ b, S b → w'.heap[b]? = w.heap[b]?) : rItems w' S xs cs :=
  rItems_good.step ⟨fun _ h => h, fun p hp => World.cell?_of_block (hk _ hp)⟩ h
theorem rItems_Rd {w : World} {S : Blocks} {xs : List GItem} {cs : List Value} (h : rItems w S xs cs) (hS : ∀ b, S b → b < w.heap.size) : Rd rItems w xs cs :=
  rItems_good.step ⟨hS, fun _ _ => rfl⟩ h
set_option maxRecDepth 100000 in
set_option maxHeartbeats 3200000 in
theorem S_l10Without (w : World) (l : List GItem) (ids : List Int) (v u : Value) (h : Rd rItems w l [v]) (h' : Rd rInts w ids [u]) (hn : l.length ≤ 1048576) (hnn : ∀ x ∈ l, x.vals.length ≤ 1048576) :
    Calls Tryz.prog 54 #[v, u] w (RetV w (Made fItems w.heap.size (onlyM l ids false))) := by
  obtain ⟨i0, hi, hz0, hz1, hz2⟩ := info_parts info_Item
  obtain ⟨A, n, c, rfl, L0, Lc, Lm⟩ := rSl_open h
  unfold maxLen at Lm
  have L := Lib.hid L0
  clear L0
  rw [← L.out] at hn
  have hv0 := fSl_empty (e := 58) (sz := 2) (R := fItem) w
  have HNN := Lib.hid hnn
  clear hnn
  go_enter Tryz.func54, Tryz.ntmps54
  go_wp2
  go_loopw [5, 6] (fun s i w' => ∃ (k : Nat) (F : List Nat), k ≤ n ∧ i = .int .i64 k ∧ fItems w' (onlyTo l ids false k) [s] F ∧ Fresh w.heap.size F ∧ Bw w w') (fun s i _ => n - (intOf i).toNat)
  case atStart => exact ⟨0, _, by omega, rfl, hv0, ⟨by simp, by simp⟩, (Bw.refl _).alloc _⟩
  case round =>
    clear hv0
    obtain ⟨k, F, hk, rfl, hv, hF, hb⟩ := hrel
    by_cases hlt : k < n
    · obtain ⟨x, hx⟩ := get_of_lt (xs := l) (k := k) (by have := L.out; omega)
      have hxm := HNN.out x (List.mem_of_getElem? hx)
      obtain ⟨ba, oa, A', c', rfl, _, hc0, hc1, hin⟩ := rItems_at h hx
      have hcx := hb.cell hc0
      have hcx1 := hb.cell hc1
      have HYES := Lib.hid (fun hc => onlyTo_yes (ids := ids) (b := false) hx hc)
      have HNO := Lib.hid (fun hc => onlyTo_no (ids := ids) (b := false) hx hc)
      have HLEN := Lib.hid (onlyTo_len (l := l) (ids := ids) (b := false) (k := k))
      have i1 : (0 : Int) ≤ (k : Int) := by omega
      have i2 : (k : Int) < (n : Int) := by omega
      have HH := Lib.hid h
      have HIN := Lib.hid hin
      have HC0 := Lib.hid hc0
      have HC1 := Lib.hid hc1
      clear hx h hin hc0 hc1
      go_wp2_with fail
      refine (S_l2Has _ ids x.id _ (h'.bw rInts_good hb)).mono ?_
      rintro e w2 ⟨rfl, hb2⟩
      have hb2w := hb.then hb2
      replace hcx := hb2.cell hcx
      replace hcx1 := hb2.cell hcx1
      have hv2 := (fItems_good (B := w.heap.size)).bw hb2 hb.size hv
      rcases Bool.eq_false_or_eq_true (ids.contains x.id) with e1 | e1
      · have HB := Lib.hid (HNO.out (by rw [e1]; rfl))
        rw [e1]
        clear e1 hv
        have h := HH.out
        go_wp2
        go_roundw
        case rel => exact ⟨k + 1, F, by omega, by go_num, by rw [HB.out]; exact hv2, hF, hb2w⟩
        case measure => simp [intOf]; omega
      · have HB := Lib.hid (HYES.out e1)
        rw [e1]
        clear e1 hv
        have hin' : Rd rInts w2.drew x.vals [.slice A' x.vals.length c'] := Rd.bw rInts_good HIN.out hb2w.drew
        have D1 : Bw w2 w2.drew := (Bw.refl w2).drew
        have hFm := (fItems_good (B := 0)).lt hv2
        have hb2s := hb2w.size
        go_wp2_with fail
        go_region_held3 (fun w' => w'.cell? ⟨ba, oa + k * 2, none⟩ = some (.int .i64 x.id) ∧ w'.cell? ⟨ba, oa + k * 2 + 1, none⟩ = some (.slice A' x.vals.length c')) (first | go_keep | exact ⟨hcx, hcx1⟩ | exact ⟨hAl.cell hcx, hAl.cell hcx1⟩ | exact ⟨hb'.cell HC0.out, hb'.cell HC1.out⟩ | fail)
          (first
            | (go_at_call 100; refine (S_l2One _ x _ hin' hxm).mono ?_; rintro e w1 ⟨v1, rfl, ⟨F1, o1, f1⟩, hb1⟩; obtain ⟨Av, cv, rfl, _⟩ := rSl_shape (fInts_Rd o1); replace hcx := hb1.cell hcx; replace hcx1 := hb1.cell hcx1; have hb1' := D1.then hb1; have hbb := hb2w.then hb1'; have hv1 := (fItems_good (B := w.heap.size)).bw hb1' hb2w.size hv2; have hAl := (Bw.refl w1).alloc (.cells #[.int .i64 x.id, .slice Av x.vals.length cv] 58); have hvW := (fItems_good (B := w.heap.size)).bw hAl hbb.size hv1; have oW := (fInts_good (B := w.heap.size)).bw hAl hbb.size o1; have hbW := hbb.then hAl; have f1' : Fresh w2.heap.size F1 := f1.mono (by simp); have hcl : ∀ j t, [Value.int .i64 x.id, .slice Av x.vals.length cv][j]? = some t → (w1.alloc (.cells #[.int .i64 x.id, .slice Av x.vals.length cv] 58)).cell? ((⟨w1.heap.size, 0, none⟩ : Addr).add j) = some t := World.news_of_block (cs := #[.int .i64 x.id, .slice Av x.vals.length cv]) (t := 58) (fr := (0, 0)) (heap_alloc_new w1 _))
            | (refine step_push _ (by rfl) (.tmp 22) (.tmp 34) 29 (by rfl) w 58 i0 _ 2 32 Tryz.underlying29 hi hz0 hz1 hz2 rfl (by omega) fItem_good _ (onlyTo l ids false k) F (by rfl) hvW hF ⟨w1.heap.size, 0, none⟩ 1 (by rfl) x [.int .i64 x.id, .slice Av x.vals.length cv] F1 hcl ⟨_, rfl, oW⟩ rfl w2.heap.size hFm f1' hb2s (by have := HLEN.out; omega) (by have := HLEN.out; omega) hbW ?_; intro v' w' F' hv' hF' hb')
            | fail)
        have h := HH.out
        go_wp2
        go_roundw
        case rel => exact ⟨k + 1, F', by omega, by go_num, by rw [HB.out]; exact hv', hF', hb'⟩
        case measure => simp [intOf]; omega
    · obtain rfl : k = n := by omega
      rw [onlyTo_end (by rw [← L.out]; exact Nat.le_refl _)] at hv
      go_wp2
      go_ret
      exact ⟨_, rfl, ⟨F, hv, hF⟩, hb⟩
theorem layers_small {l : List GItem} (h : areItems l = true) : l.length ≤ 1048576 ∧ ∀ x ∈ l, x.vals.length ≤ 1048576 :=
  ⟨by have := areItems_len h; omega, fun x hx => by rw [isItem_len (areItems_mem h hx)]; omega⟩
end Go.Proofs.YtfffklkiikmieaaGreat

namespace Go.Proofs.YtfffklkiikmieaaGreat
open Go.RowKit
set_option linter.unusedVariables false
set_option linter.unusedSimpArgs false
theorem rInts_one (w : World) (x : Int) (t : TypeId) : Rd rInts (w.alloc (.cells #[.int .i64 x] t)) [x] [.slice (some ⟨w.heap.size, 0, none⟩) 1 1] := by
  refine ⟨_, 1, rfl, Nat.le_refl _, by unfold maxLen; omega, fun k y hk => ?_⟩
  cases k with
  | zero =>
    injection hk with hk
    subst hk
    exact ⟨w.heap.size, 0, [.int .i64 x], rfl, by simp, rfl, fun j u hj => by
      cases j with
      | zero => have h := cell_one_new w (.int .i64 x) t 0 u hj; simpa [Addr.add] using h
      | succ j => simp at hj, rfl⟩
  | succ k => simp at hk
set_option maxRecDepth 100000 in
set_option maxHeartbeats 6400000 in
theorem S_DeleteItem_no (w : World) (s : GStanding) (id : Int) (va vb vc : Value) (ha : Rd rItems w s.items [va]) (hb : Rd rNodes w s.wanted [vb]) (hc : Rd rInts w s.best [vc]) (t1 : totItems s.items ≤ 1048576) (t2 : totNodes s.wanted ≤ 1048576) (t3 : s.best.length ≤ 1048576) (hno : delOk s id = false) :
    Calls Tryz.prog 21 #[.agg #[va, vb, vc, .int .i64 s.tests], .int .i64 id] w (RetV w (TwoA fStanding w.heap.size s (.bool false))) := by
  obtain ⟨A, n, c, rfl, L0, Lc, Lm⟩ := rSl_open ha
  unfold maxLen at Lm
  have L := Lib.hid L0
  clear L0
  obtain ⟨B, m, c4, rfl, M0, Mc, Mm⟩ := rSl_open hc
  unfold maxLen at Mm
  have M := Lib.hid M0
  clear M0
  obtain ⟨W0, hW0⟩ : ∃ W0, W0 = (w.alloc (.cells #[.slice A n c, vb, .slice B m c4, .int .i64 s.tests] 47)).alloc (.cells #[.slice none 0 0, .slice none 0 0, .slice none 0 0, .int .i64 0] 47) := ⟨_, rfl⟩
  have A0 : Bw w W0 := by rw [hW0]; exact ((Bw.refl w).alloc _).alloc _
  have bS : Box W0 w.heap.size [.slice A n c, vb, .slice B m c4, .int .i64 s.tests] := by rw [hW0]; exact (Box.new w #[.slice A n c, vb, .slice B m c4, .int .i64 s.tests] 47).bw ((Bw.refl _).alloc _)
  have bR : Box W0 (w.heap.size + 1) [.slice none 0 0, .slice none 0 0, .slice none 0 0, .int .i64 0] := by
    have := Box.new (w.alloc (.cells #[.slice A n c, vb, .slice B m c4, .int .i64 s.tests] 47)) #[.slice none 0 0, .slice none 0 0, .slice none 0 0, .int .i64 0] 47
    rw [show (w.alloc (.cells #[.slice A n c, vb, .slice B m c4, .int .i64 s.tests] 47)).heap.size = w.heap.size + 1 from by simp] at this
    rw [hW0]; exact this
  have z0 : W0.heap.size = w.heap.size + 2 := by rw [hW0]; simp
  have hcopy := S_l15Copy W0 s _ vb _ (ha.bw rItems_good A0) (hb.bw rNodes_good A0) (hc.bw rInts_good A0) t1 t2 t3
  have HW0 := Lib.hid hW0
  clear hW0
  go_enter Tryz.func21, Tryz.ntmps21
  go_wp2_with fail
  rw [← HW0.out]
  refine hcopy.mono ?_
  rintro e w1 ⟨cs, F0, rfl, oS, fS, hb1⟩
  obtain ⟨A1, c1, A2, c2, A3, c3, rfl⟩ := fStanding_shape oS
  obtain ⟨F1, F2, F3, o1, o2, o3, rfl⟩ := fStanding_parts oS
  obtain ⟨m1, hm1⟩ : ∃ m, m = s.items.length := ⟨_, rfl⟩
  obtain ⟨m2, hm2⟩ : ∃ m, m = s.wanted.length := ⟨_, rfl⟩
  obtain ⟨m3, hm3⟩ : ∃ m, m = s.best.length := ⟨_, rfl⟩
  rw [← hm1] at o1
  rw [← hm2] at o2
  rw [← hm3] at o3
  dsimp only
  rw [← hm1, ← hm2, ← hm3]
  have bS1 := (bS.bw hb1).bw ((Bw.refl w1).alloc (.cells #[.slice A1 m1 c1, .slice A2 m2 c2, .slice A3 m3 c3, .int .i64 s.tests] 47))
  have y0 := bS1.c 0 _ rfl
  have y1 := bS1.c 1 _ rfl
  have y2 := bS1.c 2 _ rfl
  have y3 := bS1.c 3 _ rfl
  have HM1 := Lib.hid hm1
  have HM2 := Lib.hid hm2
  have HM3 := Lib.hid hm3
  clear hm1 hm2 hm3
  go_wp2_with fail
  obtain ⟨V, hV⟩ : ∃ V, V = w1.alloc (.cells #[.slice A1 m1 c1, .slice A2 m2 c2, .slice A3 m3 c3, .int .i64 s.tests] 47) := ⟨_, rfl⟩
  have A1' : Bw w1 V := by rw [hV]; exact (Bw.refl w1).alloc _
  have bO : Box V w1.heap.size [.slice A1 m1 c1, .slice A2 m2 c2, .slice A3 m3 c3, .int .i64 s.tests] := by rw [hV]; exact Box.new w1 #[.slice A1 m1 c1, .slice A2 m2 c2, .slice A3 m3 c3, .int .i64 s.tests] 47
  have zV : V.heap.size = w1.heap.size + 1 := by rw [hV]; simp
  have BV : Bw w V := A0.then (hb1.then A1')
  replace bS := bS.bw (hb1.then A1')
  replace bR := bR.bw (hb1.then A1')
  have zw : w.heap.size + 2 ≤ w1.heap.size := by have := hb1.size; omega
  have lS := (fStanding_good (B := 0)).lt oS
  replace o1 := keepBw A1' fItems_good o1
  replace o2 := keepBw A1' fNodes_good o2
  replace o3 := keepBw A1' fInts_good o3
  have fV : Fresh (w.heap.size + 2) (F1 ++ (F2 ++ F3)) := fS.mono (by omega)
  have HLS := Lib.hid lS
  have HV := Lib.hid hV
  have k1 := Lib.hid (fun W (B : Bw V W) => S_IsStanding W s _ vb _ (ha.bw rItems_good (BV.then B)) (hb.bw rNodes_good (BV.then B)) (hc.bw rInts_good (BV.then B)))
  have k3 := Lib.hid (fun W (B : Bw V W) => S_FindItem W s.items id _ (ha.bw rItems_good (BV.then B)))
  obtain ⟨b6, hb6⟩ : ∃ b, b = w1.heap.size := ⟨_, rfl⟩
  rw [← hb6] at bO zV zw lS
  have HB6 := Lib.hid hb6
  rw [← HV.out, ← HB6.out]
  clear hV oS fS hcopy hb1 A0 hb6 lS y0 y1 y2 y3 bS1
  refine (k1.out _ (Bw.refl V)).mono ?_
  rintro e w2 ⟨rfl, hb2⟩
  rcases Bool.eq_false_or_eq_true (isStand s) with e1 | e1
  · have E1 := Lib.hid e1
    rw [e1]
    clear e1
    have bS2 := bS.bw hb2
    have y0 := bS2.c 0 _ rfl
    have y1 := bS2.c 1 _ rfl
    have y2 := bS2.c 2 _ rfl
    have y3 := bS2.c 3 _ rfl
    have yf := bS2.fr
    have hcall := k3.out _ hb2
    obtain ⟨K, hK⟩ : ∃ K, K = findIdx s.items id := ⟨_, rfl⟩
    rw [← hK] at hcall
    have HK := Lib.hid hK
    clear bS2 hK
    go_wp2_with fail
    refine hcall.mono ?_
    rintro e w3 ⟨rfl, hb3⟩
    have hB3 := hb2.then hb3
    clear y0 y1 y2 y3 yf
    by_cases hK0 : K < 0
    · clear hno
      have bR2 := bR.bw hB3
      have bO2 := bO.bw hB3
      have r0 := bR2.c 0 _ rfl
      have r1 := bR2.c 1 _ rfl
      have r2 := bR2.c 2 _ rfl
      have r3 := bR2.c 3 _ rfl
      have rf := bR2.fr
      have q0 := bO2.c 0 _ rfl
      have q1 := bO2.c 1 _ rfl
      have q2 := bO2.c 2 _ rfl
      have q3 := bO2.c 3 _ rfl
      have qf := bO2.fr
      have hBB := BV.then hB3
      have p1 := keepBw hB3 fItems_good o1
      have p2 := keepBw hB3 fNodes_good o2
      have p3 := keepBw hB3 fInts_good o3
      clear bR2 bO2 o1 o2 o3 bR bO
      go_wp2
      rw [HM1.out] at p1 ⊢
      rw [HM2.out] at p2 ⊢
      rw [HM3.out] at p3 ⊢
      refine bodyPost_ret (v := .tuple #[.agg #[.slice A1 s.items.length c1, .slice A2 s.wanted.length c2, .slice A3 s.best.length c3, .int .i64 s.tests], .bool false]) (by simp [results, Tryz.results21, go_sem, r0, r1, r2, r3]) rfl (stand_ret p1 p2 p3 (fV.mono (by omega)) (by omega) hBB)
    · have hK1 : ¬ K < (0 : Int) := hK0
      have ht0 : 999900 < s.tests := by
        rcases Decidable.em (999900 < s.tests) with h | h
        · exact h
        · exfalso
          have h2 : delOk s id = true := by
            unfold delOk
            rw [E1.out, decide_eq_true (show 0 ≤ findIdx s.items id by rw [← HK.out]; omega), decide_eq_true (show s.tests ≤ 999900 by omega)]; rfl
          rw [h2] at hno; cases hno
      have bS3 := bS.bw hB3
      have y0 := bS3.c 0 _ rfl
      have y1 := bS3.c 1 _ rfl
      have y2 := bS3.c 2 _ rfl
      have y3 := bS3.c 3 _ rfl
      have yf := bS3.fr
      clear hno bS3
      have bR2 := bR.bw hB3
      have bO2 := bO.bw hB3
      have r0 := bR2.c 0 _ rfl
      have r1 := bR2.c 1 _ rfl
      have r2 := bR2.c 2 _ rfl
      have r3 := bR2.c 3 _ rfl
      have rf := bR2.fr
      have q0 := bO2.c 0 _ rfl
      have q1 := bO2.c 1 _ rfl
      have q2 := bO2.c 2 _ rfl
      have q3 := bO2.c 3 _ rfl
      have qf := bO2.fr
      have hBB := BV.then hB3
      have p1 := keepBw hB3 fItems_good o1
      have p2 := keepBw hB3 fNodes_good o2
      have p3 := keepBw hB3 fInts_good o3
      clear bR2 bO2 o1 o2 o3 bR bO
      go_wp2
      rw [HM1.out] at p1 ⊢
      rw [HM2.out] at p2 ⊢
      rw [HM3.out] at p3 ⊢
      refine bodyPost_ret (v := .tuple #[.agg #[.slice A1 s.items.length c1, .slice A2 s.wanted.length c2, .slice A3 s.best.length c3, .int .i64 s.tests], .bool false]) (by simp [results, Tryz.results21, go_sem, r0, r1, r2, r3]) rfl (stand_ret p1 p2 p3 (fV.mono (by omega)) (by omega) hBB)
  · rw [e1]
    clear e1 hno
    have bR2 := bR.bw hb2
    have bO2 := bO.bw hb2
    have r0 := bR2.c 0 _ rfl
    have r1 := bR2.c 1 _ rfl
    have r2 := bR2.c 2 _ rfl
    have r3 := bR2.c 3 _ rfl
    have rf := bR2.fr
    have q0 := bO2.c 0 _ rfl
    have q1 := bO2.c 1 _ rfl
    have q2 := bO2.c 2 _ rfl
    have q3 := bO2.c 3 _ rfl
    have qf := bO2.fr
    have hBB := BV.then hb2
    have p1 := keepBw hb2 fItems_good o1
    have p2 := keepBw hb2 fNodes_good o2
    have p3 := keepBw hb2 fInts_good o3
    clear bR2 bO2 o1 o2 o3 bR bO
    go_wp2
    rw [HM1.out] at p1 ⊢
    rw [HM2.out] at p2 ⊢
    rw [HM3.out] at p3 ⊢
    refine bodyPost_ret (v := .tuple #[.agg #[.slice A1 s.items.length c1, .slice A2 s.wanted.length c2, .slice A3 s.best.length c3, .int .i64 s.tests], .bool false]) (by simp [results, Tryz.results21, go_sem, r0, r1, r2, r3]) rfl (stand_ret p1 p2 p3 (fV.mono (by omega)) (by omega) hBB)
end Go.Proofs.YtfffklkiikmieaaGreat
