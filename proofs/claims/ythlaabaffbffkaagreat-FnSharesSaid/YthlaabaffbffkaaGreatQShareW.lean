/- Shared evaluation of several expressions, in both programs. -/
import Derived.Test.YthlaabaffbffkaaGreatQShareM
import Derived.Test.YthlaabaffbffkaaGreatQRefine
import Derived.Test.YthlaabaffbffkaaGreatQVoteA
import Derived.Test.YthlaabaffbffkaaGreatQWeakI
import Derived.Test.YthlaabaffbffkaaGreatQWeakS
import Derived.Test.YthlaabaffbffkaaGreatQTree
import Derived.Test.YthlaabaffbffkaaGreatQBoxT
import Derived.Test.YthlaabaffbffkaaGreatQLayers
namespace Go.Proofs.YthlaabaffbffkaaGreat
open Go.RowKit
set_option linter.unusedVariables false
set_option linter.unusedSimpArgs false
set_option maxRecDepth 100000 in
set_option maxHeartbeats 1600000 in
theorem I_IdsOf (w : World) (l : List GItem) (v : Value) (h : Rd rItems w l [v]) (hn : l.length ≤ 1048576) : Calls Tryz.prog 64 #[v] w (RetV w (Made fInts w.heap.size (allIds l))) := by
  obtain ⟨i0, hi, hz0, hz1, hz2⟩ := info_parts info_int
  obtain ⟨A, n, c, rfl, L0, Lc, Lm⟩ := rSl_open h
  unfold maxLen at Lm
  have L := Lib.hid L0
  clear L0
  rw [← L.out] at hn
  have A0 : Bw w (w.alloc (.cells #[] 3)) := (Bw.refl w).alloc _
  have hv0 := fSl_empty (e := 3) (sz := 1) (R := fInt) w
  have HH := Lib.hid h
  clear h
  go_enter Tryz.func64, Tryz.ntmps64
  go_wp2
  go_loopg [3, 9] n (fun gh s i w' => ∃ (k : Nat) (F : List Nat), k ≤ n ∧ gh = n - k ∧ i = .int .i64 k ∧ fInts w' (mapTo (fun x => x.id) l k) [s] F ∧ Fresh w.heap.size F ∧ Bw w w')
  case atStart => exact ⟨0, _, by omega, rfl, rfl, hv0, ⟨by simp, by simp⟩, A0⟩
  case round =>
    clear hv0
    obtain ⟨k, F, hk, rfl, rfl, hv, hF, hb⟩ := hrel
    by_cases hlt : k < n
    · have h := HH.out
      obtain ⟨x, hx⟩ := get_of_lt (xs := l) (k := k) (by have := L.out; omega)
      obtain ⟨ba, oa, Ax, cx, rfl, _, c0, c1, hix⟩ := rItems_at h hx
      replace c0 := hb.cell c0
      replace c1 := hb.cell c1
      have i1 : (0 : Int) ≤ (k : Int) := by omega
      have i2 : (k : Int) < (n : Int) := by omega
      have HMS := Lib.hid (mapTo_succ (f := fun x => x.id) hx)
      have HL := Lib.hid (mapTo_len (fun x => x.id) l k)
      obtain ⟨M, hM⟩ : ∃ M, M = x.vals.length := ⟨_, rfl⟩
      rw [← hM] at c1
      obtain ⟨W1, hW1⟩ : ∃ W1, W1 = wr.alloc (.cells #[.int .i64 x.id, .slice Ax M cx] 42) := ⟨_, rfl⟩
      have A1 : Bw wr W1 := by rw [hW1]; first | exact Bw.refl _ | exact (Bw.refl _).alloc _
      have hFm := (fInts_good (B := w.heap.size)).lt hv
      have hv2 := (fInts_good (B := w.heap.size)).bw A1 hb.size hv
      have hb1 := hb.then A1
      have hvW := (fInts_good (B := w.heap.size)).bw ((Bw.refl W1).alloc (.cells #[.int .i64 x.id] 3)) hb1.size hv2
      have hbW := hb1.alloc (.cells #[.int .i64 x.id] 3)
      have hcl := cell_one_new W1 (.int .i64 x.id) 3
      have hbs := hb.size
      have p0 : (wr.alloc (.cells #[.int .i64 x.id, .slice Ax M cx] 42)).cell? ⟨wr.heap.size, 0, none⟩ = some (.int .i64 x.id) := by go_simp
      have hzz : W1.heap.size = wr.heap.size + 1 := by rw [hW1] <;> simp
      rw [hzz] at hcl
      rw [hW1] at hvW hbW hcl
      clear hx hix hM hv hv2 h hzz hW1 A1 hb1
      go_wp2_with (at_builtin; refine wpList_push _ rfl (.tmp 13) (.tmp 16) 33 rfl w 3 i0 _ 1 8 Tryz.underlying33 hi hz0 hz1 hz2 rfl (by omega) fInt_good _ (mapTo (fun x => x.id) l k) F rfl hvW hF ⟨_, 0, none⟩ 1 rfl x.id [.int .i64 x.id] [] hcl ⟨rfl, rfl⟩ rfl _ hFm Fresh.nil hbs (by have := HL.out; omega) (by have := HL.out; omega) hbW ?_; intro v' w' F' hv' hF' hb')
      go_roundg (n - (k + 1))
      case measure => omega
      case rel => exact ⟨k + 1, F', by omega, rfl, by go_num, by rw [HMS.out]; exact hv', hF', hb'⟩
    · obtain rfl : k = n := by omega
      rw [mapTo_end (by rw [← L.out]; exact Nat.le_refl _)] at hv
      go_wp2
      go_ret
      exact ⟨_, rfl, ⟨F, hv, hF⟩, hb⟩
set_option maxRecDepth 100000 in
set_option maxHeartbeats 1600000 in
theorem S_IdsOf (w : World) (l : List GItem) (v : Value) (h : Rd rItems w l [v]) (hn : l.length ≤ 1048576) : Calls Tryz.prog 66 #[v] w (RetV w (Made fInts w.heap.size (allIds l))) := by
  obtain ⟨i0, hi, hz0, hz1, hz2⟩ := info_parts info_int
  obtain ⟨A, n, c, rfl, L0, Lc, Lm⟩ := rSl_open h
  unfold maxLen at Lm
  have L := Lib.hid L0
  clear L0
  rw [← L.out] at hn
  have A0 : Bw w (w.alloc (.cells #[] 3)) := (Bw.refl w).alloc _
  have hv0 := fSl_empty (e := 3) (sz := 1) (R := fInt) w
  have HH := Lib.hid h
  clear h
  go_enter Tryz.func66, Tryz.ntmps66
  go_wp2
  go_loopg [3, 4] n (fun gh s i w' => ∃ (k : Nat) (F : List Nat), k ≤ n ∧ gh = n - k ∧ i = .int .i64 k ∧ fInts w' (mapTo (fun x => x.id) l k) [s] F ∧ Fresh w.heap.size F ∧ Bw w w')
  case atStart => exact ⟨0, _, by omega, rfl, rfl, hv0, ⟨by simp, by simp⟩, A0⟩
  case round =>
    clear hv0
    obtain ⟨k, F, hk, rfl, rfl, hv, hF, hb⟩ := hrel
    by_cases hlt : k < n
    · have h := HH.out
      obtain ⟨x, hx⟩ := get_of_lt (xs := l) (k := k) (by have := L.out; omega)
      obtain ⟨ba, oa, Ax, cx, rfl, _, c0, c1, hix⟩ := rItems_at h hx
      replace c0 := hb.cell c0
      replace c1 := hb.cell c1
      have i1 : (0 : Int) ≤ (k : Int) := by omega
      have i2 : (k : Int) < (n : Int) := by omega
      have HMS := Lib.hid (mapTo_succ (f := fun x => x.id) hx)
      have HL := Lib.hid (mapTo_len (fun x => x.id) l k)
      obtain ⟨M, hM⟩ : ∃ M, M = x.vals.length := ⟨_, rfl⟩
      rw [← hM] at c1
      obtain ⟨W1, hW1⟩ : ∃ W1, W1 = wr := ⟨_, rfl⟩
      have A1 : Bw wr W1 := by rw [hW1]; first | exact Bw.refl _ | exact (Bw.refl _).alloc _
      have hFm := (fInts_good (B := w.heap.size)).lt hv
      have hv2 := (fInts_good (B := w.heap.size)).bw A1 hb.size hv
      have hb1 := hb.then A1
      have hvW := (fInts_good (B := w.heap.size)).bw ((Bw.refl W1).alloc (.cells #[.int .i64 x.id] 3)) hb1.size hv2
      have hbW := hb1.alloc (.cells #[.int .i64 x.id] 3)
      have hcl := cell_one_new W1 (.int .i64 x.id) 3
      have hbs := hb.size
      have p0 : (wr.alloc (.cells #[.int .i64 x.id, .slice Ax M cx] 42)).cell? ⟨wr.heap.size, 0, none⟩ = some (.int .i64 x.id) := by go_simp
      have hzz : W1.heap.size = wr.heap.size := by rw [hW1] <;> simp
      rw [hzz] at hcl
      rw [hW1] at hvW hbW hcl
      clear hx hix hM hv hv2 h hzz hW1 A1 hb1
      go_wp2_with (at_builtin; refine wpList_push _ rfl (.tmp 12) (.tmp 18) 33 rfl w 3 i0 _ 1 8 Tryz.underlying33 hi hz0 hz1 hz2 rfl (by omega) fInt_good _ (mapTo (fun x => x.id) l k) F rfl hvW hF ⟨_, 0, none⟩ 1 rfl x.id [.int .i64 x.id] [] hcl ⟨rfl, rfl⟩ rfl _ hFm Fresh.nil hbs (by have := HL.out; omega) (by have := HL.out; omega) hbW ?_; intro v' w' F' hv' hF' hb')
      go_roundg (n - (k + 1))
      case measure => omega
      case rel => exact ⟨k + 1, F', by omega, rfl, by go_num, by rw [HMS.out]; exact hv', hF', hb'⟩
    · obtain rfl : k = n := by omega
      rw [mapTo_end (by rw [← L.out]; exact Nat.le_refl _)] at hv
      go_wp2
      go_ret
      exact ⟨_, rfl, ⟨F, hv, hF⟩, hb⟩
set_option maxRecDepth 100000 in
set_option maxHeartbeats 6400000 in
theorem I_ShareBest_yes (w : World) (l : List GItem) (g : List (List GNode)) (v u : Value) (h : Rd rItems w l [v]) (h' : Rd rNodess w g [u]) (hP : isPoll l g = true) : Calls Tryz.prog 8 #[v, u] w (RetV w (Two fIntss w.heap.size (outsTo l g g.length) (.int .i64 (workTo l g g.length)))) := by
  obtain ⟨i0, hi, hz0, hz1, hz2⟩ := info_parts info_row
  have A0 : Bw w (w.alloc (.cells #[] 33)) := (Bw.refl w).alloc _
  have hv0 := fSl_empty (e := 33) (sz := 1) (R := fInts) w
  have hcall0 := I_isPoll _ l g _ _ (h.bw rItems_good A0) (h'.bw rNodess_good A0)
  rw [hP] at hcall0
  obtain ⟨A2, n2, c2, rfl, L20, L2c, L2m⟩ := rSl_open h'
  unfold maxLen at L2m
  have L2 := Lib.hid L20
  clear L20
  have n16 : l.length ≤ 16 := areItems_len (isPoll_items hP)
  have n5 : n2 ≤ 5 := by rw [L2.out]; exact (areVoters_len (isPoll_voters hP)).2
  have H16 := Lib.hid n16
  have HH := Lib.hid h
  have HH' := Lib.hid h'
  clear hP h h' n16
  go_enter Tryz.func8, Tryz.ntmps8
  go_wp2_with fail
  refine (hcall0).mono ?_
  rintro e w1 ⟨rfl, hb1⟩
  have B1 := A0.then hb1
  have hv1 := (fIntss_good (B := w.heap.size)).bw hb1 A0.size hv0
  clear hcall0 hv0 hb1
  go_wp2
  go_loopg [6, 7, 21] n2 (fun gh s t i w' => ∃ (k : Nat) (q : Int) (F : List Nat), k ≤ n2 ∧ gh = n2 - k ∧ i = .int .i64 k ∧ t = .int .i64 q ∧ Hid (q = workTo l g k) ∧ fIntss w' (outsTo l g k) [s] F ∧ Fresh w.heap.size F ∧ Bw w w')
  case atStart => exact ⟨0, 0, _, by omega, rfl, rfl, rfl, Lib.hid rfl, hv1, ⟨by simp, by simp⟩, B1⟩
  case round =>
    clear hv1 B1
    obtain ⟨k, q, F, hk, rfl, rfl, rfl, HQ, hv, hF, hb⟩ := hrel
    rename World => wo
    have ho := fIntss_Rd hv
    obtain ⟨Ao, no, co, rfl, Lo0, Loc, Lom⟩ := rSl_open ho
    unfold maxLen at Lom
    have Lo := Lib.hid Lo0
    clear Lo0
    have hno : no = k := by rw [Lo.out, outsTo_len]
    subst hno
    by_cases hlt : no < n2
    · have h' := HH'.out
      obtain ⟨e, he⟩ := get_of_lt (xs := g) (k := no) (by have := L2.out; omega)
      obtain ⟨bg, og, Ae, ce, rfl, _, d0, hie⟩ := rNodess_at h' he
      replace d0 := hb.cell d0
      have i1 : (0 : Int) ≤ (no : Int) := by omega
      have i2 : (no : Int) < (n2 : Int) := by omega
      have HE := Lib.hid he
      have HIE := Lib.hid (fun W (B : Bw wo W) => Rd.bw rNodes_good hie (hb.then B))
      obtain ⟨ME, hME⟩ : ∃ ME, ME = e.length := ⟨_, rfl⟩
      rw [← hME] at d0 HIE
      have hcall1 := I_IdsOf wo l _ (HH.out.bw rItems_good hb) (by have := H16.out; omega)
      have hvw := fun W (B : Bw wo W) => (fIntss_good (B := w.heap.size)).bw B hb.size hv
      have HVW := Lib.hid hvw
      have HFm := Lib.hid ((fIntss_good (B := 0)).lt hv)
      clear he hie hME h' ho hv hvw
      go_wp2_with fail
      refine (hcall1).mono ?_
      rintro e w3 ⟨v3, rfl, ⟨F3, o3, f3⟩, hb3⟩
      have r3 := fInts_Rd o3
      clear o3 f3 hcall1
      have b3 := hb.then hb3
      go_wp2
      go_loopg [10, 32] no (fun gh s i w' => ∃ (j : Nat), j ≤ no ∧ gh = no - j ∧ i = .int .i64 j ∧ Rd rInts w' (fromTo l g (outsTo l g no) e j) [s] ∧ Bw w3 w')
      case atStart => exact ⟨0, by omega, rfl, rfl, r3, Bw.refl _⟩
      case round =>
        clear r3
        obtain ⟨j, hj, rfl, rfl, r3, hbj⟩ := hrel
        have hbw := b3.then hbj
        have hbo := hb3.then hbj
        obtain ⟨A3, m, c3, rfl, L30, L3c, L3m⟩ := rSl_open r3
        unfold maxLen at L3m
        have L3 := Lib.hid L30
        clear L30
        have hvr := HVW.out _ hbo
        by_cases hlt2 : j < no
        · have h' := HH'.out
          have ho := fIntss_Rd hvr
          obtain ⟨p, hp⟩ := get_of_lt (xs := g) (k := j) (by have := L2.out; omega)
          obtain ⟨o, hoj⟩ := get_of_lt (xs := (outsTo l g no)) (k := j) (by have := Lo.out; omega)
          obtain ⟨b4, o4, Ap, cp, e4, _, d4, hip⟩ := rNodess_at h' hp
          injection e4 with e4
          injection e4 with e41 e42
          subst e41 e42
          obtain ⟨b5, o5, A5, c5, rfl, _, d5, hio⟩ := rIntss_at ho hoj
          replace d4 := hbw.cell d4
          have i3 : (0 : Int) ≤ (j : Int) := by omega
          have i4 : (j : Int) < (no : Int) := by omega
          have hYES := Lib.hid (fun h1 h2 => fromTo_yes (l := l) hp hoj (q := e) h1 h2)
          have hNO := Lib.hid (fun h1 => fromTo_no (l := l) hp hoj (q := e) h1)
          have hcall := I_IsWeaker wr p e _ _ (Rd.bw rNodes_good hip hbw) (HIE.out _ hbo)
          obtain ⟨MP, hMP⟩ : ∃ MP, MP = p.length := ⟨_, rfl⟩
          rw [← hMP] at hcall d4
          obtain ⟨z, hz⟩ : ∃ z, z = isWeaker p e := ⟨_, rfl⟩
          rw [← hz] at hcall
          have HZ := Lib.hid hz
          obtain ⟨m5, hm5⟩ : ∃ m5, m5 = o.length := ⟨_, rfl⟩
          have HM5 := Lib.hid hm5
          rw [← hm5] at d5 hio
          have HIO := Lib.hid hio
          have HR3 := Lib.hid r3
          clear hp hoj hip hMP hz hm5 hio r3 h' ho hvr
          by_cases h5 : m5 < m
          · have i5 : (m5 : Int) < (m : Int) := by omega
            go_wp2_with fail
            refine (hcall).mono ?_
            rintro e w4 ⟨rfl, hb4⟩
            clear hcall
            replace d5 := hb4.cell d5
            have hbj4 := hbj.then hb4
            cases z with
            | true =>
              have HX := Lib.hid (hYES.out HZ.out.symm (by rw [← HM5.out, ← L3.out]; exact h5))
              have r4 := Rd.bw rInts_good HIO.out hb4
              clear hYES hNO h5
              go_wp2
              go_roundg (no - (j + 1))
              case measure => omega
              case rel => exact ⟨j + 1, by omega, rfl, by go_num, by rw [HX.out]; exact r4, hbj4⟩
            | false =>
              have HX := Lib.hid (hNO.out (.inl HZ.out.symm))
              have r4 := Rd.bw rInts_good HR3.out hb4
              clear hYES hNO h5
              go_wp2
              go_roundg (no - (j + 1))
              case measure => omega
              case rel => exact ⟨j + 1, by omega, rfl, by go_num, by rw [HX.out]; exact r4, hbj4⟩
          · have i5 : ¬ (m5 : Int) < (m : Int) := by omega
            have HX := Lib.hid (hNO.out (.inr (by rw [← HM5.out, ← L3.out]; exact h5)))
            have r4 := HR3.out
            clear hYES hNO h5 hcall
            go_wp2
            go_roundg (no - (j + 1))
            case measure => omega
            case rel => exact ⟨j + 1, by omega, rfl, by go_num, by rw [HX.out]; exact r4, hbj⟩
        · obtain rfl : j = no := by omega
          obtain ⟨X, hX⟩ : ∃ X, X = fromTo l g (outsTo l g j) e j := ⟨_, rfl⟩
          rw [← hX] at r3 L3
          have hm16 : m ≤ 16 := by
            have h1 := fromTo_small (g := g) (q := e) (outsTo_small l g j) j
            have := L3.out; rw [hX] at this; have := H16.out; omega
          have HO := Lib.hid (outsTo_succ (l := l) HE.out)
          have HWK := Lib.hid (workTo_succ (l := l) HE.out)
          rw [← hX] at HO HWK
          have hwb := workTo_bound (g := g) H16.out j
          rw [← HQ.out] at hwb HWK
          rw [← L3.out] at HWK
          obtain ⟨M2, hM2⟩ : ∃ M2 : Nat, M2 = m * m := ⟨_, rfl⟩
          have hM : M2 ≤ 256 := by rw [hM2]; exact Nat.le_trans (Nat.mul_le_mul hm16 hm16) (by decide)
          have hmm : (m : Int) * (m : Int) = (M2 : Int) := by rw [hM2, Int.natCast_mul]
          rw [hmm] at HWK
          have hcall := I_RefineBest wr l X e _ _ _ (HH.out.bw rItems_good hbw) r3 (HIE.out _ hbo) (by have := H16.out; omega)
          obtain ⟨Y, hY⟩ : ∃ Y, Y = refineM l X e := ⟨_, rfl⟩
          have hYl : Y.length ≤ 16 := by rw [hY]; have := refine_len l X e; have := H16.out; omega
          rw [← hY] at hcall HO
          have hvl := outsTo_len l g j
          have HVL := Lib.hid hvl
          clear hX hM2 r3 hY hvl
          go_wp2_with fail
          refine hcall.mono ?_
          rintro e' w5 ⟨v5, rfl, ⟨F5, o5, f5⟩, hb5⟩
          obtain ⟨A5, c5, rfl, _⟩ := rSl_shape (fInts_Rd o5)
          have hbb := hbw.then hb5
          have hbo5 := hbo.then hb5
          have hv5 := HVW.out _ hbo5
          have hFm := HFm.out
          obtain ⟨M5, hM5⟩ : ∃ M5, M5 = Y.length := ⟨_, rfl⟩
          rw [← hM5] at o5 ⊢
          have hAl := (Bw.refl w5).alloc (.cells #[.slice A5 M5 c5] 33)
          have hvW := (fIntss_good (B := w.heap.size)).bw hAl hbb.size hv5
          have oW := (fInts_good (B := w.heap.size)).bw hAl hbb.size o5
          have hbW := hbb.then hAl
          have hcl := cell_one_new w5 (.slice A5 M5 c5) 33
          have hbs := hb.size
          have f5' := f5.mono hbo.size
          clear hv5 o5 hvr hcall hM5
          go_wp2_with (at_builtin; refine wpList_push _ rfl (.tmp 62) (.tmp 67) 28 rfl w 33 i0 _ 1 24 Tryz.underlying28 hi hz0 hz1 hz2 rfl (by omega) fInts_good _ (outsTo l g j) F rfl hvW hF ⟨w5.heap.size, 0, none⟩ 1 rfl Y [.slice A5 M5 c5] F5 hcl oW rfl wo.heap.size hFm f5' hbs (by rw [HVL.out]; omega) (by rw [HVL.out]; omega) hbW ?_; intro v6 w6 F6 hv6 hF6 hb6)
          have HQ2 := Lib.hid (show q + (M2 : Int) = workTo l g (j + 1) from HWK.out.symm)
          obtain ⟨q2, hq2⟩ : ∃ q2, q2 = q + (M2 : Int) := ⟨_, rfl⟩
          rw [← hq2] at HQ2 ⊢
          go_roundg (n2 - (j + 1))
          case measure => omega
          case rel => exact ⟨j + 1, q2, F6, by omega, rfl, by go_num, rfl, HQ2, by rw [HO.out]; exact hv6, hF6, hb6⟩
    · obtain rfl : no = n2 := by omega
      have hv' : fIntss wo (outsTo l g g.length) [.slice Ao no co] F := by rw [← L2.out]; exact hv
      have HW := Lib.hid (show q = workTo l g g.length by rw [← L2.out]; exact HQ.out)
      clear ho hv
      go_wp2
      refine bodyPost_ret (v := .tuple #[.slice Ao no co, .int .i64 q]) (by simp [results, Tryz.results8, go_sem]) rfl (RetV.two (F := F) hv' hF (by rw [HW.out]) hb)
set_option maxRecDepth 100000 in
set_option maxHeartbeats 6400000 in
theorem S_ShareBest_yes (w : World) (l : List GItem) (g : List (List GNode)) (v u : Value) (h : Rd rItems w l [v]) (h' : Rd rNodess w g [u]) (hP : isPoll l g = true) : Calls Tryz.prog 9 #[v, u] w (RetV w (Two fIntss w.heap.size (outsTo l g g.length) (.int .i64 (workTo l g g.length)))) := by
  obtain ⟨i0, hi, hz0, hz1, hz2⟩ := info_parts info_row
  have A0 : Bw w (w.alloc (.cells #[] 33)) := (Bw.refl w).alloc _
  have hv0 := fSl_empty (e := 33) (sz := 1) (R := fInts) w
  have hcall0 := S_l12Fine _ l g _ _ (h.bw rItems_good A0) (h'.bw rNodess_good A0)
  rw [hP] at hcall0
  obtain ⟨A2, n2, c2, rfl, L20, L2c, L2m⟩ := rSl_open h'
  unfold maxLen at L2m
  have L2 := Lib.hid L20
  clear L20
  have n16 : l.length ≤ 16 := areItems_len (isPoll_items hP)
  have n5 : n2 ≤ 5 := by rw [L2.out]; exact (areVoters_len (isPoll_voters hP)).2
  have H16 := Lib.hid n16
  have HH := Lib.hid h
  have HH' := Lib.hid h'
  clear hP h h' n16
  go_enter Tryz.func9, Tryz.ntmps9
  go_wp2_with fail
  refine (hcall0).mono ?_
  rintro e w1 ⟨rfl, hb1⟩
  have B1 := A0.then hb1
  have hv1 := (fIntss_good (B := w.heap.size)).bw hb1 A0.size hv0
  clear hcall0 hv0 hb1
  go_wp2
  go_loopg [6, 7, 8] n2 (fun gh s t i w' => ∃ (k : Nat) (q : Int) (F : List Nat), k ≤ n2 ∧ gh = n2 - k ∧ i = .int .i64 k ∧ t = .int .i64 q ∧ Hid (q = workTo l g k) ∧ fIntss w' (outsTo l g k) [s] F ∧ Fresh w.heap.size F ∧ Bw w w')
  case atStart => exact ⟨0, 0, _, by omega, rfl, rfl, rfl, Lib.hid rfl, hv1, ⟨by simp, by simp⟩, B1⟩
  case round =>
    clear hv1 B1
    obtain ⟨k, q, F, hk, rfl, rfl, rfl, HQ, hv, hF, hb⟩ := hrel
    rename World => wo
    have ho := fIntss_Rd hv
    obtain ⟨Ao, no, co, rfl, Lo0, Loc, Lom⟩ := rSl_open ho
    unfold maxLen at Lom
    have Lo := Lib.hid Lo0
    clear Lo0
    have hno : no = k := by rw [Lo.out, outsTo_len]
    subst hno
    by_cases hlt : no < n2
    · have h' := HH'.out
      obtain ⟨e, he⟩ := get_of_lt (xs := g) (k := no) (by have := L2.out; omega)
      obtain ⟨bg, og, Ae, ce, rfl, _, d0, hie⟩ := rNodess_at h' he
      replace d0 := hb.cell d0
      have i1 : (0 : Int) ≤ (no : Int) := by omega
      have i2 : (no : Int) < (n2 : Int) := by omega
      have HE := Lib.hid he
      have HIE := Lib.hid (fun W (B : Bw wo W) => Rd.bw rNodes_good hie (hb.then B))
      obtain ⟨ME, hME⟩ : ∃ ME, ME = e.length := ⟨_, rfl⟩
      rw [← hME] at d0 HIE
      have hcall1 := S_IdsOf wo l _ (HH.out.bw rItems_good hb) (by have := H16.out; omega)
      have hvw := fun W (B : Bw wo W) => (fIntss_good (B := w.heap.size)).bw B hb.size hv
      have HVW := Lib.hid hvw
      have HFm := Lib.hid ((fIntss_good (B := 0)).lt hv)
      clear he hie hME h' ho hv hvw
      go_wp2_with fail
      refine (hcall1).mono ?_
      rintro e w3 ⟨v3, rfl, ⟨F3, o3, f3⟩, hb3⟩
      have r3 := fInts_Rd o3
      clear o3 f3 hcall1
      have b3 := hb.then hb3
      go_wp2
      go_loopg [9, 10] no (fun gh s i w' => ∃ (j : Nat), j ≤ no ∧ gh = no - j ∧ i = .int .i64 j ∧ Rd rInts w' (fromTo l g (outsTo l g no) e j) [s] ∧ Bw w3 w')
      case atStart => exact ⟨0, by omega, rfl, rfl, r3, Bw.refl _⟩
      case round =>
        clear r3
        obtain ⟨j, hj, rfl, rfl, r3, hbj⟩ := hrel
        have hbw := b3.then hbj
        have hbo := hb3.then hbj
        obtain ⟨A3, m, c3, rfl, L30, L3c, L3m⟩ := rSl_open r3
        unfold maxLen at L3m
        have L3 := Lib.hid L30
        clear L30
        have hvr := HVW.out _ hbo
        by_cases hlt2 : j < no
        · have h' := HH'.out
          have ho := fIntss_Rd hvr
          obtain ⟨p, hp⟩ := get_of_lt (xs := g) (k := j) (by have := L2.out; omega)
          obtain ⟨o, hoj⟩ := get_of_lt (xs := (outsTo l g no)) (k := j) (by have := Lo.out; omega)
          obtain ⟨b4, o4, Ap, cp, e4, _, d4, hip⟩ := rNodess_at h' hp
          injection e4 with e4
          injection e4 with e41 e42
          subst e41 e42
          obtain ⟨b5, o5, A5, c5, rfl, _, d5, hio⟩ := rIntss_at ho hoj
          replace d4 := hbw.cell d4
          have i3 : (0 : Int) ≤ (j : Int) := by omega
          have i4 : (j : Int) < (no : Int) := by omega
          have hYES := Lib.hid (fun h1 h2 => fromTo_yes (l := l) hp hoj (q := e) h1 h2)
          have hNO := Lib.hid (fun h1 => fromTo_no (l := l) hp hoj (q := e) h1)
          have hcall : ∀ s : Since wr, Calls Tryz.prog 20 _ s.1 (Ret s.1 (.bool (isWeaker p e))) := fun s => S_IsWeaker s.1 p e _ _ (Rd.bw rNodes_good hip (hbw.then s.bw)) (HIE.out _ (hbo.then s.bw))
          obtain ⟨MP, hMP⟩ : ∃ MP, MP = p.length := ⟨_, rfl⟩
          rw [← hMP] at hcall d4
          obtain ⟨z, hz⟩ : ∃ z, z = isWeaker p e := ⟨_, rfl⟩
          rw [← hz] at hcall
          have HZ := Lib.hid hz
          obtain ⟨m5, hm5⟩ : ∃ m5, m5 = o.length := ⟨_, rfl⟩
          have HM5 := Lib.hid hm5
          rw [← hm5] at d5 hio
          have HIO := Lib.hid hio
          have HR3 := Lib.hid r3
          have d6 := hbo.cell d0
          have s4 := since_cell d4
          have s5 := since_cell d5
          have s6 := since_cell d6
          clear hp hoj hip hMP hz hm5 hio r3 h' ho hvr d6
          cases z with
          | true =>
            by_cases h5 : m5 < m
            · have i5 : (m5 : Int) < (m : Int) := by omega
              have HX := Lib.hid (hYES.out HZ.out.symm (by rw [← HM5.out, ← L3.out]; exact h5))
              clear hYES hNO h5
              go_wp2_with fail
              refine wp_region_since (by kernel_rfl) (by kernel_rfl) ?_
              repeat (first | go_big_quiet_skip | (go_big_quiet_want; go_big_quiet_op; first | go_big_quiet_on | (apply Exists.intro; refine ⟨fun _ => ?_, ?_⟩; (· (((first | (go_at_call 20; exact Calls_since (hcall _)))))); go_big_quiet_on)))
              refine wpQuiet_nil ?_
              rintro ⟨wq, hbq⟩
              dsimp only at *
              have d7 := hbq.cell d5
              have r4 := Rd.bw rInts_good HIO.out hbq
              have hbj4 := hbj.then hbq
              clear hcall s4 s5 s6
              go_wp2
              go_roundg (no - (j + 1))
              case measure => omega
              case rel => exact ⟨j + 1, by omega, rfl, by go_num, by rw [HX.out]; exact r4, hbj4⟩
            · have i5 : ¬ (m5 : Int) < (m : Int) := by omega
              have HX := Lib.hid (hNO.out (.inr (by rw [← HM5.out, ← L3.out]; exact h5)))
              clear hYES hNO h5
              go_wp2_with fail
              refine wp_region_since (by kernel_rfl) (by kernel_rfl) ?_
              repeat (first | go_big_quiet_skip | (go_big_quiet_want; go_big_quiet_op; first | go_big_quiet_on | (apply Exists.intro; refine ⟨fun _ => ?_, ?_⟩; (· (((first | (go_at_call 20; exact Calls_since (hcall _)))))); go_big_quiet_on)))
              refine wpQuiet_nil ?_
              rintro ⟨wq, hbq⟩
              dsimp only at *
              have r4 := Rd.bw rInts_good HR3.out hbq
              have hbj4 := hbj.then hbq
              clear hcall s4 s5 s6
              go_wp2
              go_roundg (no - (j + 1))
              case measure => omega
              case rel => exact ⟨j + 1, by omega, rfl, by go_num, by rw [HX.out]; exact r4, hbj4⟩
          | false =>
            have HX := Lib.hid (hNO.out (.inl HZ.out.symm))
            clear hYES hNO
            go_wp2_with fail
            refine wp_region_since (by kernel_rfl) (by kernel_rfl) ?_
            repeat (first | go_big_quiet_skip | (go_big_quiet_want; go_big_quiet_op; first | go_big_quiet_on | (apply Exists.intro; refine ⟨fun _ => ?_, ?_⟩; (· (((first | (go_at_call 20; exact Calls_since (hcall _)))))); go_big_quiet_on)))
            refine wpQuiet_nil ?_
            rintro ⟨wq, hbq⟩
            dsimp only at *
            have r4 := Rd.bw rInts_good HR3.out hbq
            have hbj4 := hbj.then hbq
            clear hcall s4 s5 s6
            go_wp2
            go_roundg (no - (j + 1))
            case measure => omega
            case rel => exact ⟨j + 1, by omega, rfl, by go_num, by rw [HX.out]; exact r4, hbj4⟩
        · obtain rfl : j = no := by omega
          obtain ⟨X, hX⟩ : ∃ X, X = fromTo l g (outsTo l g j) e j := ⟨_, rfl⟩
          rw [← hX] at r3 L3
          have hm16 : m ≤ 16 := by
            have h1 := fromTo_small (g := g) (q := e) (outsTo_small l g j) j
            have := L3.out; rw [hX] at this; have := H16.out; omega
          have HO := Lib.hid (outsTo_succ (l := l) HE.out)
          have HWK := Lib.hid (workTo_succ (l := l) HE.out)
          rw [← hX] at HO HWK
          have hwb := workTo_bound (g := g) H16.out j
          rw [← HQ.out] at hwb HWK
          rw [← L3.out] at HWK
          obtain ⟨M2, hM2⟩ : ∃ M2 : Nat, M2 = m * m := ⟨_, rfl⟩
          have hM : M2 ≤ 256 := by rw [hM2]; exact Nat.le_trans (Nat.mul_le_mul hm16 hm16) (by decide)
          have hmm : (m : Int) * (m : Int) = (M2 : Int) := by rw [hM2, Int.natCast_mul]
          rw [hmm] at HWK
          have hcall := S_RefineBest wr l X e _ _ _ (HH.out.bw rItems_good hbw) r3 (HIE.out _ hbo) (by have := H16.out; omega)
          obtain ⟨Y, hY⟩ : ∃ Y, Y = refineM l X e := ⟨_, rfl⟩
          have hYl : Y.length ≤ 16 := by rw [hY]; have := refine_len l X e; have := H16.out; omega
          rw [← hY] at hcall HO
          have hvl := outsTo_len l g j
          have HVL := Lib.hid hvl
          have d6 := hbo.cell d0
          clear hX hM2 r3 hY hvl
          go_wp2_with fail
          refine hcall.mono ?_
          rintro e' w5 ⟨v5, rfl, ⟨F5, o5, f5⟩, hb5⟩
          obtain ⟨A5, c5, rfl, _⟩ := rSl_shape (fInts_Rd o5)
          have hbb := hbw.then hb5
          have hbo5 := hbo.then hb5
          have hv5 := HVW.out _ hbo5
          have hFm := HFm.out
          obtain ⟨M5, hM5⟩ : ∃ M5, M5 = Y.length := ⟨_, rfl⟩
          rw [← hM5] at o5 ⊢
          have hAl := (Bw.refl w5).alloc (.cells #[.slice A5 M5 c5] 33)
          have hvW := (fIntss_good (B := w.heap.size)).bw hAl hbb.size hv5
          have oW := (fInts_good (B := w.heap.size)).bw hAl hbb.size o5
          have hbW := hbb.then hAl
          have hcl := cell_one_new w5 (.slice A5 M5 c5) 33
          have hbs := hb.size
          have f5' := f5.mono hbo.size
          clear hv5 o5 hvr hcall hM5
          go_wp2_with (at_builtin; refine wpList_push _ rfl (.tmp 53) (.tmp 61) 28 rfl w 33 i0 _ 1 24 Tryz.underlying28 hi hz0 hz1 hz2 rfl (by omega) fInts_good _ (outsTo l g j) F rfl hvW hF ⟨w5.heap.size, 0, none⟩ 1 rfl Y [.slice A5 M5 c5] F5 hcl oW rfl wo.heap.size hFm f5' hbs (by rw [HVL.out]; omega) (by rw [HVL.out]; omega) hbW ?_; intro v6 w6 F6 hv6 hF6 hb6)
          have HQ2 := Lib.hid (show q + (M2 : Int) = workTo l g (j + 1) from HWK.out.symm)
          obtain ⟨q2, hq2⟩ : ∃ q2, q2 = q + (M2 : Int) := ⟨_, rfl⟩
          rw [← hq2] at HQ2 ⊢
          go_roundg (n2 - (j + 1))
          case measure => omega
          case rel => exact ⟨j + 1, q2, F6, by omega, rfl, by go_num, rfl, HQ2, by rw [HO.out]; exact hv6, hF6, hb6⟩
    · obtain rfl : no = n2 := by omega
      have hv' : fIntss wo (outsTo l g g.length) [.slice Ao no co] F := by rw [← L2.out]; exact hv
      have HW := Lib.hid (show q = workTo l g g.length by rw [← L2.out]; exact HQ.out)
      clear ho hv
      go_wp2
      refine bodyPost_ret (v := .tuple #[.slice Ao no co, .int .i64 q]) (by simp [results, Tryz.results9, go_sem]) rfl (RetV.two (F := F) hv' hF (by rw [HW.out]) hb)
theorem share_yes {l : List GItem} {g : List (List GNode)} (h : isPoll l g = true) : shareL l g = outsTo l g g.length ∧ shareW l g = workTo l g g.length := by
  unfold shareL shareW; rw [if_pos h, if_pos h]; exact ⟨rfl, rfl⟩
theorem share_no {l : List GItem} {g : List (List GNode)} (h : isPoll l g = false) : shareL l g = [] ∧ shareW l g = 0 := by
  unfold shareL shareW; rw [h]; exact ⟨rfl, rfl⟩
set_option maxHeartbeats 800000 in
theorem I_ShareBest (w : World) (l : List GItem) (g : List (List GNode)) (v u : Value) (h : Rd rItems w l [v]) (h' : Rd rNodess w g [u]) : Calls Tryz.prog 8 #[v, u] w (RetV w (Two fIntss w.heap.size (shareL l g) (.int .i64 (shareW l g)))) := by
  rcases Bool.eq_false_or_eq_true (isPoll l g) with hP | hP
  · rw [(share_yes hP).1, (share_yes hP).2]
    exact I_ShareBest_yes w l g v u h h' hP
  · rw [(share_no hP).1, (share_no hP).2]
    have A0 : Bw w (w.alloc (.cells #[] 33)) := (Bw.refl w).alloc _
    have hv0 := fSl_empty (e := 33) (sz := 1) (R := fInts) w
    have hcall0 := I_isPoll _ l g _ _ (h.bw rItems_good A0) (h'.bw rNodess_good A0)
    rw [hP] at hcall0
    clear hP h h'
    go_enter Tryz.func8, Tryz.ntmps8
    go_wp2_with fail
    refine (hcall0).mono ?_
    rintro e w1 ⟨rfl, hb1⟩
    have B1 := A0.then hb1
    have hv1 := (fIntss_good (B := w.heap.size)).bw hb1 A0.size hv0
    go_wp2
    refine bodyPost_ret (v := .tuple #[.slice (some ⟨w.heap.size, 0, none⟩) 0 0, .int .i64 0]) (by simp [results, Tryz.results8, go_sem]) rfl (RetV.two (F := [w.heap.size]) hv1 ⟨by simp, by simp⟩ rfl B1)
set_option maxHeartbeats 800000 in
theorem S_ShareBest (w : World) (l : List GItem) (g : List (List GNode)) (v u : Value) (h : Rd rItems w l [v]) (h' : Rd rNodess w g [u]) : Calls Tryz.prog 9 #[v, u] w (RetV w (Two fIntss w.heap.size (shareL l g) (.int .i64 (shareW l g)))) := by
  rcases Bool.eq_false_or_eq_true (isPoll l g) with hP | hP
  · rw [(share_yes hP).1, (share_yes hP).2]
    exact S_ShareBest_yes w l g v u h h' hP
  · rw [(share_no hP).1, (share_no hP).2]
    have A0 : Bw w (w.alloc (.cells #[] 33)) := (Bw.refl w).alloc _
    have hv0 := fSl_empty (e := 33) (sz := 1) (R := fInts) w
    have hcall0 := S_l12Fine _ l g _ _ (h.bw rItems_good A0) (h'.bw rNodess_good A0)
    rw [hP] at hcall0
    clear hP h h'
    go_enter Tryz.func9, Tryz.ntmps9
    go_wp2_with fail
    refine (hcall0).mono ?_
    rintro e w1 ⟨rfl, hb1⟩
    have B1 := A0.then hb1
    have hv1 := (fIntss_good (B := w.heap.size)).bw hb1 A0.size hv0
    go_wp2
    refine bodyPost_ret (v := .tuple #[.slice (some ⟨w.heap.size, 0, none⟩) 0 0, .int .i64 0]) (by simp [results, Tryz.results9, go_sem]) rfl (RetV.two (F := [w.heap.size]) hv1 ⟨by simp, by simp⟩ rfl B1)
end Go.Proofs.YthlaabaffbffkaaGreat
