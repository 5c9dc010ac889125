/- Comparisons of items by an expression in the program. -/
import Derived.Test.YtpihighajaeabaaGreatQCompS
import Derived.Test.YtpihighajaeabaaGreatQCmpS
import Derived.Deep.WholeRow
namespace Go.Proofs.YtpihighajaeabaaGreat
open Go.RowKit
set_option linter.unusedVariables false
set_option linter.unusedSimpArgs false
theorem set_last2 {T : List Int} {a b r : Int} {m : Nat} (h : T.length = m) : (T ++ [a, b]).set m r = (T ++ [r]) ++ [b] := by
  rw [← h, List.set_append_right _ _ (Nat.le_refl _)]; simp
set_option maxRecDepth 100000 in
set_option maxHeartbeats 6400000 in
theorem I_compareBy (w : World) (e : List GNode) (p q : GItem) (ve v1 v2 : Value) (h : Rd rNodes w e [ve]) (h1 : Rd rInts w p.vals [v1]) (h2 : Rd rInts w q.vals [v2]) (hE : isExpr e = true) (hp : isItem p = true) (hq : isItem q = true) :
    Calls Tryz.prog 78 #[ve, .agg #[.int .i64 p.id, v1], .agg #[.int .i64 q.id, v2]] w (Ret w (.int .i64 (cmpBy e p q))) := by
  obtain ⟨i0, hi, hz0, hz1, hz2⟩ := info_parts info_int
  obtain ⟨A, n, c, rfl, L0, Lc, Lm⟩ := rSl_open h
  unfold maxLen at Lm
  have L := Lib.hid L0
  clear L0
  have HP := Lib.hid hp
  have HQ := Lib.hid hq
  have DE := Lib.hid (isExpr_depth hE)
  have n9 : n ≤ 9 := by rw [L.out]; exact isExpr_len hE
  have hv0 := fSl_empty (e := 3) (sz := 1) (R := fInt) ((w.alloc (.cells #[.int .i64 p.id, v1] 30)).alloc (.cells #[.int .i64 q.id, v2] 30))
  rw [show ((w.alloc (.cells #[.int .i64 p.id, v1] 30)).alloc (.cells #[.int .i64 q.id, v2] 30)).heap.size = w.heap.size + 1 + 1 by simp] at hv0
  obtain ⟨wB, hwB⟩ : ∃ wB, wB = (w.alloc (.cells #[.int .i64 p.id, v1] 30)).alloc (.cells #[.int .i64 q.id, v2] 30) := ⟨_, rfl⟩
  have B0 : Bw w wB := by rw [hwB]; exact ((Bw.refl w).alloc _).alloc _
  have hsB : wB.heap.size = w.heap.size + 1 + 1 := by rw [hwB]; simp
  have ka0 : wB.cell? ⟨w.heap.size, 0, none⟩ = some (.int .i64 p.id) := by rw [hwB]; go_simp
  have ka1 : wB.cell? ⟨w.heap.size, 1, none⟩ = some v1 := by rw [hwB]; go_simp
  have kb0 : wB.cell? ⟨w.heap.size + 1, 0, none⟩ = some (.int .i64 q.id) := by rw [hwB]; go_simp
  have kb1 : wB.cell? ⟨w.heap.size + 1, 1, none⟩ = some v2 := by rw [hwB]; go_simp
  have B1' : Bw wB (((w.alloc (.cells #[.int .i64 p.id, v1] 30)).alloc (.cells #[.int .i64 q.id, v2] 30)).alloc (.cells #[] 3)) := by rw [hwB]; exact (Bw.refl _).alloc _
  have HSB := Lib.hid hsB
  clear hp hq hE hwB hsB
  go_enter Tryz.func78, Tryz.ntmps78
  go_wp2
  go_loopg [7, 14] n (fun g s i w' => ∃ (k m : Nat) (St : List Int) (F : List Nat) (A' : Option Addr) (c' : Nat), k ≤ n ∧ g = n - k ∧ i = .int .i64 k ∧ s = .slice A' m c' ∧ Hid (m = St.length) ∧ m ≤ k ∧ m ≤ c' ∧ fInts w' St [.slice A' m c'] F ∧ Fresh wB.heap.size F ∧ Hid (St = stackAt e p q k) ∧ Hid (depthOf (e.drop k) m = some 1) ∧ Hid (codes St) ∧ Bw wB w')
  case atStart => exact ⟨0, 0, [], _, _, _, by omega, rfl, rfl, rfl, Lib.hid rfl, by omega, by omega, hv0, ⟨by simp, by rw [HSB.out]; simp⟩, Lib.hid rfl, DE, Lib.hid (fun v hv => by simp at hv), B1'⟩
  case round =>
    clear hv0 B1'
    obtain ⟨k, m, St, F, A', c', hk, rfl, rfl, rfl, HL, hmk, hmc, hv, hF, HS, HD, HC, hb⟩ := hrel
    by_cases hlt : k < n
    · obtain ⟨x, hx⟩ := get_of_lt (xs := e) (k := k) (by have := L.out; omega)
      obtain ⟨ba, oa, Al, cl, Ap, cp, rfl, _, c0, c1', c2', c3, c4, c5, hl, hpr⟩ := rNodes_at h hx
      have i1 : (0 : Int) ≤ (k : Int) := by omega
      have i2 : (k : Int) < (n : Int) := by omega
      have hbw := B0.then hb
      replace c0 := hbw.cell c0
      replace c1' := hbw.cell c1'
      replace c2' := hbw.cell c2'
      replace c3 := hbw.cell c3
      replace c4 := hbw.cell c4
      replace c5 := hbw.cell c5
      have hbx := World.block_lt_of_cell? _ _ c0
      have A1 : Bw wr (wr.alloc (.cells #[.int .i64 x.op, .int .i64 x.wish.kind, .int .i64 x.wish.field, .int .i64 x.wish.value, .slice Al x.wish.list.length cl, .slice Ap x.wish.pairs.length cp] 111)) := (Bw.refl wr).alloc _
      have hbA := hb.then A1
      have hbwA := B0.then hbA
      have hl' := Rd.bw rInts_good hl hbwA
      have hp' := Rd.bw rPairs_good hpr hbwA
      have h1' := h1.bw rInts_good hbwA
      have h2' := h2.bw rInts_good hbwA
      have hvA := (fInts_good (B := wB.heap.size)).bw A1 hb.size hv
      obtain ⟨hok, hd2⟩ := depth_step HD.out hx
      have hop := nodeOk_op hok
      have hge := nodeOk_ge hok
      have HN := Lib.hid (stackAt_next (x := p) (y := q) hx)
      have HW := Lib.hid (fun o0 => nodeOk_wish hok o0)
      have HD2 := Lib.hid hd2
      have HH := Lib.hid h
      have hFm := (fInts_good (B := 0)).lt hvA
      have ka := hbA.cell ka0
      have ka' := hbA.cell ka1
      have kb := hbA.cell kb0
      have kb' := hbA.cell kb1
      clear hx h hl hpr hok hd2 hv
      by_cases o0 : x.op = 0
      · have q0 : (x.op == 0) = true := by simpa using o0
        have hcall : Calls Tryz.prog 160 _ _ (Ret _ (.int .i64 (cmpItem x.wish p q))) := I_CompareItems _ x.wish p q _ _ v1 v2 hl' hp' h1' h2' (HW.out o0) HP.out HQ.out
        have hcode := cmpItem_code x.wish p q
        obtain ⟨r, hr⟩ : ∃ r, r = cmpItem x.wish p q := ⟨_, rfl⟩
        rw [← hr] at hcode hcall
        have HS2 := Lib.hid (show St ++ [r] = stackAt e p q (k + 1) by rw [HN.out, ← HS.out, stack_base o0, hr])
        have HD3 := Lib.hid (show depthOf (e.drop (k + 1)) ((m + 1 : Nat) : Int) = some 1 by rw [← HD2.out, o0]; congr 1)
        have HC2 := Lib.hid (codes_snoc HC.out hcode)
        have HL2 := Lib.hid (show m + 1 = (St ++ [r]).length by rw [List.length_append, ← HL.out]; rfl)
        have HSm := Lib.hid (show St.length = m from HL.out.symm)
        clear o0 HN HS HD HD2 HC hr HW hcode h1' h2' hl' hp'
        go_wp2_with fail
        refine (hcall).mono ?_
        rintro e w1 ⟨rfl, hb1⟩
        have hbb := hbA.then hb1
        have hv1 := (fInts_good (B := wB.heap.size)).bw hb1 hbA.size hvA
        have hvW := (fInts_good (B := wB.heap.size)).bw ((Bw.refl w1).alloc (.cells #[.int .i64 r] 3)) hbb.size hv1
        have hbW := hbb.alloc (.cells #[.int .i64 r] 3)
        have hcl := cell_one_new w1 (.int .i64 r) 3
        have hb0 := hbA.size
        clear hcall hvA hv1
        go_wp2_with (at_builtin; refine wpList_push _ rfl (.tmp 45) (.tmp 51) 26 rfl wB 3 i0 _ 1 8 Tryz.underlying26 hi hz0 hz1 hz2 rfl (by omega) fInt_good _ St F rfl hvW hF ⟨w1.heap.size, 0, none⟩ 1 rfl r [.int .i64 r] [] hcl ⟨rfl, rfl⟩ rfl _ hFm Fresh.nil hb0 (by rw [HSm.out]; omega) (by rw [HSm.out]; omega) hbW ?_; intro v' w' F' hv' hF' hb')
        obtain ⟨A3, c3', rfl, hc3, _⟩ := rSl_shape (fInts_Rd hv')
        rw [← HL2.out] at hv' hc3 ⊢
        go_wp2
        go_roundg (n - (k + 1))
        case measure => omega
        case rel => exact ⟨k + 1, m + 1, St ++ [r], F', A3, c3', by omega, rfl, by go_num, rfl, HL2, by omega, hc3, hv', hF', HS2, HD3, HC2, hb'⟩
      · have q0 : (x.op == 0) = false := by simpa using o0
        by_cases o3 : x.op = 3
        · have q3 : (x.op == 3) = true := by simpa using o3
          rw [show opnds x.op = 1 by rw [o3]; rfl] at hge HD2
          obtain ⟨T, a, hSt⟩ := snoc1 (l := St) (by rw [← HL.out]; omega)
          subst hSt
          have hT : T.length = m - 1 := by have := HL.out; simp at this; omega
          obtain ⟨g, rfl, hz9, hgF⟩ := fSl_lit2 hvA (by simp)
          clear hz9
          have hc := own_cell hvA (at_last hT)
          have ha := HC.out a (by simp)
          have HS2 := Lib.hid (show T ++ [neg2 a] = stackAt e p q (k + 1) by rw [HN.out, ← HS.out, stack_dual o3])
          have HD3 := Lib.hid (show depthOf (e.drop (k + 1)) (m : Int) = some 1 by rw [← HD2.out]; congr 1; omega)
          have HC2 := Lib.hid (codes_snoc (codes_left HC.out) (neg2_code ha))
          have HL2 := Lib.hid (show m = (T ++ [neg2 a]).length by have := HL.out; simp at this ⊢; exact this)
          have j1 : (0 : Int) ≤ (m : Int) - 1 := by omega
          have j2 : (m : Int) - 1 < (m : Int) := by omega
          have HT := Lib.hid hT
          have m1 : 1 ≤ m := by omega
          clear o0 o3 HN HS HD HD2 HC HW hl' hp' h1' h2' hop hge hT
          by_cases a2 : a = 2
          · have q4 : (a != 2) = false := by simpa using a2
            have HS3 := Lib.hid (show T ++ [a] = stackAt e p q (k + 1) by rw [← HS2.out, neg2, if_pos a2, a2])
            have HC3 := Lib.hid (show codes (T ++ [a]) by have := HC2.out; rwa [neg2, if_pos a2, ← a2] at this)
            clear a2 HS2 HC2 HL2
            go_wp2
            go_roundg (n - (k + 1))
            case measure => omega
            case rel => exact ⟨k + 1, m, T ++ [a], F, _, c', by omega, rfl, by go_num, rfl, HL, by omega, hmc, hvA, hF, HS3, HD3, HC3, hbA⟩
          · have q4 : (a != 2) = true := by simpa using a2
            have hff := fSl_frozen hvA (m - 1)
            obtain ⟨F', hv', hF', hg, _, _⟩ := fSl_put (fInt_good (B := wB.heap.size)) hvA hF (k := m - 1) (y := -a) (u := [.int .i64 (-a)]) ⟨rfl, rfl⟩ rfl hFm Fresh.nil hbA.size (by have := HT.out; simp; omega)
            simp only [putCells, Nat.mul_one] at hv' hg
            rw [set_last HT.out] at hv'
            rw [show neg2 a = -a by rw [neg2, if_neg a2]] at HS2 HC2 HL2
            have hb' := hbA.grown hg (fun q hq => by injection hq with hq; have := hF.ge g hgF; omega)
            clear a2 hg hvA hF hFm hgF HL
            go_wp2
            go_roundg (n - (k + 1))
            case measure => omega
            case rel => exact ⟨k + 1, m, T ++ [-a], F', _, c', by omega, rfl, by go_num, rfl, HL2, by omega, hmc, hv', hF', HS2, HD3, HC2, hb'⟩
        · have q3 : (x.op == 3) = false := by simpa using o3
          have ho2 : x.op = 1 ∨ x.op = 2 ∨ x.op = 4 := by omega
          rw [show opnds x.op = 2 by rcases ho2 with h | h | h <;> rw [h] <;> rfl] at hge HD2
          obtain ⟨T, a, b, hSt⟩ := snoc2 (l := St) (by rw [← HL.out]; omega)
          subst hSt
          have hT : T.length = m - 2 := by have := HL.out; simp at this; omega
          have m2 : 2 ≤ m := by omega
          obtain ⟨g, rfl, hz9, hgF⟩ := fSl_lit2 hvA (by simp)
          clear hz9
          have hca := own_cell hvA (at_last2 hT)
          have hcb := own_cell (k := m - 1) hvA (at_last3 (by omega))
          have hff := fSl_frozen hvA (m - 2)
          have ha := HC.out a (by simp)
          have hbc := HC.out b (by simp)
          have hcode := comb_code (op := x.op) ha hbc
          have HS2 := Lib.hid (show T ++ [comb x.op a b] = stackAt e p q (k + 1) by rw [HN.out, ← HS.out, stack_two o0 o3])
          have HD3 := Lib.hid (show depthOf (e.drop (k + 1)) ((m - 1 : Nat) : Int) = some 1 by rw [← HD2.out]; congr 1; omega)
          have HC2 := Lib.hid (codes_snoc (codes_left HC.out) hcode)
          have HL2 := Lib.hid (show m - 1 = (T ++ [comb x.op a b]).length by rw [List.length_append, hT]; simp; omega)
          have HT := Lib.hid hT
          have hcall : ∀ W, Calls Tryz.prog 161 #[.int .i64 x.op, .int .i64 a, .int .i64 b] W (Same W (.int .i64 (comb x.op a b))) := fun W => I_combined_same W x.op a b ho2 ha hbc
          obtain ⟨r, hr⟩ : ∃ r, r = comb x.op a b := ⟨_, rfl⟩
          rw [← hr] at HS2 HC2 HL2
          simp only [← hr] at hcall
          have j1 : (0 : Int) ≤ (m : Int) - 2 := by omega
          have j2 : (m : Int) - 2 < (m : Int) := by omega
          have j3 : (0 : Int) ≤ (m : Int) - 1 := by omega
          have j4 : (m : Int) - 1 < (m : Int) := by omega
          have kx0 : (wr.alloc (.cells #[.int .i64 x.op, .int .i64 x.wish.kind, .int .i64 x.wish.field, .int .i64 x.wish.value, .slice Al x.wish.list.length cl, .slice Ap x.wish.pairs.length cp] 111)).cell? ⟨wr.heap.size, 0, none⟩ = some (.int .i64 x.op) := by go_simp
          obtain ⟨W, hW⟩ : ∃ W, W = wr.alloc (.cells #[.int .i64 x.op, .int .i64 x.wish.kind, .int .i64 x.wish.field, .int .i64 x.wish.value, .slice Al x.wish.list.length cl, .slice Ap x.wish.pairs.length cp] 111) := ⟨_, rfl⟩
          rw [← hW] at kx0 hca hcb hff hFm
          have hvd : fInts W.drew (T ++ [a, b]) [.slice (some ⟨g, 0, none⟩) m c'] F := by rw [hW]; exact (fInts_good (B := wB.heap.size)).bw ((Bw.refl _).drew) hbA.size hvA
          have hbd : Bw wB W.drew := by rw [hW]; exact hbA.drew
          obtain ⟨F', hv', hF', hg, _, _⟩ := fSl_put (fInt_good (B := wB.heap.size)) hvd hF (k := m - 2) (y := r) (u := [.int .i64 r]) ⟨rfl, rfl⟩ rfl (m := W.heap.size) hFm Fresh.nil hbd.size (by have := HT.out; simp; omega)
          simp only [putCells, Nat.mul_one] at hv' hg
          rw [set_last2 HT.out] at hv'
          have hvp := fInts_pop hv'
          rw [← HL2.out] at hvp
          have hb' := hbd.grown hg (fun q hq => by injection hq with hq; have := hF.ge g hgF; omega)
          clear o0 o3 ho2 HN HS HD HD2 HC HW hl' hp' h1' h2' hge hT hr ha hbc hv' hvd hg hgF hF hFm hvA hbA hbd hcode ka ka' kb kb' A1 hbwA
          go_wp2_with fail
          rw [← hW]
          obtain ⟨qq, hqq⟩ : ∃ qq, qq = wr.heap.size := ⟨_, rfl⟩
          rw [← hqq] at kx0 ⊢
          clear hW hqq
          refine wp_region_still_tail 17 (by kernel_rfl) (by kernel_rfl) ?_
          simp only [List.take_succ_cons, List.take_zero, List.drop_succ_cons, List.drop_zero]
          refine wpStill_of_quiet (w := W.drew) ?_
          repeat (first | go_big_quiet_skip | (go_big_quiet_want; go_big_quiet_op; first | go_big_quiet_on | (apply Exists.intro; refine ⟨?_, ?_⟩; (· first | exact hcall _ | (intro _; exact hcall _) | (intro _ hh; subst hh; exact hcall _)); go_big_quiet_on)))
          refine wpQuiet_nil ?_
          change wpList _ _ _ _ _ W.drew
          go_wp2
          go_roundg (n - (k + 1))
          case measure => omega
          case rel => exact ⟨k + 1, m - 1, T ++ [r], F', _, c', by omega, rfl, by go_num, rfl, HL2, by omega, by omega, hvp, hF', HS2, HD3, HC2, hb'⟩
    · obtain rfl : k = n := by omega
      have hm : (m : Int) = 1 := by
        have := HD.out
        rw [List.drop_of_length_le (by rw [← L.out]; exact Nat.le_refl _), depthOf] at this
        injection this
      obtain rfl : m = 1 := by omega
      obtain ⟨T, a, hSt⟩ := snoc1 (l := St) (by rw [← HL.out]; omega)
      subst hSt
      have hT : T = [] := List.eq_nil_of_length_eq_zero (by have := HL.out; rw [List.length_append] at this; simp only [List.length_singleton] at this; omega)
      subst hT
      obtain ⟨g, rfl, hz9, hgF⟩ := fSl_lit2 hv (by simp)
      clear hz9
      have hc := own_cell (k := 0) hv rfl
      have HF := Lib.hid (show a = cmpBy e p q by rw [← stackAt_end (e := e) (x := p) (y := q) (k := k) (by rw [← L.out]; exact Nat.le_refl _), ← HS.out]; rfl)
      clear HS HD HC HL hm hv
      go_wp2
      go_ret
      exact Ret.int HF.out (B0.then hb)
end Go.Proofs.YtpihighajaeabaaGreat
