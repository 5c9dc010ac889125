/- The best items in the program. -/
import Derived.Test.YtpihighajaeabaaGreatQCompS
import Derived.Test.YtpihighajaeabaaGreatQCmpS
import Derived.Deep.WholeRow
import Derived.Test.YtpihighajaeabaaGreatQExprS
import Derived.Test.YtpihighajaeabaaGreatQDrawF
namespace Go.Proofs.YtpihighajaeabaaGreat
open Go.RowKit
set_option linter.unusedVariables false
set_option linter.unusedSimpArgs false
theorem set_last2 {T : List Int} {a b r : Int} {m : Nat} (h : T.length = m) : (T ++ [a, b]).set m r = (T ++ [r]) ++ [b] := by
  rw [← h, List.set_append_right _ _ (Nat.le_refl _)]; simp
set_option maxRecDepth 100000 in
set_option maxHeartbeats 6400000 in
theorem I_compareBy (w : World) (e : List GNode) (p q : GItem) (ve v1 v2 : Value) (h : Rd rNodes w e [ve]) (h1 : Rd rInts w p.vals [v1]) (h2 : Rd rInts w q.vals [v2]) (hE : isExpr e = true) (hp : isItem p = true) (hq : isItem q = true) :
    Calls Tryz.prog 78 #[ve, .agg #[.int .i64 p.id, v1], .agg #[.int .i64 q.id, v2]] w (Ret w (.int .i64 (cmpBy e p q))) := by
  obtain ⟨i0, hi, hz0, hz1, hz2⟩ := info_parts info_int
  obtain ⟨A, n, c, rfl, L0, Lc, Lm⟩ := rSl_open h
  unfold maxLen at Lm
  have L := Lib.hid L0
  clear L0
  have HP := Lib.hid hp
  have HQ := Lib.hid hq
  have DE := Lib.hid (isExpr_depth hE)
  have n9 : n ≤ 9 := by rw [L.out]; exact isExpr_len hE
  have hv0 := fSl_empty (e := 3) (sz := 1) (R := fInt) ((w.alloc (.cells #[.int .i64 p.id, v1] 30)).alloc (.cells #[.int .i64 q.id, v2] 30))
  rw [show ((w.alloc (.cells #[.int .i64 p.id, v1] 30)).alloc (.cells #[.int .i64 q.id, v2] 30)).heap.size = w.heap.size + 1 + 1 by simp] at hv0
  obtain ⟨wB, hwB⟩ : ∃ wB, wB = (w.alloc (.cells #[.int .i64 p.id, v1] 30)).alloc (.cells #[.int .i64 q.id, v2] 30) := ⟨_, rfl⟩
  have B0 : Bw w wB := by rw [hwB]; exact ((Bw.refl w).alloc _).alloc _
  have hsB : wB.heap.size = w.heap.size + 1 + 1 := by rw [hwB]; simp
  have ka0 : wB.cell? ⟨w.heap.size, 0, none⟩ = some (.int .i64 p.id) := by rw [hwB]; go_simp
  have ka1 : wB.cell? ⟨w.heap.size, 1, none⟩ = some v1 := by rw [hwB]; go_simp
  have kb0 : wB.cell? ⟨w.heap.size + 1, 0, none⟩ = some (.int .i64 q.id) := by rw [hwB]; go_simp
  have kb1 : wB.cell? ⟨w.heap.size + 1, 1, none⟩ = some v2 := by rw [hwB]; go_simp
  have B1' : Bw wB (((w.alloc (.cells #[.int .i64 p.id, v1] 30)).alloc (.cells #[.int .i64 q.id, v2] 30)).alloc (.cells #[] 3)) := by rw [hwB]; exact (Bw.refl _).alloc _
  have HSB := Lib.hid hsB
  clear hp hq hE hwB hsB
  go_enter Tryz.func78, Tryz.ntmps78
  go_wp2
  go_loopg [7, 14] n (fun g s i w' => ∃ (k m : Nat) (St : List Int) (F : List Nat) (A' : Option Addr) (c' : Nat), k ≤ n ∧ g = n - k ∧ i = .int .i64 k ∧ s = .slice A' m c' ∧ Hid (m = St.length) ∧ m ≤ k ∧ m ≤ c' ∧ fInts w' St [.slice A' m c'] F ∧ Fresh wB.heap.size F ∧ Hid (St = stackAt e p q k) ∧ Hid (depthOf (e.drop k) m = some 1) ∧ Hid (codes St) ∧ Bw wB w')
  case atStart => exact ⟨0, 0, [], _, _, _, by omega, rfl, rfl, rfl, Lib.hid rfl, by omega, by omega, hv0, ⟨by simp, by rw [HSB.out]; simp⟩, Lib.hid rfl, DE, Lib.hid (fun v hv => by simp at hv), B1'⟩
  case round =>
    clear hv0 B1'
    obtain ⟨k, m, St, F, A', c', hk, rfl, rfl, rfl, HL, hmk, hmc, hv, hF, HS, HD, HC, hb⟩ := hrel
    by_cases hlt : k < n
    · obtain ⟨x, hx⟩ := get_of_lt (xs := e) (k := k) (by have := L.out; omega)
      obtain ⟨ba, oa, Al, cl, Ap, cp, rfl, _, c0, c1', c2', c3, c4, c5, hl, hpr⟩ := rNodes_at h hx
      have i1 : (0 : Int) ≤ (k : Int) := by omega
      have i2 : (k : Int) < (n : Int) := by omega
      have hbw := B0.then hb
      replace c0 := hbw.cell c0
      replace c1' := hbw.cell c1'
      replace c2' := hbw.cell c2'
      replace c3 := hbw.cell c3
      replace c4 := hbw.cell c4
      replace c5 := hbw.cell c5
      have hbx := World.block_lt_of_cell? _ _ c0
      have A1 : Bw wr (wr.alloc (.cells #[.int .i64 x.op, .int .i64 x.wish.kind, .int .i64 x.wish.field, .int .i64 x.wish.value, .slice Al x.wish.list.length cl, .slice Ap x.wish.pairs.length cp] 111)) := (Bw.refl wr).alloc _
      have hbA := hb.then A1
      have hbwA := B0.then hbA
      have hl' := Rd.bw rInts_good hl hbwA
      have hp' := Rd.bw rPairs_good hpr hbwA
      have h1' := h1.bw rInts_good hbwA
      have h2' := h2.bw rInts_good hbwA
      have hvA := (fInts_good (B := wB.heap.size)).bw A1 hb.size hv
      obtain ⟨hok, hd2⟩ := depth_step HD.out hx
      have hop := nodeOk_op hok
      have hge := nodeOk_ge hok
      have HN := Lib.hid (stackAt_next (x := p) (y := q) hx)
      have HW := Lib.hid (fun o0 => nodeOk_wish hok o0)
      have HD2 := Lib.hid hd2
      have HH := Lib.hid h
      have hFm := (fInts_good (B := 0)).lt hvA
      have ka := hbA.cell ka0
      have ka' := hbA.cell ka1
      have kb := hbA.cell kb0
      have kb' := hbA.cell kb1
      clear hx h hl hpr hok hd2 hv
      by_cases o0 : x.op = 0
      · have q0 : (x.op == 0) = true := by simpa using o0
        have hcall : Calls Tryz.prog 160 _ _ (Ret _ (.int .i64 (cmpItem x.wish p q))) := I_CompareItems _ x.wish p q _ _ v1 v2 hl' hp' h1' h2' (HW.out o0) HP.out HQ.out
        have hcode := cmpItem_code x.wish p q
        obtain ⟨r, hr⟩ : ∃ r, r = cmpItem x.wish p q := ⟨_, rfl⟩
        rw [← hr] at hcode hcall
        have HS2 := Lib.hid (show St ++ [r] = stackAt e p q (k + 1) by rw [HN.out, ← HS.out, stack_base o0, hr])
        have HD3 := Lib.hid (show depthOf (e.drop (k + 1)) ((m + 1 : Nat) : Int) = some 1 by rw [← HD2.out, o0]; congr 1)
        have HC2 := Lib.hid (codes_snoc HC.out hcode)
        have HL2 := Lib.hid (show m + 1 = (St ++ [r]).length by rw [List.length_append, ← HL.out]; rfl)
        have HSm := Lib.hid (show St.length = m from HL.out.symm)
        clear o0 HN HS HD HD2 HC hr HW hcode h1' h2' hl' hp'
        go_wp2_with fail
        refine (hcall).mono ?_
        rintro e w1 ⟨rfl, hb1⟩
        have hbb := hbA.then hb1
        have hv1 := (fInts_good (B := wB.heap.size)).bw hb1 hbA.size hvA
        have hvW := (fInts_good (B := wB.heap.size)).bw ((Bw.refl w1).alloc (.cells #[.int .i64 r] 3)) hbb.size hv1
        have hbW := hbb.alloc (.cells #[.int .i64 r] 3)
        have hcl := cell_one_new w1 (.int .i64 r) 3
        have hb0 := hbA.size
        clear hcall hvA hv1
        go_wp2_with (at_builtin; refine wpList_push _ rfl (.tmp 45) (.tmp 51) 26 rfl wB 3 i0 _ 1 8 Tryz.underlying26 hi hz0 hz1 hz2 rfl (by omega) fInt_good _ St F rfl hvW hF ⟨w1.heap.size, 0, none⟩ 1 rfl r [.int .i64 r] [] hcl ⟨rfl, rfl⟩ rfl _ hFm Fresh.nil hb0 (by rw [HSm.out]; omega) (by rw [HSm.out]; omega) hbW ?_; intro v' w' F' hv' hF' hb')
        obtain ⟨A3, c3', rfl, hc3, _⟩ := rSl_shape (fInts_Rd hv')
        rw [← HL2.out] at hv' hc3 ⊢
        go_wp2
        go_roundg (n - (k + 1))
        case measure => omega
        case rel => exact ⟨k + 1, m + 1, St ++ [r], F', A3, c3', by omega, rfl, by go_num, rfl, HL2, by omega, hc3, hv', hF', HS2, HD3, HC2, hb'⟩
      · have q0 : (x.op == 0) = false := by simpa using o0
        by_cases o3 : x.op = 3
        · have q3 : (x.op == 3) = true := by simpa using o3
          rw [show opnds x.op = 1 by rw [o3]; rfl] at hge HD2
          obtain ⟨T, a, hSt⟩ := snoc1 (l := St) (by rw [← HL.out]; omega)
          subst hSt
          have hT : T.length = m - 1 := by have := HL.out; simp at this; omega
          obtain ⟨g, rfl, hz9, hgF⟩ := fSl_lit2 hvA (by simp)
          clear hz9
          have hc := own_cell hvA (at_last hT)
          have ha := HC.out a (by simp)
          have HS2 := Lib.hid (show T ++ [neg2 a] = stackAt e p q (k + 1) by rw [HN.out, ← HS.out, stack_dual o3])
          have HD3 := Lib.hid (show depthOf (e.drop (k + 1)) (m : Int) = some 1 by rw [← HD2.out]; congr 1; omega)
          have HC2 := Lib.hid (codes_snoc (codes_left HC.out) (neg2_code ha))
          have HL2 := Lib.hid (show m = (T ++ [neg2 a]).length by have := HL.out; simp at this ⊢; exact this)
          have j1 : (0 : Int) ≤ (m : Int) - 1 := by omega
          have j2 : (m : Int) - 1 < (m : Int) := by omega
          have HT := Lib.hid hT
          have m1 : 1 ≤ m := by omega
          clear o0 o3 HN HS HD HD2 HC HW hl' hp' h1' h2' hop hge hT
          by_cases a2 : a = 2
          · have q4 : (a != 2) = false := by simpa using a2
            have HS3 := Lib.hid (show T ++ [a] = stackAt e p q (k + 1) by rw [← HS2.out, neg2, if_pos a2, a2])
            have HC3 := Lib.hid (show codes (T ++ [a]) by have := HC2.out; rwa [neg2, if_pos a2, ← a2] at this)
            clear a2 HS2 HC2 HL2
            go_wp2
            go_roundg (n - (k + 1))
            case measure => omega
            case rel => exact ⟨k + 1, m, T ++ [a], F, _, c', by omega, rfl, by go_num, rfl, HL, by omega, hmc, hvA, hF, HS3, HD3, HC3, hbA⟩
          · have q4 : (a != 2) = true := by simpa using a2
            have hff := fSl_frozen hvA (m - 1)
            obtain ⟨F', hv', hF', hg, _, _⟩ := fSl_put (fInt_good (B := wB.heap.size)) hvA hF (k := m - 1) (y := -a) (u := [.int .i64 (-a)]) ⟨rfl, rfl⟩ rfl hFm Fresh.nil hbA.size (by have := HT.out; simp; omega)
            simp only [putCells, Nat.mul_one] at hv' hg
            rw [set_last HT.out] at hv'
            rw [show neg2 a = -a by rw [neg2, if_neg a2]] at HS2 HC2 HL2
            have hb' := hbA.grown hg (fun q hq => by injection hq with hq; have := hF.ge g hgF; omega)
            clear a2 hg hvA hF hFm hgF HL
            go_wp2
            go_roundg (n - (k + 1))
            case measure => omega
            case rel => exact ⟨k + 1, m, T ++ [-a], F', _, c', by omega, rfl, by go_num, rfl, HL2, by omega, hmc, hv', hF', HS2, HD3, HC2, hb'⟩
        · have q3 : (x.op == 3) = false := by simpa using o3
          have ho2 : x.op = 1 ∨ x.op = 2 ∨ x.op = 4 := by omega
          rw [show opnds x.op = 2 by rcases ho2 with h | h | h <;> rw [h] <;> rfl] at hge HD2
          obtain ⟨T, a, b, hSt⟩ := snoc2 (l := St) (by rw [← HL.out]; omega)
          subst hSt
          have hT : T.length = m - 2 := by have := HL.out; simp at this; omega
          have m2 : 2 ≤ m := by omega
          obtain ⟨g, rfl, hz9, hgF⟩ := fSl_lit2 hvA (by simp)
          clear hz9
          have hca := own_cell hvA (at_last2 hT)
          have hcb := own_cell (k := m - 1) hvA (at_last3 (by omega))
          have hff := fSl_frozen hvA (m - 2)
          have ha := HC.out a (by simp)
          have hbc := HC.out b (by simp)
          have hcode := comb_code (op := x.op) ha hbc
          have HS2 := Lib.hid (show T ++ [comb x.op a b] = stackAt e p q (k + 1) by rw [HN.out, ← HS.out, stack_two o0 o3])
          have HD3 := Lib.hid (show depthOf (e.drop (k + 1)) ((m - 1 : Nat) : Int) = some 1 by rw [← HD2.out]; congr 1; omega)
          have HC2 := Lib.hid (codes_snoc (codes_left HC.out) hcode)
          have HL2 := Lib.hid (show m - 1 = (T ++ [comb x.op a b]).length by rw [List.length_append, hT]; simp; omega)
          have HT := Lib.hid hT
          have hcall : ∀ W, Calls Tryz.prog 161 #[.int .i64 x.op, .int .i64 a, .int .i64 b] W (Same W (.int .i64 (comb x.op a b))) := fun W => I_combined_same W x.op a b ho2 ha hbc
          obtain ⟨r, hr⟩ : ∃ r, r = comb x.op a b := ⟨_, rfl⟩
          rw [← hr] at HS2 HC2 HL2
          simp only [← hr] at hcall
          have j1 : (0 : Int) ≤ (m : Int) - 2 := by omega
          have j2 : (m : Int) - 2 < (m : Int) := by omega
          have j3 : (0 : Int) ≤ (m : Int) - 1 := by omega
          have j4 : (m : Int) - 1 < (m : Int) := by omega
          have kx0 : (wr.alloc (.cells #[.int .i64 x.op, .int .i64 x.wish.kind, .int .i64 x.wish.field, .int .i64 x.wish.value, .slice Al x.wish.list.length cl, .slice Ap x.wish.pairs.length cp] 111)).cell? ⟨wr.heap.size, 0, none⟩ = some (.int .i64 x.op) := by go_simp
          obtain ⟨W, hW⟩ : ∃ W, W = wr.alloc (.cells #[.int .i64 x.op, .int .i64 x.wish.kind, .int .i64 x.wish.field, .int .i64 x.wish.value, .slice Al x.wish.list.length cl, .slice Ap x.wish.pairs.length cp] 111) := ⟨_, rfl⟩
          rw [← hW] at kx0 hca hcb hff hFm
          have hvd : fInts W.drew (T ++ [a, b]) [.slice (some ⟨g, 0, none⟩) m c'] F := by rw [hW]; exact (fInts_good (B := wB.heap.size)).bw ((Bw.refl _).drew) hbA.size hvA
          have hbd : Bw wB W.drew := by rw [hW]; exact hbA.drew
          obtain ⟨F', hv', hF', hg, _, _⟩ := fSl_put (fInt_good (B := wB.heap.size)) hvd hF (k := m - 2) (y := r) (u := [.int .i64 r]) ⟨rfl, rfl⟩ rfl (m := W.heap.size) hFm Fresh.nil hbd.size (by have := HT.out; simp; omega)
          simp only [putCells, Nat.mul_one] at hv' hg
          rw [set_last2 HT.out] at hv'
          have hvp := fInts_pop hv'
          rw [← HL2.out] at hvp
          have hb' := hbd.grown hg (fun q hq => by injection hq with hq; have := hF.ge g hgF; omega)
          clear o0 o3 ho2 HN HS HD HD2 HC HW hl' hp' h1' h2' hge hT hr ha hbc hv' hvd hg hgF hF hFm hvA hbA hbd hcode ka ka' kb kb' A1 hbwA
          go_wp2_with fail
          rw [← hW]
          obtain ⟨qq, hqq⟩ : ∃ qq, qq = wr.heap.size := ⟨_, rfl⟩
          rw [← hqq] at kx0 ⊢
          clear hW hqq
          refine wp_region_still_tail 17 (by kernel_rfl) (by kernel_rfl) ?_
          simp only [List.take_succ_cons, List.take_zero, List.drop_succ_cons, List.drop_zero]
          refine wpStill_of_quiet (w := W.drew) ?_
          repeat (first | go_big_quiet_skip | (go_big_quiet_want; go_big_quiet_op; first | go_big_quiet_on | (apply Exists.intro; refine ⟨?_, ?_⟩; (· first | exact hcall _ | (intro _; exact hcall _) | (intro _ hh; subst hh; exact hcall _)); go_big_quiet_on)))
          refine wpQuiet_nil ?_
          change wpList _ _ _ _ _ W.drew
          go_wp2
          go_roundg (n - (k + 1))
          case measure => omega
          case rel => exact ⟨k + 1, m - 1, T ++ [r], F', _, c', by omega, rfl, by go_num, rfl, HL2, by omega, by omega, hvp, hF', HS2, HD3, HC2, hb'⟩
    · obtain rfl : k = n := by omega
      have hm : (m : Int) = 1 := by
        have := HD.out
        rw [List.drop_of_length_le (by rw [← L.out]; exact Nat.le_refl _), depthOf] at this
        injection this
      obtain rfl : m = 1 := by omega
      obtain ⟨T, a, hSt⟩ := snoc1 (l := St) (by rw [← HL.out]; omega)
      subst hSt
      have hT : T = [] := List.eq_nil_of_length_eq_zero (by have := HL.out; rw [List.length_append] at this; simp only [List.length_singleton] at this; omega)
      subst hT
      obtain ⟨g, rfl, hz9, hgF⟩ := fSl_lit2 hv (by simp)
      clear hz9
      have hc := own_cell (k := 0) hv rfl
      have HF := Lib.hid (show a = cmpBy e p q by rw [← stackAt_end (e := e) (x := p) (y := q) (k := k) (by rw [← L.out]; exact Nat.le_refl _), ← HS.out]; rfl)
      clear HS HD HC HL hm hv
      go_wp2
      go_ret
      exact Ret.int HF.out (B0.then hb)
end Go.Proofs.YtpihighajaeabaaGreat

namespace Go.Proofs.YtpihighajaeabaaGreat
open Go.RowKit
set_option linter.unusedVariables false

def beats (e : List GNode) (y x : GItem) : Bool := decide (cmpBy e y x = 1)
def freeIn (l : List GItem) (e : List GNode) (x : GItem) : Bool := !(l.any fun y => beats e y x)
def bestM (l : List GItem) (e : List GNode) : List Int := (l.filter (freeIn l e)).map (·.id)
def areBoth (l : List GItem) (e : List GNode) : Bool := areItems l && isExpr e
def bestItems (l : List GItem) (e : List GNode) : List Int := if areBoth l e then bestM l e else []
def onlyM (l : List GItem) (ids : List Int) (b : Bool) : List GItem := l.filter fun x => ids.contains x.id == b
theorem areItemsFrom_none : ∀ {l : List GItem} {p : Option Int}, areItemsFrom p l = true → areItemsFrom none l = true
  | [], _, _ => rfl
  | x :: l, none, h => h
  | x :: l, some p, h => by
    simp only [areItemsFrom, Bool.and_eq_true] at h ⊢
    exact ⟨h.1.1, h.2⟩
theorem areItemsFrom_low {p q : Int} (hpq : p ≤ q) : ∀ {l : List GItem}, areItemsFrom (some q) l = true → areItemsFrom (some p) l = true
  | [], _ => rfl
  | x :: l, h => by
    simp only [areItemsFrom, Bool.and_eq_true, decide_eq_true_iff] at h ⊢
    exact ⟨⟨h.1.1, by omega⟩, h.2⟩
theorem areItemsFrom_filter (f : GItem → Bool) : ∀ {l : List GItem} {p : Option Int}, areItemsFrom p l = true → areItemsFrom p (l.filter f) = true
  | [], _, _ => by simp [areItemsFrom]
  | x :: l, none, h => by
    have hh := h
    simp only [areItemsFrom, Bool.and_eq_true] at h
    by_cases hf : f x = true
    · rw [List.filter_cons_of_pos hf]
      simp only [areItemsFrom, Bool.and_eq_true]
      exact ⟨h.1, areItemsFrom_filter f h.2⟩
    · rw [List.filter_cons_of_neg hf]
      exact areItemsFrom_filter f (areItemsFrom_none h.2)
  | x :: l, some p, h => by
    simp only [areItemsFrom, Bool.and_eq_true, decide_eq_true_iff] at h
    by_cases hf : f x = true
    · rw [List.filter_cons_of_pos hf]
      simp only [areItemsFrom, Bool.and_eq_true, decide_eq_true_iff]
      exact ⟨h.1, areItemsFrom_filter f h.2⟩
    · rw [List.filter_cons_of_neg hf]
      exact areItemsFrom_filter f (areItemsFrom_low (by omega) h.2)
theorem areItems_filter {l : List GItem} (f : GItem → Bool) (h : areItems l = true) : areItems (l.filter f) = true := by
  unfold areItems at h ⊢
  simp only [Bool.and_eq_true, decide_eq_true_iff] at h ⊢
  exact ⟨areItemsFrom_filter f h.1, Nat.le_trans (List.length_filter_le _ _) h.2⟩
theorem areBoth_items {l : List GItem} {e : List GNode} (h : areBoth l e = true) : areItems l = true := by unfold areBoth at h; simp only [Bool.and_eq_true] at h; exact h.1
theorem areBoth_expr {l : List GItem} {e : List GNode} (h : areBoth l e = true) : isExpr e = true := by unfold areBoth at h; simp only [Bool.and_eq_true] at h; exact h.2
theorem bestM_len (l : List GItem) (e : List GNode) : (bestM l e).length ≤ l.length := by unfold bestM; rw [List.length_map]; exact List.length_filter_le _ _
/-- the best of the first items -/
def bestTo (l : List GItem) (e : List GNode) (k : Nat) : List Int := ((l.take k).filter (freeIn l e)).map (·.id)
theorem bestTo_yes {l : List GItem} {e : List GNode} {k : Nat} {x : GItem} (hx : l[k]? = some x) (h : freeIn l e x = true) : bestTo l e (k + 1) = bestTo l e k ++ [x.id] := by
  unfold bestTo; rw [List.take_add_one, hx, List.filter_append, List.map_append]; simp [h]
theorem bestTo_no {l : List GItem} {e : List GNode} {k : Nat} {x : GItem} (hx : l[k]? = some x) (h : freeIn l e x = false) : bestTo l e (k + 1) = bestTo l e k := by
  unfold bestTo; rw [List.take_add_one, hx, List.filter_append, List.map_append]; simp [h]
theorem bestTo_end {l : List GItem} {e : List GNode} {k : Nat} (h : l.length ≤ k) : bestTo l e k = bestM l e := by unfold bestTo bestM; rw [List.take_of_length_le h]
theorem bestTo_len {l : List GItem} {e : List GNode} {k : Nat} : (bestTo l e k).length ≤ k := by
  unfold bestTo; rw [List.length_map]
  exact Nat.le_trans (List.length_filter_le _ _) (by rw [List.length_take]; omega)
theorem any_take_succ {α : Type} (f : α → Bool) {l : List α} {k : Nat} {y : α} (h : l[k]? = some y) : (l.take (k + 1)).any f = ((l.take k).any f || f y) := by
  rw [List.take_add_one, h, List.any_append]; simp
theorem any_take_end {α : Type} (f : α → Bool) {l : List α} {k : Nat} (h : l.length ≤ k) : (l.take k).any f = l.any f := by rw [List.take_of_length_le h]
def onlyTo (l : List GItem) (ids : List Int) (b : Bool) (k : Nat) : List GItem := (l.take k).filter fun x => ids.contains x.id == b
theorem onlyTo_yes {l : List GItem} {ids : List Int} {b : Bool} {k : Nat} {x : GItem} (hx : l[k]? = some x) (h : ids.contains x.id = b) : onlyTo l ids b (k + 1) = onlyTo l ids b k ++ [x] := by
  have hb : (ids.contains x.id == b) = true := by rw [h]; simp
  unfold onlyTo; rw [List.take_add_one, hx, List.filter_append]
  simp only [Option.toList_some, List.filter_cons, List.filter_nil, hb, if_true]
theorem onlyTo_no {l : List GItem} {ids : List Int} {b : Bool} {k : Nat} {x : GItem} (hx : l[k]? = some x) (h : ids.contains x.id = !b) : onlyTo l ids b (k + 1) = onlyTo l ids b k := by
  have hb : (ids.contains x.id == b) = false := by rw [h]; cases b <;> rfl
  unfold onlyTo; rw [List.take_add_one, hx, List.filter_append]
  simp only [Option.toList_some, List.filter_cons, List.filter_nil, hb, List.append_nil, Bool.false_eq_true, if_false]
theorem onlyTo_end {l : List GItem} {ids : List Int} {b : Bool} {k : Nat} (h : l.length ≤ k) : onlyTo l ids b k = onlyM l ids b := by unfold onlyTo onlyM; rw [List.take_of_length_le h]
theorem onlyTo_len {l : List GItem} {ids : List Int} {b : Bool} {k : Nat} : (onlyTo l ids b k).length ≤ k := by
  unfold onlyTo
  exact Nat.le_trans (List.length_filter_le _ _) (by rw [List.length_take]; omega)
theorem onlyM_len (l : List GItem) (ids : List Int) (b : Bool) : (onlyM l ids b).length ≤ l.length := List.length_filter_le _ _

/-! ### several laws' answers -/
def isStand (s : GStanding) : Bool := areBoth s.items s.wanted && (decide (s.best = bestM s.items s.wanted) && inB s.tests 0 1000000)
end Go.Proofs.YtpihighajaeabaaGreat

namespace Go.Proofs.YtpihighajaeabaaGreat
open Go.RowKit
set_option linter.unusedVariables false
set_option linter.unusedSimpArgs false
set_option maxHeartbeats 400000 in
theorem I_areBoth (w : World) (l : List GItem) (e : List GNode) (v u : Value) (h : Rd rItems w l [v]) (h' : Rd rNodes w e [u]) : Calls Tryz.prog 92 #[v, u] w (Ret w (.bool (areBoth l e))) := by
  go_enter Tryz.func92, Tryz.ntmps92
  go_wp2_with fail
  refine (I_AreItems _ l _ h).mono ?_
  rintro e w2 ⟨rfl, hb2⟩
  rcases Bool.eq_false_or_eq_true (areItems l) with e1 | e1
  · have E := Lib.hid e1
    rw [e1]
    clear e1
    go_wp2_with fail
    refine (I_IsExpression _ e _ (h'.bw rNodes_good hb2)).mono ?_
    rintro e w3 ⟨rfl, hb3⟩
    rcases Bool.eq_false_or_eq_true (isExpr e) with e2 | e2
    · have E2 := Lib.hid e2
      rw [e2]
      clear e2
      go_wp2
      go_ret
      exact Ret.bool (by rw [areBoth, E.out, E2.out]; rfl) (hb2.then hb3)
    · have E2 := Lib.hid e2
      rw [e2]
      clear e2
      go_wp2
      go_ret
      exact Ret.bool (by rw [areBoth, E.out, E2.out]; rfl) (hb2.then hb3)
  · have E := Lib.hid e1
    rw [e1]
    clear e1
    go_wp2
    go_ret
    exact Ret.bool (by rw [areBoth, E.out]; rfl) (hb2)
set_option maxRecDepth 100000 in
set_option maxHeartbeats 3200000 in
theorem I_best (w : World) (l : List GItem) (e : List GNode) (v u : Value) (h : Rd rItems w l [v]) (h' : Rd rNodes w e [u]) (hE : areBoth l e = true) : Calls Tryz.prog 97 #[v, u] w (RetV w (Made fInts w.heap.size (bestM l e))) := by
  obtain ⟨i0, hi, hz0, hz1, hz2⟩ := info_parts info_int
  obtain ⟨A, n, c, rfl, L0, Lc, Lm⟩ := rSl_open h
  unfold maxLen at Lm
  have L := Lib.hid L0
  clear L0
  have HE1 := Lib.hid (areBoth_expr hE)
  have HI := Lib.hid (areBoth_items hE)
  have n16 : n ≤ 16 := by rw [L.out]; exact areItems_len HI.out
  have hv0 := fSl_empty (e := 3) (sz := 1) (R := fInt) w
  clear hE
  go_enter Tryz.func97, Tryz.ntmps97
  go_wp2
  go_loopg [5, 14] n (fun g s i w' => ∃ (k : Nat) (F : List Nat), k ≤ n ∧ g = n - k ∧ i = .int .i64 k ∧ fInts w' (bestTo l e k) [s] F ∧ Fresh w.heap.size F ∧ Bw w w')
  case atStart => exact ⟨0, _, by omega, rfl, rfl, hv0, ⟨by simp, by simp⟩, (Bw.refl _).alloc _⟩
  case round =>
    clear hv0
    obtain ⟨k, F, hk, rfl, rfl, hv, hF, hb⟩ := hrel
    by_cases hlt : k < n
    · obtain ⟨x, hx⟩ := get_of_lt (xs := l) (k := k) (by have := L.out; omega)
      obtain ⟨ba, oa, Ax, cx, rfl, _, hc0, hc1, hin⟩ := rItems_at h hx
      have HP := Lib.hid (areItems_mem HI.out (List.mem_of_getElem? hx))
      have hlen := isItem_len HP.out
      rw [hlen] at hc1 hin
      have i1 : (0 : Int) ≤ (k : Int) := by omega
      have i2 : (k : Int) < (n : Int) := by omega
      replace hc0 := hb.cell hc0
      replace hc1 := hb.cell hc1
      have hbx := World.block_lt_of_cell? _ _ hc0
      have HYES := Lib.hid (fun hf => bestTo_yes (e := e) hx hf)
      have HNO := Lib.hid (fun hf => bestTo_no (e := e) hx hf)
      have HH := Lib.hid h
      have A1 : Bw wr (wr.alloc (.cells #[.int .i64 x.id, .slice Ax 3 cx] 30)) := (Bw.refl wr).alloc _
      have hbA := hb.then A1
      have hvA := (fInts_good (B := w.heap.size)).bw A1 hb.size hv
      have hFm := (fInts_good (B := 0)).lt hvA
      have kx0 : (wr.alloc (.cells #[.int .i64 x.id, .slice Ax 3 cx] 30)).cell? ⟨wr.heap.size, 0, none⟩ = some (.int .i64 x.id) := by go_simp
      have kx1 : (wr.alloc (.cells #[.int .i64 x.id, .slice Ax 3 cx] 30)).cell? ⟨wr.heap.size, 1, none⟩ = some (.slice Ax 3 cx) := by go_simp
      obtain ⟨W, hW⟩ : ∃ W, W = wr.alloc (.cells #[.int .i64 x.id, .slice Ax 3 cx] 30) := ⟨_, rfl⟩
      rw [← hW] at kx0 kx1 hbA hvA hFm
      have HW := Lib.hid hW
      clear hx h hlen hW A1 hv
      go_wp2
      go_loopg [8, 20] n (fun g b i2 w' => ∃ (j : Nat) (q : Bool), j ≤ n ∧ g = n - j ∧ i2 = .int .i64 j ∧ b = .bool q ∧ Hid (q = (l.take j).any fun y => beats e y x) ∧ Bw W w')
      case atStart => exact ⟨0, false, by omega, rfl, rfl, rfl, Lib.hid rfl, by rw [HW.out]; exact Bw.refl _⟩
      case round =>
        obtain ⟨j, qb, hj, rfl, rfl, rfl, HQ, hbj⟩ := hrel
        have hbw := hbA.then hbj
        have kk0 := hbj.cell kx0
        have kk1 := hbj.cell kx1
        by_cases hlt2 : j < n
        · obtain ⟨y, hy⟩ := get_of_lt (xs := l) (k := j) (by have := L.out; omega)
          obtain ⟨b2, o2, Ay, cy, eA, _, hd0, hd1, hin2⟩ := rItems_at HH.out hy
          injection eA with eA
          injection eA with eA1 eA2
          subst eA1 eA2
          have HPy := Lib.hid (areItems_mem HI.out (List.mem_of_getElem? hy))
          have hleny := isItem_len HPy.out
          rw [hleny] at hd1 hin2
          replace hd0 := hbw.cell hd0
          replace hd1 := hbw.cell hd1
          have j1 : (0 : Int) ≤ (j : Int) := by omega
          have j2 : (j : Int) < (n : Int) := by omega
          have HS := Lib.hid (any_take_succ (fun y => beats e y x) hy)
          have hby := World.block_lt_of_cell? _ _ kk0
          have C1 : Bw wr (wr.alloc (.cells #[.int .i64 y.id, .slice Ay 3 cy] 30)) := (Bw.refl wr).alloc _
          clear hy hleny
          cases qb with
          | true =>
            have HQ2 := Lib.hid (show true = (l.take (j + 1)).any fun y => beats e y x by rw [HS.out, ← HQ.out]; rfl)
            clear HQ HS
            go_wp2
            go_roundg (n - (j + 1))
            case measure => omega
            case rel => exact ⟨j + 1, true, by omega, rfl, by go_num, rfl, HQ2, hbj.then C1⟩
          | false =>
            have hcall := I_compareBy _ e y x _ _ _ (h'.bw rNodes_good (hbw.then C1)) (Rd.bw rInts_good hin2 (hbw.then C1)) (Rd.bw rInts_good hin (hbw.then C1)) HE1.out HPy.out HP.out
            have HQ2 := Lib.hid (show decide (cmpBy e y x = 1) = (l.take (j + 1)).any fun y => beats e y x by rw [HS.out, ← HQ.out]; rfl)
            obtain ⟨r, hr⟩ : ∃ r, r = cmpBy e y x := ⟨_, rfl⟩
            rw [← hr] at hcall HQ2
            clear HQ HS hr
            go_wp2_with fail
            refine (hcall).mono ?_
            rintro e w3 ⟨rfl, hb3⟩
            by_cases hr1 : r = 1
            · have e1 : (r == 1) = true := by simpa using hr1
              have HQ3 := Lib.hid (show true = (l.take (j + 1)).any fun y => beats e y x by rw [← HQ2.out]; simpa using hr1)
              clear hr1 HQ2
              go_wp2
              go_roundg (n - (j + 1))
              case measure => omega
              case rel => exact ⟨j + 1, true, by omega, rfl, by go_num, rfl, HQ3, hbj.then (C1.then hb3)⟩
            · have e1 : (r == 1) = false := by simpa using hr1
              have HQ3 := Lib.hid (show false = (l.take (j + 1)).any fun y => beats e y x by rw [← HQ2.out]; simpa using hr1)
              clear hr1 HQ2
              go_wp2
              go_roundg (n - (j + 1))
              case measure => omega
              case rel => exact ⟨j + 1, false, by omega, rfl, by go_num, rfl, HQ3, hbj.then (C1.then hb3)⟩
        · obtain rfl : j = n := by omega
          have HF := Lib.hid (show freeIn l e x = !qb by rw [freeIn, HQ.out, any_take_end _ (by rw [← L.out]; exact Nat.le_refl _)])
          have hv1 := (fInts_good (B := w.heap.size)).bw hbj hbA.size hvA
          clear HQ hlt2 hvA
          cases qb with
          | true =>
            have HB := Lib.hid (HNO.out HF.out)
            go_wp2
            go_roundg (j - (k + 1))
            case measure => omega
            case rel => exact ⟨k + 1, F, by omega, rfl, by go_num, by rw [HB.out]; exact hv1, hF, hbw⟩
          | false =>
            have HB := Lib.hid (HYES.out HF.out)
            have hbl := bestTo_len (l := l) (e := e) (k := k)
            have HBL := Lib.hid hbl
            have hvW := (fInts_good (B := w.heap.size)).bw ((Bw.refl wr).alloc (.cells #[.int .i64 x.id] 3)) hbw.size hv1
            have hbW := hbw.alloc (.cells #[.int .i64 x.id] 3)
            have hcl := cell_one_new wr (.int .i64 x.id) 3
            have hb0 := hbA.size
            clear hv1 hbl
            go_wp2_with (at_builtin; refine wpList_push _ rfl (.tmp 35) (.tmp 38) 26 rfl w 3 i0 _ 1 8 Tryz.underlying26 hi hz0 hz1 hz2 rfl (by omega) fInt_good _ (bestTo l e k) F rfl hvW hF ⟨wr.heap.size, 0, none⟩ 1 rfl x.id [.int .i64 x.id] [] hcl ⟨rfl, rfl⟩ rfl _ hFm Fresh.nil hb0 (by have := HBL.out; omega) (by have := HBL.out; omega) hbW ?_; intro v' w' F' hv' hF' hb')
            go_roundg (j - (k + 1))
            case measure => omega
            case rel => exact ⟨k + 1, F', by omega, rfl, by go_num, by rw [HB.out]; exact hv', hF', hb'⟩
    · obtain rfl : k = n := by omega
      rw [bestTo_end (by rw [← L.out]; exact Nat.le_refl _)] at hv
      go_wp2
      go_ret
      exact ⟨_, rfl, ⟨F, hv, hF⟩, hb⟩
set_option maxHeartbeats 400000 in
theorem I_BestItems (w : World) (l : List GItem) (e : List GNode) (v u : Value) (h : Rd rItems w l [v]) (h' : Rd rNodes w e [u]) : Calls Tryz.prog 37 #[v, u] w (RetV w (Made fInts w.heap.size (bestItems l e))) := by
  go_enter Tryz.func37, Tryz.ntmps37
  go_wp2_with fail
  refine (I_areBoth _ l e _ _ h h').mono ?_
  rintro e w2 ⟨rfl, hb2⟩
  rcases Bool.eq_false_or_eq_true (areBoth l e) with e1 | e1
  · have E := Lib.hid e1
    rw [e1]
    clear e1
    go_wp2_with fail
    refine (I_best _ l e _ _ (h.bw rItems_good hb2) (h'.bw rNodes_good hb2) E.out).mono ?_
    rintro e w3 ⟨v3, rfl, ⟨F, o, f⟩, hb3⟩
    rw [show bestM l e = bestItems l e by rw [bestItems, if_pos E.out]] at o
    go_wp2
    go_ret
    exact ⟨_, rfl, ⟨F, o, f.mono hb2.size⟩, hb2.then hb3⟩
  · have E := Lib.hid e1
    rw [e1]
    clear e1
    have hv0 := fSl_empty (e := 3) (sz := 1) (R := fInt) w2
    rw [show ([] : List Int) = bestItems l e by rw [bestItems, E.out]; rfl] at hv0
    have hz := hb2.size
    go_wp2
    go_ret
    exact ⟨_, rfl, ⟨_, hv0, ⟨by simp, by simpa using hz⟩⟩, hb2.alloc _⟩
end Go.Proofs.YtpihighajaeabaaGreat
