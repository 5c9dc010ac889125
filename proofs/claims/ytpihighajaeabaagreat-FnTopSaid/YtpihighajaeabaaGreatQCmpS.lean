/- Comparisons of items by an expression in the reference. -/
import Derived.Test.YtpihighajaeabaaGreatQCompS
import Derived.Test.YtpihighajaeabaaGreatQOwn3
namespace Go.Proofs.YtpihighajaeabaaGreat
open Go.RowKit
set_option linter.unusedVariables false
set_option linter.unusedSimpArgs false
theorem pop_two {w : World} {T : List Int} {a b : Int} {g n c : Nat} {F : List Nat} (h : fInts w (T ++ [a, b]) [.slice (some ⟨g, 0, none⟩) n c] F) : fInts w T [.slice (some ⟨g, 0, none⟩) T.length c] F := by
  have : T ++ [a, b] = (T ++ [a]) ++ [b] := by simp
  rw [this] at h
  exact fInts_pop (fInts_pop h)
theorem set_last {T : List Int} {a b : Int} {m : Nat} (h : T.length = m) : (T ++ [a]).set m b = T ++ [b] := by
  rw [← h, List.set_append_right _ _ (Nat.le_refl _)]; simp
theorem at_last {T : List Int} {a : Int} {m : Nat} (h : T.length = m) : (T ++ [a])[m]? = some a := by rw [← h]; simp
theorem at_last2 {T : List Int} {a b : Int} {m : Nat} (h : T.length = m) : (T ++ [a, b])[m]? = some a := by rw [← h]; simp
theorem at_last3 {T : List Int} {a b : Int} {m : Nat} (h : T.length + 1 = m) : (T ++ [a, b])[m]? = some b := by rw [← h, List.getElem?_append_right (by omega)]; simp
theorem own_cell {w : World} {xs : List Int} {g n c k : Nat} {F : List Nat} {x : Int} (h : fInts w xs [.slice (some ⟨g, 0, none⟩) n c] F) (hx : xs[k]? = some x) : w.cell? ⟨g, k, none⟩ = some (.int .i64 x) := by
  obtain ⟨b, o, e, _, hc⟩ := rInts_at (fInts_Rd h) hx
  injection e with e
  injection e with e1 e2
  subst e1 e2
  rw [Nat.zero_add] at hc
  exact hc
set_option maxRecDepth 100000 in
set_option maxHeartbeats 6400000 in
theorem S_l5Compare (w : World) (e : List GNode) (p q : GItem) (ve v1 v2 : Value) (h : Rd rNodes w e [ve]) (h1 : Rd rInts w p.vals [v1]) (h2 : Rd rInts w q.vals [v2]) (hE : isExpr e = true) (hp : isItem p = true) (hq : isItem q = true) :
    Calls Tryz.prog 85 #[ve, .agg #[.int .i64 p.id, v1], .agg #[.int .i64 q.id, v2]] w (Ret w (.int .i64 (cmpBy e p q))) := by
  obtain ⟨i0, hi, hz0, hz1, hz2⟩ := info_parts info_int
  obtain ⟨A, n, c, rfl, L0, Lc, Lm⟩ := rSl_open h
  unfold maxLen at Lm
  have L := Lib.hid L0
  clear L0
  have hpl := isItem_len hp
  have hql := isItem_len hq
  have HP := Lib.hid hp
  have HQ := Lib.hid hq
  have DE := Lib.hid (isExpr_depth hE)
  have n9 : n ≤ 9 := by rw [L.out]; exact isExpr_len hE
  obtain ⟨A1, n1, c1, rfl, L1, L1c, L1m⟩ := rSl_open h1
  obtain ⟨A2, n2, c2, rfl, L2, L2c, L2m⟩ := rSl_open h2
  rw [hpl] at L1
  rw [hql] at L2
  subst L1 L2
  have hv0 := fSl_empty (e := 3) (sz := 1) (R := fInt) ((w.alloc (.cells #[.int .i64 p.id, .slice A1 3 c1] 30)).alloc (.cells #[.int .i64 q.id, .slice A2 3 c2] 30))
  rw [show ((w.alloc (.cells #[.int .i64 p.id, .slice A1 3 c1] 30)).alloc (.cells #[.int .i64 q.id, .slice A2 3 c2] 30)).heap.size = w.heap.size + 1 + 1 by simp] at hv0
  obtain ⟨wB, hwB⟩ : ∃ wB, wB = (w.alloc (.cells #[.int .i64 p.id, .slice A1 3 c1] 30)).alloc (.cells #[.int .i64 q.id, .slice A2 3 c2] 30) := ⟨_, rfl⟩
  have B0 : Bw w wB := by rw [hwB]; exact ((Bw.refl w).alloc _).alloc _
  have hsB : wB.heap.size = w.heap.size + 1 + 1 := by rw [hwB]; simp
  have ka0 : wB.cell? ⟨w.heap.size, 1, none⟩ = some (.slice A1 3 c1) := by rw [hwB]; go_simp
  have kb0 : wB.cell? ⟨w.heap.size + 1, 1, none⟩ = some (.slice A2 3 c2) := by rw [hwB]; go_simp
  have B1 := (Bw.refl wB).alloc (.cells #[] 3)
  rw [hwB] at B1
  rw [← hwB] at B1
  have B1' : Bw wB (((w.alloc (.cells #[.int .i64 p.id, .slice A1 3 c1] 30)).alloc (.cells #[.int .i64 q.id, .slice A2 3 c2] 30)).alloc (.cells #[] 3)) := by rw [hwB]; exact (Bw.refl _).alloc _
  have HSB := Lib.hid hsB
  clear hp hq hE hpl hql hwB B1 hsB
  go_enter Tryz.func85, Tryz.ntmps85
  go_wp2
  go_loopg [7, 8] n (fun g s i w' => ∃ (k m : Nat) (St : List Int) (F : List Nat) (A' : Option Addr) (c' : Nat), k ≤ n ∧ g = n - k ∧ i = .int .i64 k ∧ s = .slice A' m c' ∧ Hid (m = St.length) ∧ m ≤ k ∧ m ≤ c' ∧ fInts w' St [.slice A' m c'] F ∧ Fresh wB.heap.size F ∧ Hid (St = stackAt e p q k) ∧ Hid (depthOf (e.drop k) m = some 1) ∧ Hid (codes St) ∧ Bw wB w')
  case atStart => exact ⟨0, 0, [], _, _, _, by omega, rfl, rfl, rfl, Lib.hid rfl, by omega, by omega, hv0, ⟨by simp, by rw [HSB.out]; simp⟩, Lib.hid rfl, DE, Lib.hid (fun v hv => by simp at hv), B1'⟩
  case round =>
    clear hv0 B1'
    obtain ⟨k, m, St, F, A', c', hk, rfl, rfl, rfl, HL, hmk, hmc, hv, hF, HS, HD, HC, hb⟩ := hrel
    have ka := hb.cell ka0
    have kb := hb.cell kb0
    by_cases hlt : k < n
    · obtain ⟨x, hx⟩ := get_of_lt (xs := e) (k := k) (by have := L.out; omega)
      obtain ⟨ba, oa, Al, cl, Ap, cp, rfl, _, c0, c1', c2', c3, c4, c5, hl, hpr⟩ := rNodes_at h hx
      have i1 : (0 : Int) ≤ (k : Int) := by omega
      have i2 : (k : Int) < (n : Int) := by omega
      have hbw := B0.then hb
      have p0 := hbw.cell c0
      have p1 := hbw.cell c1'
      have p2 := hbw.cell c2'
      have p3 := hbw.cell c3
      have p4 := hbw.cell c4
      have p5 := hbw.cell c5
      have hl' := Rd.bw rInts_good hl hbw
      have hp' := Rd.bw rPairs_good hpr hbw
      have h1' := h1.bw rInts_good hbw
      have h2' := h2.bw rInts_good hbw
      obtain ⟨hok, hd2⟩ := depth_step HD.out hx
      have hop := nodeOk_op hok
      have hge := nodeOk_ge hok
      have HN := Lib.hid (stackAt_next (x := p) (y := q) hx)
      have HW := Lib.hid (fun o0 => nodeOk_wish hok o0)
      have HD2 := Lib.hid hd2
      have HH := Lib.hid h
      have hFm := (fInts_good (B := 0)).lt hv
      clear c0 hx h hl hpr hok hd2
      by_cases o0 : x.op = 0
      · have q0 : (x.op == 0) = true := by simpa using o0
        have hw := HW.out o0
        have hf0 := isWish_field hw
        obtain ⟨f, hf⟩ : ∃ f : Nat, x.wish.field = f := ⟨x.wish.field.toNat, by omega⟩
        have hf2 : f ≤ 2 := by omega
        have f1 : (0 : Int) ≤ (f : Int) := by omega
        have f2 : (f : Int) < 3 := by omega
        obtain ⟨b1, o1, rfl, _, hcp0⟩ := rInts_at h1 (valAt_get HP.out hf2)
        obtain ⟨b2, o2, rfl, _, hcq0⟩ := rInts_at h2 (valAt_get HQ.out hf2)
        have hcp := hbw.cell hcp0
        have hcq := hbw.cell hcq0
        have Vp := valAt_bd HP.out hf2
        have Vq := valAt_bd HQ.out hf2
        have HE := Lib.hid (show cmpV x.wish (valAt p f) (valAt q f) = cmpItem x.wish p q by unfold cmpItem; rw [hf])
        have hcode := cmpItem_code x.wish p q
        rw [← HE.out] at hcode
        have hcall : ∀ W, Bw wr W → Calls Tryz.prog 165 #[.agg #[.int .i64 x.wish.kind, .int .i64 f, .int .i64 x.wish.value, .slice Al x.wish.list.length cl, .slice Ap x.wish.pairs.length cp], .int .i64 (valAt p f), .int .i64 (valAt q f)] W (Ret W (.int .i64 (cmpV x.wish (valAt p f) (valAt q f)))) := fun W hB => by
          have := S_l4Compare W x.wish _ _ (valAt p f) (valAt q f) (Rd.bw rInts_good hl' hB) (Rd.bw rPairs_good hp' hB) hw Vp Vq
          rwa [hf] at this
        obtain ⟨r, hr⟩ : ∃ r, r = cmpV x.wish (valAt p f) (valAt q f) := ⟨_, rfl⟩
        rw [← hr] at hcode HE
        simp only [← hr] at hcall
        have HS2 := Lib.hid (show St ++ [r] = stackAt e p q (k + 1) by rw [HN.out, ← HS.out, stack_base o0, HE.out])
        have HD3 := Lib.hid (show depthOf (e.drop (k + 1)) ((m + 1 : Nat) : Int) = some 1 by rw [← HD2.out, o0]; congr 1)
        have HC2 := Lib.hid (codes_snoc HC.out hcode)
        have HL2 := Lib.hid (show m + 1 = (St ++ [r]).length by rw [List.length_append, ← HL.out]; rfl)
        have hSm : St.length = m := HL.out.symm
        have HSm := Lib.hid hSm
        rw [hf] at p2 c2'
        have D1 : Bw wr wr.drew := (Bw.refl wr).drew
        have hvd := (fInts_good (B := wB.heap.size)).bw D1 hb.size hv
        have hbd := hb.then D1
        have hb0 := hb.size
        clear o0 hf HN HS HD HD2 HC hr HW Vp Vq hw hf0 HE hcode hv h1' h2' hl' hp' hSm
        go_wp2_with fail
        go_region_held3 (fun w' => w'.cell? ⟨ba, oa + k * 6 + 1, none⟩ = some (.int .i64 x.wish.kind) ∧ w'.cell? ⟨ba, oa + k * 6 + 2, none⟩ = some (.int .i64 f) ∧ w'.cell? ⟨ba, oa + k * 6 + 3, none⟩ = some (.int .i64 x.wish.value) ∧ w'.cell? ⟨ba, oa + k * 6 + 4, none⟩ = some (.slice Al x.wish.list.length cl) ∧ w'.cell? ⟨ba, oa + k * 6 + 5, none⟩ = some (.slice Ap x.wish.pairs.length cp) ∧ w'.cell? ⟨w.heap.size, 1, none⟩ = some (.slice (some ⟨b1, o1, none⟩) 3 c1) ∧ w'.cell? ⟨w.heap.size + 1, 1, none⟩ = some (.slice (some ⟨b2, o2, none⟩) 3 c2) ∧ w'.cell? ⟨b1, o1 + f, none⟩ = some (.int .i64 (valAt p f)) ∧ w'.cell? ⟨b2, o2 + f, none⟩ = some (.int .i64 (valAt q f))) (first | go_keep | exact ⟨p1, p2, p3, p4, p5, ka, kb, hcp, hcq⟩ | exact ⟨hAl.cell p1, hAl.cell p2, hAl.cell p3, hAl.cell p4, hAl.cell p5, hAl.cell ka, hAl.cell kb, hAl.cell hcp, hAl.cell hcq⟩ | exact ⟨(B0.then hb').cell c1', (B0.then hb').cell c2', (B0.then hb').cell c3, (B0.then hb').cell c4, (B0.then hb').cell c5, hb'.cell ka0, hb'.cell kb0, (B0.then hb').cell hcp0, (B0.then hb').cell hcq0⟩ | fail)
          (first
            | (go_at_call 165; refine (hcall _ D1).mono ?_; rintro e w1 ⟨rfl, hb1⟩; replace p1 := hb1.cell p1; replace p2 := hb1.cell p2; replace p3 := hb1.cell p3; replace p4 := hb1.cell p4; replace p5 := hb1.cell p5; replace ka := hb1.cell ka; replace kb := hb1.cell kb; replace hcp := hb1.cell hcp; replace hcq := hb1.cell hcq; have hAl := (Bw.refl w1).alloc (.cells #[.int .i64 r] 3); have hbb := hbd.then hb1; have hv1 := (fInts_good (B := wB.heap.size)).bw hb1 hbd.size hvd; have hvW := (fInts_good (B := wB.heap.size)).bw hAl hbb.size hv1; have hbW := hbb.then hAl; have hcl := cell_one_new w1 (.int .i64 r) 3)
            | (refine step_push _ (by rfl) (.tmp 58) (.tmp 75) 26 (by rfl) wB 3 i0 _ 1 8 Tryz.underlying26 hi hz0 hz1 hz2 rfl (by omega) fInt_good _ St F (by rfl) hvW hF ⟨w1.heap.size, 0, none⟩ 1 (by rfl) r [.int .i64 r] [] hcl ⟨rfl, rfl⟩ rfl wr.heap.size hFm Fresh.nil hb0 (by rw [HSm.out]; omega) (by rw [HSm.out]; omega) hbW ?_; intro v' w' F' hv' hF' hb')
            | fail)
        obtain ⟨A3, c3, rfl, hc3, _⟩ := rSl_shape (fInts_Rd hv')
        rw [← HL2.out] at hv' hc3 ⊢
        go_wp2
        go_roundg (n - (k + 1))
        case measure => omega
        case rel => exact ⟨k + 1, m + 1, St ++ [r], F', A3, c3, by omega, rfl, by go_num, rfl, HL2, by omega, hc3, hv', hF', HS2, HD3, HC2, hb'⟩
      · have q0 : (x.op == 0) = false := by simpa using o0
        by_cases o3 : x.op = 3
        · have q3 : (x.op == 3) = true := by simpa using o3
          rw [show opnds x.op = 1 by rw [o3]; rfl] at hge HD2
          obtain ⟨T, a, hSt⟩ := snoc1 (l := St) (by rw [← HL.out]; omega)
          subst hSt
          have hT : T.length = m - 1 := by have := HL.out; simp at this; omega
          obtain ⟨g, rfl, hz9, hgF⟩ := fSl_lit2 hv (by simp)
          clear hz9
          have hc := own_cell hv (at_last hT)
          have ha := HC.out a (by simp)
          have HS2 := Lib.hid (show T ++ [neg2 a] = stackAt e p q (k + 1) by rw [HN.out, ← HS.out, stack_dual o3])
          have HD3 := Lib.hid (show depthOf (e.drop (k + 1)) (m : Int) = some 1 by rw [← HD2.out]; congr 1; omega)
          have HC2 := Lib.hid (codes_snoc (codes_left HC.out) (neg2_code ha))
          have HL2 := Lib.hid (show m = (T ++ [neg2 a]).length by have := HL.out; simp at this ⊢; exact this)
          have j1 : (0 : Int) ≤ (m : Int) - 1 := by omega
          have j2 : (m : Int) - 1 < (m : Int) := by omega
          have HT := Lib.hid hT
          have m1 : 1 ≤ m := by omega
          clear o0 o3 HN HS HD HD2 HC HW hl' hp' h1' h2' hop hge hT c1' c2' c3 c4 c5
          by_cases a2 : a = 2
          · have q4 : (a != 2) = false := by simpa using a2
            have HS3 := Lib.hid (show T ++ [a] = stackAt e p q (k + 1) by rw [← HS2.out, neg2, if_pos a2, a2])
            have HC3 := Lib.hid (show codes (T ++ [a]) by have := HC2.out; rwa [neg2, if_pos a2, ← a2] at this)
            clear a2 HS2 HC2 HL2
            go_wp2
            go_roundg (n - (k + 1))
            case measure => omega
            case rel => exact ⟨k + 1, m, T ++ [a], F, _, c', by omega, rfl, by go_num, rfl, HL, by omega, hmc, hv, hF, HS3, HD3, HC3, hb⟩
          · have q4 : (a != 2) = true := by simpa using a2
            have hff := fSl_frozen hv (m - 1)
            obtain ⟨F', hv', hF', hg, _, _⟩ := fSl_put (fInt_good (B := wB.heap.size)) hv hF (k := m - 1) (y := -a) (u := [.int .i64 (-a)]) ⟨rfl, rfl⟩ rfl (m := wr.heap.size) hFm Fresh.nil hb.size (by have := HT.out; simp; omega)
            have e1 : putCells wr g ((m - 1) * 1) [.int .i64 (-a)] = wr.setCell ⟨g, m - 1, none⟩ (.int .i64 (-a)) := by simp [putCells]
            rw [e1, set_last HT.out] at hv'
            rw [e1] at hg
            rw [show neg2 a = -a by rw [neg2, if_neg a2]] at HS2 HC2 HL2
            have hb' := hb.grown hg (fun q hq => by injection hq with hq; have := hF.ge g hgF; omega)
            clear a2 e1 hg hv hF hFm hgF HL
            go_wp2
            go_roundg (n - (k + 1))
            case measure => omega
            case rel => exact ⟨k + 1, m, T ++ [-a], F', _, c', by omega, rfl, by go_num, rfl, HL2, by omega, hmc, hv', hF', HS2, HD3, HC2, hb'⟩
        · have q3 : (x.op == 3) = false := by simpa using o3
          have ho2 : x.op = 1 ∨ x.op = 2 ∨ x.op = 4 := by omega
          rw [show opnds x.op = 2 by rcases ho2 with h | h | h <;> rw [h] <;> rfl] at hge HD2
          obtain ⟨T, a, b, hSt⟩ := snoc2 (l := St) (by rw [← HL.out]; omega)
          subst hSt
          have hT : T.length = m - 2 := by have := HL.out; simp at this; omega
          have m2 : 2 ≤ m := by omega
          obtain ⟨g, rfl, hz9, hgF⟩ := fSl_lit2 hv (by simp)
          clear hz9
          have hca := own_cell hv (at_last2 hT)
          have hcb := own_cell (k := m - 1) hv (at_last3 (by omega))
          have ha := HC.out a (by simp)
          have hbc := HC.out b (by simp)
          have hcode := comb_code (op := x.op) ha hbc
          have HS2 := Lib.hid (show T ++ [comb x.op a b] = stackAt e p q (k + 1) by rw [HN.out, ← HS.out, stack_two o0 o3])
          have HD3 := Lib.hid (show depthOf (e.drop (k + 1)) ((m - 2 + 1 : Nat) : Int) = some 1 by rw [← HD2.out]; congr 1; omega)
          have HC2 := Lib.hid (codes_snoc (codes_left HC.out) hcode)
          have HL2 := Lib.hid (show m - 2 + 1 = (T ++ [comb x.op a b]).length by rw [List.length_append, hT]; rfl)
          have HT := Lib.hid hT
          have hcall : ∀ W, Calls Tryz.prog 166 #[.int .i64 x.op, .int .i64 a, .int .i64 b] W (Ret W (.int .i64 (comb x.op a b))) := fun W => S_l5Op W x.op a b ho2 ha hbc
          obtain ⟨r, hr⟩ : ∃ r, r = comb x.op a b := ⟨_, rfl⟩
          rw [← hr] at HS2 HC2 HL2
          simp only [← hr] at hcall
          have j1 : (0 : Int) ≤ (m : Int) - 2 := by omega
          have j2 : (m : Int) - 2 < (m : Int) := by omega
          have j3 : (0 : Int) ≤ (m : Int) - 1 := by omega
          have j4 : (m : Int) - 1 < (m : Int) := by omega
          have s0 := since_cell p0
          have s1 := since_cell hca
          have s2 := since_cell hcb
          have hvp := pop_two hv
          rw [hT] at hvp
          clear c1' c2' c3 c4 c5 o0 o3 ho2 HN HS HD HD2 HC HW hl' hp' h1' h2' hge hT p1 p2 p3 p4 p5 ka kb hca hcb hcode hr ha hbc hv
          go_wp2
          refine wp_region_since (by kernel_rfl) (by kernel_rfl) ?_
          repeat (first | go_big_quiet_skip | (go_big_quiet_want; go_big_quiet_op; first | go_big_quiet_on | (apply Exists.intro; refine ⟨fun _ => ?_, ?_⟩; (· (((first | (go_at_call 166; exact Calls_since (hcall _)))))); go_big_quiet_on)))
          refine wpQuiet_nil ?_
          rintro ⟨wq, hbq⟩
          dsimp only at *
          have hbb := hb.then hbq
          have hv1 := (fInts_good (B := wB.heap.size)).bw hbq hb.size hvp
          have hFq : ∀ b ∈ F, b < wr.heap.size := hFm
          have hvW := (fInts_good (B := wB.heap.size)).bw ((Bw.refl wq).alloc (.cells #[.int .i64 r] 3)) hbb.size hv1
          have hbW := hbb.alloc (.cells #[.int .i64 r] 3)
          have hcl := cell_one_new wq (.int .i64 r) 3
          have hb0 := hb.size
          clear s0 s1 s2 hvp hv1
          go_wp2_with (at_builtin; refine wpList_push _ rfl (.tmp 46) (.tmp 48) 26 rfl wB 3 i0 _ 1 8 Tryz.underlying26 hi hz0 hz1 hz2 rfl (by omega) fInt_good _ T F rfl hvW hF ⟨wq.heap.size, 0, none⟩ 1 rfl r [.int .i64 r] [] hcl ⟨rfl, rfl⟩ rfl wr.heap.size hFm Fresh.nil hb0 (by rw [HT.out]; omega) (by rw [HT.out]; omega) hbW ?_; intro v' w' F' hv' hF' hb')
          obtain ⟨A3, c3, rfl, hc3, _⟩ := rSl_shape (fInts_Rd hv')
          rw [← HL2.out] at hv' hc3 ⊢
          go_roundg (n - (k + 1))
          case measure => omega
          case rel => exact ⟨k + 1, m - 2 + 1, T ++ [r], F', A3, c3, by omega, rfl, by go_num, rfl, HL2, by omega, hc3, hv', hF', HS2, HD3, HC2, hb'⟩
    · obtain rfl : k = n := by omega
      have hm : (m : Int) = 1 := by
        have := HD.out
        rw [List.drop_of_length_le (by rw [← L.out]; exact Nat.le_refl _), depthOf] at this
        injection this
      obtain rfl : m = 1 := by omega
      obtain ⟨T, a, hSt⟩ := snoc1 (l := St) (by rw [← HL.out]; omega)
      subst hSt
      have hT : T = [] := List.eq_nil_of_length_eq_zero (by have := HL.out; rw [List.length_append] at this; simp only [List.length_singleton] at this; omega)
      subst hT
      obtain ⟨g, rfl, hz9, hgF⟩ := fSl_lit2 hv (by simp)
      clear hz9
      have hc := own_cell (k := 0) hv rfl
      have HF := Lib.hid (show a = cmpBy e p q by rw [← stackAt_end (e := e) (x := p) (y := q) (k := k) (by rw [← L.out]; exact Nat.le_refl _), ← HS.out]; rfl)
      clear HS HD HC HL hm hv
      go_wp2
      go_ret
      exact Ret.int HF.out (B0.then hb)
end Go.Proofs.YtpihighajaeabaaGreat
