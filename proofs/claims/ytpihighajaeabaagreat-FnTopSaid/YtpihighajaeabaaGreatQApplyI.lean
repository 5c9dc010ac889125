/- A rule of rewriting that is applied, in the program. -/
import Derived.Test.YtpihighajaeabaaGreatQMergW
import Derived.Test.YtpihighajaeabaaGreatQRuleR
import Derived.Test.YtpihighajaeabaaGreatQBestS
import Derived.Laws.EntriesVeiled
import Derived.Test.YtpihighajaeabaaGreatQRuleI
import Derived.Test.YtpihighajaeabaaGreatQModel3
import Derived.Deep.RegionHeld3
namespace Go.Proofs.YtpihighajaeabaaGreat
open Go.RowKit
set_option linter.unusedVariables false
set_option linter.unusedSimpArgs false
/-- what divide holds: itself, items, an expression -/
structure EnvD (w : World) (p6 p2 p3 : Nat) (l : List GItem) (e : List GNode) : Prop where
  self : w.cell? ⟨p6, 0, none⟩ = some (.func (.func 117) #[] #[.pointer (some ⟨p6, 0, none⟩), .pointer (some ⟨p2, 0, none⟩), .pointer (some ⟨p3, 0, none⟩)])
  li : ∃ A n c, w.cell? ⟨p2, 0, none⟩ = some (.slice A n c) ∧ Rd rItems w l [.slice A n c]
  ex : ∃ A n c, w.cell? ⟨p3, 0, none⟩ = some (.slice A n c) ∧ Rd rNodes w e [.slice A n c]
theorem EnvD.bw {w w' : World} {p6 p2 p3 : Nat} {l : List GItem} {e : List GNode} (h : EnvD w p6 p2 p3 l e) (hb : Bw w w') : EnvD w' p6 p2 p3 l e := by
  obtain ⟨h0, ⟨A, n, c, h1, h2⟩, ⟨A', n', c', h3, h4⟩⟩ := h
  exact ⟨hb.cell h0, ⟨A, n, c, hb.cell h1, h2.bw rItems_good hb⟩, ⟨A', n', c', hb.cell h3, h4.bw rNodes_good hb⟩⟩
theorem sl_pre {b o n c k : Nat} (hk : k ≤ n) (hn : n ≤ c) (W : World) : (Instr.slice 24 (.slice (some ⟨b, o, none⟩) n c) none (some (.int .i64 (k : Int))) none).run Tryz.prog W = .ok (.slice (some ⟨b, o, none⟩) k c) W := by
  have j0 : (0 : Int) ≤ (k : Int) := by omega
  have j1 : (k : Int) ≤ (n : Int) := by omega
  have j2 : (n : Int) ≤ (c : Int) := by omega
  have j3 : (k : Int) ≤ (c : Int) := by omega
  go_simp
theorem sl_suf {b o n c k : Nat} (hk : k < n) (hn : n ≤ c) (W : World) : (Instr.slice 24 (.slice (some ⟨b, o, none⟩) n c) (some (.int .i64 (k : Int))) none none).run Tryz.prog W = .ok (.slice (some ⟨b, o + k * 2, none⟩) (n - k) (c - k)) W := by
  have j0 : (0 : Int) ≤ (k : Int) := by omega
  have j1 : (k : Int) ≤ (n : Int) := by omega
  have j2 : (n : Int) ≤ (c : Int) := by omega
  have j3 : (k : Int) ≤ (c : Int) := by omega
  have j4 : ¬ c = k := by omega
  go_simp
theorem one_int (w : World) (i : Int) : Rd rInts (w.alloc (.cells #[.int .i64 i] 3)) [i] [.slice (some ⟨w.heap.size, 0, none⟩) 1 1] := by
  have hz : (w.alloc (.cells #[.int .i64 i] 3)).cell? ⟨w.heap.size, 0, none⟩ = some (.int .i64 i) := by go_simp
  refine ⟨_, 1, rfl, Nat.le_refl _, by decide, fun k y hy => ?_⟩
  cases k with
  | succ k => simp at hy
  | zero =>
    simp at hy
    subst hy
    refine ⟨w.heap.size, 0, [.int .i64 i], rfl, by simp [lt], rfl, fun j t ht => ?_, rfl⟩
    cases j with
    | zero =>
      simp at ht
      subst ht
      exact hz
    | succ j => simp at ht
def DivPost (w : World) (p : List GItem) (e : List GNode) (e' : Ending) (w' : World) : Prop := ∃ v q, e' = .returned (.tuple #[v, .int .i64 q]) ∧ Rd rInts w' (bestM p e) [v] ∧ Bw w w'
set_option maxRecDepth 100000 in
set_option maxHeartbeats 3200000 in
theorem I_divide (l : List GItem) (e : List GNode) (hI : areItems l = true) (hE : isExpr e = true) : ∀ (N : Nat) (w : World) (p : List GItem) (b o n c : Nat) (p6 p2 p3 : Nat), p.length ≤ N → Rd rItems w p [.slice (some ⟨b, o, none⟩) n c] → EnvD w p6 p2 p3 l e → 0 < n → p.Sublist l →
    Calls Tryz.prog 117 #[.slice (some ⟨b, o, none⟩) n c, .pointer (some ⟨p6, 0, none⟩), .pointer (some ⟨p2, 0, none⟩), .pointer (some ⟨p3, 0, none⟩)] w (DivPost w p e)
  | 0, w, p, b, o, n, c, p6, p2, p3, hN, hp, hD, hn, hs => by
    have := (rSl_len hp).1
    omega
  | N + 1, w, p, b, o, n, c, p6, p2, p3, hN, hp, hD, hn, hs => by
    have ih := I_divide l e hI hE N
    have hnl := (rSl_len hp).1
    have hc1 := (rSl_len hp).2.1
    have hc2 := (rSl_len hp).2.2
    unfold maxLen at hc2
    have h16 : n ≤ 16 := by rw [hnl]; exact Nat.le_trans hs.length_le (areItems_len hI)
    by_cases h1 : n = 1
    · subst h1
      obtain ⟨x, rfl⟩ : ∃ x, p = [x] := by
        cases p with
        | nil => simp at hnl
        | cons x t => cases t with
          | nil => exact ⟨x, rfl⟩
          | cons y t => simp at hnl
      obtain ⟨ba, oa, A', c', eA, _, cx0, _, _⟩ := rItems_at (k := 0) (x := x) hp rfl
      injection eA with eA
      injection eA with eA eO
      subst eA eO
      rw [Nat.zero_mul, Nat.add_zero] at cx0
      have HB := Lib.hid (best_one e hE (areItems_mem hI (hs.subset (List.mem_singleton.2 rfl))))
      have HW := one_int w x.id
      have HWW := Lib.hid HW
      clear hnl hp hs hN HW
      go_enter Tryz.func117, Tryz.ntmps117
      go_wp2
      refine bodyPost_ret (v := .tuple #[.slice (some ⟨w.heap.size, 0, none⟩) 1 1, .int .i64 0]) (by simp [results, Tryz.results117, go_sem]) rfl ?_
      exact ⟨_, _, rfl, by rw [HB.out]; exact HWW.out, (Bw.refl w).alloc _⟩
    · have e1 : ((n : Int) == 1) = false := by rw [beq_eq_false_iff_ne]; omega
      obtain ⟨hf, hhf⟩ : ∃ hf, hf = n / 2 := ⟨_, rfl⟩
      have q1 : (n : Int).tdiv 2 = (hf : Int) := by rw [Int.tdiv_eq_ediv_of_nonneg (by omega)]; omega
      have q2 : (n : Int) / 2 = (hf : Int) := by omega
      have hf0 : 0 < hf := by omega
      have hfn : hf < n := by omega
      obtain ⟨A1, n1, c1, kc1, kr1⟩ := hD.li
      obtain ⟨A2, n2, c2, kc2, kr2⟩ := hD.ex
      have hself := hD.self
      have hpa : p = p.take hf ++ p.drop hf := (List.take_append_drop hf p).symm
      have h1p : Rd rItems w (p.take hf) [.slice (some ⟨b, o, none⟩) hf c] := by
        have := rSl_sub hp 0 hf (Nat.zero_le _) (by omega) hnl
        rwa [Nat.zero_mul, Nat.add_zero, Nat.sub_zero, Nat.sub_zero, List.drop_zero] at this
      have h2p : Rd rItems w (p.drop hf) [.slice (some ⟨b, o + hf * 2, none⟩) (n - hf) (c - hf)] := by
        have := rSl_sub hp hf n (by omega) (Nat.le_refl _) hnl
        rwa [List.take_of_length_le (by rw [List.length_drop]; omega)] at this
      have s1 : (p.take hf).Sublist l := (List.take_sublist _ _).trans hs
      have s2 : (p.drop hf).Sublist l := (List.drop_sublist _ _).trans hs
      have IH1 := Lib.hid (fun W (B : Bw w W) => ih W (p.take hf) b o hf c p6 p2 p3 (by rw [List.length_take]; omega) (h1p.bw rItems_good B) (hD.bw B) hf0 s1)
      have IH2 := Lib.hid (fun W (B : Bw w W) => ih W (p.drop hf) b (o + hf * 2) (n - hf) (c - hf) p6 p2 p3 (by rw [List.length_drop]; omega) (h2p.bw rItems_good B) (hD.bw B) (by omega) s2)
      have HM := Lib.hid (merge_best (l := l) hE hI (p := p.take hf) (q := p.drop hf) (by rw [← hpa]; exact hs))
      have HPA := Lib.hid hpa
      have HS1 := Lib.hid s1
      have HS2 := Lib.hid s2
      have HHF := Lib.hid hhf
      have hsl1 := fun W => sl_pre (b := b) (o := o) (n := n) (c := c) (k := hf) (by omega) (by omega) W
      have hsl2 := fun W => sl_suf (b := b) (o := o) (n := n) (c := c) (k := hf) (by omega) (by omega) W
      have i1 : (0 : Int) ≤ (hf : Int) := by omega
      have i2 : (hf : Int) ≤ (n : Int) := by omega
      have hBw := (Bw.refl w).drew
      have y0 := hBw.cell hself
      clear hnl hp hs hN hhf hpa h1p h2p s1 s2 ih hD
      go_enter Tryz.func117, Tryz.ntmps117
      go_wp2_with fail
      go_region_held3 (fun w' => w'.cell? ⟨p6, 0, none⟩ = some (.func (.func 117) #[] #[.pointer (some ⟨p6, 0, none⟩), .pointer (some ⟨p2, 0, none⟩), .pointer (some ⟨p3, 0, none⟩)])) (exact y0)
        (first
          | (go_at_call 117; (with_reducible refine (IH1.out _ hBw).mono ?_); rintro e' w5 ⟨va5, qa5, rfl, ra5, hb5⟩; replace y0 := hb5.cell y0; replace hBw := hBw.then hb5))
      all_goals
        obtain ⟨Aa, na, ca, rfl, la, _⟩ := rSl_open ra5
        have LA := Lib.hid la
        have RA := Lib.hid ra5
        clear la
        have hD6 := (Bw.refl w5).drew
        have hB6 := hBw.then hD6
        have y1 := hD6.cell y0
        go_wp2_with fail
        go_region_held3 (fun w' => w'.cell? ⟨p6, 0, none⟩ = some (.func (.func 117) #[] #[.pointer (some ⟨p6, 0, none⟩), .pointer (some ⟨p2, 0, none⟩), .pointer (some ⟨p3, 0, none⟩)])) (exact y1)
          (first
            | (go_at_call 117; (with_reducible refine (IH2.out _ hB6).mono ?_); rintro e' w7 ⟨va7, qa7, rfl, ra7, hb7⟩; replace y1 := hb7.cell y1; replace hB6 := hB6.then hb7))
        all_goals
          obtain ⟨Ab, nb, cb, rfl, lb, _⟩ := rSl_open ra7
          have LB := Lib.hid lb
          have hb57 := hD6.then hb7
          have k1 := hB6.cell kc1
          have k2 := hB6.cell kc2
          have l1 : (bestM (p.take hf) e).length ≤ 16 := Nat.le_trans (bestM_len _ _) (Nat.le_trans HS1.out.length_le (areItems_len hI))
          have l2 : (bestM (p.drop hf) e).length ≤ 16 := Nat.le_trans (bestM_len _ _) (Nat.le_trans HS2.out.length_le (areItems_len hI))
          have hcall := I_merged w7 l e (bestM (p.take hf) e) (bestM (p.drop hf) e) _ _ _ _ (kr1.bw rItems_good hB6) (kr2.bw rNodes_good hB6) (RA.out.bw rInts_good hb57) ra7 hI hE (fun v hv => best_find hI HS1.out hv) (fun v hv => best_find hI HS2.out hv) l1 l2
          rw [HM.out, ← HPA.out] at hcall
          clear lb l1 l2 ra7 ra5
          go_wp2_with fail
          refine hcall.mono ?_
          rintro e1 w8 ⟨v8, rfl, ⟨F8, o8, f8⟩, hb8⟩
          clear hcall
          have hB8 := hB6.then hb8
          have r8 := fInts_Rd o8
          go_wp2
          refine bodyPost_ret (v := .tuple #[v8, .int .i64 (wrap64 (wrap64 (qa5 + qa7) + wrap64 ((na : Int) * (nb : Int))))]) (by simp [results, Tryz.results117, go_sem]) rfl ?_
          exact ⟨_, _, rfl, r8, hB8⟩
set_option maxRecDepth 100000 in
set_option maxHeartbeats 3200000 in
theorem I_DivideBest (w : World) (l : List GItem) (e : List GNode) (v u : Value) (h : Rd rItems w l [v]) (h' : Rd rNodes w e [u]) (hB : areBoth l e = true) :
    Calls Tryz.prog 35 #[v, u] w (fun e' w' => ∃ v' q, e' = .returned (.tuple #[v', .int .i64 q]) ∧ Rd rInts w' (bestItems l e) [v'] ∧ Bw w w') := by
  have hI := areBoth_items hB
  have hE := areBoth_expr hB
  obtain ⟨Al, nl, cl, rfl, ll, lc, lm⟩ := rSl_open h
  unfold maxLen at lm
  obtain ⟨Ae, ne, ce, rfl, le, _⟩ := rSl_open h'
  have hA2 := ((Bw.refl w).alloc (.cells #[.slice Al nl cl] 24)).alloc (.cells #[.slice Ae ne ce] 25)
  have c0 : ((w.alloc (.cells #[.slice Al nl cl] 24)).alloc (.cells #[.slice Ae ne ce] 25)).cell? ⟨w.heap.size, 0, none⟩ = some (.slice Al nl cl) := by go_simp
  have c1 : ((w.alloc (.cells #[.slice Al nl cl] 24)).alloc (.cells #[.slice Ae ne ce] 25)).cell? ⟨w.heap.size + 1, 0, none⟩ = some (.slice Ae ne ce) := by go_simp
  have kc := I_areBoth _ l e _ _ (h.bw rItems_good hA2) (h'.bw rNodes_good hA2)
  rw [hB] at kc
  have LL := Lib.hid ll
  have HBE := Lib.hid (show bestItems l e = bestM l e by unfold bestItems; rw [if_pos hB])
  clear ll le hB
  go_enter Tryz.func35, Tryz.ntmps35
  go_wp2_with fail
  refine kc.mono ?_
  rintro e1 w1 ⟨rfl, hb1⟩
  clear kc
  have hB1 := hA2.then hb1
  replace c0 := hb1.cell c0
  replace c1 := hb1.cell c1
  clear hA2 hb1
  by_cases h0 : nl = 0
  · have e0 : ((nl : Int) == 0) = true := by rw [beq_iff_eq]; omega
    have hl : l = [] := List.eq_nil_of_length_eq_zero (by rw [← LL.out]; exact h0)
    have HN := Lib.hid (show bestItems l e = [] by rw [HBE.out, hl]; rfl)
    have hr0 : Rd rInts (w1.alloc (.cells #[] 3)) [] [.slice (some ⟨w1.heap.size, 0, none⟩) 0 0] := ⟨_, 0, rfl, Nat.le_refl _, by decide, fun k y hy => by simp at hy⟩
    have HR := Lib.hid hr0
    clear h0 hl hr0
    go_wp2
    refine bodyPost_ret (v := .tuple #[.slice (some ⟨w1.heap.size, 0, none⟩) 0 0, .int .i64 0]) (by simp [results, Tryz.results35, go_sem]) rfl ?_
    exact ⟨_, _, rfl, by rw [HN.out]; exact HR.out, hB1.alloc _⟩
  · have e0 : ((nl : Int) == 0) = false := by rw [beq_eq_false_iff_ne]; omega
    obtain ⟨x, hx⟩ := get_of_lt (xs := l) (k := 0) (by rw [← LL.out]; omega)
    obtain ⟨ba, oa, _, _, eA, _⟩ := rItems_at h hx
    subst eA
    clear hx
    obtain ⟨W, hW⟩ : ∃ W, W = w1.alloc (.cells #[.func (.func 117) #[] #[.pointer (some ⟨w1.heap.size, 0, none⟩), .pointer (some ⟨w.heap.size, 0, none⟩), .pointer (some ⟨w.heap.size + 1, 0, none⟩)]] 119) := ⟨_, rfl⟩
    have hBW : Bw w W := by rw [hW]; exact hB1.alloc _
    have hb1W : Bw w1 W := by rw [hW]; exact (Bw.refl w1).alloc _
    have cs : W.cell? ⟨w1.heap.size, 0, none⟩ = some (.func (.func 117) #[] #[.pointer (some ⟨w1.heap.size, 0, none⟩), .pointer (some ⟨w.heap.size, 0, none⟩), .pointer (some ⟨w.heap.size + 1, 0, none⟩)]) := by rw [hW]; go_simp
    have hD : EnvD W w1.heap.size w.heap.size (w.heap.size + 1) l e := ⟨cs, ⟨_, _, _, hb1W.cell c0, h.bw rItems_good hBW⟩, ⟨_, _, _, hb1W.cell c1, h'.bw rNodes_good hBW⟩⟩
    have hcall := I_divide l e hI hE l.length W l ba oa nl cl _ _ _ (Nat.le_refl _) (h.bw rItems_good hBW) hD (by omega) (List.Sublist.refl l)
    have HW := Lib.hid hW
    have c2 := ((Bw.refl w1).alloc (.cells #[.func (.func 117) #[] #[.pointer (some ⟨w1.heap.size, 0, none⟩), .pointer (some ⟨w.heap.size, 0, none⟩), .pointer (some ⟨w.heap.size + 1, 0, none⟩)]] 119)).cell c0
    clear hW hD h h' cs hb1W
    go_wp2_with fail
    rw [← HW.out]
    refine hcall.mono ?_
    rintro e1 w5 ⟨v5, q5, rfl, r5, hb5⟩
    clear hcall
    have hBF := hBW.then hb5
    rw [← HBE.out] at r5
    go_wp2
    refine bodyPost_ret (v := .tuple #[v5, .int .i64 q5]) (by simp [results, Tryz.results35, go_sem]) rfl ?_
    exact ⟨_, _, rfl, r5, hBF⟩
end Go.Proofs.YtpihighajaeabaaGreat

namespace Go.Proofs.YtpihighajaeabaaGreat
open Go.RowKit
set_option linter.unusedVariables false
set_option linter.unusedSimpArgs false
theorem I_rewrittenA (w : World) (t : XT) (e pre post : List GNode) (r : Int) (ba oa n m c : Nat) (h : Rd rNodes w e [.slice (some ⟨ba, oa, none⟩) n c]) (hL : Hid (n = e.length)) (he : e = pre ++ (flat t ++ post)) (hok : okT t) (h9 : e.length ≤ 9) (hm : m + 1 = pre.length + (flat t).length) (hr : r = 1 ∨ r = 2 ∨ r = 3) (hc : n ≤ c) (hc2 : c ≤ 9223372036854775807) :
    Calls Tryz.prog 180 #[.slice (some ⟨ba, oa, none⟩) n c, .int .i64 r, .int .i64 (m : Int)] w (RewPost (ruleT r t) w) := by
  rcases hr with rfl | rfl | rfl
  · exact I_rewritten1 w t e pre post ba oa n m c h hL he hok h9 hm hc hc2
  · exact I_rewritten2 w t e pre post ba oa n m c h hL he hok h9 hm hc hc2
  · exact I_rewritten3 w t e pre post ba oa n m c h hL he hok h9 hm hc hc2
theorem ruleT_len {r : Int} {t : XT} {x : List GNode} (h : ruleT r t = some x) : x.length ≤ (flat t).length + 2 := by
  cases t with
  | base w => cases h
  | two op a b =>
    simp only [ruleT] at h
    split at h
    · injection h with h; rw [← h, flat_two_len]; omega
    · cases h
  | dual s =>
    cases s with
    | base w => cases h
    | dual s =>
      simp only [ruleT] at h
      split at h
      · injection h with h; rw [← h, flat_dual_len, flat_dual_len]; omega
      · cases h
    | two op a b =>
      simp only [ruleT] at h
      split at h
      · injection h with h; rw [← h, flat_dual_len, flat_two_len]; simp; omega
      · cases h
set_option maxRecDepth 100000 in
set_option maxHeartbeats 6400000 in
theorem I_ApplyRule (w : World) (e : List GNode) (r m : Int) (v : Value) (h : Rd rNodes w e [v]) (ht : totNodes e ≤ 1048576) (hr : r = 1 ∨ r = 2 ∨ r = 3) :
    Calls Tryz.prog 123 #[v, .int .i64 r, .int .i64 m] w (RetV w (Two fNodes w.heap.size (applyM e r m).1 (.bool (applyM e r m).2))) := by
  obtain ⟨i0, hi, hz0, hz1, hz2⟩ := info_parts info_Node
  have k1 := I_IsExpression w e v h
  have kcp := fun W (B : Bw w W) => I_copyNodes W e v (h.bw rNodes_good B) ht
  obtain ⟨Y, hY⟩ : ∃ Y, Y = applyM e r m := ⟨_, rfl⟩
  rw [← hY]
  by_cases hE : isExpr e = true
  · rw [hE] at k1
    obtain ⟨ba, oa, n, c, rfl, hL, hc, hc2⟩ := nodes_lit h (expr_pos hE)
    have hin := fun W => I_within W m 0 ((n : Int) - 1)
    have hlen := expr_len9 hE
    by_cases hm : 0 ≤ m ∧ m < (n : Int)
    · have e1 : inB m 0 ((n : Int) - 1) = true := decide_eq_true (by omega)
      simp only [e1] at hin
      obtain ⟨k, rfl⟩ : ∃ k : Nat, m = k := ⟨m.toNat, by omega⟩
      have hkn : k < e.length := by rw [← hL.out]; omega
      obtain ⟨⟨pre, t, post⟩, hq, hqe⟩ := applyM_yes (r := r) hE hkn
      have heq := hq.eq
      have hat := hq.at'
      have hok := hq.ok
      dsimp only at heq hat hok
      have hnn := hL.out
      have hru := fun W (B : Bw w W) => I_rewrittenA W t e pre post r ba oa n k c (h.bw rNodes_good B) hL heq hok hlen hat hr hc hc2
      have HRU := Lib.hid hru
      have KCP := Lib.hid kcp
      have hle : e.length = pre.length + (flat t).length + post.length := by rw [heq]; simp; omega
      have htk : e.take (k + 1) = pre ++ flat t := by rw [hat, heq]; exact take_mid _ _ _
      have hst := fun W (B : Bw w W) => I_start W e pre t k _ (h.bw rNodes_good B) hok hkn hlen htk
      obtain ⟨p, hp⟩ : ∃ p, p = pre.length := ⟨_, rfl⟩
      rw [← hp] at hst
      have HST := Lib.hid hst
      have he2 : e = [] ++ (pre ++ (flat t ++ post)) := by rw [heq]; rfl
      have he4 : e = (pre ++ flat t) ++ (post ++ []) := by rw [heq]; simp
      have r1 : rNodes w (lt w) pre [.slice (some ⟨ba, oa, none⟩) p c] := by
        have := rSl_part (i := 0) (k := p) h hL.out he2 (by simp) (by simp [hp])
        rw [Nat.zero_mul, Nat.add_zero, Nat.sub_zero, Nat.sub_zero] at this
        exact this
      have r2 : rNodes w (lt w) post [.slice (some ⟨ba, oa + (k + 1) * 6, none⟩) (n - (k + 1)) (c - (k + 1))] :=
        rSl_part (i := k + 1) (k := n) h hL.out he4 (by rw [List.length_append]; omega) (by rw [List.length_append]; omega)
      have hp9 := flat_pos t
      have r3 : k + 1 = n → rNodes w (lt w) post [.slice (some ⟨ba, oa, none⟩) 0 0] := fun hmn => by
        have hp0 : post = [] := List.eq_nil_of_length_eq_zero (by omega)
        rw [hp0]
        exact ⟨_, 0, rfl, Nat.le_refl _, by simp [maxLen], fun k x hx => by simp at hx⟩
      have q1 : (0 : Int) ≤ (p : Int) := by omega
      have q2 : (p : Int) ≤ (c : Int) := by omega
      have q3 : (0 : Int) ≤ (k : Int) + 1 := by omega
      have q4 : (k : Int) + 1 ≤ (n : Int) := by omega
      have q5 : (n : Int) ≤ (c : Int) := by omega
      have hwk : IntKind.i64.wrap ((k : Int) + 1) = (k : Int) + 1 := by simp [IntKind.wrap, IntKind.bits, IntKind.signed]; omega
      have hYq : Y = resM (pre, t, post) r e := by rw [hY]; exact hqe
      cases ho : ruleT r t with
      | none =>
        have hYe : Y = (e, false) := by rw [hYq]; unfold resM; dsimp only; rw [ho]
        subst hYe
        simp only [ho] at hru
        have HRU := Lib.hid hru
        clear hru kcp hY hE h e1 hkn hlen hm hq hqe heq hat hok hle htk hst hp he2 he4 r1 r2 r3 ho hYq hnn hp9
        go_enter Tryz.func123, Tryz.ntmps123
        go_wp2_with fail
        refine (k1).mono ?_
        rintro e w1 ⟨rfl, hb1⟩
        have hi2 := hin w1
        clear k1
        go_wp2_with fail
        refine hi2.mono ?_
        rintro e2 w2 ⟨rfl, hb2⟩
        have B2 := hb1.then hb2
        have hr3 := HRU.out w2 B2
        clear hi2 hin
        go_wp2_with fail
        refine hr3.mono ?_
        rintro e3 w3 ⟨v3, b, rfl, hb3, hbf⟩
        have B3 := B2.then hb3
        obtain rfl : b = false := hbf
        have hc4 := KCP.out w3 B3
        clear hr3
        go_wp2_with fail
        refine hc4.mono ?_
        rintro e4 w4 ⟨v4, rfl, ⟨F4, o4, f4⟩, hb4⟩
        have B4 := B3.then hb4
        clear hc4
        go_wp2
        refine bodyPost_ret (v := .tuple #[v4, .bool false]) (by simp [results, Tryz.results123, go_sem]) rfl ?_
        exact RetV.two o4 (f4.mono B3.size) rfl B4
      | some x =>
        have hxl := ruleT_len ho
        have HPL := Lib.hid (show pre.length ≤ 20 ∧ x.length ≤ 20 ∧ post.length ≤ 20 by omega)
        have HY1 := Lib.hid (fun (hl : (pre ++ (x ++ post)).length ≤ 9) => show Y = (pre ++ (x ++ post), true) by rw [hYq]; unfold resM; dsimp only; rw [ho]; dsimp only; rw [if_pos hl])
        have HY2 := Lib.hid (fun (hl : ¬ (pre ++ (x ++ post)).length ≤ 9) => show Y = (e, false) by rw [hYq]; unfold resM; dsimp only; rw [ho]; dsimp only; rw [if_neg hl])
        have HTOT := Lib.hid (fun (hl : (pre ++ (x ++ post)).length ≤ 9) => expr_small (applyM_expr (e := e) (r := r) (m := (k : Int)) (by rw [← hY]; exact HY1.out hl)))
        simp only [ho] at hru
        have HRU := Lib.hid hru
        have R1 := Lib.hid r1
        have R2 := Lib.hid r2
        have R4 := Lib.hid r3
        clear hru kcp hY hE e1 hkn hlen hm hq hqe heq hat hok hle htk hst hp he2 he4 r1 r2 r3 ho hYq hp9 hxl hnn h
        go_enter Tryz.func123, Tryz.ntmps123
        go_wp2_with fail
        refine (k1).mono ?_
        rintro e w1 ⟨rfl, hb1⟩
        have hi2 := hin w1
        clear k1
        go_wp2_with fail
        refine hi2.mono ?_
        rintro e2 w2 ⟨rfl, hb2⟩
        have B2 := hb1.then hb2
        have hr3 := HRU.out w2 B2
        clear hi2 hin
        go_wp2_with fail
        refine hr3.mono ?_
        rintro e3 w3 ⟨v3, b, rfl, hb3, hbt, hv3⟩
        have B3 := B2.then hb3
        subst hbt
        have R3 := Lib.hid hv3
        have hA3 := (Bw.refl w3).alloc (.cells #[] 111)
        have hv0 := fSl_empty (e := 111) (sz := 6) (R := fSh w3.heap.size rNode) w3
        have hF0 : Fresh w3.heap.size [w3.heap.size] := ⟨by simp, by simp⟩
        have hs4 := HST.out _ (B3.then hA3)
        clear hr3 hv3
        go_wp2_with fail
        refine hs4.mono ?_
        rintro e4 w4 ⟨rfl, hb4⟩
        have B34 := hA3.then hb4
        have hv4 := (fNodesSh_good (Nat.le_refl w3.heap.size)).bw hb4 hA3.size hv0
        have RW1 := Rd.bw rNodes_good R1.out B3
        have hsP := rd_low RW1 B34 (Nat.le_refl _)
        clear hs4 hv0 hb4 hA3
        by_cases hcc : c ≤ k + 1
        · obtain rfl : n = k + 1 := by omega
          obtain rfl : c = k + 1 := by omega
          have RP := Lib.hid (Rd.bw rNodes_good (R4.out rfl) B3)
          clear hcc
          go_wp2_with (at_builtin; refine wpList_append_all _ rfl (.tmp 35) (.tmp 40) 25 rfl w3 111 i0 _ 6 80 Tryz.underlying25 hi hz0 hz1 hz2 rfl (by omega) (fSh_good rNode_good (Nat.le_refl _)) _ [] [w3.heap.size] (by rfl) hv4 hF0 _ (by rfl) pre hsP (fun y u h => shNode h) (by have := HPL.out; simp only [List.length_nil]; omega) (by have := HPL.out; simp only [List.length_nil]; omega) B34 ?_; intro v5 w5 F5 o5 f5 B5; rw [List.nil_append] at o5)
          have o5W := (fNodesSh_good (Nat.le_refl w3.heap.size)).bw ((Bw.refl w5).drew) B5.size o5
          have B5d := B5.then (Bw.refl w5).drew
          have hsX := rd_low R3.out B5d (Nat.le_refl _)
          have HSP := Lib.hid (fun (W : World) (B : Bw w3 W) => rd_low (RP.out) B (Nat.le_refl _))
          clear hv4 hF0 hsP o5
          go_region_held3 (fun w' => True) (exact trivial) (first
            | (refine step_append_all _ (by rfl) (.tmp 42) (.tmp 43) 25 (by rfl) w3 111 i0 _ 6 80 Tryz.underlying25 hi hz0 hz1 hz2 rfl (by omega) (fSh_good rNode_good (Nat.le_refl _)) v5 pre F5 (by rfl) o5W f5 _ (by rfl) x hsX (fun y u h => shNode h) (by have := HPL.out; omega) (by have := HPL.out; omega) B5d ?_; intro v6 w6 F6 o6 f6 B6 hO6 hs6)
            | (refine step_append_all _ (by rfl) (.tmp 44) (.tmp 48) 25 (by rfl) w3 111 i0 _ 6 80 Tryz.underlying25 hi hz0 hz1 hz2 rfl (by omega) (fSh_good rNode_good (Nat.le_refl _)) v6 (pre ++ x) F6 (by rfl) o6 f6 _ (by rfl) post (HSP.out w6 B6) (fun y u h => shNode h) (by have := HPL.out; rw [List.length_append]; omega) (by have := HPL.out; rw [List.length_append]; omega) B6 ?_; intro v7 w7 F7 o7 f7 B7 hO7 hs7))
          all_goals
            rw [List.append_assoc] at o7
            have r7 := fNodesSh_Rd o7 B7.size
            obtain ⟨A7, n7, c7, rfl, ln7, _⟩ := rSl_open r7
            have B07 := B3.then B7
            have hbs7 := B07.size
            by_cases hl : n7 ≤ 9
            · have i9 : ¬ (9 : Int) < (n7 : Int) := by omega
              have hY1 := HY1.out (by rw [← ln7]; exact hl)
              have hc8 := I_copyNodes w7 (pre ++ (x ++ post)) _ r7 (by have := HTOT.out (by rw [← ln7]; exact hl); omega)
              have HYE := Lib.hid hY1
              clear hl ln7 r7 o7 hY1 hsX o5W
              go_wp2_with fail
              refine hc8.mono ?_
              rintro e8 w8 ⟨v8, rfl, ⟨F8, o8, f8⟩, hb8⟩
              clear hc8
              go_wp2
              refine bodyPost_ret (v := .tuple #[v8, .bool true]) (by simp [results, Tryz.results123, go_sem]) rfl ?_
              rw [HYE.out]
              exact RetV.two o8 (f8.mono hbs7) rfl (B07.then hb8)
            · have i9 : (9 : Int) < (n7 : Int) := by omega
              have hY2 := HY2.out (by rw [← ln7]; exact hl)
              have hc8 := KCP.out w7 B07
              have HYE := Lib.hid hY2
              clear hl ln7 r7 o7 hY2 hsX o5W
              go_wp2_with fail
              refine hc8.mono ?_
              rintro e8 w8 ⟨v8, rfl, ⟨F8, o8, f8⟩, hb8⟩
              clear hc8
              go_wp2
              refine bodyPost_ret (v := .tuple #[v8, .bool false]) (by simp [results, Tryz.results123, go_sem]) rfl ?_
              rw [HYE.out]
              exact RetV.two o8 (f8.mono hbs7) rfl (B07.then hb8)
        · have hcc2 : ¬ c = k + 1 := by omega
          have RP := Lib.hid (Rd.bw rNodes_good R2.out B3)
          go_wp2_with (at_builtin; refine wpList_append_all _ rfl (.tmp 35) (.tmp 40) 25 rfl w3 111 i0 _ 6 80 Tryz.underlying25 hi hz0 hz1 hz2 rfl (by omega) (fSh_good rNode_good (Nat.le_refl _)) _ [] [w3.heap.size] (by rfl) hv4 hF0 _ (by rfl) pre hsP (fun y u h => shNode h) (by have := HPL.out; simp only [List.length_nil]; omega) (by have := HPL.out; simp only [List.length_nil]; omega) B34 ?_; intro v5 w5 F5 o5 f5 B5; rw [List.nil_append] at o5)
          have o5W := (fNodesSh_good (Nat.le_refl w3.heap.size)).bw ((Bw.refl w5).drew) B5.size o5
          have B5d := B5.then (Bw.refl w5).drew
          have hsX := rd_low R3.out B5d (Nat.le_refl _)
          have HSP := Lib.hid (fun (W : World) (B : Bw w3 W) => rd_low (RP.out) B (Nat.le_refl _))
          clear hv4 hF0 hsP o5
          go_region_held3 (fun w' => True) (exact trivial) (first
            | (refine step_append_all _ (by rfl) (.tmp 42) (.tmp 43) 25 (by rfl) w3 111 i0 _ 6 80 Tryz.underlying25 hi hz0 hz1 hz2 rfl (by omega) (fSh_good rNode_good (Nat.le_refl _)) v5 pre F5 (by rfl) o5W f5 _ (by rfl) x hsX (fun y u h => shNode h) (by have := HPL.out; omega) (by have := HPL.out; omega) B5d ?_; intro v6 w6 F6 o6 f6 B6 hO6 hs6)
            | (refine step_append_all _ (by rfl) (.tmp 44) (.tmp 48) 25 (by rfl) w3 111 i0 _ 6 80 Tryz.underlying25 hi hz0 hz1 hz2 rfl (by omega) (fSh_good rNode_good (Nat.le_refl _)) v6 (pre ++ x) F6 (by rfl) o6 f6 _ (by rfl) post (HSP.out w6 B6) (fun y u h => shNode h) (by have := HPL.out; rw [List.length_append]; omega) (by have := HPL.out; rw [List.length_append]; omega) B6 ?_; intro v7 w7 F7 o7 f7 B7 hO7 hs7))
          all_goals
            rw [List.append_assoc] at o7
            have r7 := fNodesSh_Rd o7 B7.size
            obtain ⟨A7, n7, c7, rfl, ln7, _⟩ := rSl_open r7
            have B07 := B3.then B7
            have hbs7 := B07.size
            by_cases hl : n7 ≤ 9
            · have i9 : ¬ (9 : Int) < (n7 : Int) := by omega
              have hY1 := HY1.out (by rw [← ln7]; exact hl)
              have hc8 := I_copyNodes w7 (pre ++ (x ++ post)) _ r7 (by have := HTOT.out (by rw [← ln7]; exact hl); omega)
              have HYE := Lib.hid hY1
              clear hl ln7 r7 o7 hY1 hsX o5W
              go_wp2_with fail
              refine hc8.mono ?_
              rintro e8 w8 ⟨v8, rfl, ⟨F8, o8, f8⟩, hb8⟩
              clear hc8
              go_wp2
              refine bodyPost_ret (v := .tuple #[v8, .bool true]) (by simp [results, Tryz.results123, go_sem]) rfl ?_
              rw [HYE.out]
              exact RetV.two o8 (f8.mono hbs7) rfl (B07.then hb8)
            · have i9 : (9 : Int) < (n7 : Int) := by omega
              have hY2 := HY2.out (by rw [← ln7]; exact hl)
              have hc8 := KCP.out w7 B07
              have HYE := Lib.hid hY2
              clear hl ln7 r7 o7 hY2 hsX o5W
              go_wp2_with fail
              refine hc8.mono ?_
              rintro e8 w8 ⟨v8, rfl, ⟨F8, o8, f8⟩, hb8⟩
              clear hc8
              go_wp2
              refine bodyPost_ret (v := .tuple #[v8, .bool false]) (by simp [results, Tryz.results123, go_sem]) rfl ?_
              rw [HYE.out]
              exact RetV.two o8 (f8.mono hbs7) rfl (B07.then hb8)
    · have e1 : inB m 0 ((n : Int) - 1) = false := decide_eq_false (by omega)
      simp only [e1] at hin
      have hYe : Y = (e, false) := by rw [hY]; exact applyM_no (fun k => hm ⟨k.2.1, by rw [hL.out]; exact k.2.2⟩)
      subst hYe
      have KCP := Lib.hid kcp
      clear kcp hY hE h e1 hlen hm
      go_enter Tryz.func123, Tryz.ntmps123
      go_wp2_with fail
      refine (k1).mono ?_
      rintro e w1 ⟨rfl, hb1⟩
      have hi2 := hin w1
      clear k1
      go_wp2_with fail
      refine hi2.mono ?_
      rintro e2 w2 ⟨rfl, hb2⟩
      have B2 := hb1.then hb2
      have hc4 := KCP.out w2 B2
      clear hi2 hin
      go_wp2_with fail
      refine hc4.mono ?_
      rintro e4 w4 ⟨v4, rfl, ⟨F4, o4, f4⟩, hb4⟩
      have B4 := B2.then hb4
      clear hc4
      go_wp2
      refine bodyPost_ret (v := .tuple #[v4, .bool false]) (by simp [results, Tryz.results123, go_sem]) rfl ?_
      exact RetV.two o4 (f4.mono B2.size) rfl B4
  · have hE2 : isExpr e = false := by simpa using hE
    rw [hE2] at k1
    have hYe : Y = (e, false) := by rw [hY]; exact applyM_no (fun k => hE k.1)
    subst hYe
    have KCP := Lib.hid kcp
    clear kcp hY hE hE2 h
    go_enter Tryz.func123, Tryz.ntmps123
    go_wp2_with fail
    refine (k1).mono ?_
    rintro e w1 ⟨rfl, hb1⟩
    have hc4 := KCP.out w1 hb1
    clear k1
    go_wp2_with fail
    refine hc4.mono ?_
    rintro e4 w4 ⟨v4, rfl, ⟨F4, o4, f4⟩, hb4⟩
    have B4 := hb1.then hb4
    clear hc4
    go_wp2
    refine bodyPost_ret (v := .tuple #[v4, .bool false]) (by simp [results, Tryz.results123, go_sem]) rfl ?_
    exact RetV.two o4 (f4.mono hb1.size) rfl B4
end Go.Proofs.YtpihighajaeabaaGreat
