/- Why an item is not one of the best: ExplainItem in both programs. -/
import Derived.Test.YtpihighajaeabaaGreatProg
import Derived.Test.YtpihighajaeabaaGreatQOwn
import Derived.Deep.Slices
import Derived.OpenShut
import Derived.ShutString
import Derived.ChangeOld
import Derived.Carry
import Derived.Test.YtpihighajaeabaaGreatQVoteE
import Derived.Test.YtpihighajaeabaaGreatQCopyW
import Derived.Test.YtpihighajaeabaaGreatQLines3
import Derived.Test.YtpihighajaeabaaGreatQOwn3
import Derived.Test.YtpihighajaeabaaGreatQModel2
import Derived.Test.YtpihighajaeabaaGreatQAboveA
import Derived.Test.YtpihighajaeabaaGreatQBoxT
import Derived.Test.YtpihighajaeabaaGreatRows
import Derived.Test.YtpihighajaeabaaGreatQChangeM
import Derived.Test.YtpihighajaeabaaGreatQBestI
import Derived.Test.YtpihighajaeabaaGreatQDom
namespace Go.Proofs.YtpihighajaeabaaGreat
open Go.RowKit Go.ChangeShapes Go.WideShapes Go.Deep
set_option linter.unusedVariables false

theorem own_knob : ownKnob Tryz.prog.godebug = none := by kernel_rfl
theorem laid_out : laidOutB Tryz.prog = true := by kernel_rfl
def I64 (n : Int) : Prop := (Lit.int .i64 n).wf = true
theorem I64.bd {n : Int} (h : I64 n) : -9223372036854775808 ≤ n ∧ n ≤ 9223372036854775807 :=
  bounds_i64 h
section
variable {H : Type} {enc : TypeId × Value → H} {w : World} {sp : Nat → Bool} {held : Bool}
theorem t_slice {α : Type} {t e : TypeId} {sz : Nat} {R : Rep α} {Q : α → Prop} (ht : Tryz.prog.underlying t = some (.slice e)) (hC : Tryz.prog.cellsOf e = sz) (hsz : 0 < sz)
    (hE : ∀ n cs y, DataW.trod enc Tryz.prog w 0 sp held n e cs = some y → cs.length = sz → ∃ x, R w (lt w) x cs ∧ Q x) {fuel : Nat} {cs : List Value} {x : DataW H × List MemPlace}
    (h : DataW.trod enc Tryz.prog w 0 sp held fuel t cs = some x) : ∃ xs, Rd (rSl sz R) w xs cs ∧ ∀ x ∈ xs, Q x := by
  rcases open_slice ht h with ⟨rfl, _⟩ | ⟨a, len, cap, m, n, D, Pl, rfl, _, hl, hm, hmm, _, hi⟩
  · exact ⟨[], rSl_nil, fun x hx => by simp at hx⟩
  · have hml : len ≤ m := by rw [hmm]; split <;> omega
    by_cases hl0 : len = 0
    · subst hl0
      exact ⟨[], ⟨some a, cap, rfl, Nat.zero_le _, hm, fun k x hx => by simp at hx⟩, fun x hx => by simp at hx⟩
    obtain ⟨b, o, spot⟩ := a
    have hsp : spot = none := by
      obtain ⟨cs', hc, ht'⟩ := hi 0 (by omega)
      obtain ⟨_, hlen, hat⟩ := World.cells?_some hc
      rw [hC] at hlen hat
      have h0 := hat 0 hsz
      rw [List.getElem?_eq_getElem (by omega), Nat.zero_mul] at h0
      exact World.cell?_spot h0
    subst hsp
    have key : ∀ i : Nat, ∃ x : Option α, i < len → ∃ x' us, x = some x' ∧ b < w.heap.size ∧ us.length = sz ∧ (∀ j u, us[j]? = some u → w.cell? ⟨b, o + i * sz + j, none⟩ = some u) ∧ R w (lt w) x' us ∧ Q x' := by
      intro i
      by_cases hil : i < len
      · obtain ⟨cs', hc, ht'⟩ := hi i (by omega)
        obtain ⟨_, hlen, hat⟩ := World.cells?_some hc
        rw [hC] at hlen hat
        obtain ⟨x, hR, hQ⟩ := hE _ _ _ ht' hlen
        have h0 := hat 0 hsz
        rw [List.getElem?_eq_getElem (by omega)] at h0
        have hb := World.block_lt_of_cell? _ _ h0
        refine ⟨some x, fun _ => ⟨x, cs', rfl, by rw [Go.Proofs.YtpihighajaeabaaGreat.add_block, Go.Proofs.YtpihighajaeabaaGreat.add_block] at hb; exact hb, hlen, fun j u hu => ?_, hR, hQ⟩⟩
        have hj : j < sz := by rw [← hlen]; exact (List.getElem?_eq_some_iff.1 hu).1
        have := hat j hj
        have ea : ((⟨b, o, none⟩ : Addr).add (i * sz)).add j = ⟨b, o + i * sz + j, none⟩ := by
          rw [Go.Proofs.YtpihighajaeabaaGreat.add_add, Nat.add_assoc]
          unfold Addr.add
          split
          · rename_i h; rw [h]; rfl
          · rfl
        rw [ea, hu] at this
        exact this
      · exact ⟨none, fun h => absurd h hil⟩
    obtain ⟨f, hf⟩ := Classical.axiomOfChoice key
    refine ⟨(List.range len).filterMap f, ?_, ?_⟩
    · have hlen : ((List.range len).filterMap f).length = len := by
        have : ∀ k, k ≤ len → ((List.range k).filterMap f).length = k := by
          intro k hk
          induction k with
          | zero => rfl
          | succ k ih =>
            rw [List.range_succ, List.filterMap_append, List.length_append, ih (by omega)]
            obtain ⟨x', _, e, _⟩ := hf k (by omega)
            simp [e]
        exact this len (Nat.le_refl _)
      have hget : ∀ k, k < len → ((List.range len).filterMap f)[k]? = f k := by
        have : ∀ m, m ≤ len → ∀ k, k < m → ((List.range m).filterMap f)[k]? = f k ∧ ((List.range m).filterMap f).length = m := by
          intro m hm'
          induction m with
          | zero => intro k hk; omega
          | succ m ih =>
            intro k hk
            have hl' : ((List.range m).filterMap f).length = m := by
              rcases Nat.eq_zero_or_pos m with rfl | hp
              · rfl
              · exact (ih (by omega) 0 hp).2
            obtain ⟨x', _, e, _⟩ := hf m (by omega)
            rw [List.range_succ, List.filterMap_append]
            have es : [m].filterMap f = [x'] := by simp [e]
            rw [es]
            refine ⟨?_, by simp [hl']⟩
            by_cases hkm : k < m
            · rw [List.getElem?_append_left (by omega)]
              exact (ih (by omega) k hkm).1
            · obtain rfl : k = m := by omega
              rw [List.getElem?_append_right (by omega), hl', Nat.sub_self, e]; rfl
        exact fun k hk => (this len (Nat.le_refl _) k hk).1
      refine ⟨some ⟨b, o, none⟩, cap, by rw [hlen], by rw [hlen]; exact hl, hm, fun k x hx => ?_⟩
      have hk : k < len := by
        have := (List.getElem?_eq_some_iff.1 hx).1
        omega
      rw [hget k hk] at hx
      obtain ⟨x', us, e, hb, hul, hc, hR, _⟩ := hf k hk
      rw [hx] at e
      injection e with e
      subst e
      exact ⟨b, o, us, rfl, hb, hul, hc, hR⟩
    · intro x hx
      obtain ⟨i, hi', hfi⟩ := List.mem_filterMap.1 hx
      obtain ⟨x', _, e, _, _, _, _, hQ⟩ := hf i (by simpa using hi')
      rw [hfi] at e
      injection e with e
      rw [e]; exact hQ
end
end Go.Proofs.YtpihighajaeabaaGreat

namespace Go.Proofs.YtpihighajaeabaaGreat
open Go.RowKit
set_option linter.unusedVariables false
def voteLine (l : List GItem) (g : List (List GNode)) : ByteArray := if isPoll l g then ⟨#[99, 111, 110, 100, 111, 114, 99, 101, 116, 32]⟩ ++ fmtInt (condo l g) ++ ⟨#[32, 98, 111, 114, 100, 97, 32]⟩ ++ fmtInt (choice l g (bordaL l g)) ++ ⟨#[32, 97, 112, 112, 114, 111, 118, 97, 108, 32]⟩ ++ fmtInt (choice l g (approvL l g)) else ⟨#[]⟩
theorem voteLine_yes {l : List GItem} {g : List (List GNode)} (h : isPoll l g = true) : voteLine l g = ⟨#[99, 111, 110, 100, 111, 114, 99, 101, 116, 32]⟩ ++ fmtInt (condo l g) ++ ⟨#[32, 98, 111, 114, 100, 97, 32]⟩ ++ fmtInt (choice l g (bordaL l g)) ++ ⟨#[32, 97, 112, 112, 114, 111, 118, 97, 108, 32]⟩ ++ fmtInt (choice l g (approvL l g)) := by rw [voteLine, if_pos h]
theorem wf_near {n : Int} (h : -1 ≤ n ∧ n ≤ 99) : (Lit.int .i64 n).wf = true := by
  simp [Lit.wf, IntKind.min, IntKind.max, IntKind.signed, IntKind.bits]; omega
theorem sum_fact {a b : ByteArray} (h : a.size + b.size ≤ 100000) : ∀ W, (Op.stringOp .add a b).run Tryz.prog W = .ok (.string (a ++ b)) W := fun W => run_string_add_sum W _ _ (by omega)
set_option maxRecDepth 100000 in
set_option maxHeartbeats 1600000 in
theorem I_VoteLine (w : World) (l : List GItem) (g : List (List GNode)) (v u : Value) (h : Rd rItems w l [v]) (h' : Rd rNodess w g [u]) : Calls Tryz.prog 57 #[v, u] w (Ret w (.string (voteLine l g))) := by
  have hcall0 := I_isPoll w l g _ _ h h'
  rcases Bool.eq_false_or_eq_true (isPoll l g) with hP | hP
  · rw [hP] at hcall0
    have k0 := fun W (B : Bw w W) => I_Group0 W l g _ _ (h.bw rItems_good B) (h'.bw rNodess_good B)
    have k1 := fun W (B : Bw w W) => I_Group1 W l g _ _ (h.bw rItems_good B) (h'.bw rNodess_good B)
    have k2 := fun W (B : Bw w W) => I_Group2 W l g _ _ (h.bw rItems_good B) (h'.bw rNodess_good B)
    have w0 := wf_near (condo_bound l g)
    have w1 := wf_near (choice_bound l g (bordaL l g))
    have w2 := wf_near (choice_bound l g (approvL l g))
    have HF := voteLine_yes hP
    obtain ⟨Y, hY⟩ : ∃ Y, Y = voteLine l g := ⟨_, rfl⟩
    rw [← hY] at HF ⊢
    obtain ⟨n0, hn0⟩ : ∃ n0, n0 = condo l g := ⟨_, rfl⟩
    obtain ⟨n1, hn1⟩ : ∃ n1, n1 = choice l g (bordaL l g) := ⟨_, rfl⟩
    obtain ⟨n2, hn2⟩ : ∃ n2, n2 = choice l g (approvL l g) := ⟨_, rfl⟩
    rw [← hn0] at k0 w0 HF
    rw [← hn1] at k1 w1 HF
    rw [← hn2] at k2 w2 HF
    have s0 := (fmtInt_size w0).2
    have s1 := (fmtInt_size w1).2
    have s2 := (fmtInt_size w2).2
    have f0 := fun W => I_FormatInt W n0 w0
    have f1 := fun W => I_FormatInt W n1 w1
    have f2 := fun W => I_FormatInt W n2 w2
    obtain ⟨P0, hP0⟩ : ∃ P, P = fmtInt n0 := ⟨_, rfl⟩
    obtain ⟨P1, hP1⟩ : ∃ P, P = fmtInt n1 := ⟨_, rfl⟩
    obtain ⟨P2, hP2⟩ : ∃ P, P = fmtInt n2 := ⟨_, rfl⟩
    rw [← hP0] at HF s0
    rw [← hP1] at HF s1
    rw [← hP2] at HF s2
    simp only [← hP0] at f0
    simp only [← hP1] at f1
    simp only [← hP2] at f2
    have z1 : (⟨#[99, 111, 110, 100, 111, 114, 99, 101, 116, 32]⟩ : ByteArray).size = 10 := rfl
    have z2 : (⟨#[32, 98, 111, 114, 100, 97, 32]⟩ : ByteArray).size = 7 := rfl
    have z3 : (⟨#[32, 97, 112, 112, 114, 111, 118, 97, 108, 32]⟩ : ByteArray).size = 10 := rfl
    have a1 := sum_fact (a := ⟨#[99, 111, 110, 100, 111, 114, 99, 101, 116, 32]⟩) (b := P0) (by omega)
    have y1 := size_append ⟨#[99, 111, 110, 100, 111, 114, 99, 101, 116, 32]⟩ P0
    obtain ⟨T1, hT1⟩ : ∃ T, T = (⟨#[99, 111, 110, 100, 111, 114, 99, 101, 116, 32]⟩ : ByteArray) ++ P0 := ⟨_, rfl⟩
    rw [← hT1] at HF y1
    simp only [← hT1] at a1
    have a2 := sum_fact (a := T1) (b := ⟨#[32, 98, 111, 114, 100, 97, 32]⟩) (by omega)
    have y2 := size_append T1 ⟨#[32, 98, 111, 114, 100, 97, 32]⟩
    obtain ⟨T2, hT2⟩ : ∃ T, T = T1 ++ ⟨#[32, 98, 111, 114, 100, 97, 32]⟩ := ⟨_, rfl⟩
    rw [← hT2] at HF y2
    simp only [← hT2] at a2
    have a3 := sum_fact (a := T2) (b := P1) (by omega)
    have y3 := size_append T2 P1
    obtain ⟨T3, hT3⟩ : ∃ T, T = T2 ++ P1 := ⟨_, rfl⟩
    rw [← hT3] at HF y3
    simp only [← hT3] at a3
    have a4 := sum_fact (a := T3) (b := ⟨#[32, 97, 112, 112, 114, 111, 118, 97, 108, 32]⟩) (by omega)
    have y4 := size_append T3 ⟨#[32, 97, 112, 112, 114, 111, 118, 97, 108, 32]⟩
    obtain ⟨T4, hT4⟩ : ∃ T, T = T3 ++ ⟨#[32, 97, 112, 112, 114, 111, 118, 97, 108, 32]⟩ := ⟨_, rfl⟩
    rw [← hT4] at HF y4
    simp only [← hT4] at a4
    have a5 := sum_fact (a := T4) (b := P2) (by omega)
    obtain ⟨T5, hT5⟩ : ∃ T, T = T4 ++ P2 := ⟨_, rfl⟩
    rw [← hT5] at HF
    simp only [← hT5] at a5
    have HX := Lib.hid HF
    have K1 := Lib.hid k1
    have K2 := Lib.hid k2
    have F1 := Lib.hid f1
    have F2 := Lib.hid f2
    clear hP hY HF hn0 hn1 hn2 w0 w1 w2 s0 s1 s2 hP0 hP1 hP2 z1 z2 z3 y1 y2 y3 y4 hT1 hT2 hT3 hT4 hT5 k1 k2 f1 f2
    go_enter Tryz.func57, Tryz.ntmps57
    go_wp2_with fail
    refine (hcall0).mono ?_
    rintro e w1 ⟨rfl, hb1⟩
    go_wp2_with fail
    refine (k0 _ hb1).mono ?_
    rintro e w2 ⟨rfl, hb2⟩
    have B2 := hb1.then hb2
    go_wp2_with fail
    refine (f0 _).mono ?_
    rintro e w3 ⟨rfl, hb3⟩
    have B3 := B2.then hb3
    clear k0 f0 hcall0
    go_wp2_with fail
    refine (K1.out _ B3).mono ?_
    rintro e w4 ⟨rfl, hb4⟩
    have B4 := B3.then hb4
    go_wp2_with fail
    refine (F1.out _).mono ?_
    rintro e w5 ⟨rfl, hb5⟩
    have B5 := B4.then hb5
    go_wp2_with fail
    refine (K2.out _ B5).mono ?_
    rintro e w6 ⟨rfl, hb6⟩
    have B6 := B5.then hb6
    go_wp2_with fail
    refine (F2.out _).mono ?_
    rintro e w7 ⟨rfl, hb7⟩
    go_wp2
    go_ret
    exact Ret.str (HX.out.symm) (B6.then hb7)
  · rw [hP] at hcall0
    have HX := Lib.hid (show voteLine l g = ⟨#[]⟩ by rw [voteLine, hP]; rfl)
    obtain ⟨Y, hY⟩ : ∃ Y, Y = voteLine l g := ⟨_, rfl⟩
    rw [← hY] at HX ⊢
    clear hP hY h h'
    go_enter Tryz.func57, Tryz.ntmps57
    go_wp2_with fail
    refine (hcall0).mono ?_
    rintro e w1 ⟨rfl, hb1⟩
    go_wp2
    go_ret
    exact Ret.str (HX.out.symm) (hb1)
set_option maxRecDepth 100000 in
set_option maxHeartbeats 1600000 in
theorem S_VoteLine (w : World) (l : List GItem) (g : List (List GNode)) (v u : Value) (h : Rd rItems w l [v]) (h' : Rd rNodess w g [u]) : Calls Tryz.prog 58 #[v, u] w (Ret w (.string (voteLine l g))) := by
  have hcall0 := S_l12Fine w l g _ _ h h'
  rcases Bool.eq_false_or_eq_true (isPoll l g) with hP | hP
  · rw [hP] at hcall0
    have k0 := fun W (B : Bw w W) => S_CondorcetOf W l g _ _ (h.bw rItems_good B) (h'.bw rNodess_good B)
    have k1 := fun W (B : Bw w W) => S_Group1 W l g _ _ (h.bw rItems_good B) (h'.bw rNodess_good B)
    have k2 := fun W (B : Bw w W) => S_Group2 W l g _ _ (h.bw rItems_good B) (h'.bw rNodess_good B)
    have w0 := wf_near (condo_bound l g)
    have w1 := wf_near (choice_bound l g (bordaL l g))
    have w2 := wf_near (choice_bound l g (approvL l g))
    have HF := voteLine_yes hP
    obtain ⟨Y, hY⟩ : ∃ Y, Y = voteLine l g := ⟨_, rfl⟩
    rw [← hY] at HF ⊢
    obtain ⟨n0, hn0⟩ : ∃ n0, n0 = condo l g := ⟨_, rfl⟩
    obtain ⟨n1, hn1⟩ : ∃ n1, n1 = choice l g (bordaL l g) := ⟨_, rfl⟩
    obtain ⟨n2, hn2⟩ : ∃ n2, n2 = choice l g (approvL l g) := ⟨_, rfl⟩
    rw [← hn0] at k0 w0 HF
    rw [← hn1] at k1 w1 HF
    rw [← hn2] at k2 w2 HF
    have s0 := (fmtInt_size w0).2
    have s1 := (fmtInt_size w1).2
    have s2 := (fmtInt_size w2).2
    have f0 := fun W => S_FormatInt W n0 w0
    have f1 := fun W => S_FormatInt W n1 w1
    have f2 := fun W => S_FormatInt W n2 w2
    obtain ⟨P0, hP0⟩ : ∃ P, P = fmtInt n0 := ⟨_, rfl⟩
    obtain ⟨P1, hP1⟩ : ∃ P, P = fmtInt n1 := ⟨_, rfl⟩
    obtain ⟨P2, hP2⟩ : ∃ P, P = fmtInt n2 := ⟨_, rfl⟩
    rw [← hP0] at HF s0
    rw [← hP1] at HF s1
    rw [← hP2] at HF s2
    simp only [← hP0] at f0
    simp only [← hP1] at f1
    simp only [← hP2] at f2
    have z1 : (⟨#[99, 111, 110, 100, 111, 114, 99, 101, 116, 32]⟩ : ByteArray).size = 10 := rfl
    have z2 : (⟨#[32, 98, 111, 114, 100, 97, 32]⟩ : ByteArray).size = 7 := rfl
    have z3 : (⟨#[32, 97, 112, 112, 114, 111, 118, 97, 108, 32]⟩ : ByteArray).size = 10 := rfl
    have a1 := sum_fact (a := ⟨#[99, 111, 110, 100, 111, 114, 99, 101, 116, 32]⟩) (b := P0) (by omega)
    have y1 := size_append ⟨#[99, 111, 110, 100, 111, 114, 99, 101, 116, 32]⟩ P0
    obtain ⟨T1, hT1⟩ : ∃ T, T = (⟨#[99, 111, 110, 100, 111, 114, 99, 101, 116, 32]⟩ : ByteArray) ++ P0 := ⟨_, rfl⟩
    rw [← hT1] at HF y1
    simp only [← hT1] at a1
    have a2 := sum_fact (a := T1) (b := ⟨#[32, 98, 111, 114, 100, 97, 32]⟩) (by omega)
    have y2 := size_append T1 ⟨#[32, 98, 111, 114, 100, 97, 32]⟩
    obtain ⟨T2, hT2⟩ : ∃ T, T = T1 ++ ⟨#[32, 98, 111, 114, 100, 97, 32]⟩ := ⟨_, rfl⟩
    rw [← hT2] at HF y2
    simp only [← hT2] at a2
    have a3 := sum_fact (a := T2) (b := P1) (by omega)
    have y3 := size_append T2 P1
    obtain ⟨T3, hT3⟩ : ∃ T, T = T2 ++ P1 := ⟨_, rfl⟩
    rw [← hT3] at HF y3
    simp only [← hT3] at a3
    have a4 := sum_fact (a := T3) (b := ⟨#[32, 97, 112, 112, 114, 111, 118, 97, 108, 32]⟩) (by omega)
    have y4 := size_append T3 ⟨#[32, 97, 112, 112, 114, 111, 118, 97, 108, 32]⟩
    obtain ⟨T4, hT4⟩ : ∃ T, T = T3 ++ ⟨#[32, 97, 112, 112, 114, 111, 118, 97, 108, 32]⟩ := ⟨_, rfl⟩
    rw [← hT4] at HF y4
    simp only [← hT4] at a4
    have a5 := sum_fact (a := T4) (b := P2) (by omega)
    obtain ⟨T5, hT5⟩ : ∃ T, T = T4 ++ P2 := ⟨_, rfl⟩
    rw [← hT5] at HF
    simp only [← hT5] at a5
    have HX := Lib.hid HF
    have K1 := Lib.hid k1
    have K2 := Lib.hid k2
    have F1 := Lib.hid f1
    have F2 := Lib.hid f2
    clear hP hY HF hn0 hn1 hn2 w0 w1 w2 s0 s1 s2 hP0 hP1 hP2 z1 z2 z3 y1 y2 y3 y4 hT1 hT2 hT3 hT4 hT5 k1 k2 f1 f2
    go_enter Tryz.func58, Tryz.ntmps58
    go_wp2_with fail
    refine (hcall0).mono ?_
    rintro e w1 ⟨rfl, hb1⟩
    go_wp2_with fail
    refine (k0 _ hb1).mono ?_
    rintro e w2 ⟨rfl, hb2⟩
    have B2 := hb1.then hb2
    go_wp2_with fail
    refine (f0 _).mono ?_
    rintro e w3 ⟨rfl, hb3⟩
    have B3 := B2.then hb3
    clear k0 f0 hcall0
    go_wp2_with fail
    refine (K1.out _ B3).mono ?_
    rintro e w4 ⟨rfl, hb4⟩
    have B4 := B3.then hb4
    go_wp2_with fail
    refine (F1.out _).mono ?_
    rintro e w5 ⟨rfl, hb5⟩
    have B5 := B4.then hb5
    go_wp2_with fail
    refine (K2.out _ B5).mono ?_
    rintro e w6 ⟨rfl, hb6⟩
    have B6 := B5.then hb6
    go_wp2_with fail
    refine (F2.out _).mono ?_
    rintro e w7 ⟨rfl, hb7⟩
    go_wp2
    go_ret
    exact Ret.str (HX.out.symm) (B6.then hb7)
  · rw [hP] at hcall0
    have HX := Lib.hid (show voteLine l g = ⟨#[]⟩ by rw [voteLine, hP]; rfl)
    obtain ⟨Y, hY⟩ : ∃ Y, Y = voteLine l g := ⟨_, rfl⟩
    rw [← hY] at HX ⊢
    clear hP hY h h'
    go_enter Tryz.func58, Tryz.ntmps58
    go_wp2_with fail
    refine (hcall0).mono ?_
    rintro e w1 ⟨rfl, hb1⟩
    go_wp2
    go_ret
    exact Ret.str (HX.out.symm) (hb1)
end Go.Proofs.YtpihighajaeabaaGreat

namespace Go.Proofs.YtpihighajaeabaaGreat
open Go.RowKit
set_option linter.unusedVariables false
set_option linter.unusedSimpArgs false
theorem bytes_eq {x y : ByteArray} (h : x = y) : (x.toList == y.toList) = true := by rw [h]; simp
end Go.Proofs.YtpihighajaeabaaGreat

namespace Go.Proofs.YtpihighajaeabaaGreat
open Go.RowKit
set_option linter.unusedVariables false
set_option linter.unusedSimpArgs false
def pairText (p : GPair) : ByteArray := fmtInt p.fst ++ ⟨#[62]⟩ ++ fmtInt p.snd
def pairList (l : List GPair) : List ByteArray := l.map pairText
def pairsText (l : List GPair) : ByteArray := if arePairs l then (if l = [] then ⟨#[110, 111, 110, 101]⟩ else glued (pairList l) ⟨#[44]⟩) else ⟨#[]⟩
theorem bytes_assoc (a b c : ByteArray) : a ++ b ++ c = a ++ (b ++ c) := by
  apply ByteArray.ext; simp [ByteArray.data_append, Array.append_assoc]
theorem wf_digit {n : Int} (h : 0 ≤ n ∧ n ≤ 9) : (Lit.int .i64 n).wf = true := wf_small' (by omega)
theorem pairText_size {p : GPair} (h : (0 ≤ p.fst ∧ p.fst ≤ 9) ∧ 0 ≤ p.snd ∧ p.snd ≤ 9) : 1 ≤ (pairText p).size ∧ (pairText p).size ≤ 41 := by
  unfold pairText
  rw [size_append, size_append]
  have h1 := fmtInt_size (wf_digit h.1)
  have h2 := fmtInt_size (wf_digit h.2)
  have e : (⟨#[62]⟩ : ByteArray).size = 1 := rfl
  omega
theorem pairList_snoc {l : List GPair} {k : Nat} {x : GPair} (h : l[k]? = some x) : pairList (l.take (k + 1)) = pairList (l.take k) ++ [pairText x] := by
  unfold pairList; rw [List.take_add_one, h]; simp
theorem pairList_gl : ∀ {l : List GPair}, (∀ p ∈ l, (0 ≤ p.fst ∧ p.fst ≤ 9) ∧ 0 ≤ p.snd ∧ p.snd ≤ 9) → glSize ⟨#[44]⟩ (pairList l) ≤ 42 * l.length
  | [], _ => by simp [pairList, glSize, sumL]
  | p :: l, h => by
    have h1 := (pairText_size (h p (by simp))).2
    have h2 := pairList_gl (l := l) (fun q hq => h q (by simp [hq]))
    have e : glSize ⟨#[44]⟩ (pairList (p :: l)) = (pairText p).size + 1 + glSize ⟨#[44]⟩ (pairList l) := rfl
    rw [e, List.length_cons]; omega
theorem pairsText_size (l : List GPair) : (pairsText l).size ≤ 400 := by
  unfold pairsText
  split
  · rename_i h
    split
    · show 4 ≤ 400; omega
    · have h1 := gl_size ⟨#[44]⟩ (pairList l) 0 ⟨#[]⟩
      have h2 := pairList_gl (fun p hp => pairsIn_mem (arePairs_in h) hp)
      have h3 := arePairs_len h
      have e0 : (⟨#[]⟩ : ByteArray).size = 0 := rfl
      unfold glued
      omega
  · show 0 ≤ 400; omega
theorem pair_sums {x y : Int} (hx : 0 ≤ x ∧ x ≤ 9) (hy : 0 ≤ y ∧ y ≤ 9) :
    (∀ W, (Op.stringOp .add (fmtInt x) ⟨#[62]⟩).run Tryz.prog W = .ok (.string (fmtInt x ++ ⟨#[62]⟩)) W) ∧
    (∀ W, (Op.stringOp .add (fmtInt x ++ ⟨#[62]⟩) (fmtInt y)).run Tryz.prog W = .ok (.string (fmtInt x ++ ⟨#[62]⟩ ++ fmtInt y)) W) := by
  have h1 := (fmtInt_size (wf_digit hx)).2
  have h2 := (fmtInt_size (wf_digit hy)).2
  have e : (⟨#[62]⟩ : ByteArray).size = 1 := rfl
  exact ⟨fun W => run_string_add_sum W _ _ (by omega), fun W => run_string_add_sum W _ _ (by rw [size_append]; omega)⟩
theorem add_sum {a b : ByteArray} (h : a.size + b.size ≤ 100000) : ∀ W, (Op.stringOp .add a b).run Tryz.prog W = .ok (.string (a ++ b)) W := fun W => run_string_add_sum W _ _ (by omega)
set_option maxRecDepth 100000 in
set_option maxHeartbeats 3200000 in
theorem I_FormatPairs (w : World) (l : List GPair) (v : Value) (h : Rd rPairs w l [v]) : Calls Tryz.prog 239 #[v] w (Ret w (.string (pairsText l))) := by
  obtain ⟨i0, hi, hz0, hz1, hz2⟩ := info_parts info_str
  obtain ⟨T, hT⟩ : ∃ T, T = pairsText l := ⟨_, rfl⟩
  rw [← hT]
  have HT := Lib.hid hT
  clear hT
  obtain ⟨A, n, c, rfl, L0, Lc, Lm⟩ := rSl_open h
  unfold maxLen at Lm
  have L := Lib.hid L0
  clear L0
  go_enter Tryz.func239, Tryz.ntmps239
  go_wp2_with fail
  refine (I_ArePairs _ l _ h).mono ?_
  rintro e w1 ⟨rfl, hb1⟩
  rcases Bool.eq_false_or_eq_true (arePairs l) with e1 | e1
  · have E1 := Lib.hid e1
    rw [e1]
    clear e1
    by_cases hn : n = 0
    · have HF := Lib.hid (show T = ⟨#[110, 111, 110, 101]⟩ by rw [HT.out, pairsText, if_pos E1.out, if_pos (List.eq_nil_of_length_eq_zero (by rw [← L.out]; exact hn))])
      subst hn
      go_wp2
      go_ret
      exact Ret.str (by rw [HF.out]) (hb1)
    · have e0 : ((n : Int) == 0) = false := by rw [beq_eq_false_iff_ne]; omega
      have n8 : n ≤ 8 := by rw [L.out]; exact arePairs_len E1.out
      have HM := Lib.hid (fun p (hp : p ∈ l) => pairsIn_mem (arePairs_in E1.out) hp)
      have HF := Lib.hid (show T = glued (pairList l) ⟨#[44]⟩ by rw [HT.out, pairsText, if_pos E1.out, if_neg (fun hh => hn (by rw [L.out, hh]; rfl))])
      have hv0 := fSl_empty (e := 9) (sz := 1) (R := fStr) w1
      have hs := hb1.size
      have hB0 := hb1.alloc (.cells #[] 9)
      have HH := Lib.hid h
      clear hn HT h
      go_wp2
      go_loopg [3, 15] n (fun g s i w' => ∃ (k : Nat) (F : List Nat), k ≤ n ∧ g = n - k ∧ i = .int .i64 k ∧ fStrs w' (pairList (l.take k)) [s] F ∧ Fresh w.heap.size F ∧ Bw w w')
      case atStart => exact ⟨0, _, by omega, rfl, rfl, hv0, ⟨by simp, by simpa using hs⟩, hB0⟩
      case round =>
        clear hv0 hB0
        obtain ⟨k, F, hk, rfl, rfl, hv, hF, hb⟩ := hrel
        have h := HH.out
        by_cases hlt : k < n
        · obtain ⟨p, hx⟩ := get_of_lt (xs := l) (k := k) (by have := L.out; omega)
          obtain ⟨ba, oa, rfl, _, d0, d1⟩ := rPairs_at h hx
          replace d0 := hb.cell d0
          replace d1 := hb.cell d1
          have i1 : (0 : Int) ≤ (k : Int) := by omega
          have i2 : (k : Int) < (n : Int) := by omega
          obtain ⟨m1, m2⟩ := HM.out p (List.mem_of_getElem? hx)
          have HS := Lib.hid (pairList_snoc hx)
          have HLEN := Lib.hid (show (pairList (l.take k)).length ≤ 8 by unfold pairList; rw [List.length_map, List.length_take]; omega)
          obtain ⟨x, hx1⟩ : ∃ x, x = p.fst := ⟨_, rfl⟩
          obtain ⟨y, hy1⟩ : ∃ y, y = p.snd := ⟨_, rfl⟩
          rw [← hx1] at m1 d0
          rw [← hy1] at m2 d1
          obtain ⟨a1, a2⟩ := pair_sums m1 m2
          have c1 := fun W => I_FormatInt W x (wf_digit m1)
          have c2 := fun W => I_FormatInt W y (wf_digit m2)
          obtain ⟨P, hP⟩ : ∃ P, P = fmtInt x := ⟨_, rfl⟩
          obtain ⟨Q, hQ⟩ : ∃ Q, Q = fmtInt y := ⟨_, rfl⟩
          have HPT := Lib.hid (show pairText p = P ++ ⟨#[62]⟩ ++ Q by rw [hP, hQ, hx1, hy1]; rfl)
          simp only [← hP] at c1
          simp only [← hQ] at c2
          rw [← hP] at a1 a2
          rw [← hQ] at a2
          have C1 := Lib.hid c1
          have C2 := Lib.hid c2
          obtain ⟨W, hW⟩ : ∃ W, W = wr.alloc (.cells #[.int .i64 x, .int .i64 y] 214) := ⟨_, rfl⟩
          have D1 : Bw wr W.drew := by rw [hW]; exact ((Bw.refl wr).alloc _).drew
          have q0 : W.drew.cell? ⟨wr.heap.size, 0, none⟩ = some (.int .i64 x) := by rw [hW]; go_simp
          have q1 : W.drew.cell? ⟨wr.heap.size, 1, none⟩ = some (.int .i64 y) := by rw [hW]; go_simp
          have HW := Lib.hid hW
          have hFm0 := (fStrs_good (B := 0)).lt hv
          have hFn : wr.heap.size ∉ F := fun e => by have := hFm0 _ e; omega
          have hvd := (fStrs_good (B := w.heap.size)).bw D1 hb.size hv
          have hbd := hb.then D1
          have hB := Bw.refl W.drew
          clear hx m1 m2 hx1 hy1 hP hQ c1 c2 hW hv h
          go_wp2_with fail
          rw [← HW.out]
          go_region_held3 (fun w' => w'.cell? ⟨wr.heap.size, 0, none⟩ = some (.int .i64 x) ∧ w'.cell? ⟨wr.heap.size, 1, none⟩ = some (.int .i64 y)) (first | exact ⟨q0, q1⟩ | exact ⟨hB.cell q0, hB.cell q1⟩ | exact ⟨(hB.then ((Bw.refl _).alloc _)).cell q0, (hB.then ((Bw.refl _).alloc _)).cell q1⟩ | exact ⟨n0, n1⟩)
            (first
              | (go_at_call_of 125 (Value.int IntKind.i64 x); refine (C1.out _).mono ?_; rintro e' w5 ⟨rfl, hb5⟩; replace hB := hB.then hb5)
              | (go_at_call_of 125 (Value.int IntKind.i64 y); refine (C2.out _).mono ?_; rintro e' w5 ⟨rfl, hb5⟩; replace hB := hB.then hb5)
              | (have hA := (Bw.refl w5).alloc (.cells #[.string (P ++ ⟨#[62]⟩ ++ Q)] 9); have hBA := hB.then hA; have hvW := (fStrs_good (B := w.heap.size)).bw hBA hbd.size hvd; have hFm := (fStrs_good (B := 0)).lt hvd; have hbW := hbd.then hBA; have hcl := cell_one_new w5 (.string (P ++ ⟨#[62]⟩ ++ Q)) 9; refine step_push2 _ (by rfl) (.tmp 19) (.tmp 28) 58 (by rfl) w 9 i0 _ 1 16 Tryz.underlying58 hi hz0 hz1 hz2 rfl (by omega) fStr_good _ (pairList (l.take k)) F (by rfl) hvW hF ⟨w5.heap.size, 0, none⟩ 1 (by rfl) (P ++ ⟨#[62]⟩ ++ Q) [.string (P ++ ⟨#[62]⟩ ++ Q)] [] hcl ⟨rfl, rfl⟩ rfl W.drew.heap.size hFm Fresh.nil hbd.size (by have := HLEN.out; omega) (by have := HLEN.out; omega) hbW ?_; intro v' w' F' hv' hF' hb' hO' hs'; have n0 := hO'.cell (hBA.cell q0) hFn; have n1 := hO'.cell (hBA.cell q1) hFn)
              | fail)
          all_goals
            go_wp2
            go_roundg (n - (k + 1))
            case measure => omega
            case rel => exact ⟨k + 1, F', by omega, rfl, by go_num, by rw [HS.out, HPT.out]; exact hv', hF', hb'⟩
        · obtain rfl : k = n := by omega
          rw [List.take_of_length_le (by rw [← L.out]; exact Nat.le_refl _)] at hv
          have hsz := pairList_gl HM.out
          rw [← L.out] at hsz
          go_wp2_with fail
          refine (I_glued _ (pairList l) ⟨#[44]⟩ _ (fStrs_Rd hv) (by omega) (by show 1 ≤ 1024; omega)).mono ?_
          rintro e w3 ⟨rfl, hb3⟩
          go_wp2
          go_ret
          exact Ret.str (by rw [HF.out]) (hb.then hb3)
  · have HF := Lib.hid (show T = ⟨#[]⟩ by rw [HT.out, pairsText, e1]; rfl)
    rw [e1]
    clear e1
    go_wp2
    go_ret
    exact Ret.str (by rw [HF.out]) (hb1)
set_option maxRecDepth 100000 in
set_option maxHeartbeats 3200000 in
theorem S_FormatPairs (w : World) (l : List GPair) (v : Value) (h : Rd rPairs w l [v]) : Calls Tryz.prog 196 #[v] w (Ret w (.string (pairsText l))) := by
  obtain ⟨T, hT⟩ : ∃ T, T = pairsText l := ⟨_, rfl⟩
  rw [← hT]
  have HT := Lib.hid hT
  clear hT
  obtain ⟨A, n, c, rfl, L0, Lc, Lm⟩ := rSl_open h
  unfold maxLen at Lm
  have L := Lib.hid L0
  clear L0
  go_enter Tryz.func196, Tryz.ntmps196
  go_wp2_with fail
  refine (S_ArePairs _ l _ h).mono ?_
  rintro e w1 ⟨rfl, hb1⟩
  rcases Bool.eq_false_or_eq_true (arePairs l) with e1 | e1
  · have E1 := Lib.hid e1
    rw [e1]
    clear e1
    have n8 : n ≤ 8 := by rw [L.out]; exact arePairs_len E1.out
    have HM := Lib.hid (fun p (hp : p ∈ l) => pairsIn_mem (arePairs_in E1.out) hp)
    have HH := Lib.hid h
    clear h
    go_wp2
    go_loopg [3, 4] n (fun g s i w' => ∃ (k : Nat) (acc : ByteArray), k ≤ n ∧ g = n - k ∧ i = .int .i64 k ∧ s = .string acc ∧ Hid (glued (pairList l) ⟨#[44]⟩ = gl ⟨#[44]⟩ k acc ((pairList l).drop k)) ∧ acc.size ≤ 42 * k ∧ (0 < k → 1 ≤ acc.size) ∧ Bw w w')
    case atStart => exact ⟨0, _, by omega, rfl, rfl, rfl, rfl, Nat.zero_le _, by omega, hb1⟩
    case round =>
      clear hb1
      obtain ⟨k, acc, hk, rfl, rfl, rfl, HE, g1, g2, hb⟩ := hrel
      have h := HH.out
      by_cases hlt : k < n
      · obtain ⟨p, hx⟩ := get_of_lt (xs := l) (k := k) (by have := L.out; omega)
        obtain ⟨ba, oa, rfl, _, d0, d1⟩ := rPairs_at h hx
        replace d0 := hb.cell d0
        replace d1 := hb.cell d1
        have i1 : (0 : Int) ≤ (k : Int) := by omega
        have i2 : (k : Int) < (n : Int) := by omega
        have hpm := HM.out p (List.mem_of_getElem? hx)
        have hpz := pairText_size hpm
        obtain ⟨m1, m2⟩ := hpm
        have HS := Lib.hid (gl_step (sep := ⟨#[44]⟩) (acc := acc) (l := pairList l) (k := k) (t := pairText p) (by unfold pairList; rw [List.getElem?_map, hx]; rfl))
        obtain ⟨x, hx1⟩ : ∃ x, x = p.fst := ⟨_, rfl⟩
        obtain ⟨y, hy1⟩ : ∃ y, y = p.snd := ⟨_, rfl⟩
        rw [← hx1] at m1 d0
        rw [← hy1] at m2 d1
        have z1 := (fmtInt_size (wf_digit m1)).2
        have z2 := (fmtInt_size (wf_digit m2)).2
        have c1 := fun W => S_FormatInt W x (wf_digit m1)
        have c2 := fun W => S_FormatInt W y (wf_digit m2)
        obtain ⟨P, hP⟩ : ∃ P, P = fmtInt x := ⟨_, rfl⟩
        obtain ⟨Q, hQ⟩ : ∃ Q, Q = fmtInt y := ⟨_, rfl⟩
        have hpt : pairText p = P ++ ⟨#[62]⟩ ++ Q := by rw [hP, hQ, hx1, hy1]; rfl
        have HPT := Lib.hid hpt
        simp only [← hP] at c1 z1
        simp only [← hQ] at c2 z2
        have eg : (⟨#[62]⟩ : ByteArray).size = 1 := rfl
        have ec : (⟨#[44]⟩ : ByteArray).size = 1 := rfl
        obtain ⟨B, hBt⟩ : ∃ B, B = (if 0 < k then acc ++ ⟨#[44]⟩ else acc) := ⟨_, rfl⟩
        have hBs : B.size ≤ 42 * k + 1 := by rw [hBt]; split; (rw [size_append]; omega); omega
        have b1 : ∀ W, (Op.stringOp .add B P).run Tryz.prog W = .ok (.string (B ++ P)) W := add_sum (by omega)
        have b2 : ∀ W, (Op.stringOp .add (B ++ P) ⟨#[62]⟩).run Tryz.prog W = .ok (.string (B ++ P ++ ⟨#[62]⟩)) W := add_sum (by rw [size_append]; omega)
        have b3 : ∀ W, (Op.stringOp .add (B ++ P ++ ⟨#[62]⟩) Q).run Tryz.prog W = .ok (.string (B ++ P ++ ⟨#[62]⟩ ++ Q)) W := add_sum (by rw [size_append, size_append]; omega)
        have b0 : ∀ W, (Op.stringOp .add acc ⟨#[44]⟩).run Tryz.prog W = .ok (.string (acc ++ ⟨#[44]⟩)) W := add_sum (by omega)
        have HN := Lib.hid (show gl ⟨#[44]⟩ k acc ((pairList l).drop k) = gl ⟨#[44]⟩ (k + 1) (B ++ P ++ ⟨#[62]⟩ ++ Q) ((pairList l).drop (k + 1)) by
          have hq : ∀ X : ByteArray, X ++ (P ++ ⟨#[62]⟩ ++ Q) = X ++ P ++ ⟨#[62]⟩ ++ Q := fun X => by rw [bytes_assoc X P, bytes_assoc X (P ++ _)]
          rw [HS.out, hpt, hq, hBt])
        have hNs : (B ++ P ++ ⟨#[62]⟩ ++ Q).size ≤ 42 * (k + 1) ∧ 1 ≤ (B ++ P ++ ⟨#[62]⟩ ++ Q).size := by
          rw [hpt, size_append, size_append] at hpz
          rw [size_append, size_append, size_append]; omega
        have s0 := since_cell d0
        have s1 := since_cell d1
        have f1 : ∀ s : Since wr, Calls Tryz.prog 64 #[.int .i64 x] s.1 (Ret s.1 (.string P)) := fun s => c1 s.1
        have f2 : ∀ s : Since wr, Calls Tryz.prog 64 #[.int .i64 y] s.1 (Ret s.1 (.string Q)) := fun s => c2 s.1
        have hNN := hNs
        clear hx m1 m2 hx1 hy1 hP hQ c1 c2 hpz hpt z1 z2 eg ec hBs g1 g2 HS hNs
        by_cases hk0 : 0 < k
        · have k0 : (0 : Int) < (k : Int) := by omega
          rw [if_pos hk0] at hBt
          subst hBt
          clear hk0
          go_wp2
          refine wp_region_since (by kernel_rfl) (by kernel_rfl) ?_
          repeat (first | go_big_quiet_skip | (go_big_quiet_want; go_big_quiet_op; first | go_big_quiet_on | (apply Exists.intro; refine ⟨fun _ => ?_, ?_⟩; (· (((go_at_call 64; first | (with_reducible exact Calls_since (f1 _)) | (with_reducible exact Calls_since (f2 _)))))); go_big_quiet_on)))
          refine wpQuiet_nil ?_
          rintro ⟨wq, hbq⟩
          dsimp only at *
          have h := HH.out
          have hbz := hb.then hbq
          clear f1 f2 s0 s1 d0 d1
          go_wp2
          go_roundg (n - (k + 1))
          case measure => omega
          case rel => exact ⟨k + 1, _, by omega, rfl, by go_num, rfl, by show _ = _; rw [HE.out, HN.out], hNN.1, fun _ => hNN.2, hbz⟩
        · have k0 : ¬ (0 : Int) < (k : Int) := by omega
          rw [if_neg hk0] at hBt
          subst hBt
          clear hk0
          go_wp2
          refine wp_region_since (by kernel_rfl) (by kernel_rfl) ?_
          repeat (first | go_big_quiet_skip | (go_big_quiet_want; go_big_quiet_op; first | go_big_quiet_on | (apply Exists.intro; refine ⟨fun _ => ?_, ?_⟩; (· (((go_at_call 64; first | (with_reducible exact Calls_since (f1 _)) | (with_reducible exact Calls_since (f2 _)))))); go_big_quiet_on)))
          refine wpQuiet_nil ?_
          rintro ⟨wq, hbq⟩
          dsimp only at *
          have h := HH.out
          have hbz := hb.then hbq
          clear f1 f2 s0 s1 d0 d1
          go_wp2
          go_roundg (n - (k + 1))
          case measure => omega
          case rel => exact ⟨k + 1, _, by omega, rfl, by go_num, rfl, by show _ = _; rw [HE.out, HN.out], hNN.1, fun _ => hNN.2, hbz⟩
      · obtain rfl : k = n := by omega
        have hacc : glued (pairList l) ⟨#[44]⟩ = acc := by rw [HE.out, List.drop_of_length_le (by unfold pairList; rw [List.length_map, ← L.out]; exact Nat.le_refl _)]; rfl
        by_cases hk0 : k = 0
        · have hl : l = [] := List.eq_nil_of_length_eq_zero (by rw [← L.out]; exact hk0)
          have ha : acc = ⟨#[]⟩ := by rw [← hacc, hl]; rfl
          have HF := Lib.hid (show T = ⟨#[110, 111, 110, 101]⟩ by rw [HT.out, pairsText, if_pos E1.out, if_pos hl])
          have b1 : acc.toList.isEmpty = true := by rw [ha, ByteArray.toList_eq]; rfl
          clear hl ha hacc hk0 HE
          go_wp2
          go_ret
          exact Ret.str (by rw [HF.out]) (hb)
        · have hl : ¬ l = [] := fun hh => hk0 (by rw [L.out, hh]; rfl)
          have HF := Lib.hid (show T = acc by rw [HT.out, pairsText, if_pos E1.out, if_neg hl, hacc])
          have b1 : acc.toList.isEmpty = false := str_ne (by have := g2 (by omega); omega)
          clear hl hacc hk0 HE g1 g2
          go_wp2
          go_ret
          exact Ret.str (by rw [HF.out]) (hb)
  · have HF := Lib.hid (show T = ⟨#[]⟩ by rw [HT.out, pairsText, e1]; rfl)
    rw [e1]
    clear e1
    go_wp2
    go_ret
    exact Ret.str (by rw [HF.out]) (hb1)
end Go.Proofs.YtpihighajaeabaaGreat

namespace Go.Proofs.YtpihighajaeabaaGreat
open Go.RowKit Go.ChangeShapes Go.WideShapes Go.ChangeAt
set_option linter.unusedVariables false


end Go.Proofs.YtpihighajaeabaaGreat

namespace Go.Proofs.YtpihighajaeabaaGreat
open Go.RowKit
set_option linter.unusedVariables false
set_option linter.unusedSimpArgs false
end Go.Proofs.YtpihighajaeabaaGreat

namespace Go.Proofs.YtpihighajaeabaaGreat
open Go.RowKit
set_option linter.unusedVariables false
set_option linter.unusedSimpArgs false
end Go.Proofs.YtpihighajaeabaaGreat

namespace Go.Proofs.YtpihighajaeabaaGreat
open Go.RowKit
set_option linter.unusedVariables false
set_option linter.unusedSimpArgs false
theorem numText_size {l : List Int} (sep : ByteArray) (hw : ∀ x ∈ l, (Lit.int .i64 x).wf = true) : (numText l sep).size ≤ l.length * (20 + sep.size) := by
  unfold numText glued
  have h1 := gl_size sep (numList l) 0 ⟨#[]⟩
  have h2 := numList_size (l := l) sep hw
  have e0 : (⟨#[]⟩ : ByteArray).size = 0 := rfl
  omega
set_option maxHeartbeats 1600000 in
theorem S_l2List (w : World) (l : List Int) (v : Value) (h : Rd rInts w l [v]) (hw : ∀ x ∈ l, (Lit.int .i64 x).wf = true) (hn : l.length ≤ 1048576) :
    Calls Tryz.prog 145 #[v] w (Ret w (.string (numText l ⟨#[44]⟩))) := by
  obtain ⟨A, n, c, rfl, a1, a2, a3⟩ := rSl_open h
  have L1 := Lib.hid a1
  rw [← a1] at hn
  clear a1
  go_enter Tryz.func145, Tryz.ntmps145
  go_wp2
  go_loopw [3, 4] (fun s i w' => ∃ (k : Nat) (acc : ByteArray), k ≤ n ∧ i = .int .i64 k ∧ s = .string acc ∧ Hid (numText l ⟨#[44]⟩ = gl ⟨#[44]⟩ k acc (numList (l.drop k))) ∧ acc.size ≤ 21 * k ∧ Bw w w') (fun s i _ => n - (intOf i).toNat)
  case atStart => exact ⟨0, _, by omega, rfl, rfl, rfl, Nat.zero_le _, Bw.refl _⟩
  case round =>
    obtain ⟨k, acc, hk, rfl, rfl, HE, g1, hb⟩ := hrel
    by_cases hlt : k < n
    · obtain ⟨x, hx⟩ := get_of_lt (xs := l) (k := k) (by rw [← L1.out]; exact hlt)
      obtain ⟨ba, oa, rfl, _, hcx⟩ := rInts_at (h.bw rInts_good hb) hx
      have hwx := hw x (List.mem_of_getElem? hx)
      have HS := Lib.hid (numText_step (sep := ⟨#[44]⟩) (acc := acc) hx)
      have ⟨hsz1, hsz⟩ := fmtInt_size hwx
      clear hx h hw hsz1
      by_cases h0 : 0 < k
      · have hadd : ∀ W, (Op.stringOp .add acc ⟨#[44]⟩).run Tryz.prog W = .ok (.string (acc ++ ⟨#[44]⟩)) W := fun W => run_string_add_sum W _ _ (by have e : (⟨#[44]⟩ : ByteArray).size = 1 := rfl; omega)
        have hadd2 : ∀ W, (Op.stringOp .add (acc ++ ⟨#[44]⟩) (fmtInt x)).run Tryz.prog W = .ok (.string (acc ++ ⟨#[44]⟩ ++ fmtInt x)) W := fun W => run_string_add_sum W _ _ (by have e : (⟨#[44]⟩ : ByteArray).size = 1 := rfl; rw [size_append]; omega)
        go_wp2_with fail
        refine (S_FormatInt _ x hwx).mono ?_
        rintro e w1 ⟨rfl, hb1⟩
        go_wp2
        go_roundw
        case rel => exact ⟨k + 1, _, by omega, by go_num, rfl, by show _ = _; rw [HE.out, HS.out, if_pos h0], by have e : (⟨#[44]⟩ : ByteArray).size = 1 := rfl; rw [size_append, size_append]; omega, hb.then hb1⟩
        case measure => simp [intOf]; omega
      · have hadd2 : ∀ W, (Op.stringOp .add acc (fmtInt x)).run Tryz.prog W = .ok (.string (acc ++ fmtInt x)) W := fun W => run_string_add_sum W _ _ (by omega)
        go_wp2_with fail
        refine (S_FormatInt _ x hwx).mono ?_
        rintro e w1 ⟨rfl, hb1⟩
        go_wp2
        go_roundw
        case rel => exact ⟨k + 1, _, by omega, by go_num, rfl, by show _ = _; rw [HE.out, HS.out, if_neg (by omega)], by rw [size_append]; omega, hb.then hb1⟩
        case measure => simp [intOf]; omega
    · have hacc : Hid (acc = numText l ⟨#[44]⟩) := by show _ = _; rw [HE.out, List.drop_of_length_le (by rw [← L1.out]; omega)]; rfl
      go_wp2
      go_ret
      exact Ret.str hacc.out hb
end Go.Proofs.YtpihighajaeabaaGreat
