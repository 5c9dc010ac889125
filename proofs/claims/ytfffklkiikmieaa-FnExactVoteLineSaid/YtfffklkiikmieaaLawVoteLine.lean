/- For every input, FnExactVoteLine returns true and leaves its arguments as they were. No condition. -/
import Derived.Test.YtfffklkiikmieaaRows
import Derived.Test.YtfffklkiikmieaaVoteE
import Derived.Test.YtfffklkiikmieaaWishes3
import Derived.Test.YtfffklkiikmieaaOpen
namespace Go.Proofs.Ytfffklkiikmieaa
open Go.RowKit Go.ChangeShapes Go.WideShapes Go.ChangeAt
set_option linter.unusedVariables false
def voteLine (l : List GItem) (g : List (List GNode)) : ByteArray := if isPoll l g then ⟨#[99, 111, 110, 100, 111, 114, 99, 101, 116, 32]⟩ ++ fmtInt (condo l g) ++ ⟨#[32, 98, 111, 114, 100, 97, 32]⟩ ++ fmtInt (choice l g (bordaL l g)) ++ ⟨#[32, 97, 112, 112, 114, 111, 118, 97, 108, 32]⟩ ++ fmtInt (choice l g (approvL l g)) else ⟨#[]⟩
theorem voteLine_yes {l : List GItem} {g : List (List GNode)} (h : isPoll l g = true) : voteLine l g = ⟨#[99, 111, 110, 100, 111, 114, 99, 101, 116, 32]⟩ ++ fmtInt (condo l g) ++ ⟨#[32, 98, 111, 114, 100, 97, 32]⟩ ++ fmtInt (choice l g (bordaL l g)) ++ ⟨#[32, 97, 112, 112, 114, 111, 118, 97, 108, 32]⟩ ++ fmtInt (choice l g (approvL l g)) := by rw [voteLine, if_pos h]
theorem wf_near {n : Int} (h : -1 ≤ n ∧ n ≤ 99) : (Lit.int .i64 n).wf = true := by
  simp [Lit.wf, IntKind.min, IntKind.max, IntKind.signed, IntKind.bits]; omega
theorem sum_fact {a b : ByteArray} (h : a.size + b.size ≤ 100000) : ∀ W, (Op.stringOp .add a b).run Try.prog W = .ok (.string (a ++ b)) W := fun W => run_string_add_sum W _ _ (by omega)
set_option maxRecDepth 100000 in
set_option maxHeartbeats 1600000 in
theorem I_VoteLine (w : World) (l : List GItem) (g : List (List GNode)) (v u : Value) (h : Rd rItems w l [v]) (h' : Rd rNodess w g [u]) : Calls Try.prog 39 #[v, u] w (Ret w (.string (voteLine l g))) := by
  have hcall0 := I_isPoll w l g _ _ h h'
  rcases Bool.eq_false_or_eq_true (isPoll l g) with hP | hP
  · rw [hP] at hcall0
    have k0 := fun W (B : Bw w W) => I_Group0 W l g _ _ (h.bw rItems_good B) (h'.bw rNodess_good B)
    have k1 := fun W (B : Bw w W) => I_Group1 W l g _ _ (h.bw rItems_good B) (h'.bw rNodess_good B)
    have k2 := fun W (B : Bw w W) => I_Group2 W l g _ _ (h.bw rItems_good B) (h'.bw rNodess_good B)
    have w0 := wf_near (condo_bound l g)
    have w1 := wf_near (choice_bound l g (bordaL l g))
    have w2 := wf_near (choice_bound l g (approvL l g))
    have HF := voteLine_yes hP
    obtain ⟨Y, hY⟩ : ∃ Y, Y = voteLine l g := ⟨_, rfl⟩
    rw [← hY] at HF ⊢
    obtain ⟨n0, hn0⟩ : ∃ n0, n0 = condo l g := ⟨_, rfl⟩
    obtain ⟨n1, hn1⟩ : ∃ n1, n1 = choice l g (bordaL l g) := ⟨_, rfl⟩
    obtain ⟨n2, hn2⟩ : ∃ n2, n2 = choice l g (approvL l g) := ⟨_, rfl⟩
    rw [← hn0] at k0 w0 HF
    rw [← hn1] at k1 w1 HF
    rw [← hn2] at k2 w2 HF
    have s0 := (fmtInt_size w0).2
    have s1 := (fmtInt_size w1).2
    have s2 := (fmtInt_size w2).2
    have f0 := fun W => I_FormatInt W n0 w0
    have f1 := fun W => I_FormatInt W n1 w1
    have f2 := fun W => I_FormatInt W n2 w2
    obtain ⟨P0, hP0⟩ : ∃ P, P = fmtInt n0 := ⟨_, rfl⟩
    obtain ⟨P1, hP1⟩ : ∃ P, P = fmtInt n1 := ⟨_, rfl⟩
    obtain ⟨P2, hP2⟩ : ∃ P, P = fmtInt n2 := ⟨_, rfl⟩
    rw [← hP0] at HF s0
    rw [← hP1] at HF s1
    rw [← hP2] at HF s2
    simp only [← hP0] at f0
    simp only [← hP1] at f1
    simp only [← hP2] at f2
    have z1 : (⟨#[99, 111, 110, 100, 111, 114, 99, 101, 116, 32]⟩ : ByteArray).size = 10 := rfl
    have z2 : (⟨#[32, 98, 111, 114, 100, 97, 32]⟩ : ByteArray).size = 7 := rfl
    have z3 : (⟨#[32, 97, 112, 112, 114, 111, 118, 97, 108, 32]⟩ : ByteArray).size = 10 := rfl
    have a1 := sum_fact (a := ⟨#[99, 111, 110, 100, 111, 114, 99, 101, 116, 32]⟩) (b := P0) (by omega)
    have y1 := size_append ⟨#[99, 111, 110, 100, 111, 114, 99, 101, 116, 32]⟩ P0
    obtain ⟨T1, hT1⟩ : ∃ T, T = (⟨#[99, 111, 110, 100, 111, 114, 99, 101, 116, 32]⟩ : ByteArray) ++ P0 := ⟨_, rfl⟩
    rw [← hT1] at HF y1
    simp only [← hT1] at a1
    have a2 := sum_fact (a := T1) (b := ⟨#[32, 98, 111, 114, 100, 97, 32]⟩) (by omega)
    have y2 := size_append T1 ⟨#[32, 98, 111, 114, 100, 97, 32]⟩
    obtain ⟨T2, hT2⟩ : ∃ T, T = T1 ++ ⟨#[32, 98, 111, 114, 100, 97, 32]⟩ := ⟨_, rfl⟩
    rw [← hT2] at HF y2
    simp only [← hT2] at a2
    have a3 := sum_fact (a := T2) (b := P1) (by omega)
    have y3 := size_append T2 P1
    obtain ⟨T3, hT3⟩ : ∃ T, T = T2 ++ P1 := ⟨_, rfl⟩
    rw [← hT3] at HF y3
    simp only [← hT3] at a3
    have a4 := sum_fact (a := T3) (b := ⟨#[32, 97, 112, 112, 114, 111, 118, 97, 108, 32]⟩) (by omega)
    have y4 := size_append T3 ⟨#[32, 97, 112, 112, 114, 111, 118, 97, 108, 32]⟩
    obtain ⟨T4, hT4⟩ : ∃ T, T = T3 ++ ⟨#[32, 97, 112, 112, 114, 111, 118, 97, 108, 32]⟩ := ⟨_, rfl⟩
    rw [← hT4] at HF y4
    simp only [← hT4] at a4
    have a5 := sum_fact (a := T4) (b := P2) (by omega)
    obtain ⟨T5, hT5⟩ : ∃ T, T = T4 ++ P2 := ⟨_, rfl⟩
    rw [← hT5] at HF
    simp only [← hT5] at a5
    have HX := Lib.hid HF
    have K1 := Lib.hid k1
    have K2 := Lib.hid k2
    have F1 := Lib.hid f1
    have F2 := Lib.hid f2
    clear hP hY HF hn0 hn1 hn2 w0 w1 w2 s0 s1 s2 hP0 hP1 hP2 z1 z2 z3 y1 y2 y3 y4 hT1 hT2 hT3 hT4 hT5 k1 k2 f1 f2
    go_enter Try.func39, Try.ntmps39
    go_wp2_with fail
    refine (hcall0).mono ?_
    rintro e w1 ⟨rfl, hb1⟩
    go_wp2_with fail
    refine (k0 _ hb1).mono ?_
    rintro e w2 ⟨rfl, hb2⟩
    have B2 := hb1.then hb2
    go_wp2_with fail
    refine (f0 _).mono ?_
    rintro e w3 ⟨rfl, hb3⟩
    have B3 := B2.then hb3
    clear k0 f0 hcall0
    go_wp2_with fail
    refine (K1.out _ B3).mono ?_
    rintro e w4 ⟨rfl, hb4⟩
    have B4 := B3.then hb4
    go_wp2_with fail
    refine (F1.out _).mono ?_
    rintro e w5 ⟨rfl, hb5⟩
    have B5 := B4.then hb5
    go_wp2_with fail
    refine (K2.out _ B5).mono ?_
    rintro e w6 ⟨rfl, hb6⟩
    have B6 := B5.then hb6
    go_wp2_with fail
    refine (F2.out _).mono ?_
    rintro e w7 ⟨rfl, hb7⟩
    go_wp2
    go_ret
    exact Ret.str (HX.out.symm) (B6.then hb7)
  · rw [hP] at hcall0
    have HX := Lib.hid (show voteLine l g = ⟨#[]⟩ by rw [voteLine, hP]; rfl)
    obtain ⟨Y, hY⟩ : ∃ Y, Y = voteLine l g := ⟨_, rfl⟩
    rw [← hY] at HX ⊢
    clear hP hY h h'
    go_enter Try.func39, Try.ntmps39
    go_wp2_with fail
    refine (hcall0).mono ?_
    rintro e w1 ⟨rfl, hb1⟩
    go_wp2
    go_ret
    exact Ret.str (HX.out.symm) (hb1)
set_option maxRecDepth 100000 in
set_option maxHeartbeats 1600000 in
theorem S_VoteLine (w : World) (l : List GItem) (g : List (List GNode)) (v u : Value) (h : Rd rItems w l [v]) (h' : Rd rNodess w g [u]) : Calls Try.prog 37 #[v, u] w (Ret w (.string (voteLine l g))) := by
  have hcall0 := S_l12Fine w l g _ _ h h'
  rcases Bool.eq_false_or_eq_true (isPoll l g) with hP | hP
  · rw [hP] at hcall0
    have k0 := fun W (B : Bw w W) => S_CondorcetOf W l g _ _ (h.bw rItems_good B) (h'.bw rNodess_good B)
    have k1 := fun W (B : Bw w W) => S_Group1 W l g _ _ (h.bw rItems_good B) (h'.bw rNodess_good B)
    have k2 := fun W (B : Bw w W) => S_Group2 W l g _ _ (h.bw rItems_good B) (h'.bw rNodess_good B)
    have w0 := wf_near (condo_bound l g)
    have w1 := wf_near (choice_bound l g (bordaL l g))
    have w2 := wf_near (choice_bound l g (approvL l g))
    have HF := voteLine_yes hP
    obtain ⟨Y, hY⟩ : ∃ Y, Y = voteLine l g := ⟨_, rfl⟩
    rw [← hY] at HF ⊢
    obtain ⟨n0, hn0⟩ : ∃ n0, n0 = condo l g := ⟨_, rfl⟩
    obtain ⟨n1, hn1⟩ : ∃ n1, n1 = choice l g (bordaL l g) := ⟨_, rfl⟩
    obtain ⟨n2, hn2⟩ : ∃ n2, n2 = choice l g (approvL l g) := ⟨_, rfl⟩
    rw [← hn0] at k0 w0 HF
    rw [← hn1] at k1 w1 HF
    rw [← hn2] at k2 w2 HF
    have s0 := (fmtInt_size w0).2
    have s1 := (fmtInt_size w1).2
    have s2 := (fmtInt_size w2).2
    have f0 := fun W => S_FormatInt W n0 w0
    have f1 := fun W => S_FormatInt W n1 w1
    have f2 := fun W => S_FormatInt W n2 w2
    obtain ⟨P0, hP0⟩ : ∃ P, P = fmtInt n0 := ⟨_, rfl⟩
    obtain ⟨P1, hP1⟩ : ∃ P, P = fmtInt n1 := ⟨_, rfl⟩
    obtain ⟨P2, hP2⟩ : ∃ P, P = fmtInt n2 := ⟨_, rfl⟩
    rw [← hP0] at HF s0
    rw [← hP1] at HF s1
    rw [← hP2] at HF s2
    simp only [← hP0] at f0
    simp only [← hP1] at f1
    simp only [← hP2] at f2
    have z1 : (⟨#[99, 111, 110, 100, 111, 114, 99, 101, 116, 32]⟩ : ByteArray).size = 10 := rfl
    have z2 : (⟨#[32, 98, 111, 114, 100, 97, 32]⟩ : ByteArray).size = 7 := rfl
    have z3 : (⟨#[32, 97, 112, 112, 114, 111, 118, 97, 108, 32]⟩ : ByteArray).size = 10 := rfl
    have a1 := sum_fact (a := ⟨#[99, 111, 110, 100, 111, 114, 99, 101, 116, 32]⟩) (b := P0) (by omega)
    have y1 := size_append ⟨#[99, 111, 110, 100, 111, 114, 99, 101, 116, 32]⟩ P0
    obtain ⟨T1, hT1⟩ : ∃ T, T = (⟨#[99, 111, 110, 100, 111, 114, 99, 101, 116, 32]⟩ : ByteArray) ++ P0 := ⟨_, rfl⟩
    rw [← hT1] at HF y1
    simp only [← hT1] at a1
    have a2 := sum_fact (a := T1) (b := ⟨#[32, 98, 111, 114, 100, 97, 32]⟩) (by omega)
    have y2 := size_append T1 ⟨#[32, 98, 111, 114, 100, 97, 32]⟩
    obtain ⟨T2, hT2⟩ : ∃ T, T = T1 ++ ⟨#[32, 98, 111, 114, 100, 97, 32]⟩ := ⟨_, rfl⟩
    rw [← hT2] at HF y2
    simp only [← hT2] at a2
    have a3 := sum_fact (a := T2) (b := P1) (by omega)
    have y3 := size_append T2 P1
    obtain ⟨T3, hT3⟩ : ∃ T, T = T2 ++ P1 := ⟨_, rfl⟩
    rw [← hT3] at HF y3
    simp only [← hT3] at a3
    have a4 := sum_fact (a := T3) (b := ⟨#[32, 97, 112, 112, 114, 111, 118, 97, 108, 32]⟩) (by omega)
    have y4 := size_append T3 ⟨#[32, 97, 112, 112, 114, 111, 118, 97, 108, 32]⟩
    obtain ⟨T4, hT4⟩ : ∃ T, T = T3 ++ ⟨#[32, 97, 112, 112, 114, 111, 118, 97, 108, 32]⟩ := ⟨_, rfl⟩
    rw [← hT4] at HF y4
    simp only [← hT4] at a4
    have a5 := sum_fact (a := T4) (b := P2) (by omega)
    obtain ⟨T5, hT5⟩ : ∃ T, T = T4 ++ P2 := ⟨_, rfl⟩
    rw [← hT5] at HF
    simp only [← hT5] at a5
    have HX := Lib.hid HF
    have K1 := Lib.hid k1
    have K2 := Lib.hid k2
    have F1 := Lib.hid f1
    have F2 := Lib.hid f2
    clear hP hY HF hn0 hn1 hn2 w0 w1 w2 s0 s1 s2 hP0 hP1 hP2 z1 z2 z3 y1 y2 y3 y4 hT1 hT2 hT3 hT4 hT5 k1 k2 f1 f2
    go_enter Try.func37, Try.ntmps37
    go_wp2_with fail
    refine (hcall0).mono ?_
    rintro e w1 ⟨rfl, hb1⟩
    go_wp2_with fail
    refine (k0 _ hb1).mono ?_
    rintro e w2 ⟨rfl, hb2⟩
    have B2 := hb1.then hb2
    go_wp2_with fail
    refine (f0 _).mono ?_
    rintro e w3 ⟨rfl, hb3⟩
    have B3 := B2.then hb3
    clear k0 f0 hcall0
    go_wp2_with fail
    refine (K1.out _ B3).mono ?_
    rintro e w4 ⟨rfl, hb4⟩
    have B4 := B3.then hb4
    go_wp2_with fail
    refine (F1.out _).mono ?_
    rintro e w5 ⟨rfl, hb5⟩
    have B5 := B4.then hb5
    go_wp2_with fail
    refine (K2.out _ B5).mono ?_
    rintro e w6 ⟨rfl, hb6⟩
    have B6 := B5.then hb6
    go_wp2_with fail
    refine (F2.out _).mono ?_
    rintro e w7 ⟨rfl, hb7⟩
    go_wp2
    go_ret
    exact Ret.str (HX.out.symm) (B6.then hb7)
  · rw [hP] at hcall0
    have HX := Lib.hid (show voteLine l g = ⟨#[]⟩ by rw [voteLine, hP]; rfl)
    obtain ⟨Y, hY⟩ : ∃ Y, Y = voteLine l g := ⟨_, rfl⟩
    rw [← hY] at HX ⊢
    clear hP hY h h'
    go_enter Try.func37, Try.ntmps37
    go_wp2_with fail
    refine (hcall0).mono ?_
    rintro e w1 ⟨rfl, hb1⟩
    go_wp2
    go_ret
    exact Ret.str (HX.out.symm) (hb1)
set_option maxRecDepth 100000 in
set_option maxHeartbeats 4000000 in
theorem walk_FnExactVoteLine (w : World) (x0 : List GItem) (v0 : Value) (h0 : Rd rItems w x0 [v0]) (q0 : ∀ x ∈ x0, wfItem x) (x1 : List (List GNode)) (v1 : Value) (h1 : Rd rNodess w x1 [v1]) (q1 : ∀ x ∈ x1, ∀ y ∈ x, wfNode y) :
    Calls Try.prog 7 #[v0, v1] w (Ret w (.bool true)) := by
  go_enter Try.func7, Try.ntmps7
  go_wp2_with fail
  refine (L_szItemS _ x0 _ (h0.bw rItems_good (Bw.refl w)) (1048576 : Int) (by omega) (by omega)).mono ?_
  rintro e w1 ⟨rfl, hb1⟩
  have B1 : Bw w _ := (Bw.refl w).then hb1
  by_cases s0 : (1048576 : Int) < ((totItems x0 : Nat) : Int)
  · rw [show szM (1048576 : Int) (totItems x0) = -1 from if_pos s0]
    go_wp2
    go_ret
    exact Ret.bool rfl B1
  rw [show szM (1048576 : Int) (totItems x0) = ((1048576 : Int) - ((totItems x0 : Nat) : Int)) from if_neg s0]
  have t0 : totItems x0 ≤ 1048576 := by omega
  go_wp2_with fail
  refine (L_szNodeSS _ x1 _ (h1.bw rNodess_good B1) ((1048576 : Int) - ((totItems x0 : Nat) : Int)) (by omega) (by omega)).mono ?_
  rintro e w2 ⟨rfl, hb2⟩
  have B2 : Bw w _ := B1.then hb2
  by_cases s1 : ((1048576 : Int) - ((totItems x0 : Nat) : Int)) < ((totNodess x1 : Nat) : Int)
  · rw [show szM ((1048576 : Int) - ((totItems x0 : Nat) : Int)) (totNodess x1) = -1 from if_pos s1]
    go_wp2
    go_ret
    exact Ret.bool rfl B2
  rw [show szM ((1048576 : Int) - ((totItems x0 : Nat) : Int)) (totNodess x1) = (((1048576 : Int) - ((totItems x0 : Nat) : Int)) - ((totNodess x1 : Nat) : Int)) from if_neg s1]
  have t1 : totNodess x1 ≤ 1048576 := by omega
  go_wp2_with fail
  refine (L_toItemS _ x0 _ (by exact (h0.bw rItems_good B2)) t0).mono ?_
  rintro e w3 ⟨a0, rfl, ⟨aF0, ao0, af0⟩, hb3⟩
  have B3 : Bw w _ := B2.then hb3
  have ar0 := fItems_Rd ao0
  go_wp2_with fail
  refine (L_toNodeSS _ x1 _ (by exact (h1.bw rNodess_good B3)) t1).mono ?_
  rintro e w4 ⟨a1, rfl, ⟨aF1, ao1, af1⟩, hb4⟩
  have B4 : Bw w _ := B3.then hb4
  replace ar0 := ar0.bw rItems_good hb4
  have ar1 := fNodess_Rd ao1
  go_wp2_with fail
  refine (S_VoteLine _ x0 x1 _ _ (by exact ar0) (by exact ar1)).mono ?_
  rintro e w5 ⟨rfl, hb5⟩
  have B5 : Bw w _ := B4.then hb5
  replace ar0 := ar0.bw rItems_good hb5
  replace ar1 := ar1.bw rNodess_good hb5
  clear ar0 ao0 af0 ar1 ao1 af1
  go_wp2_with fail
  refine (L_toItemS _ x0 _ (by exact (h0.bw rItems_good B5)) t0).mono ?_
  rintro e w6 ⟨b0, rfl, ⟨bF0, bo0, bf0⟩, hb6⟩
  have B6 : Bw w _ := B5.then hb6
  have br0 := fItems_Rd bo0
  go_wp2_with fail
  refine (L_toNodeSS _ x1 _ (by exact (h1.bw rNodess_good B6)) t1).mono ?_
  rintro e w7 ⟨b1, rfl, ⟨bF1, bo1, bf1⟩, hb7⟩
  have B7 : Bw w _ := B6.then hb7
  replace br0 := br0.bw rItems_good hb7
  have br1 := fNodess_Rd bo1
  go_wp2_with fail
  refine (I_VoteLine _ x0 x1 _ _ (by exact br0) (by exact br1)).mono ?_
  rintro e w8 ⟨rfl, hb8⟩
  have B8 : Bw w _ := B7.then hb8
  replace br0 := br0.bw rItems_good hb8
  replace br1 := br1.bw rNodess_good hb8
  go_wp2_with fail
  refine (L_toItemS _ x0 _ (by exact (h0.bw rItems_good B8)) t0).mono ?_
  rintro e w9 ⟨c0, rfl, ⟨cF0, co0, cf0⟩, hb9⟩
  have B9 : Bw w _ := B8.then hb9
  replace br0 := br0.bw rItems_good hb9
  replace br1 := br1.bw rNodess_good hb9
  have cr0 := fItems_Rd co0
  go_wp2_with fail
  refine (L_eqItemS _ x0 x0 _ _ (by exact br0) (by exact cr0)).mono ?_
  rintro e w10 ⟨rfl, hb10⟩
  have B10 : Bw w _ := B9.then hb10
  replace br0 := br0.bw rItems_good hb10
  replace br1 := br1.bw rNodess_good hb10
  replace cr0 := cr0.bw rItems_good hb10
  rw [show decide (x0 = x0) = true from by simp]
  go_wp2_with fail
  refine (L_toNodeSS _ x1 _ (by exact (h1.bw rNodess_good B10)) t1).mono ?_
  rintro e w11 ⟨c1, rfl, ⟨cF1, co1, cf1⟩, hb11⟩
  have B11 : Bw w _ := B10.then hb11
  replace br0 := br0.bw rItems_good hb11
  replace br1 := br1.bw rNodess_good hb11
  have cr1 := fNodess_Rd co1
  go_wp2_with fail
  refine (L_eqNodeSS _ x1 x1 _ _ (by exact br1) (by exact cr1)).mono ?_
  rintro e w12 ⟨rfl, hb12⟩
  have B12 : Bw w _ := B11.then hb12
  replace br0 := br0.bw rItems_good hb12
  replace br1 := br1.bw rNodess_good hb12
  replace cr1 := cr1.bw rNodess_good hb12
  rw [show decide (x1 = x1) = true from by simp]
  go_wp2
  go_ret
  exact Ret.bool rfl B12
set_option maxRecDepth 100000 in
theorem lifted_FnExactVoteLine (os : Os) (started : os.Started) (H : Type) (enc : TypeId × Value → H) :
    ReturnsInHanded {} Try.checked os 7 .any (Rows.fnExactVoteLineSpec.pre6 enc Try.prog Try.f7 Rows.fnExactVoteLineRow.domain false) (Rows.fnExactVoteLineSpec.post enc Try.prog Try.f7 false true false false) := by
  refine returnsInHanded_of_change (C := Try.checked) own_knob started (by kernel_rfl) Try.func7
    (ChangeSpec.witness6 (enc := enc) (C := Try.checked) false ⟨#[], #[.slice none 0 0, .slice none 0 0], []⟩ 8 (by kernel_rfl) (by kernel_rfl) (by kernel_rfl) (by kernel_rfl)) ?_
  intro W base args ds gs before hval0 hW hcnd _
  have hval : ∀ (j : Nat) t v, Try.f7.params[j]? = some t → args[j]? = some v → Value.okWide Try.prog W .any base t v := hval0
  have hW' := hW
  obtain ⟨p, q, hA0, hV, rfl, hfz, hnd⟩ := hW
  have hA : DataW.TrodAll enc Try.prog W 0 (fun _ => true) true Try.f7.params.toList args.toList ds p := hA0
  rw [Try.params7] at hA hval
  obtain ⟨v0, vs0, d0, ds0, p0, q0, hargs, rfl, rfl, h0, r0⟩ := trodAll_cons hA
  obtain ⟨v1, vs1, d1, ds1, p1, q1, rfl, rfl, rfl, h1, r1⟩ := trodAll_cons r0
  obtain ⟨rfl, rfl, rfl⟩ := trodAll_nil r1
  obtain rfl : args = #[v0, v1] := by cases args; simp_all
  obtain ⟨rfl, rfl⟩ := trodVars_none hV
  have k0 := h0
  have lt0 : ∀ x ∈ p0, x.block < W.heap.size := by obtain ⟨m, hm⟩ := k0; exact DataW.trod_lt m _ _ _ hm
  obtain ⟨a0, len0, cap0, rfl⟩ := okWide_slice Try.underlying22 (hval 0 22 v0 rfl rfl)
  obtain ⟨x0, R0, Q0⟩ : ∃ xs, Rd rItems W xs [.slice a0 len0 cap0] ∧ ∀ x ∈ xs, wfItem x := by obtain ⟨m, hm⟩ := h0; exact t_items hm
  have k1 := h1
  have lt1 : ∀ x ∈ p1, x.block < W.heap.size := by obtain ⟨m, hm⟩ := k1; exact DataW.trod_lt m _ _ _ hm
  obtain ⟨a1, len1, cap1, rfl⟩ := okWide_slice Try.underlying54 (hval 1 54 v1 rfl rfl)
  obtain ⟨x1, R1, Q1⟩ : ∃ xs, Rd rNodess W xs [.slice a1 len1 cap1] ∧ ∀ x ∈ xs, ∀ y ∈ x, wfNode y := by obtain ⟨m, hm⟩ := h1; exact t_nodess hm
  clear hA0 hval0
  refine (walk_FnExactVoteLine W x0 _ R0 Q0 x1 _ R1 Q1).mono fun e W' ⟨he, bel⟩ => ?_
  subst he
  exact ⟨_, rfl, _, _, _, [], _, [], hW', trodAll_mk1 (shut_bool Try.underlying4 _), (trodAll_cons_mk (Below.trod laid_out (by kernel_rfl) (of_decide_eq_true (by kernel_rfl)) k0 bel lt0) (trodAll_cons_mk (Below.trod laid_out (by kernel_rfl) (of_decide_eq_true (by kernel_rfl)) k1 bel lt1) trodAll_mk0)), rfl, Below.frame bel _, fun h => by cases h⟩
/-- the statement -/
theorem FnExactVoteLine_holds : Rows.FnExactVoteLineSaid :=
  OpenClaim.holds_of_wide 7 Try.f7 rfl rfl rfl rfl rfl rfl rfl ⟨rfl, rfl, rfl, rfl, rfl⟩ rfl rfl rfl rfl rfl (by kernel_rfl) Try.func7 (by kernel_rfl)
    (of_decide_eq_true (by kernel_rfl)) (by unfold Func.isWrapper; first | (rw [if_pos (by decide +kernel)]; kernel_rfl) | (rw [if_neg (by decide +kernel)]; exact ⟨rfl, rfl⟩))
    (fun os started H enc _ => lifted_FnExactVoteLine os started H enc)
end Go.Proofs.Ytfffklkiikmieaa
