/- The wishes that count alike: ParetoOf in both programs. -/
import Derived.Test.YtfffklkiikmieaaGreatQModel3
import Derived.Test.YtfffklkiikmieaaGreatQBestI
import Derived.Test.YtfffklkiikmieaaGreatQCopyW
import Derived.Test.YtfffklkiikmieaaGreatQSortT
import Derived.Test.YtfffklkiikmieaaGreatQExprS
namespace Go.Proofs.YtfffklkiikmieaaGreat
open Go.RowKit
set_option linter.unusedVariables false

inductive XT where
  | base (w : GWish)
  | dual (t : XT)
  | two (op : Int) (a b : XT)
def flat : XT → List GNode
  | .base w => [⟨0, w⟩]
  | .dual t => flat t ++ [⟨3, noWish⟩]
  | .two op a b => flat a ++ (flat b ++ [⟨op, noWish⟩])
def isTwo (op : Int) : Prop := op = 1 ∨ op = 2 ∨ op = 4
def okT : XT → Prop
  | .base w => isWish w = true
  | .dual t => okT t
  | .two op a b => isTwo op ∧ okT a ∧ okT b
def flats (ts : List XT) : List GNode := (ts.map flat).flatten
theorem flats_snoc (ts : List XT) (t : XT) : flats (ts ++ [t]) = flats ts ++ flat t := by simp [flats]
theorem flats_nil : flats [] = [] := rfl
theorem flat_pos : ∀ t : XT, 0 < (flat t).length
  | .base w => by simp [flat]
  | .dual t => by simp [flat]
  | .two op a b => by simp [flat]; omega
theorem flats_pos {ts : List XT} (h : 0 < ts.length) : 0 < (flats ts).length := by
  cases ts with
  | nil => simp at h
  | cons t ts => have := flat_pos t; simp [flats]; omega
theorem opnds_two {op : Int} (h : isTwo op) : opnds op = 2 := by unfold isTwo at h; unfold opnds; rw [if_neg (by omega), if_neg (by omega)]
theorem snocT {l : List XT} (h : 0 < l.length) : ∃ T a, l = T ++ [a] := ⟨l.dropLast, l.getLast (fun e => by rw [e] at h; simp at h), (List.dropLast_concat_getLast _).symm⟩
theorem nodeOk_iff {n : GNode} {d : Int} : nodeOk n d = true ↔ (0 ≤ n.op ∧ n.op ≤ 4) ∧ opnds n.op ≤ d ∧ (if n.op = 0 then isWish n.wish = true else n.wish = noWish) := by
  unfold nodeOk; simp only [Bool.and_eq_true, inB_iff, decide_eq_true_iff]
  by_cases h : n.op = 0
  · rw [if_pos h, if_pos h]
  · rw [if_neg h, if_neg h, decide_eq_true_iff]
theorem flat_depth : ∀ {t : XT}, okT t → ∀ (rest : List GNode) (d : Int), 0 ≤ d → depthOf (flat t ++ rest) d = depthOf rest (d + 1)
  | .base w, h, rest, d, hd => by
    have hk : nodeOk ⟨0, w⟩ d = true := nodeOk_iff.2 ⟨by simp, by simp [opnds]; exact hd, by simpa [okT] using h⟩
    simp [flat, depthOf, hk, opnds]
  | .dual t, h, rest, d, hd => by
    have hk : nodeOk ⟨3, noWish⟩ (d + 1) = true := nodeOk_iff.2 ⟨by simp, by simp [opnds]; omega, by simp⟩
    rw [flat, List.append_assoc, flat_depth (t := t) h _ d hd]
    simp [depthOf, hk, opnds]
  | .two op a b, h, rest, d, hd => by
    have h2 := opnds_two h.1
    have hk : nodeOk ⟨op, noWish⟩ (d + 1 + 1) = true := nodeOk_iff.2 ⟨by have := h.1; unfold isTwo at this; dsimp only; omega, by dsimp only; omega, by rw [if_neg (by have := h.1; unfold isTwo at this; dsimp only; omega)]⟩
    rw [flat, List.append_assoc, flat_depth (t := a) h.2.1 _ d hd, List.append_assoc, flat_depth (t := b) h.2.2 _ (d + 1) (by omega)]
    simp only [List.singleton_append, depthOf, hk, if_pos, h2]
    congr 1; omega
theorem tree_stack : ∀ (e : List GNode) (ts : List XT), (∀ t ∈ ts, okT t) → depthOf e ts.length = some 1 → ∃ t, okT t ∧ flats ts ++ e = flat t
  | [], ts, hk, h => by
    simp only [depthOf] at h
    have h1 : ts.length = 1 := by injection h with h; omega
    match ts, h1 with
    | [t], _ => exact ⟨t, hk t (by simp), by simp [flats]⟩
  | n :: e, ts, hk, h => by
    unfold depthOf at h
    split at h
    · rename_i hn
      obtain ⟨ho, hd, hw⟩ := nodeOk_iff.1 hn
      by_cases h0 : n.op = 0
      · rw [if_pos h0] at hw
        have hn' : n = ⟨0, n.wish⟩ := by cases n; simp_all
        obtain ⟨t, ht, he⟩ := tree_stack e (ts ++ [.base n.wish]) (by intro t ht; rcases List.mem_append.1 ht with ht | ht; exact hk t ht; simp at ht; rw [ht]; exact hw) (by
          rw [← h]; congr 1; simp [h0, opnds])
        refine ⟨t, ht, ?_⟩
        rw [← he, flats_snoc, flat, List.append_assoc, ← hn']; rfl
      rw [if_neg h0] at hw
      by_cases h3 : n.op = 3
      · have hn' : n = ⟨3, noWish⟩ := by cases n; simp_all
        have ho3 : opnds n.op = 1 := by rw [h3]; rfl
        obtain ⟨T, a, rfl⟩ := snocT (l := ts) (by omega)
        obtain ⟨t, ht, he⟩ := tree_stack e (T ++ [.dual a]) (by intro t ht; rcases List.mem_append.1 ht with ht | ht; exact hk t (by simp [ht]); simp at ht; rw [ht]; exact hk a (by simp)) (by
          rw [← h]; congr 1; simp [ho3])
        refine ⟨t, ht, ?_⟩
        rw [← he, flats_snoc, flats_snoc, flat, hn']; simp
      · have ho2 : isTwo n.op := by unfold isTwo; omega
        have hn' : n = ⟨n.op, noWish⟩ := by cases n; simp_all
        have hd2 := opnds_two ho2
        obtain ⟨T', b, rfl⟩ := snocT (l := ts) (by omega)
        obtain ⟨T, a, rfl⟩ := snocT (l := T') (by simp at hd; omega)
        obtain ⟨t, ht, he⟩ := tree_stack e (T ++ [.two n.op a b]) (by
            intro t ht
            rcases List.mem_append.1 ht with ht | ht
            · exact hk t (by simp [ht])
            · simp at ht; rw [ht]; exact ⟨ho2, hk a (by simp), hk b (by simp)⟩) (by
          rw [← h]; congr 1; simp [hd2])
        refine ⟨t, ht, ?_⟩
        rw [← he, flats_snoc, flats_snoc, flats_snoc, flat, ← hn']; simp
    · cases h
theorem tree_of {e : List GNode} (h : isExpr e = true) : ∃ t, okT t ∧ e = flat t := by
  obtain ⟨t, ht, he⟩ := tree_stack e [] (by simp) (by simpa using isExpr_depth h)
  exact ⟨t, ht, by simpa [flats] using he⟩
theorem isExpr_flat {t : XT} (h : okT t) (hl : (flat t).length ≤ 9) : isExpr (flat t) = true := by
  have := flat_depth h [] 0 (by omega)
  rw [List.append_nil] at this
  unfold isExpr
  rw [this]
  simp [depthOf, hl]
/-- one step back through an expression: the trees still to pass -/
theorem back_step {e pre : List GNode} {ts : List XT} {i : Nat} (hok : ∀ t ∈ ts, okT t) (h0 : 0 < ts.length) (h : e.take (i + 1) = pre ++ flats ts) (hi : i < e.length) :
    ∃ n ts2, e[i]? = some n ∧ (∀ t ∈ ts2, okT t) ∧ (ts2.length : Int) = (ts.length : Int) - 1 + opnds n.op ∧ e.take i = pre ++ flats ts2 ∧ (n.op = 0 ∨ n.op = 3 ∨ isTwo n.op) := by
  obtain ⟨T, u, rfl⟩ := snocT h0
  have key : ∀ (l : List GNode) (n : GNode), e.take (i + 1) = l ++ [n] → e[i]? = some n ∧ e.take i = l := fun l n hh => by
    have hl : l.length = i := by have := congrArg List.length hh; simp at this; omega
    refine ⟨?_, ?_⟩
    · have := congrArg (fun l => l[i]?) hh
      simp only [List.getElem?_take] at this
      rw [if_pos (by omega)] at this
      rw [this, List.getElem?_append_right (by omega), hl]; simp
    · have := congrArg (List.take i) hh
      rw [List.take_take, Nat.min_eq_left (by omega)] at this
      rw [this, ← hl]; exact List.take_left' rfl
  have hT : ∀ t ∈ T, okT t := fun t ht => hok t (by simp [ht])
  have hu := hok u (by simp)
  rw [flats_snoc] at h
  cases u with
  | base w =>
    obtain ⟨h1, h2⟩ := key (pre ++ flats T) ⟨0, w⟩ (by rw [h, flat]; simp)
    exact ⟨_, T, h1, hT, by simp [opnds], h2, .inl rfl⟩
  | dual t =>
    obtain ⟨h1, h2⟩ := key (pre ++ flats (T ++ [t])) ⟨3, noWish⟩ (by rw [h, flat, flats_snoc]; simp)
    exact ⟨_, T ++ [t], h1, by intro s hs; rcases List.mem_append.1 hs with hs | hs; exact hT s hs; simp at hs; rw [hs]; exact hu, by simp [opnds], h2, .inr (.inl rfl)⟩
  | two op a b =>
    obtain ⟨h1, h2⟩ := key (pre ++ flats (T ++ [a] ++ [b])) ⟨op, noWish⟩ (by rw [h, flat, flats_snoc, flats_snoc]; simp)
    refine ⟨_, T ++ [a] ++ [b], h1, ?_, ?_, h2, .inr (.inr hu.1)⟩
    · intro s hs
      rcases List.mem_append.1 hs with hs | hs
      · rcases List.mem_append.1 hs with hs | hs
        · exact hT s hs
        · simp at hs; rw [hs]; exact hu.2.1
      · simp at hs; rw [hs]; exact hu.2.2
    · rw [opnds_two hu.1]; simp; try omega

/-! ### weaker -/
def swapT : XT → XT → Bool
  | .two o a0 a1, .two r b0 b1 => (decide (o = 1 ∧ r = 2) || decide (o = 4 ∧ r = 1)) && ((decide (flat a0 = flat b0) && decide (flat a1 = flat b1)) || (decide (flat a0 = flat b1) && decide (flat a1 = flat b0)))
  | _, _ => false
def weakT (p q : XT) : Bool :=
  decide (flat p = flat q) || ((match q with | .two r b0 _ => decide (r = 2) && weakT p b0 | _ => false) || ((match p with | .two o a0 a1 => decide (o = 4) && (weakT a0 q || weakT a1 q) | _ => false) || swapT p q))
termination_by SizeOf.sizeOf p + SizeOf.sizeOf q
end Go.Proofs.YtfffklkiikmieaaGreat

namespace Go.Proofs.YtfffklkiikmieaaGreat
open Go.RowKit
set_option linter.unusedVariables false
set_option linter.unusedSimpArgs false
theorem flats_ge : ∀ ts : List XT, ts.length ≤ (flats ts).length
  | [] => Nat.le_refl _
  | t :: ts => by
    have h1 := flat_pos t
    have h2 := flats_ge ts
    have e : flats (t :: ts) = flat t ++ flats ts := by simp [flats]
    rw [e, List.length_append, List.length_cons]; omega
theorem flats_one (t : XT) : flats [t] = flat t := by simp [flats]
set_option maxRecDepth 100000 in
set_option maxHeartbeats 1600000 in
theorem I_start (w : World) (e pre : List GNode) (t : XT) (m : Nat) (v : Value) (h : Rd rNodes w e [v]) (hok : okT t) (hm : m < e.length) (h9 : e.length ≤ 9) (he : e.take (m + 1) = pre ++ flat t) :
    Calls Tryz.prog 129 #[v, .int .i64 (m : Int)] w (Ret w (.int .i64 (pre.length : Int))) := by
  have HT := Lib.hid (show ∀ s ∈ [t], okT s from fun s hs => by simp at hs; rw [hs]; exact hok)
  have HE := Lib.hid (show e.take (m + 1) = pre ++ flats [t] by rw [flats_one]; exact he)
  obtain ⟨A, n, c, rfl, L0, Lc, Lm⟩ := rSl_open h
  unfold maxLen at Lm
  have L := Lib.hid L0
  clear L0
  rw [← L.out] at hm h9
  clear he hok
  go_enter Tryz.func129, Tryz.ntmps129
  go_wp2
  go_loopg [5, 6] (m + 1) (fun g d i w' => ∃ (k : Nat) (ts : List XT) (z : Nat), k < n ∧ g = k + 1 ∧ i = .int .i64 k ∧ d = .int .i64 z ∧ Hid (z = ts.length) ∧ 0 < z ∧ z ≤ 9 ∧ Hid (∀ s ∈ ts, okT s) ∧ Hid (e.take (k + 1) = pre ++ flats ts) ∧ Bw w w')
  case atStart => exact ⟨m, [t], 1, hm, rfl, rfl, rfl, Lib.hid rfl, by omega, by omega, HT, HE, Bw.refl _⟩
  case round =>
    clear HT HE
    obtain ⟨k, ts, z, hk, rfl, rfl, rfl, HZ, z0, z9, HT, HE, hb⟩ := hrel
    obtain ⟨x, ts2, hx, hok2, hlen, htk, hop⟩ := back_step HT.out (by rw [← HZ.out]; exact z0) HE.out (by rw [← L.out]; exact hk)
    obtain ⟨ba, oa, Al, cl, Ap, cp, rfl, _, c0, _⟩ := rNodes_at h hx
    have i1 : (0 : Int) ≤ (k : Int) := by omega
    have i2 : (k : Int) < (n : Int) := by omega
    replace c0 := hb.cell c0
    have hO := opnds_bd x.op
    have hl2 : ts2.length ≤ 9 := by
      have h1 := flats_ge ts2
      have h2 := congrArg List.length htk
      rw [List.length_append, List.length_take, ← L.out] at h2
      omega
    obtain ⟨O, hOe⟩ : ∃ O, O = opnds x.op := ⟨_, rfl⟩
    have key : ∀ W, Calls Tryz.prog 124 #[.int .i64 x.op] W (Ret W (.int .i64 O)) := fun W => by rw [hOe]; exact I_operands W x.op
    rw [← hOe] at hlen hO
    obtain ⟨y, hy⟩ : ∃ y, y = ts2.length := ⟨_, rfl⟩
    rw [← hy] at hlen hl2
    rw [← HZ.out] at hlen
    have HY := Lib.hid hy
    have HTK := Lib.hid htk
    have HO2 := Lib.hid hok2
    have HLEN := Lib.hid hlen
    have HPRE := Lib.hid (show y = 0 → (pre.length : Int) = (k : Int) from fun h0 => by
      have h2 := congrArg List.length htk
      rw [show ts2 = [] from List.eq_nil_of_length_eq_zero (by rw [← hy]; exact h0), flats_nil, List.append_nil, List.length_take, ← L.out] at h2
      omega)
    have HK1 := Lib.hid (show 0 < y → 1 ≤ k from fun h0 => by
      have h1 := flats_pos (ts := ts2) (by rw [← hy]; exact h0)
      have h2 := congrArg List.length htk
      rw [List.length_append, List.length_take, ← L.out] at h2
      omega)
    have HH := Lib.hid h
    clear hx hok2 htk hop hOe hy hlen h
    go_wp2_with fail
    refine (key _).mono ?_
    rintro e w2 ⟨rfl, hb2⟩
    have hbb := hb.then hb2
    have hO3 : O = (y : Int) - (z : Int) + 1 := by have := HLEN.out; omega
    clear key HLEN c0
    by_cases hy0 : y = 0
    · have e1 : ((z : Int) - 1 + O == 0) = true := by simp; omega
      have HF := Lib.hid (HPRE.out hy0)
      have hO4 := Lib.hid hO3
      clear hO3
      go_wp2
      go_ret
      exact Ret.int (HF.out.symm) (hbb)
    · have e1 : ((z : Int) - 1 + O == 0) = false := by simp; omega
      have hk1 := HK1.out (by omega)
      have HO4 := Lib.hid hO3
      have h := HH.out
      clear hO3
      go_wp2
      go_roundg k
      case measure => omega
      case rel => exact ⟨k - 1, ts2, y, by omega, by omega, by go_num, by have := HO4.out; go_num, HY, by omega, by omega, HO2, Lib.hid (by rw [show k - 1 + 1 = k by omega]; exact HTK.out), hbb⟩
set_option maxRecDepth 100000 in
set_option maxHeartbeats 1600000 in
theorem S_l6Start (w : World) (e pre : List GNode) (t : XT) (m : Nat) (v : Value) (h : Rd rNodes w e [v]) (hok : okT t) (hm : m < e.length) (h9 : e.length ≤ 9) (he : e.take (m + 1) = pre ++ flat t) :
    Calls Tryz.prog 162 #[v, .int .i64 (m : Int)] w (Ret w (.int .i64 (pre.length : Int))) := by
  have HT := Lib.hid (show ∀ s ∈ [t], okT s from fun s hs => by simp at hs; rw [hs]; exact hok)
  have HE := Lib.hid (show e.take (m + 1) = pre ++ flats [t] by rw [flats_one]; exact he)
  obtain ⟨A, n, c, rfl, L0, Lc, Lm⟩ := rSl_open h
  unfold maxLen at Lm
  have L := Lib.hid L0
  clear L0
  rw [← L.out] at hm h9
  clear he hok
  go_enter Tryz.func162, Tryz.ntmps162
  go_wp2
  go_loopg [5, 6] (m + 1) (fun g d i w' => ∃ (k : Nat) (ts : List XT) (z : Nat), k < n ∧ g = k + 1 ∧ i = .int .i64 k ∧ d = .int .i64 z ∧ Hid (z = ts.length) ∧ 0 < z ∧ z ≤ 9 ∧ Hid (∀ s ∈ ts, okT s) ∧ Hid (e.take (k + 1) = pre ++ flats ts) ∧ Bw w w')
  case atStart => exact ⟨m, [t], 1, hm, rfl, rfl, rfl, Lib.hid rfl, by omega, by omega, HT, HE, Bw.refl _⟩
  case round =>
    clear HT HE
    obtain ⟨k, ts, z, hk, rfl, rfl, rfl, HZ, z0, z9, HT, HE, hb⟩ := hrel
    obtain ⟨x, ts2, hx, hok2, hlen, htk, hop⟩ := back_step HT.out (by rw [← HZ.out]; exact z0) HE.out (by rw [← L.out]; exact hk)
    obtain ⟨ba, oa, Al, cl, Ap, cp, rfl, _, c0, _⟩ := rNodes_at h hx
    have i1 : (0 : Int) ≤ (k : Int) := by omega
    have i2 : (k : Int) < (n : Int) := by omega
    replace c0 := hb.cell c0
    have hO := opnds_bd x.op
    have hl2 : ts2.length ≤ 9 := by
      have h1 := flats_ge ts2
      have h2 := congrArg List.length htk
      rw [List.length_append, List.length_take, ← L.out] at h2
      omega
    obtain ⟨O, hOe⟩ : ∃ O, O = opnds x.op := ⟨_, rfl⟩
    rw [← hOe] at hlen hO
    obtain ⟨y, hy⟩ : ∃ y, y = ts2.length := ⟨_, rfl⟩
    rw [← hy] at hlen hl2
    rw [← HZ.out] at hlen
    have HY := Lib.hid hy
    have HTK := Lib.hid htk
    have HO2 := Lib.hid hok2
    have HLEN := Lib.hid hlen
    have HPRE := Lib.hid (show y = 0 → (pre.length : Int) = (k : Int) from fun h0 => by
      have h2 := congrArg List.length htk
      rw [show ts2 = [] from List.eq_nil_of_length_eq_zero (by rw [← hy]; exact h0), flats_nil, List.append_nil, List.length_take, ← L.out] at h2
      omega)
    have HK1 := Lib.hid (show 0 < y → 1 ≤ k from fun h0 => by
      have h1 := flats_pos (ts := ts2) (by rw [← hy]; exact h0)
      have h2 := congrArg List.length htk
      rw [List.length_append, List.length_take, ← L.out] at h2
      omega)
    have HH := Lib.hid h
    have HOP := Lib.hid hop
    have HOE := Lib.hid hOe
    clear hx hok2 htk hop hOe hy hlen h
    have hO3 : O = (y : Int) - (z : Int) + 1 := by have := HLEN.out; omega
    have hz := World.block_lt_of_cell? _ _ c0
    clear HLEN
    rcases HOP.out with o0 | o0 | o0
    · have q0 : (x.op == 0) = true := by simpa using o0
      have hO0 : O = 0 := by rw [HOE.out, o0]; rfl
      clear o0
      subst hO0
      by_cases hy0 : y = 0
      · have e1 : (((z : Int) - 1) == 0) = true := by simp; omega
        have HF := Lib.hid (HPRE.out hy0)
        clear hO3
        go_wp2
        go_ret
        exact Ret.int (HF.out.symm) (hb)
      · have e1 : (((z : Int) - 1) == 0) = false := by simp; omega
        have hk1 := HK1.out (by omega)
        have HO4 := Lib.hid hO3
        have h := HH.out
        clear hO3
        go_wp2
        go_roundg k
        case measure => omega
        case rel => exact ⟨k - 1, ts2, y, by omega, by omega, by go_num, by have := HO4.out; go_num, HY, by omega, by omega, HO2, Lib.hid (by rw [show k - 1 + 1 = k by omega]; exact HTK.out), hb⟩
    · have q0 : (x.op == 0) = false := by simp; omega
      have q3 : (x.op == 3) = true := by simpa using o0
      have hO0 : O = 1 := by rw [HOE.out, o0]; rfl
      clear o0
      subst hO0
      by_cases hy0 : y = 0
      · omega
      · have e1 : (((z : Int) - 1 + 1) == 0) = false := by simp; omega
        have hk1 := HK1.out (by omega)
        have HO4 := Lib.hid hO3
        have h := HH.out
        clear hO3
        go_wp2
        go_roundg k
        case measure => omega
        case rel => exact ⟨k - 1, ts2, y, by omega, by omega, by go_num, by have := HO4.out; go_num, HY, by omega, by omega, HO2, Lib.hid (by rw [show k - 1 + 1 = k by omega]; exact HTK.out), hb⟩
    · have q0 : (x.op == 0) = false := by unfold isTwo at o0; simp; omega
      have q3 : (x.op == 3) = false := by unfold isTwo at o0; simp; omega
      have hO0 : O = 2 := by rw [HOE.out, opnds_two o0]
      clear o0
      subst hO0
      by_cases hy0 : y = 0
      · have e1 : (((z : Int) - 1 + 2) == 0) = true := by simp; omega
        have HF := Lib.hid (HPRE.out hy0)
        clear hO3
        go_wp2
        go_ret
        exact Ret.int (HF.out.symm) (hb)
      · have e1 : (((z : Int) - 1 + 2) == 0) = false := by simp; omega
        have hk1 := HK1.out (by omega)
        have HO4 := Lib.hid hO3
        have h := HH.out
        clear hO3
        go_wp2
        go_roundg k
        case measure => omega
        case rel => exact ⟨k - 1, ts2, y, by omega, by omega, by go_num, by have := HO4.out; go_num, HY, by omega, by omega, HO2, Lib.hid (by rw [show k - 1 + 1 = k by omega]; exact HTK.out), hb⟩
end Go.Proofs.YtfffklkiikmieaaGreat

namespace Go.Proofs.YtfffklkiikmieaaGreat
open Go.RowKit
set_option linter.unusedVariables false
set_option linter.unusedSimpArgs false
def opNode : GNode := ⟨1, ⟨0, 0, 0, [], []⟩⟩
def parTo (w : List GWish) : Nat → List GNode
  | 0 => []
  | k + 1 => parTo w k ++ (match w[k]? with | some x => ⟨0, x⟩ :: (if k = 0 then [] else [opNode]) | none => [])
def parL (w : List GWish) : List GNode := if isExpr (parTo w w.length) then parTo w w.length else []
def parOk (w : List GWish) : Bool := isExpr (parTo w w.length)
theorem parTo_one {w : List GWish} {x : GWish} (h : w[0]? = some x) : parTo w 1 = parTo w 0 ++ [⟨0, x⟩] := by rw [show parTo w 1 = parTo w 0 ++ (match w[0]? with | some x => ⟨0, x⟩ :: (if (0 : Nat) = 0 then [] else [opNode]) | none => []) from rfl, h]; rfl
theorem parTo_more {w : List GWish} {k : Nat} {x : GWish} (h : w[k]? = some x) (hk : 0 < k) : parTo w (k + 1) = (parTo w k ++ [⟨0, x⟩]) ++ [opNode] := by
  rw [parTo, h, List.append_assoc]
  simp only [if_neg (Nat.ne_of_gt hk), List.cons_append, List.nil_append]
theorem parTo_len (w : List GWish) : ∀ k, (parTo w k).length ≤ 2 * k
  | 0 => Nat.le_refl _
  | k + 1 => by
    have := parTo_len w k
    rw [parTo, List.length_append]
    cases w[k]? with
    | none => simp; omega
    | some x =>
      dsimp only
      split
      · simp; omega
      · simp; omega
theorem asc_len : ∀ {l : List Int} {p : Int}, ascFrom (some p) l = true → p ≤ 9 → (l.length : Int) ≤ 9 - p
  | [], p, _, h => by simp; omega
  | v :: l, p, h, hp => by
    simp only [ascFrom, Bool.and_eq_true, decide_eq_true_eq] at h
    have hv := inB_iff.1 h.1.1
    have := asc_len h.2 hv.2
    simp only [List.length_cons]
    omega
theorem wish_small {x : GWish} (h : isWish x = true) : x.list.length ≤ 10 ∧ x.pairs.length ≤ 8 := by
  unfold isWish at h
  simp only [Bool.and_eq_true] at h
  refine ⟨?_, ?_⟩
  · have ha := h.2.2.2.1
    match hl : x.list, ha with
    | [], _ => simp
    | v :: l, ha =>
      simp only [ascFrom, Bool.and_eq_true] at ha
      have hv := inB_iff.1 ha.1
      have := asc_len ha.2 hv.2
      simp only [List.length_cons]
      omega
  · have hp := h.2.2.2.2.2.2
    split at hp
    · unfold arePairs at hp
      simp only [Bool.and_eq_true, decide_eq_true_eq] at hp
      exact hp.2.1
    · rw [decide_eq_true_eq] at hp; omega
theorem depth_small : ∀ {e : List GNode} {d r : Int}, depthOf e d = some r → ∀ n ∈ e, totNode n ≤ 18
  | [], _, _, _, n, hn => by simp at hn
  | m :: e, d, r, h, n, hn => by
    rw [depthOf] at h
    split at h
    · rename_i hk
      rcases List.mem_cons.1 hn with h1 | h1
      · subst h1
        unfold nodeOk at hk
        simp only [Bool.and_eq_true] at hk
        have hw := hk.2.2
        split at hw
        · have := wish_small hw
          unfold totNode totWish; omega
        · rw [decide_eq_true_eq] at hw
          unfold totNode totWish; rw [hw]; simp [noWish]
      · exact depth_small h n h1
    · cases h
theorem sum_le {α : Type} (f : α → Nat) (B : Nat) : ∀ {l : List α}, (∀ x ∈ l, f x ≤ B) → sumL f l ≤ B * l.length
  | [], _ => by simp [sumL]
  | x :: l, h => by
    have h1 := h x (by simp)
    have h2 := sum_le f B (l := l) (fun y hy => h y (by simp [hy]))
    simp only [sumL, List.length_cons, Nat.mul_add]
    omega
theorem expr_small {e : List GNode} (h : isExpr e = true) : totNodes e ≤ 171 := by
  unfold isExpr at h
  rw [Bool.and_eq_true, decide_eq_true_eq, decide_eq_true_eq] at h
  have := sum_le totNode 18 (depth_small h.1)
  unfold totNodes
  omega
theorem par_tot (w : List GWish) : totNodes (parL w) ≤ 171 := by
  unfold parL
  split
  · rename_i he; exact expr_small he
  · simp [totNodes, sumL]
theorem fNode_op (w : World) : fNode w opNode [.int .i64 1, .int .i64 0, .int .i64 0, .int .i64 0, .slice none 0 0, .slice none 0 0] [] :=
  ⟨_, rfl, _, _, [], [], rfl, ⟨_, [], [], rfl, World.ownsRow_nil _ _ _ _, trivial, by simp [Value.ownBlock]⟩, ⟨_, [], [], rfl, World.ownsRow_nil _ _ _ _, trivial, by simp [Value.ownBlock]⟩, rfl⟩
theorem wish_lens {xs : List GWish} (ht : totWishes xs ≤ 1048576) : xs.length ≤ 1048576 ∧ ∀ x ∈ xs, x.list.length ≤ 1048576 ∧ x.pairs.length ≤ 1048576 := by
  unfold totWishes at ht
  refine ⟨by omega, fun x hx => ?_⟩
  have h1 := le_sum totWish hx
  have h2 : totWish x = x.list.length + x.pairs.length := rfl
  omega
end Go.Proofs.YtfffklkiikmieaaGreat
