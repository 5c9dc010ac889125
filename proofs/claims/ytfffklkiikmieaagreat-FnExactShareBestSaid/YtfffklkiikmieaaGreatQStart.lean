/- Where the part of an expression begins that ends at a node, in both programs. -/
import Derived.Test.YtfffklkiikmieaaGreatQTree
import Derived.Test.YtfffklkiikmieaaGreatQExprI
namespace Go.Proofs.YtfffklkiikmieaaGreat
open Go.RowKit
set_option linter.unusedVariables false
set_option linter.unusedSimpArgs false
theorem flats_ge : ∀ ts : List XT, ts.length ≤ (flats ts).length
  | [] => Nat.le_refl _
  | t :: ts => by
    have h1 := flat_pos t
    have h2 := flats_ge ts
    have e : flats (t :: ts) = flat t ++ flats ts := by simp [flats]
    rw [e, List.length_append, List.length_cons]; omega
theorem flats_one (t : XT) : flats [t] = flat t := by simp [flats]
set_option maxRecDepth 100000 in
set_option maxHeartbeats 1600000 in
theorem I_start (w : World) (e pre : List GNode) (t : XT) (m : Nat) (v : Value) (h : Rd rNodes w e [v]) (hok : okT t) (hm : m < e.length) (h9 : e.length ≤ 9) (he : e.take (m + 1) = pre ++ flat t) :
    Calls Tryz.prog 129 #[v, .int .i64 (m : Int)] w (Ret w (.int .i64 (pre.length : Int))) := by
  have HT := Lib.hid (show ∀ s ∈ [t], okT s from fun s hs => by simp at hs; rw [hs]; exact hok)
  have HE := Lib.hid (show e.take (m + 1) = pre ++ flats [t] by rw [flats_one]; exact he)
  obtain ⟨A, n, c, rfl, L0, Lc, Lm⟩ := rSl_open h
  unfold maxLen at Lm
  have L := Lib.hid L0
  clear L0
  rw [← L.out] at hm h9
  clear he hok
  go_enter Tryz.func129, Tryz.ntmps129
  go_wp2
  go_loopg [5, 6] (m + 1) (fun g d i w' => ∃ (k : Nat) (ts : List XT) (z : Nat), k < n ∧ g = k + 1 ∧ i = .int .i64 k ∧ d = .int .i64 z ∧ Hid (z = ts.length) ∧ 0 < z ∧ z ≤ 9 ∧ Hid (∀ s ∈ ts, okT s) ∧ Hid (e.take (k + 1) = pre ++ flats ts) ∧ Bw w w')
  case atStart => exact ⟨m, [t], 1, hm, rfl, rfl, rfl, Lib.hid rfl, by omega, by omega, HT, HE, Bw.refl _⟩
  case round =>
    clear HT HE
    obtain ⟨k, ts, z, hk, rfl, rfl, rfl, HZ, z0, z9, HT, HE, hb⟩ := hrel
    obtain ⟨x, ts2, hx, hok2, hlen, htk, hop⟩ := back_step HT.out (by rw [← HZ.out]; exact z0) HE.out (by rw [← L.out]; exact hk)
    obtain ⟨ba, oa, Al, cl, Ap, cp, rfl, _, c0, _⟩ := rNodes_at h hx
    have i1 : (0 : Int) ≤ (k : Int) := by omega
    have i2 : (k : Int) < (n : Int) := by omega
    replace c0 := hb.cell c0
    have hO := opnds_bd x.op
    have hl2 : ts2.length ≤ 9 := by
      have h1 := flats_ge ts2
      have h2 := congrArg List.length htk
      rw [List.length_append, List.length_take, ← L.out] at h2
      omega
    obtain ⟨O, hOe⟩ : ∃ O, O = opnds x.op := ⟨_, rfl⟩
    have key : ∀ W, Calls Tryz.prog 124 #[.int .i64 x.op] W (Ret W (.int .i64 O)) := fun W => by rw [hOe]; exact I_operands W x.op
    rw [← hOe] at hlen hO
    obtain ⟨y, hy⟩ : ∃ y, y = ts2.length := ⟨_, rfl⟩
    rw [← hy] at hlen hl2
    rw [← HZ.out] at hlen
    have HY := Lib.hid hy
    have HTK := Lib.hid htk
    have HO2 := Lib.hid hok2
    have HLEN := Lib.hid hlen
    have HPRE := Lib.hid (show y = 0 → (pre.length : Int) = (k : Int) from fun h0 => by
      have h2 := congrArg List.length htk
      rw [show ts2 = [] from List.eq_nil_of_length_eq_zero (by rw [← hy]; exact h0), flats_nil, List.append_nil, List.length_take, ← L.out] at h2
      omega)
    have HK1 := Lib.hid (show 0 < y → 1 ≤ k from fun h0 => by
      have h1 := flats_pos (ts := ts2) (by rw [← hy]; exact h0)
      have h2 := congrArg List.length htk
      rw [List.length_append, List.length_take, ← L.out] at h2
      omega)
    have HH := Lib.hid h
    clear hx hok2 htk hop hOe hy hlen h
    go_wp2_with fail
    refine (key _).mono ?_
    rintro e w2 ⟨rfl, hb2⟩
    have hbb := hb.then hb2
    have hO3 : O = (y : Int) - (z : Int) + 1 := by have := HLEN.out; omega
    clear key HLEN c0
    by_cases hy0 : y = 0
    · have e1 : ((z : Int) - 1 + O == 0) = true := by simp; omega
      have HF := Lib.hid (HPRE.out hy0)
      have hO4 := Lib.hid hO3
      clear hO3
      go_wp2
      go_ret
      exact Ret.int (HF.out.symm) (hbb)
    · have e1 : ((z : Int) - 1 + O == 0) = false := by simp; omega
      have hk1 := HK1.out (by omega)
      have HO4 := Lib.hid hO3
      have h := HH.out
      clear hO3
      go_wp2
      go_roundg k
      case measure => omega
      case rel => exact ⟨k - 1, ts2, y, by omega, by omega, by go_num, by have := HO4.out; go_num, HY, by omega, by omega, HO2, Lib.hid (by rw [show k - 1 + 1 = k by omega]; exact HTK.out), hbb⟩
set_option maxRecDepth 100000 in
set_option maxHeartbeats 1600000 in
theorem S_l6Start (w : World) (e pre : List GNode) (t : XT) (m : Nat) (v : Value) (h : Rd rNodes w e [v]) (hok : okT t) (hm : m < e.length) (h9 : e.length ≤ 9) (he : e.take (m + 1) = pre ++ flat t) :
    Calls Tryz.prog 162 #[v, .int .i64 (m : Int)] w (Ret w (.int .i64 (pre.length : Int))) := by
  have HT := Lib.hid (show ∀ s ∈ [t], okT s from fun s hs => by simp at hs; rw [hs]; exact hok)
  have HE := Lib.hid (show e.take (m + 1) = pre ++ flats [t] by rw [flats_one]; exact he)
  obtain ⟨A, n, c, rfl, L0, Lc, Lm⟩ := rSl_open h
  unfold maxLen at Lm
  have L := Lib.hid L0
  clear L0
  rw [← L.out] at hm h9
  clear he hok
  go_enter Tryz.func162, Tryz.ntmps162
  go_wp2
  go_loopg [5, 6] (m + 1) (fun g d i w' => ∃ (k : Nat) (ts : List XT) (z : Nat), k < n ∧ g = k + 1 ∧ i = .int .i64 k ∧ d = .int .i64 z ∧ Hid (z = ts.length) ∧ 0 < z ∧ z ≤ 9 ∧ Hid (∀ s ∈ ts, okT s) ∧ Hid (e.take (k + 1) = pre ++ flats ts) ∧ Bw w w')
  case atStart => exact ⟨m, [t], 1, hm, rfl, rfl, rfl, Lib.hid rfl, by omega, by omega, HT, HE, Bw.refl _⟩
  case round =>
    clear HT HE
    obtain ⟨k, ts, z, hk, rfl, rfl, rfl, HZ, z0, z9, HT, HE, hb⟩ := hrel
    obtain ⟨x, ts2, hx, hok2, hlen, htk, hop⟩ := back_step HT.out (by rw [← HZ.out]; exact z0) HE.out (by rw [← L.out]; exact hk)
    obtain ⟨ba, oa, Al, cl, Ap, cp, rfl, _, c0, _⟩ := rNodes_at h hx
    have i1 : (0 : Int) ≤ (k : Int) := by omega
    have i2 : (k : Int) < (n : Int) := by omega
    replace c0 := hb.cell c0
    have hO := opnds_bd x.op
    have hl2 : ts2.length ≤ 9 := by
      have h1 := flats_ge ts2
      have h2 := congrArg List.length htk
      rw [List.length_append, List.length_take, ← L.out] at h2
      omega
    obtain ⟨O, hOe⟩ : ∃ O, O = opnds x.op := ⟨_, rfl⟩
    rw [← hOe] at hlen hO
    obtain ⟨y, hy⟩ : ∃ y, y = ts2.length := ⟨_, rfl⟩
    rw [← hy] at hlen hl2
    rw [← HZ.out] at hlen
    have HY := Lib.hid hy
    have HTK := Lib.hid htk
    have HO2 := Lib.hid hok2
    have HLEN := Lib.hid hlen
    have HPRE := Lib.hid (show y = 0 → (pre.length : Int) = (k : Int) from fun h0 => by
      have h2 := congrArg List.length htk
      rw [show ts2 = [] from List.eq_nil_of_length_eq_zero (by rw [← hy]; exact h0), flats_nil, List.append_nil, List.length_take, ← L.out] at h2
      omega)
    have HK1 := Lib.hid (show 0 < y → 1 ≤ k from fun h0 => by
      have h1 := flats_pos (ts := ts2) (by rw [← hy]; exact h0)
      have h2 := congrArg List.length htk
      rw [List.length_append, List.length_take, ← L.out] at h2
      omega)
    have HH := Lib.hid h
    have HOP := Lib.hid hop
    have HOE := Lib.hid hOe
    clear hx hok2 htk hop hOe hy hlen h
    have hO3 : O = (y : Int) - (z : Int) + 1 := by have := HLEN.out; omega
    have hz := World.block_lt_of_cell? _ _ c0
    clear HLEN
    rcases HOP.out with o0 | o0 | o0
    · have q0 : (x.op == 0) = true := by simpa using o0
      have hO0 : O = 0 := by rw [HOE.out, o0]; rfl
      clear o0
      subst hO0
      by_cases hy0 : y = 0
      · have e1 : (((z : Int) - 1) == 0) = true := by simp; omega
        have HF := Lib.hid (HPRE.out hy0)
        clear hO3
        go_wp2
        go_ret
        exact Ret.int (HF.out.symm) (hb)
      · have e1 : (((z : Int) - 1) == 0) = false := by simp; omega
        have hk1 := HK1.out (by omega)
        have HO4 := Lib.hid hO3
        have h := HH.out
        clear hO3
        go_wp2
        go_roundg k
        case measure => omega
        case rel => exact ⟨k - 1, ts2, y, by omega, by omega, by go_num, by have := HO4.out; go_num, HY, by omega, by omega, HO2, Lib.hid (by rw [show k - 1 + 1 = k by omega]; exact HTK.out), hb⟩
    · have q0 : (x.op == 0) = false := by simp; omega
      have q3 : (x.op == 3) = true := by simpa using o0
      have hO0 : O = 1 := by rw [HOE.out, o0]; rfl
      clear o0
      subst hO0
      by_cases hy0 : y = 0
      · omega
      · have e1 : (((z : Int) - 1 + 1) == 0) = false := by simp; omega
        have hk1 := HK1.out (by omega)
        have HO4 := Lib.hid hO3
        have h := HH.out
        clear hO3
        go_wp2
        go_roundg k
        case measure => omega
        case rel => exact ⟨k - 1, ts2, y, by omega, by omega, by go_num, by have := HO4.out; go_num, HY, by omega, by omega, HO2, Lib.hid (by rw [show k - 1 + 1 = k by omega]; exact HTK.out), hb⟩
    · have q0 : (x.op == 0) = false := by unfold isTwo at o0; simp; omega
      have q3 : (x.op == 3) = false := by unfold isTwo at o0; simp; omega
      have hO0 : O = 2 := by rw [HOE.out, opnds_two o0]
      clear o0
      subst hO0
      by_cases hy0 : y = 0
      · have e1 : (((z : Int) - 1 + 2) == 0) = true := by simp; omega
        have HF := Lib.hid (HPRE.out hy0)
        clear hO3
        go_wp2
        go_ret
        exact Ret.int (HF.out.symm) (hb)
      · have e1 : (((z : Int) - 1 + 2) == 0) = false := by simp; omega
        have hk1 := HK1.out (by omega)
        have HO4 := Lib.hid hO3
        have h := HH.out
        clear hO3
        go_wp2
        go_roundg k
        case measure => omega
        case rel => exact ⟨k - 1, ts2, y, by omega, by omega, by go_num, by have := HO4.out; go_num, HY, by omega, by omega, HO2, Lib.hid (by rw [show k - 1 + 1 = k by omega]; exact HTK.out), hb⟩
end Go.Proofs.YtfffklkiikmieaaGreat
