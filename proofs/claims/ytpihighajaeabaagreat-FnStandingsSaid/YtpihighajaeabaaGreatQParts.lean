/- The two parts of an expression, in both programs. -/
import Derived.Test.YtpihighajaeabaaGreatQTree
import Derived.Test.YtpihighajaeabaaGreatQDrawF
import Derived.Test.YtpihighajaeabaaGreatQCopyW
namespace Go.Proofs.YtpihighajaeabaaGreat
open Go.RowKit
set_option linter.unusedVariables false
set_option linter.unusedSimpArgs false
theorem flats_ge : ∀ ts : List XT, ts.length ≤ (flats ts).length
  | [] => Nat.le_refl _
  | t :: ts => by
    have h1 := flat_pos t
    have h2 := flats_ge ts
    have e : flats (t :: ts) = flat t ++ flats ts := by simp [flats]
    rw [e, List.length_append, List.length_cons]; omega
theorem flats_one (t : XT) : flats [t] = flat t := by simp [flats]
set_option maxRecDepth 100000 in
set_option maxHeartbeats 1600000 in
theorem I_start (w : World) (e pre : List GNode) (t : XT) (m : Nat) (v : Value) (h : Rd rNodes w e [v]) (hok : okT t) (hm : m < e.length) (h9 : e.length ≤ 9) (he : e.take (m + 1) = pre ++ flat t) :
    Calls Tryz.prog 181 #[v, .int .i64 (m : Int)] w (Ret w (.int .i64 (pre.length : Int))) := by
  have HT := Lib.hid (show ∀ s ∈ [t], okT s from fun s hs => by simp at hs; rw [hs]; exact hok)
  have HE := Lib.hid (show e.take (m + 1) = pre ++ flats [t] by rw [flats_one]; exact he)
  obtain ⟨A, n, c, rfl, L0, Lc, Lm⟩ := rSl_open h
  unfold maxLen at Lm
  have L := Lib.hid L0
  clear L0
  rw [← L.out] at hm h9
  clear he hok
  go_enter Tryz.func181, Tryz.ntmps181
  go_wp2
  go_loopg [5, 6] (m + 1) (fun g d i w' => ∃ (k : Nat) (ts : List XT) (z : Nat), k < n ∧ g = k + 1 ∧ i = .int .i64 k ∧ d = .int .i64 z ∧ Hid (z = ts.length) ∧ 0 < z ∧ z ≤ 9 ∧ Hid (∀ s ∈ ts, okT s) ∧ Hid (e.take (k + 1) = pre ++ flats ts) ∧ Bw w w')
  case atStart => exact ⟨m, [t], 1, hm, rfl, rfl, rfl, Lib.hid rfl, by omega, by omega, HT, HE, Bw.refl _⟩
  case round =>
    clear HT HE
    obtain ⟨k, ts, z, hk, rfl, rfl, rfl, HZ, z0, z9, HT, HE, hb⟩ := hrel
    obtain ⟨x, ts2, hx, hok2, hlen, htk, hop⟩ := back_step HT.out (by rw [← HZ.out]; exact z0) HE.out (by rw [← L.out]; exact hk)
    obtain ⟨ba, oa, Al, cl, Ap, cp, rfl, _, c0, _⟩ := rNodes_at h hx
    have i1 : (0 : Int) ≤ (k : Int) := by omega
    have i2 : (k : Int) < (n : Int) := by omega
    replace c0 := hb.cell c0
    have hO := opnds_bd x.op
    have hl2 : ts2.length ≤ 9 := by
      have h1 := flats_ge ts2
      have h2 := congrArg List.length htk
      rw [List.length_append, List.length_take, ← L.out] at h2
      omega
    obtain ⟨O, hOe⟩ : ∃ O, O = opnds x.op := ⟨_, rfl⟩
    have key : ∀ W, Calls Tryz.prog 184 #[.int .i64 x.op] W (Ret W (.int .i64 O)) := fun W => by rw [hOe]; exact I_operands W x.op
    rw [← hOe] at hlen hO
    obtain ⟨y, hy⟩ : ∃ y, y = ts2.length := ⟨_, rfl⟩
    rw [← hy] at hlen hl2
    rw [← HZ.out] at hlen
    have HY := Lib.hid hy
    have HTK := Lib.hid htk
    have HO2 := Lib.hid hok2
    have HLEN := Lib.hid hlen
    have HPRE := Lib.hid (show y = 0 → (pre.length : Int) = (k : Int) from fun h0 => by
      have h2 := congrArg List.length htk
      rw [show ts2 = [] from List.eq_nil_of_length_eq_zero (by rw [← hy]; exact h0), flats_nil, List.append_nil, List.length_take, ← L.out] at h2
      omega)
    have HK1 := Lib.hid (show 0 < y → 1 ≤ k from fun h0 => by
      have h1 := flats_pos (ts := ts2) (by rw [← hy]; exact h0)
      have h2 := congrArg List.length htk
      rw [List.length_append, List.length_take, ← L.out] at h2
      omega)
    have HH := Lib.hid h
    clear hx hok2 htk hop hOe hy hlen h
    go_wp2_with fail
    refine (key _).mono ?_
    rintro e w2 ⟨rfl, hb2⟩
    have hbb := hb.then hb2
    have hO3 : O = (y : Int) - (z : Int) + 1 := by have := HLEN.out; omega
    clear key HLEN c0
    by_cases hy0 : y = 0
    · have e1 : ((z : Int) - 1 + O == 0) = true := by simp; omega
      have HF := Lib.hid (HPRE.out hy0)
      have hO4 := Lib.hid hO3
      clear hO3
      go_wp2
      go_ret
      exact Ret.int (HF.out.symm) (hbb)
    · have e1 : ((z : Int) - 1 + O == 0) = false := by simp; omega
      have hk1 := HK1.out (by omega)
      have HO4 := Lib.hid hO3
      have h := HH.out
      clear hO3
      go_wp2
      go_roundg k
      case measure => omega
      case rel => exact ⟨k - 1, ts2, y, by omega, by omega, by go_num, by have := HO4.out; go_num, HY, by omega, by omega, HO2, Lib.hid (by rw [show k - 1 + 1 = k by omega]; exact HTK.out), hbb⟩
set_option maxRecDepth 100000 in
set_option maxHeartbeats 1600000 in
theorem S_l6Start (w : World) (e pre : List GNode) (t : XT) (m : Nat) (v : Value) (h : Rd rNodes w e [v]) (hok : okT t) (hm : m < e.length) (h9 : e.length ≤ 9) (he : e.take (m + 1) = pre ++ flat t) :
    Calls Tryz.prog 294 #[v, .int .i64 (m : Int)] w (Ret w (.int .i64 (pre.length : Int))) := by
  have HT := Lib.hid (show ∀ s ∈ [t], okT s from fun s hs => by simp at hs; rw [hs]; exact hok)
  have HE := Lib.hid (show e.take (m + 1) = pre ++ flats [t] by rw [flats_one]; exact he)
  obtain ⟨A, n, c, rfl, L0, Lc, Lm⟩ := rSl_open h
  unfold maxLen at Lm
  have L := Lib.hid L0
  clear L0
  rw [← L.out] at hm h9
  clear he hok
  go_enter Tryz.func294, Tryz.ntmps294
  go_wp2
  go_loopg [5, 6] (m + 1) (fun g d i w' => ∃ (k : Nat) (ts : List XT) (z : Nat), k < n ∧ g = k + 1 ∧ i = .int .i64 k ∧ d = .int .i64 z ∧ Hid (z = ts.length) ∧ 0 < z ∧ z ≤ 9 ∧ Hid (∀ s ∈ ts, okT s) ∧ Hid (e.take (k + 1) = pre ++ flats ts) ∧ Bw w w')
  case atStart => exact ⟨m, [t], 1, hm, rfl, rfl, rfl, Lib.hid rfl, by omega, by omega, HT, HE, Bw.refl _⟩
  case round =>
    clear HT HE
    obtain ⟨k, ts, z, hk, rfl, rfl, rfl, HZ, z0, z9, HT, HE, hb⟩ := hrel
    obtain ⟨x, ts2, hx, hok2, hlen, htk, hop⟩ := back_step HT.out (by rw [← HZ.out]; exact z0) HE.out (by rw [← L.out]; exact hk)
    obtain ⟨ba, oa, Al, cl, Ap, cp, rfl, _, c0, _⟩ := rNodes_at h hx
    have i1 : (0 : Int) ≤ (k : Int) := by omega
    have i2 : (k : Int) < (n : Int) := by omega
    replace c0 := hb.cell c0
    have hO := opnds_bd x.op
    have hl2 : ts2.length ≤ 9 := by
      have h1 := flats_ge ts2
      have h2 := congrArg List.length htk
      rw [List.length_append, List.length_take, ← L.out] at h2
      omega
    obtain ⟨O, hOe⟩ : ∃ O, O = opnds x.op := ⟨_, rfl⟩
    rw [← hOe] at hlen hO
    obtain ⟨y, hy⟩ : ∃ y, y = ts2.length := ⟨_, rfl⟩
    rw [← hy] at hlen hl2
    rw [← HZ.out] at hlen
    have HY := Lib.hid hy
    have HTK := Lib.hid htk
    have HO2 := Lib.hid hok2
    have HLEN := Lib.hid hlen
    have HPRE := Lib.hid (show y = 0 → (pre.length : Int) = (k : Int) from fun h0 => by
      have h2 := congrArg List.length htk
      rw [show ts2 = [] from List.eq_nil_of_length_eq_zero (by rw [← hy]; exact h0), flats_nil, List.append_nil, List.length_take, ← L.out] at h2
      omega)
    have HK1 := Lib.hid (show 0 < y → 1 ≤ k from fun h0 => by
      have h1 := flats_pos (ts := ts2) (by rw [← hy]; exact h0)
      have h2 := congrArg List.length htk
      rw [List.length_append, List.length_take, ← L.out] at h2
      omega)
    have HH := Lib.hid h
    have HOP := Lib.hid hop
    have HOE := Lib.hid hOe
    clear hx hok2 htk hop hOe hy hlen h
    have hO3 : O = (y : Int) - (z : Int) + 1 := by have := HLEN.out; omega
    have hz := World.block_lt_of_cell? _ _ c0
    clear HLEN
    rcases HOP.out with o0 | o0 | o0
    · have q0 : (x.op == 0) = true := by simpa using o0
      have hO0 : O = 0 := by rw [HOE.out, o0]; rfl
      clear o0
      subst hO0
      by_cases hy0 : y = 0
      · have e1 : (((z : Int) - 1) == 0) = true := by simp; omega
        have HF := Lib.hid (HPRE.out hy0)
        clear hO3
        go_wp2
        go_ret
        exact Ret.int (HF.out.symm) (hb)
      · have e1 : (((z : Int) - 1) == 0) = false := by simp; omega
        have hk1 := HK1.out (by omega)
        have HO4 := Lib.hid hO3
        have h := HH.out
        clear hO3
        go_wp2
        go_roundg k
        case measure => omega
        case rel => exact ⟨k - 1, ts2, y, by omega, by omega, by go_num, by have := HO4.out; go_num, HY, by omega, by omega, HO2, Lib.hid (by rw [show k - 1 + 1 = k by omega]; exact HTK.out), hb⟩
    · have q0 : (x.op == 0) = false := by simp; omega
      have q3 : (x.op == 3) = true := by simpa using o0
      have hO0 : O = 1 := by rw [HOE.out, o0]; rfl
      clear o0
      subst hO0
      by_cases hy0 : y = 0
      · omega
      · have e1 : (((z : Int) - 1 + 1) == 0) = false := by simp; omega
        have hk1 := HK1.out (by omega)
        have HO4 := Lib.hid hO3
        have h := HH.out
        clear hO3
        go_wp2
        go_roundg k
        case measure => omega
        case rel => exact ⟨k - 1, ts2, y, by omega, by omega, by go_num, by have := HO4.out; go_num, HY, by omega, by omega, HO2, Lib.hid (by rw [show k - 1 + 1 = k by omega]; exact HTK.out), hb⟩
    · have q0 : (x.op == 0) = false := by unfold isTwo at o0; simp; omega
      have q3 : (x.op == 3) = false := by unfold isTwo at o0; simp; omega
      have hO0 : O = 2 := by rw [HOE.out, opnds_two o0]
      clear o0
      subst hO0
      by_cases hy0 : y = 0
      · have e1 : (((z : Int) - 1 + 2) == 0) = true := by simp; omega
        have HF := Lib.hid (HPRE.out hy0)
        clear hO3
        go_wp2
        go_ret
        exact Ret.int (HF.out.symm) (hb)
      · have e1 : (((z : Int) - 1 + 2) == 0) = false := by simp; omega
        have hk1 := HK1.out (by omega)
        have HO4 := Lib.hid hO3
        have h := HH.out
        clear hO3
        go_wp2
        go_roundg k
        case measure => omega
        case rel => exact ⟨k - 1, ts2, y, by omega, by omega, by go_num, by have := HO4.out; go_num, HY, by omega, by omega, HO2, Lib.hid (by rw [show k - 1 + 1 = k by omega]; exact HTK.out), hb⟩
end Go.Proofs.YtpihighajaeabaaGreat

namespace Go.Proofs.YtpihighajaeabaaGreat
open Go.RowKit
set_option linter.unusedVariables false
set_option linter.unusedSimpArgs false
theorem rSl_sub {α : Type} {sz : Nat} {R : Rep α} {w : World} {S : Blocks} {xs : List α} {b o n c : Nat} (h : rSl sz R w S xs [.slice (some ⟨b, o, none⟩) n c]) (i k : Nat) (hik : i ≤ k) (hk : k ≤ n) (hn : n = xs.length) :
    rSl sz R w S ((xs.drop i).take (k - i)) [.slice (some ⟨b, o + i * sz, none⟩) (k - i) (c - i)] := by
  obtain ⟨A, c', e, h1, h2, h3⟩ := h
  injection e with e _
  injection e with e1 e2 e3
  subst e1 e3
  have hl : ((xs.drop i).take (k - i)).length = k - i := by rw [List.length_take, List.length_drop]; omega
  refine ⟨_, c - i, by rw [hl], by rw [hl]; omega, Nat.le_trans (Nat.sub_le _ _) h2, fun j x hx => ?_⟩
  have hj : j < k - i := by rw [← hl]; exact (List.getElem?_eq_some_iff.1 hx).1
  rw [List.getElem?_take, if_pos hj, List.getElem?_drop] at hx
  obtain ⟨b', o', us, eA, hS, hul, hc, hr⟩ := h3 (i + j) x hx
  injection eA with eA
  injection eA with e4 e5 _
  subst e4 e5
  refine ⟨b, o + i * sz, us, rfl, hS, hul, fun t u hu => ?_, hr⟩
  have := hc t u hu
  rw [show o + i * sz + j * sz + t = o + (i + j) * sz + t by rw [Nat.add_mul]; omega]
  exact this
def opOf : XT → Int
  | .base _ => 0
  | .dual _ => 3
  | .two op _ _ => op
def PartsPost (t : XT) (w : World) (e : Ending) (w' : World) : Prop := ∃ sv, e = .returned (.tuple #[.int .i64 (opOf t), sv]) ∧ Bw w w' ∧ (match t with
  | .two _ a b => ∃ g va vb, sv = .slice (some ⟨g, 0, none⟩) 2 2 ∧ w'.cell? ⟨g, 0, none⟩ = some va ∧ w'.cell? ⟨g, 1, none⟩ = some vb ∧ Rd rNodes w (flat a) [va] ∧ Rd rNodes w (flat b) [vb]
  | _ => True)
theorem flat_last : ∀ t : XT, ∃ n, (flat t)[(flat t).length - 1]? = some n ∧ n.op = opOf t
  | .base w => ⟨⟨0, w⟩, by simp [flat], rfl⟩
  | .dual t => ⟨⟨3, noWish⟩, by simp [flat], rfl⟩
  | .two op a b => ⟨⟨op, noWish⟩, by
      have : flat (.two op a b) = (flat a ++ flat b) ++ [⟨op, noWish⟩] := by simp [flat]
      rw [this]; simp, rfl⟩
theorem flat_two_take (op : Int) (a b : XT) : (flat (.two op a b)).take ((flat (.two op a b)).length - 1) = flat a ++ flat b := by
  have h : flat (.two op a b) = (flat a ++ flat b) ++ [⟨op, noWish⟩] := by simp [flat]
  rw [h]
  exact List.take_left' (by simp)
theorem flat_two_len (op : Int) (a b : XT) : (flat (.two op a b)).length = (flat a).length + (flat b).length + 1 := by simp [flat]; omega
theorem flat_two_a (op : Int) (a b : XT) : ((flat (.two op a b)).drop 0).take ((flat a).length - 0) = flat a := by simp [flat]
theorem flat_two_b (op : Int) (a b : XT) : ((flat (.two op a b)).drop (flat a).length).take ((flat a).length + (flat b).length - (flat a).length) = flat b := by simp [flat]




theorem flat_tot {t : XT} (hok : okT t) (h9 : (flat t).length ≤ 9) : totNodes (flat t) ≤ 1048576 := by have := expr_small (isExpr_flat hok h9); omega
/-- where the last node lies -/
theorem flat_open {w : World} {t : XT} {v : Value} (h : Rd rNodes w (flat t) [v]) : ∃ b o m c, v = .slice (some ⟨b, o, none⟩) (m + 1) c ∧ Hid (m + 1 = (flat t).length) ∧ m + 1 ≤ c ∧ c ≤ 9223372036854775807 ∧ w.cell? ⟨b, o + m * 6, none⟩ = some (.int .i64 (opOf t)) := by
  obtain ⟨x, hx, hxo⟩ := flat_last t
  have hp := flat_pos t
  obtain ⟨A, n, c, rfl, L, Lc, Lm⟩ := rSl_open h
  unfold maxLen at Lm
  obtain ⟨ba, oa, Al, cl, Ap, cp, rfl, _, c0, _⟩ := rNodes_at h hx
  obtain ⟨m, hm⟩ : ∃ m, n = m + 1 := ⟨n - 1, by omega⟩
  subst hm
  rw [hxo, show (flat t).length - 1 = m by omega] at c0
  exact ⟨ba, oa, m, c, rfl, L, Lc, by omega, c0⟩
set_option maxRecDepth 100000 in
set_option maxHeartbeats 3200000 in
theorem S_l6Parts (w : World) (op : Int) (a b : XT) (ba oa m c : Nat) (h : Rd rNodes w (flat (.two op a b)) [.slice (some ⟨ba, oa, none⟩) (m + 1) c]) (hok : okT (.two op a b)) (h9 : (flat (.two op a b)).length ≤ 9) (hL : m + 1 = (flat (.two op a b)).length) (hc : m + 1 ≤ c) (hc2 : c ≤ 9223372036854775807) :
    Calls Tryz.prog 295 #[.slice (some ⟨ba, oa, none⟩) (m + 1) c, .int .i64 (m : Int)] w (fun e' w' => ∃ va vb, e' = .returned (.tuple #[va, vb]) ∧ Rd rNodes w' (flat a) [va] ∧ Rd rNodes w' (flat b) [vb] ∧ Bw w w') := by
  have hlen := flat_two_len op a b
  have ha := flat_pos a
  have hb := flat_pos b
  obtain ⟨e, he⟩ : ∃ e, e = flat (.two op a b) := ⟨_, rfl⟩
  have htk : e.take ((flat a).length + (flat b).length - 1 + 1) = flat a ++ flat b := by rw [he, show (flat a).length + (flat b).length - 1 + 1 = (flat (.two op a b)).length - 1 by omega]; exact flat_two_take op a b
  have htk2 : e.take (m + 1) = [] ++ flat (.two op a b) := by rw [hL, he, List.take_length]; rfl
  have hta := flat_two_a op a b
  have htb := flat_two_b op a b
  have ta := flat_tot hok.2.1 (by omega)
  have tb := flat_tot hok.2.2 (by omega)
  rw [← he] at h h9 hlen hta htb hL
  obtain ⟨ka, hka⟩ : ∃ k, k = (flat a).length := ⟨_, rfl⟩
  obtain ⟨kb, hkb⟩ : ∃ k, k = (flat b).length := ⟨_, rfl⟩
  rw [← hka] at hlen ha hta htb
  rw [← hkb] at hlen hb htb
  have hm : m = ka + kb := by omega
  have st1 := fun W (B : Bw w W) => S_l6Start W e (flat a) b (m - 1) _ (h.bw rNodes_good B) hok.2.2 (by omega) h9 (by rw [hm, hka, hkb]; exact htk)
  have st2 := fun W (B : Bw w W) => S_l6Start W e [] (.two op a b) m _ (h.bw rNodes_good B) hok (by omega) h9 htk2
  have r1 : rNodes w (lt w) (flat a) [.slice (some ⟨ba, oa, none⟩) ka c] := by
    have := rSl_sub h 0 ka (by omega) (by omega) hL
    rw [hta, Nat.zero_mul] at this
    exact this
  have r2 : rNodes w (lt w) (flat b) [.slice (some ⟨ba, oa + ka * 6, none⟩) (m - ka) (c - ka)] := by
    have := rSl_sub h ka m (by omega) (by omega) hL
    rw [show m - ka = ka + kb - ka by omega, htb] at this
    rw [show m - ka = ka + kb - ka by omega]
    exact this
  simp only [← hka] at st1
  have n2 : (((m - 1 : Nat) : Int)) = (m : Int) - 1 := by omega
  simp only [n2] at st1
  simp only [List.length_nil] at st2
  have ST1 := Lib.hid st1
  have ST2 := Lib.hid st2
  have cA := Lib.hid (fun W (B : Bw w W) => S_l5Copy W (flat a) (.slice (some ⟨ba, oa, none⟩) ka c) (Rd.bw rNodes_good r1 B) ta)
  have cB := Lib.hid (fun W (B : Bw w W) => S_l5Copy W (flat b) (.slice (some ⟨ba, oa + ka * 6, none⟩) (m - ka) (c - ka)) (Rd.bw rNodes_good r2 B) tb)
  have k1 : (0 : Int) ≤ (ka : Int) := by omega
  have k2 : (ka : Int) ≤ (m : Int) := by omega
  have k3 : (m : Int) ≤ (c : Int) := by omega
  have k4 : (0 : Int) ≤ (m : Int) := by omega
  have k6 : (ka : Int) ≤ (c : Int) := by omega
  have k7 : (0 : Int) < (m : Int) := by omega
  clear htk htk2 hta htb ta tb st1 st2 n2 hlen he hka hkb hm hok r1 r2 hL
  go_enter Tryz.func295, Tryz.ntmps295
  go_wp2_with fail
  refine (ST1.out _ (Bw.refl w)).mono ?_
  rintro e w1 ⟨rfl, hb1⟩
  have hB := hb1.drew
  go_wp2_with fail
  go_region_held3 (fun w' => True) (exact trivial)
    (first
      | (go_at_call 294; refine (ST2.out _ hB).mono ?_; rintro e' w5 ⟨rfl, hb5⟩; replace hB := hB.then hb5; (try replace rB := rB.bw rNodes_good hb5))
      | (go_at_call_of 110 (Value.slice (some ⟨ba, oa, none⟩) ka c); refine (cA.out _ hB).mono ?_; rintro e' w5 ⟨vA, rfl, ⟨FA, oA, fA⟩, hb5⟩; replace hB := hB.then hb5; have rA := fNodes_Rd oA; (try replace rB := rB.bw rNodes_good hb5); clear oA fA)
      | (go_at_call_of 110 (Value.slice (some ⟨ba, oa + ka * 6, none⟩) (m - ka) (c - ka)); refine (cB.out _ hB).mono ?_; rintro e' w5 ⟨vB, rfl, ⟨FB, oB, fB⟩, hb5⟩; replace hB := hB.then hb5; have rB := fNodes_Rd oB; (try replace rA := rA.bw rNodes_good hb5); clear oB fB))
  all_goals
    go_wp2
    exact bodyPost_ret (v := .tuple #[vA, vB]) (by simp [results, Tryz.results295, go_sem]) rfl ⟨_, _, rfl, rA, rB, hB⟩
end Go.Proofs.YtpihighajaeabaaGreat
