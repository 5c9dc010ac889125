/- Pairs in the reference: whether pairs lead from a value down to another one; valid pairs. -/
import Derived.Test.YtpihighajaeabaaGreatQOwn3
namespace Go.Proofs.YtpihighajaeabaaGreat
open Go.RowKit
set_option linter.unusedVariables false
theorem contains_drop {xs : List Int} {k : Nat} {y : Int} (h : xs[k]? = some y) (x : Int) : (xs.drop k).contains x = (x == y || (xs.drop (k + 1)).contains x) := by rw [drop_cons h, List.contains_cons]
set_option maxHeartbeats 800000 in
theorem S_l2Has (w : World) (xs : List Int) (x : Int) (v : Value) (h : Rd rInts w xs [v]) : Calls Tryz.prog 100 #[v, .int .i64 x] w (Ret w (.bool (xs.contains x))) := by
  obtain ⟨A, n, c, rfl, L0, Lc, Lm⟩ := rSl_open h
  unfold maxLen at Lm
  have L := Lib.hid L0
  clear L0
  go_enter Tryz.func100, Tryz.ntmps100
  go_wp2
  go_loopw [5] (fun i w' => ∃ k : Nat, k ≤ n ∧ i = .int .i64 k ∧ Hid (xs.contains x = (xs.drop k).contains x) ∧ Bw w w') (fun i _ => n - (intOf i).toNat)
  case atStart => exact ⟨0, by omega, rfl, Lib.hid rfl, Bw.refl _⟩
  case round =>
    obtain ⟨k, hk, rfl, HE, hb⟩ := hrel
    by_cases hlt : k < n
    · obtain ⟨y, hy⟩ := get_of_lt (xs := xs) (k := k) (by have := L.out; omega)
      obtain ⟨ba, oa, rfl, _, hc0⟩ := rInts_at h hy
      have hc := hb.cell hc0
      have HS := Lib.hid (contains_drop hy x)
      clear hy h hc0
      by_cases he : y = x
      · have e1 : (y == x) = true := by simpa using he
        have HX := Lib.hid he
        clear he
        go_wp2
        go_ret
        exact Ret.bool (by rw [HE.out, HS.out, HX.out]; simp) hb
      · have e1 : (y == x) = false := by simpa using he
        have HX := Lib.hid (show (x == y) = false by simpa using fun e => he e.symm)
        clear he
        go_wp2
        go_roundw
        case rel => exact ⟨k + 1, by omega, by go_num, Lib.hid (by rw [HE.out, HS.out, HX.out]; simp), hb⟩
        case measure => simp [intOf]; omega
    · go_wp2
      go_ret
      exact Ret.bool (by rw [HE.out, List.drop_of_length_le (by rw [← L.out]; omega)]; simp) hb
theorem pairsIn_drop {xs : List GPair} {k : Nat} {y : GPair} (h : xs[k]? = some y) : pairsIn (xs.drop k) = (inB y.fst 0 9 && (inB y.snd 0 9 && pairsIn (xs.drop (k + 1)))) := by rw [drop_cons h, pairsIn, List.all_cons, pairIn, Bool.and_assoc]; rfl
set_option maxHeartbeats 1600000 in
theorem S_l3Valid (w : World) (xs : List GPair) (v : Value) (h : Rd rPairs w xs [v]) : Calls Tryz.prog 232 #[v] w (Ret w (.bool (pairsIn xs && decide (xs.length ≤ 8)))) := by
  obtain ⟨A, n, c, rfl, L0, Lc, Lm⟩ := rSl_open h
  unfold maxLen at Lm
  have L := Lib.hid L0
  clear L0
  go_enter Tryz.func232, Tryz.ntmps232
  go_wp2
  go_loopw [3] (fun i w' => ∃ k : Nat, k ≤ n ∧ i = .int .i64 k ∧ Hid (pairsIn xs = pairsIn (xs.drop k)) ∧ Bw w w') (fun i _ => n - (intOf i).toNat)
  case atStart => exact ⟨0, by omega, rfl, Lib.hid rfl, Bw.refl _⟩
  case round =>
    obtain ⟨k, hk, rfl, HE, hb⟩ := hrel
    by_cases hlt : k < n
    · obtain ⟨y, hy⟩ := get_of_lt (xs := xs) (k := k) (by have := L.out; omega)
      obtain ⟨ba, oa, rfl, _, hc0, hc1⟩ := rPairs_at h hy
      have hx0 := hb.cell hc0
      have hx1 := hb.cell hc1
      have HS := Lib.hid (pairsIn_drop hy)
      clear hy h
      go_wp2_with fail
      refine (S_l1In _ _ _ _).mono ?_
      rintro e w2 ⟨rfl, hb2⟩
      replace hx1 := hb2.cell hx1
      have hbb := hb.then hb2
      rcases Bool.eq_false_or_eq_true (inB y.fst 0 9) with e1 | e1
      · have E1 := Lib.hid e1
        rw [show inB y.fst 0 9 = true from E1.out]
        clear e1
        go_wp2_with fail
        refine (S_l1In _ _ _ _).mono ?_
        rintro e w3 ⟨rfl, hb3⟩
        have hbc := hbb.then hb3
        rcases Bool.eq_false_or_eq_true (inB y.snd 0 9) with e2 | e2
        · have E2 := Lib.hid e2
          rw [show inB y.snd 0 9 = true from E2.out]
          clear e2
          go_wp2
          go_roundw
          case rel => exact ⟨k + 1, by omega, by go_num, Lib.hid (by rw [HE.out, HS.out, E1.out, E2.out]; simp), hbc⟩
          case measure => simp [intOf]; omega
        · have E2 := Lib.hid e2
          rw [show inB y.snd 0 9 = false from E2.out]
          clear e2
          go_wp2
          go_ret
          exact Ret.bool (by rw [HE.out, HS.out, E1.out, E2.out]; simp) hbc
      · have E1 := Lib.hid e1
        rw [show inB y.fst 0 9 = false from E1.out]
        clear e1
        go_wp2
        go_ret
        exact Ret.bool (by rw [HE.out, HS.out, E1.out]; simp) hbb
    · have HT := Lib.hid (show pairsIn xs = true by rw [HE.out, List.drop_of_length_le (by rw [← L.out]; omega)]; rfl)
      by_cases h8 : n ≤ 8
      · go_wp2
        go_ret
        exact Ret.bool (by rw [HT.out, ← L.out]; simp; omega) hb
      · go_wp2
        go_ret
        exact Ret.bool (by rw [HT.out, ← L.out]; simp; omega) hb
/-- how many pairs lead to values not seen -/
def cntP : List GPair → List Int → Nat
  | [], _ => 0
  | p :: l, S => (if p.snd ∈ S then 0 else 1) + cntP l S
theorem cntP_le : ∀ (l : List GPair) (S : List Int), cntP l S ≤ l.length
  | [], _ => Nat.le_refl _
  | p :: l, S => by
    have := cntP_le l S
    simp only [cntP, List.length_cons]; split <;> omega
theorem cntP_push_le (y : Int) : ∀ (l : List GPair) (S : List Int), cntP l (S ++ [y]) ≤ cntP l S
  | [], _ => Nat.le_refl _
  | p :: l, S => by
    have := cntP_push_le y l S
    by_cases h1 : p.snd ∈ S
    · simp only [cntP, h1, if_pos, List.mem_append, true_or]; omega
    · simp only [cntP, if_neg h1]; split <;> omega
theorem cntP_push {p : GPair} : ∀ {l : List GPair} {S : List Int}, p ∈ l → p.snd ∉ S → cntP l (S ++ [p.snd]) + 1 ≤ cntP l S
  | q :: l, S, hp, hS => by
    have hle := cntP_push_le p.snd l S
    rcases List.mem_cons.1 hp with rfl | hp
    · simp only [cntP, if_neg hS]
      rw [if_pos (by simp)]; omega
    · have ih := cntP_push (l := l) hp hS
      by_cases h1 : q.snd ∈ S
      · simp only [cntP, if_pos h1]
        rw [if_pos (by simp [h1])]; omega
      · simp only [cntP, if_neg h1]
        split <;> omega
structure SInv (l : List GPair) (a b : Int) (S : List Int) (i : Nat) : Prop where
  mem : a ∈ S
  rng : ∀ s ∈ S, 0 ≤ s ∧ s ≤ 9
  sound : ∀ s ∈ S, s = a ∨ reachB l a s = true
  done : ∀ j s, j < i → S[j]? = some s → ∀ p ∈ l, p.fst = s → p.snd ∈ S ∧ p.snd ≠ b
  bound : cntP l S + S.length ≤ l.length + 1
theorem SInv.start {l : List GPair} {a b : Int} (ha : 0 ≤ a ∧ a ≤ 9) : SInv l a b [a] 0 :=
  ⟨by simp, by simpa using ha, by simp, fun j s h => by omega, by have := cntP_le l [a]; simp; omega⟩
theorem SInv.reach {l : List GPair} {a b : Int} {S : List Int} {i : Nat} (h : SInv l a b S i) (hl : pairsIn l = true) {s : Int} (hs : s ∈ S) {p : GPair} (hp : p ∈ l) (e : p.fst = s) : reachB l a p.snd = true := by
  have h1 := reach_edge hl hp
  rw [e] at h1
  rcases h.sound s hs with rfl | h2
  · exact h1
  · exact reach_trans (h.rng s hs) h2 h1
theorem SInv.push {l : List GPair} {a b : Int} {S : List Int} {i : Nat} (h : SInv l a b S i) (hl : pairsIn l = true) {s : Int} (hs : s ∈ S) {p : GPair} (hp : p ∈ l) (e : p.fst = s) (hn : p.snd ∉ S) (hi : i < S.length) : SInv l a b (S ++ [p.snd]) i := by
  refine ⟨by simp [h.mem], fun t ht => ?_, fun t ht => ?_, fun j t hj ht q hq eq => ?_, ?_⟩
  · rcases List.mem_append.1 ht with ht | ht
    · exact h.rng t ht
    · simp at ht; rw [ht]; exact (pairsIn_mem hl hp).2
  · rcases List.mem_append.1 ht with ht | ht
    · exact h.sound t ht
    · simp at ht; rw [ht]; exact .inr (h.reach hl hs hp e)
  · rw [List.getElem?_append_left (by omega)] at ht
    have := h.done j t hj ht q hq eq
    exact ⟨by simp [this.1], this.2⟩
  · have h1 := cntP_push hp hn
    have h2 := h.bound
    simp; omega
theorem SInv.next {l : List GPair} {a b : Int} {S : List Int} {i : Nat} (h : SInv l a b S i) {s : Int} (hs : S[i]? = some s) (hall : ∀ j p, j < l.length → l[j]? = some p → p.fst = s → p.snd ∈ S ∧ p.snd ≠ b) : SInv l a b S (i + 1) :=
  ⟨h.mem, h.rng, h.sound, fun j t hj ht q hq eq => by
    by_cases hji : j < i
    · exact h.done j t hji ht q hq eq
    · obtain rfl : j = i := by omega
      rw [hs] at ht
      injection ht with ht
      subst ht
      obtain ⟨m, hm⟩ := List.mem_iff_getElem?.1 hq
      exact hall m q (List.getElem?_eq_some_iff.1 hm).1 hm eq, h.bound⟩
theorem SInv.no {l : List GPair} {a b : Int} {S : List Int} {i : Nat} (h : SInv l a b S i) (hi : S.length ≤ i) (ha : 0 ≤ a) (hb : 0 ≤ b) : reachB l a b = false :=
  reach_no ha hb h.mem fun s hs p hp e => by
    obtain ⟨m, hm⟩ := List.mem_iff_getElem?.1 hs
    exact h.done m s (by have := (List.getElem?_eq_some_iff.1 hm).1; omega) hm p hp e
theorem fInts_one (w : World) (i : Int) : fInts (w.alloc (.cells #[.int .i64 i] 3)) [i] [.slice (some ⟨w.heap.size, 0, none⟩) 1 1] [w.heap.size] := by
  refine ⟨_, [[.int .i64 i]], [[]], rfl, ?_, ⟨⟨⟨rfl, rfl⟩, rfl⟩, trivial⟩, by simp [Value.ownBlock]⟩
  exact World.ownsRow_lit w #[.int .i64 i] 1 (Nat.zero_le _) (by simp [maxLen]) rfl
set_option maxRecDepth 100000 in
set_option maxHeartbeats 6400000 in
theorem S_l3Reach (w : World) (l : List GPair) (a b : Int) (v : Value) (h : Rd rPairs w l [v]) (hl : pairsIn l = true) (h8 : l.length ≤ 8) (ha : 0 ≤ a ∧ a ≤ 9) (hb0 : 0 ≤ b ∧ b ≤ 9) :
    Calls Tryz.prog 226 #[v, .int .i64 a, .int .i64 b] w (Ret w (.bool (reachB l a b))) := by
  obtain ⟨i0, hi, hz0, hz1, hz2⟩ := info_parts info_int
  obtain ⟨A, n, c, rfl, L0, Lc, Lm⟩ := rSl_open h
  unfold maxLen at Lm
  have L := Lib.hid L0
  clear L0
  have HL := Lib.hid hl
  have n8 : n ≤ 8 := by rw [L.out]; exact h8
  have hv0 := fInts_one w a
  have A0 : Bw w (w.alloc (.cells #[.int .i64 a] 3)) := (Bw.refl w).alloc _
  have I0 := Lib.hid (SInv.start (l := l) (b := b) ha)
  have HA := Lib.hid ha
  have HB := Lib.hid hb0
  clear hl h8 ha hb0
  go_enter Tryz.func226, Tryz.ntmps226
  go_wp2
  go_loopg [7, 8] (2 * cntP l [a] + 1) (fun g s i w' => ∃ (k m : Nat) (S : List Int) (F : List Nat) (A' : Option Addr) (c' : Nat), k ≤ m ∧ Hid (m = S.length) ∧ g = 2 * cntP l S + (S.length - k) ∧ i = .int .i64 k ∧ s = .slice A' m c' ∧ m ≤ 9 ∧ fInts w' S [.slice A' m c'] F ∧ Fresh w.heap.size F ∧ Hid (SInv l a b S k) ∧ Bw w w')
  case atStart => exact ⟨0, 1, [a], [w.heap.size], _, _, by omega, Lib.hid rfl, rfl, rfl, rfl, by omega, hv0, ⟨by simp, by simp⟩, I0, A0⟩
  case round =>
    clear hv0 A0 I0
    obtain ⟨i, m, S, F, A', c', hk, LM, rfl, rfl, rfl, hm9, hv, hF, I, hb⟩ := hrel
    by_cases hlt : i < m
    · obtain ⟨s, hs⟩ := get_of_lt (xs := S) (k := i) (by have := LM.out; omega)
      have HS := Lib.hid hs
      have M0 := Lib.hid (show 2 * cntP l S + S.length = 2 * cntP l S + S.length from rfl)
      obtain ⟨T, hT⟩ : ∃ T, T = 2 * cntP l S + S.length := ⟨_, rfl⟩
      have HT := Lib.hid (show 2 * cntP l S + S.length ≤ T by omega)
      obtain ⟨G, hG⟩ : ∃ G, G = 2 * cntP l S + (S.length - i) := ⟨_, rfl⟩
      have G2 := Lib.hid (show T < G + i + 1 ∧ i < T by
        have h2 := LM.out
        omega)
      have HG := Lib.hid hG
      clear hs hT M0 hG
      go_wp2
      go_loopg [7, 9] n (fun g s2 i2 w' => ∃ (k m : Nat) (S : List Int) (F : List Nat) (A' : Option Addr) (c' : Nat), k ≤ n ∧ g = n - k ∧ i2 = .int .i64 k ∧ s2 = .slice A' m c' ∧ Hid (m = S.length) ∧ i < m ∧ m ≤ 9 ∧ fInts w' S [.slice A' m c'] F ∧ Fresh w.heap.size F ∧ Hid (SInv l a b S i) ∧ Hid (S[i]? = some s) ∧ Hid (2 * cntP l S + S.length ≤ T) ∧ Hid (∀ j p, j < k → l[j]? = some p → p.fst = s → p.snd ∈ S ∧ p.snd ≠ b) ∧ Bw w w')
      case atStart => exact ⟨0, m, S, F, A', c', by omega, rfl, rfl, rfl, LM, hlt, hm9, hv, hF, I, HS, HT, Lib.hid (fun j p hj => by omega), hb⟩
      case round =>
        clear hv hF I HS HT hb LM hm9 hk hlt
        obtain ⟨k, m, S, F, A', c', hk2, rfl, rfl, rfl, LM, him, hm9, hv, hF, I, HS, HT, HD, hb⟩ := hrel
        by_cases hlt2 : k < n
        · obtain ⟨p, hp⟩ := get_of_lt (xs := l) (k := k) (by have := L.out; omega)
          obtain ⟨ba, oa, rfl, _, hc0, hc1⟩ := rPairs_at h hp
          have hx0 := hb.cell hc0
          have hx1 := hb.cell hc1
          obtain ⟨bs, os, rfl, _, hxs⟩ := rInts_at (fInts_Rd hv) HS.out
          have HP := Lib.hid hp
          have i1 : (0 : Int) ≤ (k : Int) := by omega
          have i2 : (k : Int) < (n : Int) := by omega
          have j1 : (0 : Int) ≤ (i : Int) := by omega
          have j2 : (i : Int) < (m : Int) := by omega
          clear hp
          by_cases he : p.fst = s
          · have e1 : (p.fst != s) = false := by simpa using he
            have e2 : (p.fst == s) = true := by simpa using he
            have HE := Lib.hid he
            clear he
            have hD1 := (Bw.refl wr).drew
            by_cases hb1 : p.snd = b
            · have f1 : (p.snd == b) = true := by simpa using hb1
              have HB1 := Lib.hid hb1
              clear hb1
              go_wp2
              go_quiet (fail)
              go_wp2
              go_ret
              exact Ret.bool (by rw [← HB1.out]; exact (I.out.reach HL.out (List.mem_of_getElem? HS.out) (List.mem_of_getElem? HP.out) HE.out).symm) (hb.drewN _)
            · have f1 : (p.snd == b) = false := by simpa using hb1
              have HB1 := Lib.hid hb1
              clear hb1
              go_wp2
              go_quiet (fail)
              have hvd := (fInts_good (B := w.heap.size)).bw ((Bw.refl wr).drewN nq) hb.size hv
              have hbd := hb.drewN nq
              go_wp2_with fail
              refine (S_l2Has _ S p.snd _ (fInts_Rd hvd)).mono ?_
              rintro e w2 ⟨rfl, hb2⟩
              have hv2 := (fInts_good (B := w.heap.size)).bw hb2 hbd.size hvd
              have hbb := hbd.then hb2
              have hx2 : w2.cell? ⟨ba, oa + k * 2 + 1, none⟩ = some (.int .i64 p.snd) := hb2.cell (((Bw.refl wr).drewN nq).cell hx1)
              rcases Bool.eq_false_or_eq_true (S.contains p.snd) with hin | hin
              · have HIN := Lib.hid (show p.snd ∈ S by simpa using hin)
                rw [hin]
                clear hin hv hvd hb hbd hb2
                go_wp2
                go_roundg (n - (k + 1))
                case measure => omega
                case rel => exact ⟨k + 1, m, S, F, _, c', by omega, rfl, by go_num, rfl, LM, him, hm9, hv2, hF, I, HS, HT, Lib.hid (fun j q hj hq eq => by
                  by_cases hjk : j < k
                  · exact HD.out j q hjk hq eq
                  · obtain rfl : j = k := by omega
                    rw [HP.out] at hq
                    injection hq with hq
                    subst hq
                    exact ⟨HIN.out, HB1.out⟩), hbb⟩
              · have HIN := Lib.hid (show p.snd ∉ S by simpa using hin)
                rw [hin]
                have hbound := I.out.bound
                have hmax : S.length + 1 ≤ 9 := by
                  have h1 := cntP_push (List.mem_of_getElem? HP.out) HIN.out
                  have h2 := L.out
                  omega
                have HM := Lib.hid hmax
                have hm8 : m + 1 ≤ 9 := by rw [LM.out]; exact hmax
                have LM' := Lib.hid (show m + 1 = (S ++ [p.snd]).length by rw [List.length_append, ← LM.out]; rfl)
                have I' := Lib.hid (I.out.push HL.out (List.mem_of_getElem? HS.out) (List.mem_of_getElem? HP.out) HE.out HIN.out (by rw [← LM.out]; exact him))
                have HS' := Lib.hid (show (S ++ [p.snd])[i]? = some s by rw [List.getElem?_append_left (by rw [← LM.out]; exact him)]; exact HS.out)
                have HT' := Lib.hid (show 2 * cntP l (S ++ [p.snd]) + (S ++ [p.snd]).length ≤ T by
                  have h1 := cntP_push (List.mem_of_getElem? HP.out) HIN.out
                  have h2 := HT.out
                  simp at h2 ⊢; omega)
                have HD' := Lib.hid (show ∀ j q, j < k + 1 → l[j]? = some q → q.fst = s → q.snd ∈ S ++ [p.snd] ∧ q.snd ≠ b from fun j q hj hq eq => by
                  by_cases hjk : j < k
                  · have := HD.out j q hjk hq eq
                    exact ⟨by simp [this.1], this.2⟩
                  · obtain rfl : j = k := by omega
                    rw [HP.out] at hq
                    injection hq with hq
                    subst hq
                    exact ⟨by simp, HB1.out⟩)
                have A1 : Bw w2 (w2.alloc (.cells #[.int .i64 p.snd] 3)) := (Bw.refl w2).alloc _
                have hvW := (fInts_good (B := w.heap.size)).bw A1 hbb.size hv2
                have hbW := hbb.then A1
                have hFm := (fInts_good (B := 0)).lt hv2
                have hcl : ∀ j t, [Value.int .i64 p.snd][j]? = some t → (w2.alloc (.cells #[.int .i64 p.snd] 3)).cell? ((⟨w2.heap.size, 0, none⟩ : Addr).add j) = some t := World.news_of_block (cs := #[.int .i64 p.snd]) (t := 3) (fr := (0, 0)) (heap_alloc_new _ _)
                have FIN : ∀ v' w' F', fInts w' (S ++ [p.snd]) [v'] F' → ∃ A' c', v' = .slice A' (m + 1) c' := fun v' w' F' hv' => by
                  obtain ⟨A', c', e, _⟩ := rSl_shape (fInts_Rd hv')
                  exact ⟨A', c', by rw [LM'.out]; exact e⟩
                clear hin hv hvd hb hbd hb2 hbound hmax I HS HT HD LM
                go_wp2_with (at_builtin; refine wpList_push2 _ rfl (.tmp 49) (.tmp 55) 26 rfl w 3 i0 _ 1 8 Tryz.underlying26 hi hz0 hz1 hz2 rfl (by omega) fInt_good _ S F rfl hvW hF ⟨w2.heap.size, 0, none⟩ 1 rfl p.snd [.int .i64 p.snd] [] hcl ⟨rfl, rfl⟩ rfl w2.heap.size hFm Fresh.nil hbb.size (by have := HM.out; omega) (by have := HM.out; omega) hbW ?_; intro v' w' F' hv' hF' hb' hO' hF2)
                obtain ⟨A2, c2, rfl⟩ := FIN _ _ _ hv'
                go_roundg (n - (k + 1))
                case measure => omega
                case rel => exact ⟨k + 1, m + 1, S ++ [p.snd], F', A2, c2, by omega, rfl, by go_num, rfl, LM', by omega, hm8, hv', hF', I', HS', HT', HD', hb'⟩
          · have e1 : (p.fst != s) = true := by simpa using he
            have e2 : (p.fst == s) = false := by simpa using he
            have HE := Lib.hid he
            clear he
            go_wp2
            go_quiet (fail)
            have hvd := (fInts_good (B := w.heap.size)).bw ((Bw.refl wr).drewN nq) hb.size hv
            have hbd := hb.drewN nq
            go_wp2
            go_roundg (n - (k + 1))
            case measure => omega
            case rel => exact ⟨k + 1, m, S, F, _, c', by omega, rfl, by go_num, rfl, LM, him, hm9, hvd, hF, I, HS, HT, Lib.hid (fun j q hj hq eq => by
              by_cases hjk : j < k
              · exact HD.out j q hjk hq eq
              · obtain rfl : j = k := by omega
                rw [HP.out] at hq
                injection hq with hq
                subst hq
                exact absurd eq HE.out), hbd⟩
        · obtain rfl : k = n := by omega
          have I' := Lib.hid (I.out.next HS.out (fun j p hj => HD.out j p (by rw [L.out]; exact hj)))
          have G3 := Lib.hid (show 2 * cntP l S + (S.length - (i + 1)) < G by
            have h1 := HT.out
            have h2 := G2.out
            have h3 := LM.out
            omega)
          clear HD HT
          go_wp2
          go_roundg (2 * cntP l S + (S.length - (i + 1)))
          case measure => rw [← HG.out]; exact G3.out
          case rel => exact ⟨i + 1, m, S, F, A', c', by omega, LM, rfl, by go_num, rfl, hm9, hv, hF, I', hb⟩
    · obtain rfl : i = m := by omega
      have HN := Lib.hid (I.out.no (by rw [LM.out]; exact Nat.le_refl _) HA.out.1 HB.out.1)
      clear I
      go_wp2
      go_ret
      exact Ret.bool (by rw [HN.out]) hb
end Go.Proofs.YtpihighajaeabaaGreat
