/- The reference's sort of numbers. -/
import Derived.Test.YtpihighajaeabaaGreatQStandS
import Derived.Test.YtpihighajaeabaaGreatQParts
namespace Go.Proofs.YtpihighajaeabaaGreat
open Go.RowKit
set_option linter.unusedVariables false
set_option linter.unusedSimpArgs false
theorem ins_sorted {ys : List Int} {a : Int} {k : Nat} (hs : ys.Pairwise (· ≤ ·)) (hk : k ≤ ys.length) (h1 : ∀ j b, k ≤ j → ys[j]? = some b → a < b) (h2 : ∀ b, 0 < k → ys[k - 1]? = some b → b ≤ a) : (ys.take k ++ [a] ++ ys.drop k).Pairwise (· ≤ ·) := by
  have hA : ∀ x ∈ ys.take k, x ≤ a := by
    intro x hx
    obtain ⟨j, hj⟩ := List.mem_iff_getElem?.1 hx
    rw [List.getElem?_take] at hj
    split at hj
    · rename_i hjk
      have hkl : k - 1 < ys.length := by omega
      have h3 := h2 _ (by omega) (List.getElem?_eq_getElem hkl)
      obtain ⟨hjl, ej⟩ := List.getElem?_eq_some_iff.1 hj
      by_cases e : j = k - 1
      · subst e; rw [← ej]; exact h3
      · have := (List.pairwise_iff_getElem.1 hs) j (k - 1) hjl hkl (by omega)
        rw [ej] at this
        omega
    · cases hj
  have hB : ∀ x ∈ ys.drop k, a < x := by
    intro x hx
    obtain ⟨j, hj⟩ := List.mem_iff_getElem?.1 hx
    rw [List.getElem?_drop] at hj
    exact h1 (k + j) x (by omega) hj
  rw [List.pairwise_append, List.pairwise_append]
  refine ⟨⟨hs.sublist (List.take_sublist _ _), List.pairwise_singleton _ _, fun x hx y hy => by rw [List.mem_singleton.1 hy]; exact hA x hx⟩, hs.sublist (List.drop_sublist _ _), fun x hx y hy => ?_⟩
  have h4 := hB y hy
  rcases List.mem_append.1 hx with hx | hx
  · have := hA x hx; omega
  · rw [List.mem_singleton.1 hx]; omega
theorem ins_perm (ys : List Int) (a : Int) (k : Nat) : (ys.take k ++ [a] ++ ys.drop k).Perm (ys ++ [a]) := by
  have h1 : (ys.take k ++ [a] ++ ys.drop k).Perm (ys.take k ++ (ys.drop k ++ [a])) := by
    rw [List.append_assoc]; exact (List.Perm.refl _).append List.perm_append_comm
  rw [← List.append_assoc, List.take_append_drop] at h1
  exact h1
def sortedTo (l : List Int) (k : Nat) (ys : List Int) : Prop := ys.Perm (l.take k) ∧ ys.Pairwise (· ≤ ·)
theorem sortedTo_step {l ys : List Int} {k m : Nat} {a : Int} (h : sortedTo l k ys) (ha : l[k]? = some a) (hm : m ≤ ys.length) (h1 : ∀ j b, m ≤ j → ys[j]? = some b → a < b) (h2 : ∀ b, 0 < m → ys[m - 1]? = some b → b ≤ a) : sortedTo l (k + 1) (ys.take m ++ [a] ++ ys.drop m) := by
  refine ⟨?_, ins_sorted h.2 hm h1 h2⟩
  rw [List.take_add_one, ha]
  exact (ins_perm ys a m).trans (h.1.append_right _)
theorem sortedTo_end {l ys : List Int} {k : Nat} (h : sortedTo l k ys) (hk : l.length ≤ k) : ys = sortI l := by
  have h1 := h.1
  rw [List.take_of_length_le hk] at h1
  exact sortI_uniq h1 h.2
theorem sortedTo_len {l ys : List Int} {k : Nat} (h : sortedTo l k ys) (hk : k ≤ l.length) : ys.length = k := by rw [h.1.length_eq, List.length_take]; omega
theorem rInts_prefix {w : World} {S : Blocks} {xs : List Int} {b o n c m : Nat} (h : rInts w S xs [.slice (some ⟨b, o, none⟩) n c]) (hm : m ≤ n) : rInts w S (xs.take m) [.slice (some ⟨b, o, none⟩) m c] := by
  have hl := (rSl_len h).1
  have h2 := rSl_sub h 0 m (Nat.zero_le _) hm hl
  have h3 : rSl 1 rInt w S (xs.take m) [.slice (some ⟨b, o, none⟩) m c] := by simpa using h2
  exact h3
theorem rInts_suffix {w : World} {S : Blocks} {xs : List Int} {b o n c m : Nat} (h : rInts w S xs [.slice (some ⟨b, o, none⟩) n c]) (hm : m ≤ n) : rInts w S (xs.drop m) [.slice (some ⟨b, o + m, none⟩) (n - m) (c - m)] := by
  have hl := (rSl_len h).1
  have := rSl_sub h m n hm (Nat.le_refl _) hl
  rw [Nat.mul_one, List.take_of_length_le (by rw [List.length_drop]; omega)] at this
  exact this
theorem rInts_zero {w : World} {S : Blocks} {xs : List Int} {A : Option Addr} {n : Nat} (h1 : xs.length = n) (h0 : n = 0) : rInts w S xs [.slice A n 0] := by
  subst h0
  obtain rfl := List.eq_nil_of_length_eq_zero h1
  exact ⟨A, 0, rfl, Nat.le_refl _, by decide, fun k x hx => by simp at hx⟩
set_option maxRecDepth 100000 in
set_option maxHeartbeats 3200000 in
theorem S_l8Sort (w : World) (l : List Int) (v : Value) (h : Rd rInts w l [v]) (hn : l.length ≤ 1048576) : Calls Tryz.prog 88 #[v] w (RetV w (Made fInts w.heap.size (sortI l))) := by
  obtain ⟨i0, hi, hz0, hz1, hz2⟩ := info_parts info_int
  obtain ⟨A, n, c, rfl, L0, Lc, Lm⟩ := rSl_open h
  unfold maxLen at Lm
  have L := Lib.hid L0
  clear L0
  rw [← L.out] at hn
  have A0 : Bw w (w.alloc (.cells #[] 3)) := (Bw.refl w).alloc _
  have hv0 := fSl_empty (e := 3) (sz := 1) (R := fInt) w
  have HH := Lib.hid h
  clear h
  go_enter Tryz.func88, Tryz.ntmps88
  go_wp2
  go_loopg [3, 4] n (fun gh s i w' => ∃ (k : Nat) (ys : List Int) (g c2 : Nat) (F : List Nat), k ≤ n ∧ gh = n - k ∧ i = .int .i64 k ∧ s = .slice (some ⟨g, 0, none⟩) k c2 ∧ k ≤ c2 ∧ c2 ≤ maxLen ∧ Hid (sortedTo l k ys) ∧ fInts w' ys [.slice (some ⟨g, 0, none⟩) k c2] F ∧ Fresh w.heap.size F ∧ Bw w w')
  case atStart => exact ⟨0, [], w.heap.size, 0, _, by omega, rfl, rfl, rfl, by omega, by decide, Lib.hid ⟨List.Perm.refl _, List.Pairwise.nil⟩, hv0, ⟨by simp, by simp⟩, A0⟩
  case round =>
    clear hv0 A0
    obtain ⟨k, ys, g, c2, F, hk, rfl, rfl, rfl, hkc, hcm, HS, hv, hF, hb⟩ := hrel
    have HYL := Lib.hid (sortedTo_len HS.out (by rw [← L.out]; exact hk))
    unfold maxLen at hcm
    by_cases hlt : k < n
    · have h := HH.out
      obtain ⟨a, ha⟩ := get_of_lt (xs := l) (k := k) (by have := L.out; omega)
      obtain ⟨ba, oa, rfl, _, hc0⟩ := rInts_at h ha
      have hca := hb.cell hc0
      have i1 : (0 : Int) ≤ (k : Int) := by omega
      have i2 : (k : Int) < (n : Int) := by omega
      have HA := Lib.hid ha
      have HR := Lib.hid (fInts_Rd hv)
      clear ha h hc0
      go_wp2
      go_loopg [5] k (fun gh i w' => ∃ m : Nat, m ≤ k ∧ m = gh ∧ i = .int .i64 m ∧ Hid (∀ j b, m ≤ j → ys[j]? = some b → a < b) ∧ Bw wr w')
      case atStart => exact ⟨k, by omega, rfl, rfl, Lib.hid (fun j b hj hb => by have := (List.getElem?_eq_some_iff.1 hb).1; have := HYL.out; omega), Bw.refl _⟩
      case round =>
        obtain ⟨m, hm, rfl, rfl, HG, hbm⟩ := hrel
        have hbw := hb.then hbm
        by_cases hm0 : m = 0
        · have HX := Lib.hid (show ∀ b, 0 < m → ys[m - 1]? = some b → b ≤ a from fun b hb => by omega)
          have m0 : ¬ 0 < m := by omega
          have m1 : decide (0 < m) = false := decide_eq_false m0
          clear hm0
          go_wp2_with fail
          refine wp_region_since (by kernel_rfl) (by kernel_rfl) ?_
          repeat (first | go_big_quiet_skip | (go_big_quiet_want; go_big_quiet_op; first | go_big_quiet_on | (apply Exists.intro; refine ⟨fun _ => ?_, ?_⟩; (· ((fail))); go_big_quiet_on)))
          refine wpQuiet_nil ?_
          rintro ⟨wq, hbq⟩
          dsimp only at *
          have hbb := hbw.then hbq
          have rd1 := HR.out.bw rInts_good (hbm.then hbq)
          have hcq := (hbm.then hbq).cell hca
          have hvE := fSl_empty (e := 3) (sz := 1) (R := fInt) wq
          have BE : Bw wq (wq.alloc (.cells #[] 3)) := (Bw.refl wq).alloc _
          have rdE := rd1.bw rInts_good BE
          have hm2 : (m : Int) ≤ (k : Int) := by omega
          have hm3 : (0 : Int) ≤ (m : Int) := by omega
          have hm4 : (m : Int) ≤ (c2 : Int) := by omega
          have hk5 : (k : Int) ≤ (c2 : Int) := by omega
          have HST := Lib.hid (sortedTo_step HS.out HA.out (by have := HYL.out; omega) HG.out HX.out)
          have HRD := Lib.hid rd1
          have HTL := Lib.hid (show (ys.take m).length = m by rw [List.length_take]; have := HYL.out; omega)
          have HDL := Lib.hid (show (ys.drop m).length = k - m by rw [List.length_drop]; have := HYL.out; omega)
          have HTA := Lib.hid (show (ys.take m ++ [a]).length = m + 1 by rw [List.length_append, HTL.out]; rfl)
          have HL3 := Lib.hid (show (ys.take m ++ [a] ++ ys.drop m).length = k + 1 by rw [List.length_append, HTA.out, HDL.out]; omega)
          clear rd1
          by_cases hcm : m = c2
          · subst hcm
            go_wp2_with (first
              | (at_builtin; refine wpList_append_all _ rfl (.tmp 32) (.tmp 35) 26 rfl wq 3 i0 _ 1 8 Tryz.underlying26 hi hz0 hz1 hz2 rfl (by omega) fInt_good _ [] [wq.heap.size] rfl hvE ⟨by simp, by simp⟩ _ rfl (ys.take m) (rInts_prefix rdE (by omega)) (fun y u h => ⟨h, rfl⟩) (by rw [HTL.out]; simp; omega) (by rw [HTL.out]; simp; omega) BE ?_; intro v1 w1 F1 hv1 hF1 hb1; rw [List.nil_append] at hv1; obtain ⟨A1, L1, c1, rfl, l1, _⟩ := rSl_open (fInts_Rd hv1); replace l1 := Lib.hid l1; replace hcq := hb1.cell hcq; have hAl := (Bw.refl w1).alloc (.cells #[.int .i64 a] 3); have hvW := (fInts_good (B := wq.heap.size)).bw hAl hb1.size hv1; have hFm := (fInts_good (B := 0)).lt hv1; have hbW := hb1.then hAl; have hcl := cell_one_new w1 (.int .i64 a) 3; have hs1 := hb1.size)
              | (at_builtin; refine wpList_push _ rfl (.tmp 37) (.tmp 42) 26 rfl wq 3 i0 _ 1 8 Tryz.underlying26 hi hz0 hz1 hz2 rfl (by omega) fInt_good _ (ys.take m) F1 rfl hvW hF1 ⟨w1.heap.size, 0, none⟩ 1 rfl a [.int .i64 a] [] hcl ⟨rfl, rfl⟩ rfl w1.heap.size hFm Fresh.nil hs1 (by have := HTL.out; omega) (by have := HTL.out; omega) hbW ?_; intro v2 w2 F2 hv2 hF2 hb2; obtain ⟨A2, L2, c22, rfl, l2, _⟩ := rSl_open (fInts_Rd hv2); replace l2 := Lib.hid l2; have rd2 := rInts_suffix (m := m) (HRD.out.bw rInts_good hb2) (by omega); rw [Nat.zero_add] at rd2)
              | (at_builtin; refine wpList_append_all _ rfl (.tmp 44) (.tmp 47) 26 rfl wq 3 i0 _ 1 8 Tryz.underlying26 hi hz0 hz1 hz2 rfl (by omega) fInt_good _ (ys.take m ++ [a]) F2 rfl hv2 hF2 _ rfl (ys.drop m) (rInts_zero (S := lt w2) (n := 0) (by rw [HDL.out]; omega) rfl) (fun y u h => ⟨h, rfl⟩) (by rw [HTA.out, HDL.out]; omega) (by rw [HTA.out, HDL.out]; omega) hb2 ?_; intro v3 w3 F3 hv3 hF3 hb3; obtain ⟨g3, c3, rfl, l3, l3m, hg3⟩ := fSl_lit hv3 (by rw [HL3.out]; omega); rw [HL3.out] at hv3 l3 ⊢))
            have hF4 : Fresh w.heap.size F3 := hF3.mono hbb.size
            have hb4 := hbb.then hb3
            go_roundg (n - (k + 1))
            case measure => omega
            case rel => exact ⟨k + 1, _, g3, c3, F3, by omega, rfl, by go_num, rfl, by omega, by assumption, HST, hv3, hF4, hb4⟩
          · have hcm2 : ¬ c2 = m := fun e => hcm e.symm
            go_wp2_with (first
              | (at_builtin; refine wpList_append_all _ rfl (.tmp 32) (.tmp 35) 26 rfl wq 3 i0 _ 1 8 Tryz.underlying26 hi hz0 hz1 hz2 rfl (by omega) fInt_good _ [] [wq.heap.size] rfl hvE ⟨by simp, by simp⟩ _ rfl (ys.take m) (rInts_prefix rdE (by omega)) (fun y u h => ⟨h, rfl⟩) (by rw [HTL.out]; simp; omega) (by rw [HTL.out]; simp; omega) BE ?_; intro v1 w1 F1 hv1 hF1 hb1; rw [List.nil_append] at hv1; obtain ⟨A1, L1, c1, rfl, l1, _⟩ := rSl_open (fInts_Rd hv1); replace l1 := Lib.hid l1; replace hcq := hb1.cell hcq; have hAl := (Bw.refl w1).alloc (.cells #[.int .i64 a] 3); have hvW := (fInts_good (B := wq.heap.size)).bw hAl hb1.size hv1; have hFm := (fInts_good (B := 0)).lt hv1; have hbW := hb1.then hAl; have hcl := cell_one_new w1 (.int .i64 a) 3; have hs1 := hb1.size)
              | (at_builtin; refine wpList_push _ rfl (.tmp 37) (.tmp 42) 26 rfl wq 3 i0 _ 1 8 Tryz.underlying26 hi hz0 hz1 hz2 rfl (by omega) fInt_good _ (ys.take m) F1 rfl hvW hF1 ⟨w1.heap.size, 0, none⟩ 1 rfl a [.int .i64 a] [] hcl ⟨rfl, rfl⟩ rfl w1.heap.size hFm Fresh.nil hs1 (by have := HTL.out; omega) (by have := HTL.out; omega) hbW ?_; intro v2 w2 F2 hv2 hF2 hb2; obtain ⟨A2, L2, c22, rfl, l2, _⟩ := rSl_open (fInts_Rd hv2); replace l2 := Lib.hid l2; have rd2 := rInts_suffix (m := m) (HRD.out.bw rInts_good hb2) (by omega); rw [Nat.zero_add] at rd2)
              | (at_builtin; refine wpList_append_all _ rfl (.tmp 44) (.tmp 47) 26 rfl wq 3 i0 _ 1 8 Tryz.underlying26 hi hz0 hz1 hz2 rfl (by omega) fInt_good _ (ys.take m ++ [a]) F2 rfl hv2 hF2 _ rfl (ys.drop m) rd2 (fun y u h => ⟨h, rfl⟩) (by rw [HTA.out, HDL.out]; omega) (by rw [HTA.out, HDL.out]; omega) hb2 ?_; intro v3 w3 F3 hv3 hF3 hb3; obtain ⟨g3, c3, rfl, l3, l3m, hg3⟩ := fSl_lit hv3 (by rw [HL3.out]; omega); rw [HL3.out] at hv3 l3 ⊢))
            have hF4 : Fresh w.heap.size F3 := hF3.mono hbb.size
            have hb4 := hbb.then hb3
            go_roundg (n - (k + 1))
            case measure => omega
            case rel => exact ⟨k + 1, _, g3, c3, F3, by omega, rfl, by go_num, rfl, by omega, by assumption, HST, hv3, hF4, hb4⟩
        · obtain ⟨m', rfl⟩ : ∃ m', m = m' + 1 := ⟨m - 1, by omega⟩
          have m0 : 0 < m' + 1 := by omega
          have m1 : decide (0 < m' + 1) = true := decide_eq_true m0
          have hrd := HR.out.bw rInts_good hbm
          obtain ⟨b, hbv⟩ := get_of_lt (xs := ys) (k := m') (by have := HYL.out; omega)
          obtain ⟨b2, o2, eA, _, hcb⟩ := rInts_at hrd hbv
          injection eA with eA
          injection eA with e1 e2 _
          subst e1 e2
          rw [Nat.zero_add] at hcb
          have hcam := hbm.cell hca
          have j1 : (0 : Int) ≤ (m' : Int) := by omega
          have j2 : (m' : Int) < (k : Int) := by omega
          have s0 := since_cell hcb
          have s1 := since_cell hcam
          have HBV := Lib.hid hbv
          clear hm0 hrd hbv
          by_cases hba : a < b
          · have HG2 := Lib.hid (show ∀ j x, m' ≤ j → ys[j]? = some x → a < x from fun j x hj hx => by
              by_cases e : j = m'
              · subst e; have h3 := HBV.out; rw [hx] at h3; injection h3 with h3; omega
              · exact HG.out j x (by omega) hx)
            go_wp2_with fail
            refine wp_region_since (by kernel_rfl) (by kernel_rfl) ?_
            repeat (first | go_big_quiet_skip | (go_big_quiet_want; go_big_quiet_op; first | go_big_quiet_on | (apply Exists.intro; refine ⟨fun _ => ?_, ?_⟩; (· ((fail))); go_big_quiet_on)))
            refine wpQuiet_nil ?_
            rintro ⟨wq, hbq⟩
            dsimp only at *
            have hbn := hbm.then hbq
            clear s0 s1
            go_wp2
            go_roundg m'
            case measure => omega
            case rel => exact ⟨m', by omega, rfl, by go_num, HG2, hbn⟩
          · have HX := Lib.hid (show ∀ x, 0 < m' + 1 → ys[m' + 1 - 1]? = some x → x ≤ a from fun x _ hx => by
              have h3 := HBV.out; rw [show m' + 1 - 1 = m' from rfl, h3] at hx; injection hx with hx; omega)
            go_wp2_with fail
            refine wp_region_since (by kernel_rfl) (by kernel_rfl) ?_
            repeat (first | go_big_quiet_skip | (go_big_quiet_want; go_big_quiet_op; first | go_big_quiet_on | (apply Exists.intro; refine ⟨fun _ => ?_, ?_⟩; (· ((fail))); go_big_quiet_on)))
            refine wpQuiet_nil ?_
            rintro ⟨wq, hbq⟩
            dsimp only at *
            clear s0 s1 hcb hcam j1 j2
            have hbb := hbw.then hbq
            have rd1 := HR.out.bw rInts_good (hbm.then hbq)
            have hcq := (hbm.then hbq).cell hca
            have hvE := fSl_empty (e := 3) (sz := 1) (R := fInt) wq
            have BE : Bw wq (wq.alloc (.cells #[] 3)) := (Bw.refl wq).alloc _
            have rdE := rd1.bw rInts_good BE
            have hm2 : ((m' + 1) : Int) ≤ (k : Int) := by omega
            have hm3 : (0 : Int) ≤ ((m' + 1) : Int) := by omega
            have hm4 : ((m' + 1) : Int) ≤ (c2 : Int) := by omega
            have hk5 : (k : Int) ≤ (c2 : Int) := by omega
            have HST := Lib.hid (sortedTo_step HS.out HA.out (by have := HYL.out; omega) HG.out HX.out)
            have HRD := Lib.hid rd1
            have HTL := Lib.hid (show (ys.take (m' + 1)).length = (m' + 1) by rw [List.length_take]; have := HYL.out; omega)
            have HDL := Lib.hid (show (ys.drop (m' + 1)).length = k - (m' + 1) by rw [List.length_drop]; have := HYL.out; omega)
            have HTA := Lib.hid (show (ys.take (m' + 1) ++ [a]).length = (m' + 1) + 1 by rw [List.length_append, HTL.out]; rfl)
            have HL3 := Lib.hid (show (ys.take (m' + 1) ++ [a] ++ ys.drop (m' + 1)).length = k + 1 by rw [List.length_append, HTA.out, HDL.out]; omega)
            clear rd1
            by_cases hcm : (m' + 1) = c2
            · (obtain rfl := hcm)
              go_wp2_with (first
                | (at_builtin; refine wpList_append_all _ rfl (.tmp 32) (.tmp 35) 26 rfl wq 3 i0 _ 1 8 Tryz.underlying26 hi hz0 hz1 hz2 rfl (by omega) fInt_good _ [] [wq.heap.size] rfl hvE ⟨by simp, by simp⟩ _ rfl (ys.take (m' + 1)) (rInts_prefix rdE (by omega)) (fun y u h => ⟨h, rfl⟩) (by rw [HTL.out]; simp; omega) (by rw [HTL.out]; simp; omega) BE ?_; intro v1 w1 F1 hv1 hF1 hb1; rw [List.nil_append] at hv1; obtain ⟨A1, L1, c1, rfl, l1, _⟩ := rSl_open (fInts_Rd hv1); replace l1 := Lib.hid l1; replace hcq := hb1.cell hcq; have hAl := (Bw.refl w1).alloc (.cells #[.int .i64 a] 3); have hvW := (fInts_good (B := wq.heap.size)).bw hAl hb1.size hv1; have hFm := (fInts_good (B := 0)).lt hv1; have hbW := hb1.then hAl; have hcl := cell_one_new w1 (.int .i64 a) 3; have hs1 := hb1.size)
                | (at_builtin; refine wpList_push _ rfl (.tmp 37) (.tmp 42) 26 rfl wq 3 i0 _ 1 8 Tryz.underlying26 hi hz0 hz1 hz2 rfl (by omega) fInt_good _ (ys.take (m' + 1)) F1 rfl hvW hF1 ⟨w1.heap.size, 0, none⟩ 1 rfl a [.int .i64 a] [] hcl ⟨rfl, rfl⟩ rfl w1.heap.size hFm Fresh.nil hs1 (by have := HTL.out; omega) (by have := HTL.out; omega) hbW ?_; intro v2 w2 F2 hv2 hF2 hb2; obtain ⟨A2, L2, c22, rfl, l2, _⟩ := rSl_open (fInts_Rd hv2); replace l2 := Lib.hid l2; have rd2 := rInts_suffix (m := m' + 1) (HRD.out.bw rInts_good hb2) (by omega); rw [Nat.zero_add] at rd2)
                | (at_builtin; refine wpList_append_all _ rfl (.tmp 44) (.tmp 47) 26 rfl wq 3 i0 _ 1 8 Tryz.underlying26 hi hz0 hz1 hz2 rfl (by omega) fInt_good _ (ys.take (m' + 1) ++ [a]) F2 rfl hv2 hF2 _ rfl (ys.drop (m' + 1)) (rInts_zero (S := lt w2) (n := 0) (by rw [HDL.out]; omega) rfl) (fun y u h => ⟨h, rfl⟩) (by rw [HTA.out, HDL.out]; omega) (by rw [HTA.out, HDL.out]; omega) hb2 ?_; intro v3 w3 F3 hv3 hF3 hb3; obtain ⟨g3, c3, rfl, l3, l3m, hg3⟩ := fSl_lit hv3 (by rw [HL3.out]; omega); rw [HL3.out] at hv3 l3 ⊢))
              have hF4 : Fresh w.heap.size F3 := hF3.mono hbb.size
              have hb4 := hbb.then hb3
              go_roundg (n - (k + 1))
              case measure => omega
              case rel => exact ⟨k + 1, _, g3, c3, F3, by omega, rfl, by go_num, rfl, by omega, by assumption, HST, hv3, hF4, hb4⟩
            · have hcm2 : ¬ c2 = (m' + 1) := fun e => hcm e.symm
              go_wp2_with (first
                | (at_builtin; refine wpList_append_all _ rfl (.tmp 32) (.tmp 35) 26 rfl wq 3 i0 _ 1 8 Tryz.underlying26 hi hz0 hz1 hz2 rfl (by omega) fInt_good _ [] [wq.heap.size] rfl hvE ⟨by simp, by simp⟩ _ rfl (ys.take (m' + 1)) (rInts_prefix rdE (by omega)) (fun y u h => ⟨h, rfl⟩) (by rw [HTL.out]; simp; omega) (by rw [HTL.out]; simp; omega) BE ?_; intro v1 w1 F1 hv1 hF1 hb1; rw [List.nil_append] at hv1; obtain ⟨A1, L1, c1, rfl, l1, _⟩ := rSl_open (fInts_Rd hv1); replace l1 := Lib.hid l1; replace hcq := hb1.cell hcq; have hAl := (Bw.refl w1).alloc (.cells #[.int .i64 a] 3); have hvW := (fInts_good (B := wq.heap.size)).bw hAl hb1.size hv1; have hFm := (fInts_good (B := 0)).lt hv1; have hbW := hb1.then hAl; have hcl := cell_one_new w1 (.int .i64 a) 3; have hs1 := hb1.size)
                | (at_builtin; refine wpList_push _ rfl (.tmp 37) (.tmp 42) 26 rfl wq 3 i0 _ 1 8 Tryz.underlying26 hi hz0 hz1 hz2 rfl (by omega) fInt_good _ (ys.take (m' + 1)) F1 rfl hvW hF1 ⟨w1.heap.size, 0, none⟩ 1 rfl a [.int .i64 a] [] hcl ⟨rfl, rfl⟩ rfl w1.heap.size hFm Fresh.nil hs1 (by have := HTL.out; omega) (by have := HTL.out; omega) hbW ?_; intro v2 w2 F2 hv2 hF2 hb2; obtain ⟨A2, L2, c22, rfl, l2, _⟩ := rSl_open (fInts_Rd hv2); replace l2 := Lib.hid l2; have rd2 := rInts_suffix (m := m' + 1) (HRD.out.bw rInts_good hb2) (by omega); rw [Nat.zero_add] at rd2)
                | (at_builtin; refine wpList_append_all _ rfl (.tmp 44) (.tmp 47) 26 rfl wq 3 i0 _ 1 8 Tryz.underlying26 hi hz0 hz1 hz2 rfl (by omega) fInt_good _ (ys.take (m' + 1) ++ [a]) F2 rfl hv2 hF2 _ rfl (ys.drop (m' + 1)) rd2 (fun y u h => ⟨h, rfl⟩) (by rw [HTA.out, HDL.out]; omega) (by rw [HTA.out, HDL.out]; omega) hb2 ?_; intro v3 w3 F3 hv3 hF3 hb3; obtain ⟨g3, c3, rfl, l3, l3m, hg3⟩ := fSl_lit hv3 (by rw [HL3.out]; omega); rw [HL3.out] at hv3 l3 ⊢))
              have hF4 : Fresh w.heap.size F3 := hF3.mono hbb.size
              have hb4 := hbb.then hb3
              go_roundg (n - (k + 1))
              case measure => omega
              case rel => exact ⟨k + 1, _, g3, c3, F3, by omega, rfl, by go_num, rfl, by omega, by assumption, HST, hv3, hF4, hb4⟩
    · obtain rfl : k = n := by omega
      have HE := Lib.hid (sortedTo_end HS.out (by rw [← L.out]; exact Nat.le_refl _))
      rw [HE.out] at hv
      go_wp2
      go_ret
      exact ⟨_, rfl, ⟨F, hv, hF⟩, hb⟩
end Go.Proofs.YtpihighajaeabaaGreat
