/- RankOf and SkybandOf in both programs. -/
import Derived.Test.YtpihighajaeabaaGreatQCompI
import Derived.Test.YtpihighajaeabaaGreatQBestS
import Derived.Test.YtpihighajaeabaaGreatQCmpI
import Derived.Test.YtpihighajaeabaaGreatQCmpS
import Derived.Test.YtpihighajaeabaaGreatQRuleR
namespace Go.Proofs.YtpihighajaeabaaGreat
open Go.RowKit
set_option linter.unusedVariables false
set_option linter.unusedSimpArgs false
def relIn (e : List GNode) (p : GItem) (code : Int) (x : GItem) : Bool := decide (cmpBy e x p = code)
def idsOf (f : GItem → Bool) (l : List GItem) : List Int := (l.filter f).map (·.id)
def idsTo (f : GItem → Bool) (l : List GItem) (k : Nat) : List Int := ((l.take k).filter f).map (·.id)
theorem idsTo_yes {f : GItem → Bool} {l : List GItem} {k : Nat} {x : GItem} (hx : l[k]? = some x) (h : f x = true) : idsTo f l (k + 1) = idsTo f l k ++ [x.id] := by
  unfold idsTo; rw [List.take_add_one, hx, List.filter_append]
  simp only [Option.toList_some, List.filter_cons, List.filter_nil, h, if_true, List.map_append, List.map_cons, List.map_nil]
theorem idsTo_no {f : GItem → Bool} {l : List GItem} {k : Nat} {x : GItem} (hx : l[k]? = some x) (h : f x = false) : idsTo f l (k + 1) = idsTo f l k := by
  unfold idsTo; rw [List.take_add_one, hx, List.filter_append]
  simp only [Option.toList_some, List.filter_cons, List.filter_nil, h, List.append_nil, Bool.false_eq_true, if_false]
theorem idsTo_end {f : GItem → Bool} {l : List GItem} {k : Nat} (h : l.length ≤ k) : idsTo f l k = idsOf f l := by unfold idsTo idsOf; rw [List.take_of_length_le h]
theorem idsTo_len {f : GItem → Bool} {l : List GItem} {k : Nat} : (idsTo f l k).length ≤ k := by
  unfold idsTo; rw [List.length_map]
  exact Nat.le_trans (List.length_filter_le _ _) (by rw [List.length_take]; omega)
theorem idsOf_len (f : GItem → Bool) (l : List GItem) : (idsOf f l).length ≤ l.length := by unfold idsOf; rw [List.length_map]; exact List.length_filter_le _ _
def relM (l : List GItem) (e : List GNode) (id code : Int) : List Int := if changeOk l e id then idsOf (relIn e (itemAt l id) code) l else []
theorem relM_len (l : List GItem) (e : List GNode) (id code : Int) : (relM l e id code).length ≤ l.length := by
  unfold relM; split
  · exact idsOf_len _ _
  · exact Nat.zero_le _
theorem relM_yes {l : List GItem} {e : List GNode} {id code : Int} {j : Nat} {p : GItem} (hB : areBoth l e = true) (hf : findIdx l id = (j : Int)) (hp : l[j]? = some p) : relM l e id code = idsOf (relIn e p code) l := by
  have : changeOk l e id = true := by unfold changeOk; rw [hB, hf]; simp
  rw [relM, if_pos this, itemAt_of hf hp]
theorem relM_no {l : List GItem} {e : List GNode} {id code : Int} (h : changeOk l e id = false) : relM l e id code = [] := by unfold relM; rw [h]; rfl
theorem change_cases (l : List GItem) (e : List GNode) (id : Int) : (changeOk l e id = false) ∨ (areBoth l e = true ∧ ∃ (j : Nat) (p : GItem), findIdx l id = (j : Int) ∧ l[j]? = some p ∧ p.id = id) := by
  rcases Bool.eq_false_or_eq_true (changeOk l e id) with hc | hc
  · have h1 := hc
    unfold changeOk at h1
    rw [Bool.and_eq_true, decide_eq_true_eq] at h1
    rcases findIdx_cases l id with ⟨hK, _⟩ | ⟨j, x, hK, hx, hid⟩
    · have := h1.2; omega
    · exact .inr ⟨h1.1, j, x, hK, hx, hid⟩
  · exact .inl hc
theorem change_neg {l : List GItem} {e : List GNode} {id : Int} (h : changeOk l e id = false) (hB : areBoth l e = true) : findIdx l id < 0 := by
  unfold changeOk at h
  rw [hB, Bool.true_and, decide_eq_false_iff_not] at h
  omega
theorem from_gt : ∀ {l : List GItem} {p : Int}, areItemsFrom (some p) l = true → ∀ x ∈ l, p < x.id
  | [], _, _, x, hx => by simp at hx
  | y :: l, p, h, x, hx => by
    simp only [areItemsFrom, Bool.and_eq_true, decide_eq_true_eq] at h
    rcases List.mem_cons.1 hx with rfl | hx
    · exact h.1.2
    · have := from_gt h.2 x hx; omega
theorem from_uniq : ∀ {l : List GItem} {o : Option Int}, areItemsFrom o l = true → ∀ x ∈ l, ∀ y ∈ l, x.id = y.id → x = y
  | [], _, _, x, hx, _, _, _ => by simp at hx
  | z :: l, o, h, x, hx, y, hy, e => by
    have h2 : areItemsFrom (some z.id) l = true := by
      cases o <;> simp only [areItemsFrom, Bool.and_eq_true] at h <;> exact h.2
    rcases List.mem_cons.1 hx with h3 | h3
    · rcases List.mem_cons.1 hy with h4 | h4
      · rw [h3, h4]
      · have := from_gt h2 y h4; rw [← e, h3] at this; omega
    · rcases List.mem_cons.1 hy with h4 | h4
      · have := from_gt h2 x h3; rw [e, h4] at this; omega
      · exact from_uniq h2 x h3 y h4 e
theorem areItems_uniq {l : List GItem} (h : areItems l = true) {x y : GItem} (hx : x ∈ l) (hy : y ∈ l) (e : x.id = y.id) : x = y := by
  unfold areItems at h
  rw [Bool.and_eq_true] at h
  exact from_uniq h.1 x hx y hy e
set_option maxRecDepth 100000 in
set_option maxHeartbeats 3200000 in
theorem I_related_yes (w : World) (l : List GItem) (e : List GNode) (id code : Int) (v u : Value) (h : Rd rItems w l [v]) (h' : Rd rNodes w e [u]) (hB : areBoth l e = true) (j : Nat) (p : GItem) (hf : findIdx l id = (j : Int)) (hp : l[j]? = some p) :
    Calls Tryz.prog 169 #[v, u, .int .i64 id, .int .i64 code] w (RetV w (Made fInts w.heap.size (idsOf (relIn e p code) l))) := by
  obtain ⟨i0, hi, hz0, hz1, hz2⟩ := info_parts info_int
  obtain ⟨A, n, c, rfl, L0, Lc, Lm⟩ := rSl_open h
  unfold maxLen at Lm
  have L := Lib.hid L0
  clear L0
  have HB := Lib.hid hB
  have HP := Lib.hid (areItems_mem (areBoth_items hB) (List.mem_of_getElem? hp))
  have n16 : n ≤ 16 := by rw [L.out]; exact areItems_len (areBoth_items hB)
  have hjn : j < n := by rw [L.out]; exact (List.getElem?_eq_some_iff.1 hp).1
  obtain ⟨ba, oa, Ap, cp, rfl, _, hc0, hc1, hin⟩ := rItems_at h hp
  rw [isItem_len HP.out] at hc1 hin
  have j1 : (0 : Int) ≤ (j : Int) := by omega
  have j2 : (j : Int) < (n : Int) := by omega
  have j3 : ¬ ((j : Int) < 0) := by omega
  have hv0 := fSl_empty (e := 3) (sz := 1) (R := fInt) w
  have A0 : Bw w (w.alloc (.cells #[] 3)) := (Bw.refl w).alloc _
  have hcall := fun W (B : Bw w W) => I_FindItem W l id _ (h.bw rItems_good B)
  rw [hf] at hcall
  have HH := Lib.hid h
  clear hB hp hf h
  go_enter Tryz.func169, Tryz.ntmps169
  go_wp2_with fail
  refine (hcall _ A0).mono ?_
  rintro e w1 ⟨rfl, hb1⟩
  have B1 := A0.then hb1
  go_wp2_with fail
  refine (I_areBoth _ l e _ _ (HH.out.bw rItems_good B1) (h'.bw rNodes_good B1)).mono ?_
  rintro e w2 ⟨rfl, hb2⟩
  rw [HB.out]
  have B2 := B1.then hb2
  have hv2 := (fInts_good (B := w.heap.size)).bw (hb1.then hb2) A0.size hv0
  clear hcall hv0 hb1 hb2 A0 B1
  go_wp2
  go_loopg [9, 28] n (fun g s i w' => ∃ (k : Nat) (F : List Nat), k ≤ n ∧ g = n - k ∧ i = .int .i64 k ∧ fInts w' (idsTo (relIn e p code) l k) [s] F ∧ Fresh w.heap.size F ∧ Bw w w')
  case atStart => exact ⟨0, _, by omega, rfl, rfl, hv2, ⟨by simp, by simp⟩, B2⟩
  case round =>
    clear hv2 B2
    obtain ⟨k, F, hk, rfl, rfl, hv, hF, hb⟩ := hrel
    by_cases hlt : k < n
    · obtain ⟨x, hx⟩ := get_of_lt (xs := l) (k := k) (by have := L.out; omega)
      obtain ⟨b2, o2, Ax, cx, eA, _, hd0, hd1, hin2⟩ := rItems_at HH.out hx
      injection eA with eA
      injection eA with eA1 eA2
      subst eA1 eA2
      have HPx := Lib.hid (areItems_mem (areBoth_items HB.out) (List.mem_of_getElem? hx))
      have hlen := isItem_len HPx.out
      rw [hlen] at hd1 hin2
      have i1 : (0 : Int) ≤ (k : Int) := by omega
      have i2 : (k : Int) < (n : Int) := by omega
      replace hd0 := hb.cell hd0
      replace hd1 := hb.cell hd1
      have hbx := World.block_lt_of_cell? _ _ hd0
      have HYES := Lib.hid (fun hf => idsTo_yes (f := relIn e p code) hx hf)
      have HNO := Lib.hid (fun hf => idsTo_no (f := relIn e p code) hx hf)
      have A1 : Bw wr (wr.alloc (.cells #[.int .i64 x.id, .slice Ax 3 cx] 30)) := (Bw.refl wr).alloc _
      have hFm0 := (fInts_good (B := 0)).lt hv
      have kx0 : (wr.alloc (.cells #[.int .i64 x.id, .slice Ax 3 cx] 30)).cell? ⟨wr.heap.size, 0, none⟩ = some (.int .i64 x.id) := by go_simp
      have kx1 : (wr.alloc (.cells #[.int .i64 x.id, .slice Ax 3 cx] 30)).cell? ⟨wr.heap.size, 1, none⟩ = some (.slice Ax 3 cx) := by go_simp
      obtain ⟨W, hW⟩ : ∃ W, W = wr.alloc (.cells #[.int .i64 x.id, .slice Ax 3 cx] 30) := ⟨_, rfl⟩
      rw [← hW] at kx0 kx1 A1
      have HW := Lib.hid hW
      have hbA := hb.then A1
      have hd2 := A1.cell (hb.cell hc0)
      have hd3 := A1.cell (hb.cell hc1)
      have s0 := since_cell kx0
      have s1 := since_cell kx1
      have s2 := since_cell hd2
      have s3 := since_cell hd3
      have hcc : ∀ s : Since W, Calls Tryz.prog 78 #[u, .agg #[.int .i64 x.id, .slice Ax 3 cx], .agg #[.int .i64 p.id, .slice Ap 3 cp]] s.1 (Ret s.1 (.int .i64 (cmpBy e x p))) := fun s => I_compareBy _ e x p _ _ _ (h'.bw rNodes_good (hbA.then s.bw)) (Rd.bw rInts_good hin2 (hbA.then s.bw)) (Rd.bw rInts_good hin (hbA.then s.bw)) (areBoth_expr HB.out) HPx.out HP.out
      have hvA := (fInts_good (B := w.heap.size)).bw A1 hb.size hv
      obtain ⟨r, hr⟩ : ∃ r, r = cmpBy e x p := ⟨_, rfl⟩
      have HR := Lib.hid (show relIn e p code x = decide (r = code) by rw [hr]; rfl)
      rw [← hr] at hcc
      clear hx hlen hW hv hr hd2 hd3
      by_cases hr1 : r = code
      · have e1 : (r == code) = true := by simpa using hr1
        have HB2 := Lib.hid (HYES.out (by rw [HR.out]; simpa using hr1))
        clear hr1 HYES HNO HR
        go_wp2
        rw [← HW.out]
        refine wp_region_since (by kernel_rfl) (by kernel_rfl) ?_
        repeat (first | go_big_quiet_skip | (go_big_quiet_want; go_big_quiet_op; first | go_big_quiet_on | (apply Exists.intro; refine ⟨fun _ => ?_, ?_⟩; (· (((first | (go_at_call 78; exact Calls_since (hcc _)))))); go_big_quiet_on)))
        refine wpQuiet_nil ?_
        rintro ⟨wq, hbq⟩
        dsimp only at *
        have hbw := hbA.then hbq
        replace kx0 := hbq.cell kx0
        have HBL := Lib.hid (idsTo_len (f := relIn e p code) (l := l) (k := k))
        have hv1 := (fInts_good (B := w.heap.size)).bw hbq hbA.size hvA
        have hFm := (fInts_good (B := 0)).lt hv1
        have hvW := (fInts_good (B := w.heap.size)).bw ((Bw.refl wq).alloc (.cells #[.int .i64 x.id] 3)) hbw.size hv1
        have hbW := hbw.alloc (.cells #[.int .i64 x.id] 3)
        have hcl := cell_one_new wq (.int .i64 x.id) 3
        have hb0 := hbw.size
        clear hv1 hvA hcc s0 s1 s2 s3 kx1
        go_wp2_with (at_builtin; refine wpList_push _ rfl (.tmp 41) (.tmp 44) 26 rfl w 3 i0 _ 1 8 Tryz.underlying26 hi hz0 hz1 hz2 rfl (by omega) fInt_good _ (idsTo (relIn e p code) l k) F rfl hvW hF ⟨wq.heap.size, 0, none⟩ 1 rfl x.id [.int .i64 x.id] [] hcl ⟨rfl, rfl⟩ rfl _ hFm Fresh.nil hb0 (by have := HBL.out; omega) (by have := HBL.out; omega) hbW ?_; intro v' w' F' hv' hF' hb')
        go_roundg (n - (k + 1))
        case measure => omega
        case rel => exact ⟨k + 1, F', by omega, rfl, by go_num, by rw [HB2.out]; exact hv', hF', hb'⟩
      · have e1 : (r == code) = false := by simpa using hr1
        have HB2 := Lib.hid (HNO.out (by rw [HR.out]; simpa using hr1))
        clear hr1 HYES HNO HR
        go_wp2
        rw [← HW.out]
        refine wp_region_since (by kernel_rfl) (by kernel_rfl) ?_
        repeat (first | go_big_quiet_skip | (go_big_quiet_want; go_big_quiet_op; first | go_big_quiet_on | (apply Exists.intro; refine ⟨fun _ => ?_, ?_⟩; (· (((first | (go_at_call 78; exact Calls_since (hcc _)))))); go_big_quiet_on)))
        refine wpQuiet_nil ?_
        rintro ⟨wq, hbq⟩
        dsimp only at *
        have hbw := hbA.then hbq
        have hv1 := (fInts_good (B := w.heap.size)).bw hbq hbA.size hvA
        clear hvA hcc s0 s1 s2 s3 kx1 kx0
        go_wp2
        go_roundg (n - (k + 1))
        case measure => omega
        case rel => exact ⟨k + 1, F, by omega, rfl, by go_num, by rw [HB2.out]; exact hv1, hF, hbw⟩
    · obtain rfl : k = n := by omega
      rw [idsTo_end (by rw [← L.out]; exact Nat.le_refl _)] at hv
      go_wp2
      go_ret
      exact ⟨_, rfl, ⟨F, hv, hF⟩, hb⟩
set_option maxRecDepth 100000 in
set_option maxHeartbeats 1600000 in
theorem I_related_no (w : World) (l : List GItem) (e : List GNode) (id code : Int) (v u : Value) (h : Rd rItems w l [v]) (h' : Rd rNodes w e [u]) (hno : changeOk l e id = false) :
    Calls Tryz.prog 169 #[v, u, .int .i64 id, .int .i64 code] w (RetV w (Made fInts w.heap.size [])) := by
  have hv0 := fSl_empty (e := 3) (sz := 1) (R := fInt) w
  have A0 : Bw w (w.alloc (.cells #[] 3)) := (Bw.refl w).alloc _
  have hcall := fun W (B : Bw w W) => I_FindItem W l id _ (h.bw rItems_good B)
  have HNO := Lib.hid (change_neg hno)
  obtain ⟨K, hK⟩ : ∃ K, K = findIdx l id := ⟨_, rfl⟩
  rw [← hK] at hcall HNO
  clear hno hK
  go_enter Tryz.func169, Tryz.ntmps169
  go_wp2_with fail
  refine (hcall _ A0).mono ?_
  rintro e w1 ⟨rfl, hb1⟩
  have B1 := A0.then hb1
  go_wp2_with fail
  refine (I_areBoth _ l e _ _ (h.bw rItems_good B1) (h'.bw rNodes_good B1)).mono ?_
  rintro e w2 ⟨rfl, hb2⟩
  have B2 := B1.then hb2
  have hv2 := (fInts_good (B := w.heap.size)).bw (hb1.then hb2) A0.size hv0
  clear hcall hv0
  rcases Bool.eq_false_or_eq_true (areBoth l e) with e1 | e1
  · have k1 := HNO.out e1
    rw [e1]
    clear e1
    go_wp2
    go_ret
    exact ⟨_, rfl, ⟨_, hv2, ⟨by simp, by simp⟩⟩, B2⟩
  · rw [e1]
    clear e1 HNO
    go_wp2
    go_ret
    exact ⟨_, rfl, ⟨_, hv2, ⟨by simp, by simp⟩⟩, B2⟩
theorem I_related (w : World) (l : List GItem) (e : List GNode) (id code : Int) (v u : Value) (h : Rd rItems w l [v]) (h' : Rd rNodes w e [u]) :
    Calls Tryz.prog 169 #[v, u, .int .i64 id, .int .i64 code] w (RetV w (Made fInts w.heap.size (relM l e id code))) := by
  rcases change_cases l e id with hc | ⟨hB, j, p, hf, hp, _⟩
  · rw [relM_no hc]; exact I_related_no w l e id code v u h h' hc
  · rw [relM_yes hB hf hp]; exact I_related_yes w l e id code v u h h' hB j p hf hp
set_option maxHeartbeats 400000 in
theorem I_DominatorsOf (w : World) (l : List GItem) (e : List GNode) (id : Int) (v u : Value) (h : Rd rItems w l [v]) (h' : Rd rNodes w e [u]) :
    Calls Tryz.prog 105 #[v, u, .int .i64 id] w (RetV w (Made fInts w.heap.size (relM l e id 1))) := by
  go_enter Tryz.func105, Tryz.ntmps105
  go_wp2_with fail
  refine (I_related _ l e id 1 _ _ h h').mono ?_
  rintro e w1 ⟨v1, rfl, ⟨F1, o1, f1⟩, hb1⟩
  go_wp2
  go_ret
  exact ⟨_, rfl, ⟨F1, o1, f1⟩, hb1⟩
end Go.Proofs.YtpihighajaeabaaGreat

namespace Go.Proofs.YtpihighajaeabaaGreat
open Go.RowKit
set_option linter.unusedVariables false
end Go.Proofs.YtpihighajaeabaaGreat

namespace Go.Proofs.YtpihighajaeabaaGreat
open Go.RowKit
set_option linter.unusedVariables false
set_option linter.unusedSimpArgs false
end Go.Proofs.YtpihighajaeabaaGreat

namespace Go.Proofs.YtpihighajaeabaaGreat
open Go.RowKit
set_option linter.unusedVariables false
set_option linter.unusedSimpArgs false
end Go.Proofs.YtpihighajaeabaaGreat

namespace Go.Proofs.YtpihighajaeabaaGreat
open Go.RowKit
set_option linter.unusedVariables false
set_option linter.unusedSimpArgs false
set_option maxHeartbeats 400000 in
theorem I_DominatedBy (w : World) (l : List GItem) (e : List GNode) (id : Int) (v u : Value) (h : Rd rItems w l [v]) (h' : Rd rNodes w e [u]) :
    Calls Tryz.prog 121 #[v, u, .int .i64 id] w (RetV w (Made fInts w.heap.size (relM l e id (-1)))) := by
  go_enter Tryz.func121, Tryz.ntmps121
  go_wp2_with fail
  refine (I_related _ l e id (-1) _ _ h h').mono ?_
  rintro e w1 ⟨v1, rfl, ⟨F1, o1, f1⟩, hb1⟩
  go_wp2
  go_ret
  exact ⟨_, rfl, ⟨F1, o1, f1⟩, hb1⟩
end Go.Proofs.YtpihighajaeabaaGreat

namespace Go.Proofs.YtpihighajaeabaaGreat
open Go.RowKit
set_option linter.unusedVariables false
set_option linter.unusedSimpArgs false
def rankM (l : List GItem) (e : List GNode) (id : Int) : Int := if changeOk l e id then ((relM l e id 1).length : Int) else -1
def bandIn (l : List GItem) (e : List GNode) (m : Int) (x : GItem) : Bool := decide (rankM l e x.id < m)
def bandM (l : List GItem) (e : List GNode) (m : Int) : List Int := if areBoth l e then idsOf (bandIn l e m) l else []
set_option maxHeartbeats 800000 in
theorem I_RankOf (w : World) (l : List GItem) (e : List GNode) (id : Int) (v u : Value) (h : Rd rItems w l [v]) (h' : Rd rNodes w e [u]) :
    Calls Tryz.prog 122 #[v, u, .int .i64 id] w (Ret w (.int .i64 (rankM l e id))) := by
  have k1 := I_areBoth w l e _ _ h h'
  have k2 := fun W (B : Bw w W) => I_FindItem W l id _ (h.bw rItems_good B)
  have k3 := fun W (B : Bw w W) => I_DominatorsOf W l e id _ _ (h.bw rItems_good B) (h'.bw rNodes_good B)
  obtain ⟨Y, hY⟩ : ∃ Y, Y = rankM l e id := ⟨_, rfl⟩
  rw [← hY]
  unfold rankM changeOk at hY
  by_cases hB : areBoth l e = true
  · rw [hB] at k1 hY
    obtain ⟨f, hf⟩ : ∃ f, f = findIdx l id := ⟨_, rfl⟩
    simp only [← hf] at k2 hY
    by_cases h0 : f < 0
    · have HY := Lib.hid (show Y = -1 by rw [hY]; simp; omega)
      clear hY hf hB k3
      go_enter Tryz.func122, Tryz.ntmps122
      go_wp2_with fail
      refine k1.mono ?_
      rintro e w1 ⟨rfl, hb1⟩
      have hc := k2 w1 hb1
      go_wp2_with fail
      refine hc.mono ?_
      rintro e w2 ⟨rfl, hb2⟩
      clear hc k1 k2
      go_wp2
      go_ret
      exact Ret.int HY.out.symm (hb1.then hb2)
    · have HY := Lib.hid (show Y = ((relM l e id 1).length : Int) by rw [hY]; simp; omega)
      have i0 : ¬ f < 0 := h0
      clear hY hf hB h0
      go_enter Tryz.func122, Tryz.ntmps122
      go_wp2_with fail
      refine k1.mono ?_
      rintro e w1 ⟨rfl, hb1⟩
      have hc := k2 w1 hb1
      go_wp2_with fail
      refine hc.mono ?_
      rintro e w2 ⟨rfl, hb2⟩
      have B2 := hb1.then hb2
      have hd := k3 w2 B2
      clear hc k1 k2 k3
      go_wp2_with fail
      refine hd.mono ?_
      rintro e w3 ⟨v3, rfl, ⟨F3, o3, f3⟩, hb3⟩
      have r3 := fInts_Rd o3
      obtain ⟨A, n, c, rfl, ln, _⟩ := rSl_open r3
      have LN := Lib.hid ln
      clear hd o3 f3 r3 ln
      go_wp2
      go_ret
      exact Ret.int (by rw [HY.out, LN.out]) (B2.then hb3)
  · have hB2 : areBoth l e = false := by simpa using hB
    rw [hB2] at k1 hY
    have HY := Lib.hid (show Y = -1 from hY)
    clear hY hB hB2 k2 k3
    go_enter Tryz.func122, Tryz.ntmps122
    go_wp2_with fail
    refine k1.mono ?_
    rintro e w1 ⟨rfl, hb1⟩
    clear k1
    go_wp2
    go_ret
    exact Ret.int HY.out.symm hb1
set_option maxRecDepth 100000 in
set_option maxHeartbeats 3200000 in
theorem I_SkybandOf (w : World) (l : List GItem) (e : List GNode) (m : Int) (v u : Value) (h : Rd rItems w l [v]) (h' : Rd rNodes w e [u]) :
    Calls Tryz.prog 39 #[v, u, .int .i64 m] w (RetV w (Made fInts w.heap.size (bandM l e m))) := by
  obtain ⟨i0, hi, hz0, hz1, hz2⟩ := info_parts info_int
  have hv0 := fSl_empty (e := 3) (sz := 1) (R := fInt) w
  have A0 : Bw w (w.alloc (.cells #[] 3)) := (Bw.refl w).alloc _
  have HH := Lib.hid h
  have k1 := I_areBoth _ l e _ _ (h.bw rItems_good A0) (h'.bw rNodes_good A0)
  obtain ⟨Y, hY⟩ : ∃ Y, Y = bandM l e m := ⟨_, rfl⟩
  rw [← hY]
  unfold bandM at hY
  obtain ⟨A, n, c, rfl, L0, Lc, Lm⟩ := rSl_open h
  unfold maxLen at Lm
  have L := Lib.hid L0
  clear L0
  by_cases hB : areBoth l e = true
  · rw [hB] at k1
    have HB := Lib.hid hB
    have HY := Lib.hid (show Y = idsOf (bandIn l e m) l by rw [hY, if_pos hB])
    have n16 : n ≤ 16 := by rw [L.out]; exact areItems_len (areBoth_items hB)
    clear hB hY h
    go_enter Tryz.func39, Tryz.ntmps39
    go_wp2_with fail
    refine k1.mono ?_
    rintro e w2 ⟨rfl, hb2⟩
    have B2 := A0.then hb2
    have hv2 := keepBw hb2 fInts_good hv0
    clear k1 hv0 hb2 A0
    go_wp2
    go_loopg [7, 18] n (fun g s i w' => ∃ (k : Nat) (F : List Nat), k ≤ n ∧ g = n - k ∧ i = .int .i64 k ∧ fInts w' (idsTo (bandIn l e m) l k) [s] F ∧ Fresh w.heap.size F ∧ Bw w w')
    case atStart => exact ⟨0, _, by omega, rfl, rfl, hv2, ⟨by simp, by simp⟩, B2⟩
    case round =>
      clear hv2 B2
      obtain ⟨k, F, hk, rfl, rfl, hv, hF, hb⟩ := hrel
      by_cases hlt : k < n
      · obtain ⟨x, hx⟩ := get_of_lt (xs := l) (k := k) (by have := L.out; omega)
        obtain ⟨b2, o2, Ax, cx, rfl, _, hd0, hd1, hin2⟩ := rItems_at HH.out hx
        have HPx := Lib.hid (areItems_mem (areBoth_items HB.out) (List.mem_of_getElem? hx))
        have hlen := isItem_len HPx.out
        rw [hlen] at hd1 hin2
        have i1 : (0 : Int) ≤ (k : Int) := by omega
        have i2 : (k : Int) < (n : Int) := by omega
        replace hd0 := hb.cell hd0
        replace hd1 := hb.cell hd1
        have HYES := Lib.hid (fun hf => idsTo_yes (f := bandIn l e m) hx hf)
        have HNO := Lib.hid (fun hf => idsTo_no (f := bandIn l e m) hx hf)
        have hA := (Bw.refl wr).alloc (.cells #[.int .i64 x.id, .slice Ax 3 cx] 30)
        have bX := Box.new wr #[.int .i64 x.id, .slice Ax 3 cx] 30
        have hbA := hb.then hA
        have hc := I_RankOf (wr.alloc (.cells #[.int .i64 x.id, .slice Ax 3 cx] 30)) l e x.id _ _ (HH.out.bw rItems_good hbA) (h'.bw rNodes_good hbA)
        obtain ⟨R, hR⟩ : ∃ R, R = rankM l e x.id := ⟨_, rfl⟩
        rw [← hR] at hc
        have HR := Lib.hid hR
        have hFm := (fInts_good (B := 0)).lt hv
        have HID := Lib.hid (idsTo_len (f := bandIn l e m) (l := l) (k := k))
        have hbs := hb.size
        clear hR hx hin2
        go_wp2_with fail
        refine hc.mono ?_
        rintro e w4 ⟨rfl, hb4⟩
        have bX4 := bX.bw hb4
        have hv4 := keepBw (hA.then hb4) fInts_good hv
        have hb04 := hbA.then hb4
        clear hc bX hA hbA hv
        by_cases hlm : R < m
        · have HS := Lib.hid (show idsTo (bandIn l e m) l (k + 1) = idsTo (bandIn l e m) l k ++ [x.id] from HYES.out (by unfold bandIn; rw [← HR.out]; exact decide_eq_true hlm))
          have hA4 := (Bw.refl w4).alloc (.cells #[.int .i64 x.id] 3)
          have hvW := keepBw hA4 fInts_good hv4
          have hbW := hb04.then hA4
          have hcl := cell_one_new w4 (.int .i64 x.id) 3
          have b0 := bX4.c 0 _ rfl
          have b1 := bX4.c 1 _ rfl
          have bf := bX4.fr
          clear hv4 hA4 hb4
          go_wp2_with (at_builtin; refine wpList_push2 _ rfl (.tmp 29) (.tmp 32) 26 rfl w 3 i0 _ 1 8 Tryz.underlying26 hi hz0 hz1 hz2 rfl (by omega) fInt_good _ (idsTo (bandIn l e m) l k) F rfl hvW hF ⟨w4.heap.size, 0, none⟩ 1 rfl x.id [.int .i64 x.id] [] hcl ⟨rfl, rfl⟩ rfl wr.heap.size hFm Fresh.nil hbs (by have := HID.out; omega) (by have := HID.out; omega) hbW ?_; intro v' w' F' hv' hF' hb' hO' hs')
          go_roundg (n - (k + 1))
          case measure => omega
          case rel => exact ⟨k + 1, F', by omega, rfl, by go_num, by rw [HS.out]; exact hv', hF', hb'⟩
        · have HS := Lib.hid (show idsTo (bandIn l e m) l (k + 1) = idsTo (bandIn l e m) l k from HNO.out (by unfold bandIn; rw [← HR.out]; exact decide_eq_false hlm))
          clear bX4
          go_wp2
          go_roundg (n - (k + 1))
          case measure => omega
          case rel => exact ⟨k + 1, F, by omega, rfl, by go_num, by rw [HS.out]; exact hv4, hF, hb04⟩
      · obtain rfl : k = n := by omega
        rw [idsTo_end (by rw [← L.out]; exact Nat.le_refl _)] at hv
        go_wp2
        go_ret
        exact ⟨_, rfl, ⟨F, by rw [HY.out]; exact hv, hF⟩, hb⟩
  · have hB2 : areBoth l e = false := by simpa using hB
    rw [hB2] at k1
    have HY := Lib.hid (show Y = [] by rw [hY, if_neg hB])
    clear hB hB2 hY h
    go_enter Tryz.func39, Tryz.ntmps39
    go_wp2_with fail
    refine k1.mono ?_
    rintro e w2 ⟨rfl, hb2⟩
    have hv2 := keepBw hb2 fInts_good hv0
    clear k1
    go_wp2
    go_ret
    exact ⟨_, rfl, ⟨_, by rw [HY.out]; exact hv2, ⟨by simp, by simp⟩⟩, A0.then hb2⟩
end Go.Proofs.YtpihighajaeabaaGreat
