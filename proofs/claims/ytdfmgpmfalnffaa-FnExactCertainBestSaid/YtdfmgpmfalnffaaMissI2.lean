/- Possible and certain answers in the program. -/
import Derived.Test.YtdfmgpmfalnffaaMissI
import Derived.Test.YtdfmgpmfalnffaaOwn3
namespace Go.Proofs.Ytdfmgpmfalnffaa
open Go.RowKit
set_option linter.unusedVariables false
set_option linter.unusedSimpArgs false
def missF (b : Bool) (l : List GItem) (e : List GNode) (x : GItem) : Bool := if b then certF l e x else possF l e x
def missM (b : Bool) (l : List GItem) (e : List GNode) : List Int := if isPartial l && isExpr e then (l.filter (missF b l e)).map (·.id) else []
theorem missM_poss (l : List GItem) (e : List GNode) : missM false l e = possM l e := by unfold missM possM; rfl
theorem missM_cert (l : List GItem) (e : List GNode) : missM true l e = certM l e := by unfold missM certM; rfl
theorem countsM_at {l : List GItem} {e : List GNode} {j k : Nat} {x : GItem} (h : l[k]? = some x) : (countsM l e j)[k]? = some ((cntTo l e j x : Nat) : Int) := by
  unfold countsM; rw [List.getElem?_map, h]; rfl
theorem missF_val {l : List GItem} {e : List GNode} {x : GItem} (hp : 0 < cntN l) (b : Bool) : missF b l e x = (decide (cntTo l e (cntN l) x = cntN l) || (!b && decide (0 < cntTo l e (cntN l) x))) := by
  unfold missF certF possF
  rw [cntTo_pos, cntTo_all]
  cases b
  · simp; omega
  · simp
theorem cntN_partial {l : List GItem} (h : isPartial l = true) : 0 < cntN l := by unfold cntN; rw [if_pos h]; exact Nat.pow_pos (by omega)
set_option maxRecDepth 100000 in
set_option maxHeartbeats 6400000 in
theorem I_atLeast (w : World) (l : List GItem) (e : List GNode) (b : Bool) (v u : Value) (h : Rd rItems w l [v]) (h' : Rd rNodes w e [u]) (ht : totItems l ≤ 1048576) : Calls Try.prog 127 #[v, u, .bool b] w (RetV w (Made fInts w.heap.size (missM b l e))) := by
  obtain ⟨i0, hi, hz0, hz1, hz2⟩ := info_parts info_int
  have hv0 := fSl_empty (e := 3) (sz := 1) (R := fInt) w
  have B0 : Bw w (w.alloc (.cells #[] 3)) := (Bw.refl w).alloc _
  obtain ⟨A, n, c0, rfl, L0, Lc, Lm⟩ := rSl_open h
  unfold maxLen at Lm
  have L := Lib.hid L0
  clear L0
  go_enter Try.func127, Try.ntmps127
  go_wp2_with fail
  refine (I_IsPartial _ l _ (h.bw rItems_good B0) ht).mono ?_
  rintro e w1 ⟨rfl, hb1⟩
  have B1 := B0.then hb1
  have hv1 := (fInts_good (B := w.heap.size)).bw hb1 B0.size hv0
  clear hv0
  rcases Bool.eq_false_or_eq_true (isPartial l) with e1 | e1
  · have HP := Lib.hid e1
    rw [e1]
    clear e1
    go_wp2_with fail
    refine (I_IsExpression _ e _ (h'.bw rNodes_good B1)).mono ?_
    rintro e w2 ⟨rfl, hb2⟩
    have B2 := B1.then hb2
    have hv2 := (fInts_good (B := w.heap.size)).bw hb2 B1.size hv1
    clear hv1
    rcases Bool.eq_false_or_eq_true (isExpr e) with e2 | e2
    · have HE := Lib.hid e2
      rw [e2]
      clear e2
      have HM := Lib.hid (show missM b l e = (l.filter (missF b l e)).map (·.id) by unfold missM; rw [HP.out, HE.out]; rfl)
      have hn := partial_len HP.out
      rw [← L.out] at hn
      have HCN := Lib.hid (cntN_eq l)
      have hc64 := cntN_le l
      have HCP := Lib.hid (cntN_partial HP.out)
      go_wp2_with fail
      refine (I_bestCounts _ l e _ _ (h.bw rItems_good B2) (h'.bw rNodes_good B2) ht HP.out HE.out).mono ?_
      rintro e w3 ⟨v3, rfl, ⟨F3, o3, f3⟩, hb3⟩
      have B3 := B2.then hb3
      have hv3 := (fInts_good (B := w.heap.size)).bw hb3 B2.size hv2
      obtain ⟨A3, n3, c3, rfl, L3, L3c, L3m⟩ := rSl_open (fInts_Rd o3)
      unfold maxLen at L3m
      have hL3 : n3 = n := by rw [L3, countsM, List.length_map, ← L.out]
      clear L3
      subst hL3
      have hz2 : w.heap.size + 1 ≤ w2.heap.size := by have := (hb1.then hb2).size; simpa using this
      have hdis : ∀ b ∈ [w.heap.size], b ∉ F3 := fun b hb hb9 => by have := f3.ge b hb9; simp at hb; omega
      have hF0 : Fresh w.heap.size [w.heap.size] := ⟨by simp, by simp⟩
      have oC := o3
      clear hv2 o3 f3 hz2
      go_wp2
      go_loopg [7, 24] n3 (fun g s i w' => ∃ (k : Nat) (F : List Nat), k ≤ n3 ∧ g = n3 - k ∧ i = .int .i64 k ∧ fInts w' (idsTo (missF b l e) l k) [s] F ∧ Fresh w.heap.size F ∧ fInts w' (countsM l e (cntN l)) [.slice A3 n3 c3] F3 ∧ (∀ b ∈ F, b ∉ F3) ∧ Bw w w')
      case atStart => exact ⟨0, _, by omega, rfl, rfl, hv3, hF0, oC, hdis, B3⟩
      case round =>
        clear hv3 hF0 oC hdis B3
        obtain ⟨k, F, hk, rfl, rfl, hv, hF, oC, hdis, hb⟩ := hrel
        by_cases hlt : k < n3
        · obtain ⟨x, hx⟩ := get_of_lt (xs := l) (k := k) (by have := L.out; omega)
          obtain ⟨ba, oa, Ax, cx, rfl, _, hd0, hd1, hin⟩ := rItems_at h hx
          obtain ⟨b3, o3, rfl, _, hm0⟩ := rInts_at (fInts_Rd oC) (countsM_at hx)
          have i1 : (0 : Int) ≤ (k : Int) := by omega
          have i2 : (k : Int) < (n3 : Int) := by omega
          replace hd0 := hb.cell hd0
          have HYES := Lib.hid (fun hf => idsTo_yes (f := missF b l e) hx hf)
          have HNO := Lib.hid (fun hf => idsTo_no (f := missF b l e) hx hf)
          have HV := Lib.hid (missF_val (e := e) (x := x) HCP.out b)
          have hml := cntTo_le l e (cntN l) x
          obtain ⟨m, hm⟩ : ∃ m, m = cntTo l e (cntN l) x := ⟨_, rfl⟩
          obtain ⟨c, hc⟩ : ∃ c, c = cntN l := ⟨_, rfl⟩
          rw [← hm, ← hc] at HV
          rw [← hm] at hm0
          rw [← hm, ← hc] at hml
          rw [← hc] at hc64
          have HC2 := Lib.hid (show countC l = (c : Int) by rw [HCN.out, hc])
          have HH := Lib.hid h
          clear hx hd1 hin hm hc h
          go_wp2_with fail
          refine (I_CountCompletions _ l _ (HH.out.bw rItems_good hb) ht).mono ?_
          rintro e w4 ⟨rfl, hb4⟩
          rw [HC2.out]
          have hbb := hb.then hb4
          have hv4 := (fInts_good (B := w.heap.size)).bw hb4 hb.size hv
          have p0 := hb4.cell hd0
          have hFm := (fInts_good (B := 0)).lt hv4
          have oC4 := (fInts_good (B := w.heap.size)).bw hb4 hb.size oC
          have h := HH.out
          clear hv hd0 hm0 oC
          by_cases hmc : m = c
          · have e3 : ((m : Int) == (c : Int)) = true := by rw [hmc]; simp
            have HB := Lib.hid (HYES.out (by rw [HV.out]; simp [hmc]))
            have HBL := Lib.hid (idsTo_len (f := missF b l e) (l := l) (k := k))
            clear hmc
            have hvW := (fInts_good (B := w.heap.size)).bw ((Bw.refl w4).alloc (.cells #[.int .i64 x.id] 3)) hbb.size hv4
            have hbW := hbb.alloc (.cells #[.int .i64 x.id] 3)
            have hcl := cell_one_new w4 (.int .i64 x.id) 3
            have hb0 := hb.size
            have oW := (fInts_good (B := w.heap.size)).bw ((Bw.refl w4).alloc (.cells #[.int .i64 x.id] 3)) hbb.size oC4
            have hWl := (fInts_good (B := 0)).lt oW
            clear hv4
            go_wp2_with (at_builtin; refine wpList_push2 _ rfl (.tmp 41) (.tmp 47) 33 rfl w 3 i0 _ 1 8 Try.underlying33 hi hz0 hz1 hz2 rfl (by omega) fInt_good _ (idsTo (missF b l e) l k) F rfl hvW hF ⟨w4.heap.size, 0, none⟩ 1 rfl x.id [.int .i64 x.id] [] hcl ⟨rfl, rfl⟩ rfl w4.heap.size hFm Fresh.nil hbb.size (by have := HBL.out; omega) (by have := HBL.out; omega) hbW ?_; intro v' w' F' hv' hF' hb' hO' hin')
            have oC' := hO'.keeps (fInts_good (B := 0)) oW (fun b hb9 hb8 => hdis b hb8 hb9)
            have hdis' : ∀ b ∈ F', b ∉ F3 := fun b hb9 hb8 => by
              rcases hin' b hb9 with h9 | h9 | h9
              · exact hdis b h9 hb8
              · simp at h9
              · have := hWl b hb8; omega
            clear hO' hin' hWl oW
            go_roundg (n3 - (k + 1))
            case measure => omega
            case rel => exact ⟨k + 1, F', by omega, rfl, by go_num, by rw [HB.out]; exact hv', hF', oC', hdis', hb'⟩
          · have e3 : ((m : Int) == (c : Int)) = false := by simp; omega
            cases b with
            | true =>
              have HB := Lib.hid (HNO.out (by rw [HV.out]; simp [hmc]))
              clear hmc
              go_wp2
              go_roundg (n3 - (k + 1))
              case measure => omega
              case rel => exact ⟨k + 1, F, by omega, rfl, by go_num, by rw [HB.out]; exact hv4, hF, oC4, hdis, hbb⟩
            | false =>
              by_cases hm0 : 0 < m
              · have HB := Lib.hid (HYES.out (by rw [HV.out]; simp [hm0]))
                have HBL := Lib.hid (idsTo_len (f := missF false l e) (l := l) (k := k))
                have hm0' : (0 : Int) < (m : Int) := by omega
                clear hmc
                have hvW := (fInts_good (B := w.heap.size)).bw ((Bw.refl w4).alloc (.cells #[.int .i64 x.id] 3)) hbb.size hv4
                have hbW := hbb.alloc (.cells #[.int .i64 x.id] 3)
                have hcl := cell_one_new w4 (.int .i64 x.id) 3
                have hb0 := hb.size
                have oW := (fInts_good (B := w.heap.size)).bw ((Bw.refl w4).alloc (.cells #[.int .i64 x.id] 3)) hbb.size oC4
                have hWl := (fInts_good (B := 0)).lt oW
                clear hv4
                go_wp2_with (at_builtin; refine wpList_push2 _ rfl (.tmp 41) (.tmp 47) 33 rfl w 3 i0 _ 1 8 Try.underlying33 hi hz0 hz1 hz2 rfl (by omega) fInt_good _ (idsTo (missF false l e) l k) F rfl hvW hF ⟨w4.heap.size, 0, none⟩ 1 rfl x.id [.int .i64 x.id] [] hcl ⟨rfl, rfl⟩ rfl w4.heap.size hFm Fresh.nil hbb.size (by have := HBL.out; omega) (by have := HBL.out; omega) hbW ?_; intro v' w' F' hv' hF' hb' hO' hin')
                have oC' := hO'.keeps (fInts_good (B := 0)) oW (fun b hb9 hb8 => hdis b hb8 hb9)
                have hdis' : ∀ b ∈ F', b ∉ F3 := fun b hb9 hb8 => by
                  rcases hin' b hb9 with h9 | h9 | h9
                  · exact hdis b h9 hb8
                  · simp at h9
                  · have := hWl b hb8; omega
                clear hO' hin' hWl oW
                go_roundg (n3 - (k + 1))
                case measure => omega
                case rel => exact ⟨k + 1, F', by omega, rfl, by go_num, by rw [HB.out]; exact hv', hF', oC', hdis', hb'⟩
              · have HB := Lib.hid (HNO.out (by rw [HV.out]; simp [hmc, hm0]))
                have hm0' : ¬ (0 : Int) < (m : Int) := by omega
                clear hmc
                go_wp2
                go_roundg (n3 - (k + 1))
                case measure => omega
                case rel => exact ⟨k + 1, F, by omega, rfl, by go_num, by rw [HB.out]; exact hv4, hF, oC4, hdis, hbb⟩
        · obtain rfl : k = n3 := by omega
          rw [idsTo_end (by rw [← L.out]; exact Nat.le_refl _), ← HM.out] at hv
          go_wp2
          go_ret
          exact ⟨_, rfl, ⟨F, hv, hF⟩, hb⟩
    · have HE := Lib.hid e2
      rw [e2]
      clear e2
      rw [show ([] : List Int) = missM b l e by unfold missM; rw [HP.out, HE.out]; rfl] at hv2
      go_wp2
      go_ret
      exact ⟨_, rfl, ⟨_, hv2, ⟨by simp, by simp⟩⟩, B2⟩
  · have HP := Lib.hid e1
    rw [e1]
    clear e1
    rw [show ([] : List Int) = missM b l e by unfold missM; rw [HP.out]; rfl] at hv1
    go_wp2
    go_ret
    exact ⟨_, rfl, ⟨_, hv1, ⟨by simp, by simp⟩⟩, B1⟩
theorem I_PossibleBest (w : World) (l : List GItem) (e : List GNode) (v u : Value) (h : Rd rItems w l [v]) (h' : Rd rNodes w e [u]) (ht : totItems l ≤ 1048576) : Calls Try.prog 66 #[v, u] w (RetV w (Made fInts w.heap.size (possM l e))) := by
  go_enter Try.func66, Try.ntmps66
  go_wp2_with fail
  refine (I_atLeast _ l e false _ _ h h' ht).mono ?_
  rintro e w3 ⟨v3, rfl, ⟨F3, o3, f3⟩, hb3⟩
  rw [missM_poss] at o3
  go_wp2
  go_ret
  exact ⟨_, rfl, ⟨F3, o3, f3⟩, hb3⟩
theorem I_CertainBest (w : World) (l : List GItem) (e : List GNode) (v u : Value) (h : Rd rItems w l [v]) (h' : Rd rNodes w e [u]) (ht : totItems l ≤ 1048576) : Calls Try.prog 64 #[v, u] w (RetV w (Made fInts w.heap.size (certM l e))) := by
  go_enter Try.func64, Try.ntmps64
  go_wp2_with fail
  refine (I_atLeast _ l e true _ _ h h' ht).mono ?_
  rintro e w3 ⟨v3, rfl, ⟨F3, o3, f3⟩, hb3⟩
  rw [missM_cert] at o3
  go_wp2
  go_ret
  exact ⟨_, rfl, ⟨F3, o3, f3⟩, hb3⟩
end Go.Proofs.Ytdfmgpmfalnffaa
