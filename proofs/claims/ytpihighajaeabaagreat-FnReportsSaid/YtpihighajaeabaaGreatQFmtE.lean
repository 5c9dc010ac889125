/- Expressions as text, in both programs. -/
import Derived.Test.YtpihighajaeabaaGreatQFmtS
namespace Go.Proofs.YtpihighajaeabaaGreat
open Go.RowKit
set_option linter.unusedVariables false
set_option linter.unusedSimpArgs false
def opWord (k : Int) : ByteArray := if k = 1 then ⟨#[97, 110, 100]⟩ else if k = 2 then ⟨#[116, 104, 101, 110]⟩ else if k = 3 then ⟨#[110, 111, 116]⟩ else if k = 4 then ⟨#[98, 111, 116, 104]⟩ else ⟨#[]⟩
def nodeText (n : GNode) : ByteArray := if n.op = 0 then wishText n.wish else opWord n.op
def nodeList (e : List GNode) : List ByteArray := e.map nodeText
def exprText (e : List GNode) : ByteArray := if isExpr e then glued (nodeList e) ⟨#[59, 32]⟩ else ⟨#[]⟩
theorem opWord_size (k : Int) : (opWord k).size ≤ 4 := by
  unfold opWord; repeat' split
  all_goals (show _ ≤ _; decide)
theorem wishText_size (x : GWish) : (wishText x).size ≤ 430 := by
  unfold wishText
  split
  · rename_i h
    have h1 := (wishHead_size h).2
    have es : (⟨#[32]⟩ : ByteArray).size = 1 := rfl
    have hv := (fmtInt_size (wf_small' (n := x.value) (by have := isWish_value h; omega))).2
    have hl := numText_len h
    have hp := pairsText_size x.pairs
    repeat' split
    all_goals (repeat rw [size_append]); omega
  · show 0 ≤ 430; omega
theorem nodeText_size (n : GNode) : (nodeText n).size ≤ 430 := by
  unfold nodeText
  split
  · exact wishText_size _
  · have := opWord_size n.op; omega
theorem nodeList_gl : ∀ (e : List GNode), glSize ⟨#[59, 32]⟩ (nodeList e) ≤ 432 * e.length
  | [] => by simp [nodeList, glSize, sumL]
  | n :: e => by
    have h1 := nodeText_size n
    have h2 := nodeList_gl e
    have e1 : glSize ⟨#[59, 32]⟩ (nodeList (n :: e)) = (nodeText n).size + 2 + glSize ⟨#[59, 32]⟩ (nodeList e) := rfl
    rw [e1, List.length_cons]; omega
theorem nodeList_snoc {l : List GNode} {k : Nat} {x : GNode} (h : l[k]? = some x) : nodeList (l.take (k + 1)) = nodeList (l.take k) ++ [nodeText x] := by
  unfold nodeList; rw [List.take_add_one, h]; simp
theorem depth_ops : ∀ {e : List GNode} {d r : Int}, depthOf e d = some r → ∀ n ∈ e, 0 ≤ n.op ∧ n.op ≤ 4
  | [], _, _, _, n, hn => by simp at hn
  | m :: e, d, r, h, n, hn => by
    rw [depthOf] at h
    split at h
    · rename_i hk
      rcases List.mem_cons.1 hn with h1 | h1
      · subst h1
        unfold nodeOk at hk
        rw [Bool.and_eq_true] at hk
        exact inB_iff.1 hk.1
      · exact depth_ops h n h1
    · cases h
theorem expr_ops {e : List GNode} (h : isExpr e = true) : e.length ≤ 9 ∧ ∀ n ∈ e, 0 ≤ n.op ∧ n.op ≤ 4 := by
  unfold isExpr at h
  rw [Bool.and_eq_true, decide_eq_true_eq, decide_eq_true_eq] at h
  exact ⟨h.2, depth_ops h.1⟩
set_option maxRecDepth 100000 in
set_option maxHeartbeats 6400000 in
theorem I_FormatExpression (w : World) (e : List GNode) (v : Value) (h : Rd rNodes w e [v]) : Calls Tryz.prog 136 #[v] w (Ret w (.string (exprText e))) := by
  obtain ⟨i0, hi, hz0, hz1, hz2⟩ := info_parts info_str
  obtain ⟨T, hT⟩ : ∃ T, T = exprText e := ⟨_, rfl⟩
  rw [← hT]
  have HT := Lib.hid hT
  clear hT
  obtain ⟨A, n, c, rfl, L0, Lc, Lm⟩ := rSl_open h
  unfold maxLen at Lm
  have L := Lib.hid L0
  clear L0
  go_enter Tryz.func136, Tryz.ntmps136
  go_wp2_with fail
  refine (I_IsExpression _ e _ h).mono ?_
  rintro e w1 ⟨rfl, hb1⟩
  rcases Bool.eq_false_or_eq_true (isExpr e) with e1 | e1
  · have E1 := Lib.hid e1
    rw [e1]
    clear e1
    have n9 : n ≤ 9 := by rw [L.out]; exact (expr_ops E1.out).1
    have HM := Lib.hid (expr_ops E1.out).2
    have HF := Lib.hid (show T = glued (nodeList e) ⟨#[59, 32]⟩ by rw [HT.out, exprText, if_pos E1.out])
    have hv0 := fSl_empty (e := 9) (sz := 1) (R := fStr) w1
    have hs := hb1.size
    have hB0 := hb1.alloc (.cells #[] 9)
    have HH := Lib.hid h
    clear HT h
    go_wp2
    go_loopg [3, 12] n (fun g s i w' => ∃ (k : Nat) (F : List Nat), k ≤ n ∧ g = n - k ∧ i = .int .i64 k ∧ fStrs w' (nodeList (e.take k)) [s] F ∧ Fresh w.heap.size F ∧ Bw w w')
    case atStart => exact ⟨0, _, by omega, rfl, rfl, hv0, ⟨by simp, by simpa using hs⟩, hB0⟩
    case round =>
      clear hv0 hB0
      obtain ⟨k, F, hk, rfl, rfl, hv, hF, hb⟩ := hrel
      have h := HH.out
      by_cases hlt : k < n
      · obtain ⟨x, hx⟩ := get_of_lt (xs := e) (k := k) (by have := L.out; omega)
        obtain ⟨ba, oa, Al, cl, Ap, cp, rfl, _, d0, d1, d2, d3, d4, d5, hi1, hi2⟩ := rNodes_at h hx
        replace d0 := hb.cell d0
        replace d1 := hb.cell d1
        replace d2 := hb.cell d2
        replace d3 := hb.cell d3
        replace d4 := hb.cell d4
        replace d5 := hb.cell d5
        have i1 : (0 : Int) ≤ (k : Int) := by omega
        have i2 : (k : Int) < (n : Int) := by omega
        have hop := HM.out x (List.mem_of_getElem? hx)
        have HS := Lib.hid (nodeList_snoc hx)
        have HLEN := Lib.hid (show (nodeList (e.take k)).length ≤ 9 by unfold nodeList; rw [List.length_map, List.length_take]; omega)
        obtain ⟨N1, hN1⟩ : ∃ N1, N1 = x.wish.list.length := ⟨_, rfl⟩
        obtain ⟨N2, hN2⟩ : ∃ N2, N2 = x.wish.pairs.length := ⟨_, rfl⟩
        rw [← hN1] at d4 hi1
        rw [← hN2] at d5 hi2
        obtain ⟨o, ho⟩ : ∃ o, o = x.op := ⟨_, rfl⟩
        rw [← ho] at d0 hop
        obtain ⟨W, hW⟩ : ∃ W, W = wr.alloc (.cells #[.int .i64 o, .int .i64 x.wish.kind, .int .i64 x.wish.field, .int .i64 x.wish.value, .slice Al N1 cl, .slice Ap N2 cp] 111) := ⟨_, rfl⟩
        have D1 : Bw wr W := by rw [hW]; exact (Bw.refl wr).alloc _
        have hbd := hb.then D1
        have hvd := (fStrs_good (B := w.heap.size)).bw D1 hb.size hv
        have cw := fun W2 (B : Bw W W2) => I_FormatWish W2 x.wish _ _ (Rd.bw rInts_good hi1 (hbd.then B)) (Rd.bw rPairs_good hi2 (hbd.then B))
        have HWI := Lib.hid (show o = 0 → nodeText x = wishText x.wish from fun h0 => by rw [nodeText, ← ho, if_pos h0])
        have HWO := Lib.hid (show ¬ o = 0 → nodeText x = opWord o from fun h0 => by rw [nodeText, ← ho, if_neg h0])
        obtain ⟨V, hV⟩ : ∃ V, V = wishText x.wish := ⟨_, rfl⟩
        rw [← hV] at HWI
        simp only [← hV] at cw
        have CW := Lib.hid cw
        have HW := Lib.hid hW
        have HWS := Lib.hid (show wr.heap.size + 1 = W.heap.size by rw [hW]; simp)
        clear hx hi1 hi2 hN1 hN2 ho hV cw hW hv h
        by_cases h0 : o = 0
        · have HTX := Lib.hid (HWI.out h0)
          subst h0
          clear HWI HWO hop
          go_wp2_with fail
          rw [← HW.out]
          refine (CW.out _ (Bw.refl W)).mono ?_
          rintro e' w5 ⟨rfl, hb5⟩
          have hbb := hbd.then hb5
          have hv5 := (fStrs_good (B := w.heap.size)).bw hb5 hbd.size hvd
          have hFm := (fStrs_good (B := 0)).lt hv5
          have hvW := (fStrs_good (B := w.heap.size)).bw ((Bw.refl w5).alloc (.cells #[.string V] 9)) hbb.size hv5
          have hbW := hbb.alloc (.cells #[.string V] 9)
          have hcl := cell_one_new w5 (.string V) 9
          have hbs := hbb.size
          clear hv5 hvd CW
          go_wp2_with (at_builtin; refine wpList_push _ rfl (.tmp 19) (.tmp 23) 58 rfl w 9 i0 _ 1 16 Tryz.underlying58 hi hz0 hz1 hz2 rfl (by omega) fStr_good _ (nodeList (e.take k)) F rfl hvW hF ⟨w5.heap.size, 0, none⟩ 1 rfl V [.string V] [] hcl ⟨rfl, rfl⟩ rfl w5.heap.size hFm Fresh.nil hbs (by have := HLEN.out; omega) (by have := HLEN.out; omega) hbW ?_; intro v' w' F' hv' hF' hb')
          go_roundg (n - (k + 1))
          case measure => omega
          case rel => exact ⟨k + 1, F', by omega, rfl, by go_num, by rw [HS.out, HTX.out]; exact hv', hF', hb'⟩
        · have HTX := Lib.hid (HWO.out h0)
          clear HWI HWO CW
          rcases (show o = 1 ∨ o = 2 ∨ o = 3 ∨ o = 4 by omega) with h1 | h1 | h1 | h1
          · subst h1
            clear h0 hop
            have hA1 : Bw W (W.alloc (.cells #[.string ⟨#[97, 110, 100]⟩, .string ⟨#[116, 104, 101, 110]⟩, .string ⟨#[110, 111, 116]⟩, .string ⟨#[98, 111, 116, 104]⟩] 9)) := (Bw.refl W).alloc _
            have hbb := hbd.then hA1
            have hv5 := (fStrs_good (B := w.heap.size)).bw hA1 hbd.size hvd
            have hFm := (fStrs_good (B := 0)).lt hv5
            have hA2 := (Bw.refl (W.alloc (.cells #[.string ⟨#[97, 110, 100]⟩, .string ⟨#[116, 104, 101, 110]⟩, .string ⟨#[110, 111, 116]⟩, .string ⟨#[98, 111, 116, 104]⟩] 9))).alloc (.cells #[.string ⟨#[97, 110, 100]⟩] 9)
            have hvW := (fStrs_good (B := w.heap.size)).bw hA2 hbb.size hv5
            have hbW := hbb.then hA2
            have hcl := cell_one_new (W.alloc (.cells #[.string ⟨#[97, 110, 100]⟩, .string ⟨#[116, 104, 101, 110]⟩, .string ⟨#[110, 111, 116]⟩, .string ⟨#[98, 111, 116, 104]⟩] 9)) (.string ⟨#[97, 110, 100]⟩) 9
            have hbs := hbb.size
            have HWW := Lib.hid (show opWord 1 = ⟨#[97, 110, 100]⟩ from rfl)
            clear hv5 hvd
            go_wp2_with (at_builtin; (try rw [← HW.out]); refine wpList_push _ rfl (.tmp 25) (.tmp 32) 58 rfl w 9 i0 _ 1 16 Tryz.underlying58 hi hz0 hz1 hz2 rfl (by omega) fStr_good _ (nodeList (e.take k)) F rfl hvW hF ⟨(W.alloc (.cells #[.string ⟨#[97, 110, 100]⟩, .string ⟨#[116, 104, 101, 110]⟩, .string ⟨#[110, 111, 116]⟩, .string ⟨#[98, 111, 116, 104]⟩] 9)).heap.size, 0, none⟩ 1 (by first | rfl | (go_simp; exact HWS.out)) ⟨#[97, 110, 100]⟩ [.string ⟨#[97, 110, 100]⟩] [] hcl ⟨rfl, rfl⟩ rfl _ hFm Fresh.nil hbs (by have := HLEN.out; omega) (by have := HLEN.out; omega) hbW ?_; intro v' w' F' hv' hF' hb')
            go_roundg (n - (k + 1))
            case measure => omega
            case rel => exact ⟨k + 1, F', by omega, rfl, by go_num, by rw [HS.out, HTX.out, HWW.out]; exact hv', hF', hb'⟩
          · subst h1
            clear h0 hop
            have hA1 : Bw W (W.alloc (.cells #[.string ⟨#[97, 110, 100]⟩, .string ⟨#[116, 104, 101, 110]⟩, .string ⟨#[110, 111, 116]⟩, .string ⟨#[98, 111, 116, 104]⟩] 9)) := (Bw.refl W).alloc _
            have hbb := hbd.then hA1
            have hv5 := (fStrs_good (B := w.heap.size)).bw hA1 hbd.size hvd
            have hFm := (fStrs_good (B := 0)).lt hv5
            have hA2 := (Bw.refl (W.alloc (.cells #[.string ⟨#[97, 110, 100]⟩, .string ⟨#[116, 104, 101, 110]⟩, .string ⟨#[110, 111, 116]⟩, .string ⟨#[98, 111, 116, 104]⟩] 9))).alloc (.cells #[.string ⟨#[116, 104, 101, 110]⟩] 9)
            have hvW := (fStrs_good (B := w.heap.size)).bw hA2 hbb.size hv5
            have hbW := hbb.then hA2
            have hcl := cell_one_new (W.alloc (.cells #[.string ⟨#[97, 110, 100]⟩, .string ⟨#[116, 104, 101, 110]⟩, .string ⟨#[110, 111, 116]⟩, .string ⟨#[98, 111, 116, 104]⟩] 9)) (.string ⟨#[116, 104, 101, 110]⟩) 9
            have hbs := hbb.size
            have HWW := Lib.hid (show opWord 2 = ⟨#[116, 104, 101, 110]⟩ from rfl)
            clear hv5 hvd
            go_wp2_with (at_builtin; (try rw [← HW.out]); refine wpList_push _ rfl (.tmp 25) (.tmp 32) 58 rfl w 9 i0 _ 1 16 Tryz.underlying58 hi hz0 hz1 hz2 rfl (by omega) fStr_good _ (nodeList (e.take k)) F rfl hvW hF ⟨(W.alloc (.cells #[.string ⟨#[97, 110, 100]⟩, .string ⟨#[116, 104, 101, 110]⟩, .string ⟨#[110, 111, 116]⟩, .string ⟨#[98, 111, 116, 104]⟩] 9)).heap.size, 0, none⟩ 1 (by first | rfl | (go_simp; exact HWS.out)) ⟨#[116, 104, 101, 110]⟩ [.string ⟨#[116, 104, 101, 110]⟩] [] hcl ⟨rfl, rfl⟩ rfl _ hFm Fresh.nil hbs (by have := HLEN.out; omega) (by have := HLEN.out; omega) hbW ?_; intro v' w' F' hv' hF' hb')
            go_roundg (n - (k + 1))
            case measure => omega
            case rel => exact ⟨k + 1, F', by omega, rfl, by go_num, by rw [HS.out, HTX.out, HWW.out]; exact hv', hF', hb'⟩
          · subst h1
            clear h0 hop
            have hA1 : Bw W (W.alloc (.cells #[.string ⟨#[97, 110, 100]⟩, .string ⟨#[116, 104, 101, 110]⟩, .string ⟨#[110, 111, 116]⟩, .string ⟨#[98, 111, 116, 104]⟩] 9)) := (Bw.refl W).alloc _
            have hbb := hbd.then hA1
            have hv5 := (fStrs_good (B := w.heap.size)).bw hA1 hbd.size hvd
            have hFm := (fStrs_good (B := 0)).lt hv5
            have hA2 := (Bw.refl (W.alloc (.cells #[.string ⟨#[97, 110, 100]⟩, .string ⟨#[116, 104, 101, 110]⟩, .string ⟨#[110, 111, 116]⟩, .string ⟨#[98, 111, 116, 104]⟩] 9))).alloc (.cells #[.string ⟨#[110, 111, 116]⟩] 9)
            have hvW := (fStrs_good (B := w.heap.size)).bw hA2 hbb.size hv5
            have hbW := hbb.then hA2
            have hcl := cell_one_new (W.alloc (.cells #[.string ⟨#[97, 110, 100]⟩, .string ⟨#[116, 104, 101, 110]⟩, .string ⟨#[110, 111, 116]⟩, .string ⟨#[98, 111, 116, 104]⟩] 9)) (.string ⟨#[110, 111, 116]⟩) 9
            have hbs := hbb.size
            have HWW := Lib.hid (show opWord 3 = ⟨#[110, 111, 116]⟩ from rfl)
            clear hv5 hvd
            go_wp2_with (at_builtin; (try rw [← HW.out]); refine wpList_push _ rfl (.tmp 25) (.tmp 32) 58 rfl w 9 i0 _ 1 16 Tryz.underlying58 hi hz0 hz1 hz2 rfl (by omega) fStr_good _ (nodeList (e.take k)) F rfl hvW hF ⟨(W.alloc (.cells #[.string ⟨#[97, 110, 100]⟩, .string ⟨#[116, 104, 101, 110]⟩, .string ⟨#[110, 111, 116]⟩, .string ⟨#[98, 111, 116, 104]⟩] 9)).heap.size, 0, none⟩ 1 (by first | rfl | (go_simp; exact HWS.out)) ⟨#[110, 111, 116]⟩ [.string ⟨#[110, 111, 116]⟩] [] hcl ⟨rfl, rfl⟩ rfl _ hFm Fresh.nil hbs (by have := HLEN.out; omega) (by have := HLEN.out; omega) hbW ?_; intro v' w' F' hv' hF' hb')
            go_roundg (n - (k + 1))
            case measure => omega
            case rel => exact ⟨k + 1, F', by omega, rfl, by go_num, by rw [HS.out, HTX.out, HWW.out]; exact hv', hF', hb'⟩
          · subst h1
            clear h0 hop
            have hA1 : Bw W (W.alloc (.cells #[.string ⟨#[97, 110, 100]⟩, .string ⟨#[116, 104, 101, 110]⟩, .string ⟨#[110, 111, 116]⟩, .string ⟨#[98, 111, 116, 104]⟩] 9)) := (Bw.refl W).alloc _
            have hbb := hbd.then hA1
            have hv5 := (fStrs_good (B := w.heap.size)).bw hA1 hbd.size hvd
            have hFm := (fStrs_good (B := 0)).lt hv5
            have hA2 := (Bw.refl (W.alloc (.cells #[.string ⟨#[97, 110, 100]⟩, .string ⟨#[116, 104, 101, 110]⟩, .string ⟨#[110, 111, 116]⟩, .string ⟨#[98, 111, 116, 104]⟩] 9))).alloc (.cells #[.string ⟨#[98, 111, 116, 104]⟩] 9)
            have hvW := (fStrs_good (B := w.heap.size)).bw hA2 hbb.size hv5
            have hbW := hbb.then hA2
            have hcl := cell_one_new (W.alloc (.cells #[.string ⟨#[97, 110, 100]⟩, .string ⟨#[116, 104, 101, 110]⟩, .string ⟨#[110, 111, 116]⟩, .string ⟨#[98, 111, 116, 104]⟩] 9)) (.string ⟨#[98, 111, 116, 104]⟩) 9
            have hbs := hbb.size
            have HWW := Lib.hid (show opWord 4 = ⟨#[98, 111, 116, 104]⟩ from rfl)
            clear hv5 hvd
            go_wp2_with (at_builtin; (try rw [← HW.out]); refine wpList_push _ rfl (.tmp 25) (.tmp 32) 58 rfl w 9 i0 _ 1 16 Tryz.underlying58 hi hz0 hz1 hz2 rfl (by omega) fStr_good _ (nodeList (e.take k)) F rfl hvW hF ⟨(W.alloc (.cells #[.string ⟨#[97, 110, 100]⟩, .string ⟨#[116, 104, 101, 110]⟩, .string ⟨#[110, 111, 116]⟩, .string ⟨#[98, 111, 116, 104]⟩] 9)).heap.size, 0, none⟩ 1 (by first | rfl | (go_simp; exact HWS.out)) ⟨#[98, 111, 116, 104]⟩ [.string ⟨#[98, 111, 116, 104]⟩] [] hcl ⟨rfl, rfl⟩ rfl _ hFm Fresh.nil hbs (by have := HLEN.out; omega) (by have := HLEN.out; omega) hbW ?_; intro v' w' F' hv' hF' hb')
            go_roundg (n - (k + 1))
            case measure => omega
            case rel => exact ⟨k + 1, F', by omega, rfl, by go_num, by rw [HS.out, HTX.out, HWW.out]; exact hv', hF', hb'⟩
      · obtain rfl : k = n := by omega
        rw [List.take_of_length_le (by rw [← L.out]; exact Nat.le_refl _)] at hv
        have hsz := nodeList_gl e
        rw [← L.out] at hsz
        go_wp2_with fail
        refine (I_glued _ (nodeList e) ⟨#[59, 32]⟩ _ (fStrs_Rd hv) (by omega) (by show 2 ≤ 1024; omega)).mono ?_
        rintro e' w3 ⟨rfl, hb3⟩
        go_wp2
        go_ret
        exact Ret.str (by rw [HF.out]) (hb.then hb3)
  · have HF := Lib.hid (show T = ⟨#[]⟩ by rw [HT.out, exprText, e1]; rfl)
    rw [e1]
    clear e1
    go_wp2
    go_ret
    exact Ret.str (by rw [HF.out]) (hb1)
set_option maxHeartbeats 400000 in
theorem S_l5Word (w : World) (k : Int) (h : 1 ≤ k ∧ k ≤ 4) : Calls Tryz.prog 144 #[.int .i64 k] w (Ret w (.string (opWord k))) := by
  rcases (show k = 1 ∨ k = 2 ∨ k = 3 ∨ k = 4 by omega) with rfl | rfl | rfl | rfl
  all_goals
    clear h
    go_enter Tryz.func144, Tryz.ntmps144
    go_wp2
    go_ret
    exact Ret.str rfl (Bw.refl _)
set_option maxRecDepth 100000 in
set_option maxHeartbeats 6400000 in
theorem S_FormatExpression (w : World) (e : List GNode) (v : Value) (h : Rd rNodes w e [v]) : Calls Tryz.prog 61 #[v] w (Ret w (.string (exprText e))) := by
  obtain ⟨T, hT⟩ : ∃ T, T = exprText e := ⟨_, rfl⟩
  rw [← hT]
  have HT := Lib.hid hT
  clear hT
  obtain ⟨A, n, c, rfl, L0, Lc, Lm⟩ := rSl_open h
  unfold maxLen at Lm
  have L := Lib.hid L0
  clear L0
  go_enter Tryz.func61, Tryz.ntmps61
  go_wp2_with fail
  refine (S_IsExpression _ e _ h).mono ?_
  rintro e w1 ⟨rfl, hb1⟩
  rcases Bool.eq_false_or_eq_true (isExpr e) with e1 | e1
  · have E1 := Lib.hid e1
    rw [e1]
    clear e1
    have n9 : n ≤ 9 := by rw [L.out]; exact (expr_ops E1.out).1
    have HM := Lib.hid (expr_ops E1.out).2
    have HF := Lib.hid (show T = glued (nodeList e) ⟨#[59, 32]⟩ by rw [HT.out, exprText, if_pos E1.out])
    have HH := Lib.hid h
    clear HT h
    go_wp2
    go_loopg [3, 4] n (fun g s i w' => ∃ (k : Nat) (acc : ByteArray), k ≤ n ∧ g = n - k ∧ i = .int .i64 k ∧ s = .string acc ∧ Hid (glued (nodeList e) ⟨#[59, 32]⟩ = gl ⟨#[59, 32]⟩ k acc ((nodeList e).drop k)) ∧ acc.size ≤ 432 * k ∧ Bw w w')
    case atStart => exact ⟨0, _, by omega, rfl, rfl, rfl, rfl, Nat.zero_le _, hb1⟩
    case round =>
      clear hb1
      obtain ⟨k, acc, hk, rfl, rfl, rfl, HE, g1, hb⟩ := hrel
      have h := HH.out
      by_cases hlt : k < n
      · obtain ⟨x, hx⟩ := get_of_lt (xs := e) (k := k) (by have := L.out; omega)
        obtain ⟨ba, oa, Al, cl, Ap, cp, rfl, _, d0, d1, d2, d3, d4, d5, hi1, hi2⟩ := rNodes_at h hx
        replace d0 := hb.cell d0
        replace d1 := hb.cell d1
        replace d2 := hb.cell d2
        replace d3 := hb.cell d3
        replace d4 := hb.cell d4
        replace d5 := hb.cell d5
        have i1 : (0 : Int) ≤ (k : Int) := by omega
        have i2 : (k : Int) < (n : Int) := by omega
        have hop := HM.out x (List.mem_of_getElem? hx)
        have hz := nodeText_size x
        have HS := Lib.hid (gl_step (sep := ⟨#[59, 32]⟩) (acc := acc) (l := nodeList e) (k := k) (t := nodeText x) (by unfold nodeList; rw [List.getElem?_map, hx]; rfl))
        obtain ⟨N1, hN1⟩ : ∃ N1, N1 = x.wish.list.length := ⟨_, rfl⟩
        obtain ⟨N2, hN2⟩ : ∃ N2, N2 = x.wish.pairs.length := ⟨_, rfl⟩
        rw [← hN1] at d4 hi1
        rw [← hN2] at d5 hi2
        obtain ⟨o, ho⟩ : ∃ o, o = x.op := ⟨_, rfl⟩
        rw [← ho] at d0 hop
        obtain ⟨B, hBt⟩ : ∃ B, B = (if 0 < k then acc ++ ⟨#[59, 32]⟩ else acc) := ⟨_, rfl⟩
        obtain ⟨V, hV⟩ : ∃ V, V = nodeText x := ⟨_, rfl⟩
        have ec : (⟨#[59, 32]⟩ : ByteArray).size = 2 := rfl
        have hBs : B.size ≤ 432 * k + 2 := by rw [hBt]; split; (rw [size_append]; omega); omega
        have cw : o = 0 → ∀ W2, Bw wr W2 → Calls Tryz.prog 143 #[.agg #[.int .i64 x.wish.kind, .int .i64 x.wish.field, .int .i64 x.wish.value, .slice Al N1 cl, .slice Ap N2 cp]] W2 (Ret W2 (.string V)) := fun h0 W2 B2 => by
          rw [hV, nodeText, ← ho, if_pos h0]
          exact S_FormatWish W2 x.wish _ _ (Rd.bw rInts_good hi1 (hb.then B2)) (Rd.bw rPairs_good hi2 (hb.then B2))
        have co : ¬ o = 0 → ∀ W2, Calls Tryz.prog 144 #[.int .i64 o] W2 (Ret W2 (.string V)) := fun h0 W2 => by
          rw [hV, nodeText, ← ho, if_neg h0]
          exact S_l5Word W2 o (by omega)
        rw [← hV] at hz HS
        have b0 : ∀ W, (Op.stringOp .add acc ⟨#[59, 32]⟩).run Tryz.prog W = .ok (.string (acc ++ ⟨#[59, 32]⟩)) W := add_sum (by omega)
        have b1 : ∀ W, (Op.stringOp .add B V).run Tryz.prog W = .ok (.string (B ++ V)) W := add_sum (by omega)
        have HN := Lib.hid (show gl ⟨#[59, 32]⟩ k acc ((nodeList e).drop k) = gl ⟨#[59, 32]⟩ (k + 1) (B ++ V) ((nodeList e).drop (k + 1)) by rw [HS.out, hBt])
        have hNs : (B ++ V).size ≤ 432 * (k + 1) := by rw [size_append]; omega
        have CW := Lib.hid cw
        have CO := Lib.hid co
        clear hx hi1 hi2 hN1 hN2 ho hV cw co ec hBs g1 hz HS h hop
        by_cases hk0 : 0 < k
        · have k0 : (0 : Int) < (k : Int) := by omega
          rw [if_pos hk0] at hBt
          subst hBt
          clear hk0
          by_cases h0 : o = 0
          · have C := Lib.hid (CW.out h0)
            subst h0
            clear CW CO
            go_wp2_with fail
            refine (C.out _ (Bw.refl wr)).mono ?_
            rintro e' w5 ⟨rfl, hb5⟩
            have h := HH.out
            have hbz := hb.then hb5
            go_wp2
            go_roundg (n - (k + 1))
            case measure => omega
            case rel => exact ⟨k + 1, _, by omega, rfl, by go_num, rfl, by show _ = _; rw [HE.out, HN.out], hNs, hbz⟩
          · have C := Lib.hid (CO.out h0)
            have f0 : (o == 0) = false := by simpa using h0
            clear CW CO h0
            go_wp2_with fail
            refine (C.out _).mono ?_
            rintro e' w5 ⟨rfl, hb5⟩
            have h := HH.out
            have hbz := hb.then hb5
            go_wp2
            go_roundg (n - (k + 1))
            case measure => omega
            case rel => exact ⟨k + 1, _, by omega, rfl, by go_num, rfl, by show _ = _; rw [HE.out, HN.out], hNs, hbz⟩
        · have k0 : ¬ (0 : Int) < (k : Int) := by omega
          rw [if_neg hk0] at hBt
          subst hBt
          clear hk0
          by_cases h0 : o = 0
          · have C := Lib.hid (CW.out h0)
            subst h0
            clear CW CO
            go_wp2_with fail
            refine (C.out _ (Bw.refl wr)).mono ?_
            rintro e' w5 ⟨rfl, hb5⟩
            have h := HH.out
            have hbz := hb.then hb5
            go_wp2
            go_roundg (n - (k + 1))
            case measure => omega
            case rel => exact ⟨k + 1, _, by omega, rfl, by go_num, rfl, by show _ = _; rw [HE.out, HN.out], hNs, hbz⟩
          · have C := Lib.hid (CO.out h0)
            have f0 : (o == 0) = false := by simpa using h0
            clear CW CO h0
            go_wp2_with fail
            refine (C.out _).mono ?_
            rintro e' w5 ⟨rfl, hb5⟩
            have h := HH.out
            have hbz := hb.then hb5
            go_wp2
            go_roundg (n - (k + 1))
            case measure => omega
            case rel => exact ⟨k + 1, _, by omega, rfl, by go_num, rfl, by show _ = _; rw [HE.out, HN.out], hNs, hbz⟩
      · obtain rfl : k = n := by omega
        have HA := Lib.hid (show T = acc by rw [HF.out, HE.out, List.drop_of_length_le (by unfold nodeList; rw [List.length_map, ← L.out]; exact Nat.le_refl _)]; rfl)
        clear HE g1
        go_wp2
        go_ret
        exact Ret.str (by rw [HA.out]) (hb)
  · have HF := Lib.hid (show T = ⟨#[]⟩ by rw [HT.out, exprText, e1]; rfl)
    rw [e1]
    clear e1
    go_wp2
    go_ret
    exact Ret.str (by rw [HF.out]) (hb1)
end Go.Proofs.YtpihighajaeabaaGreat
