/- Layers of items in both programs. -/
import Derived.Test.YtfffklkiikmieaaGreatQItems
import Derived.Test.YtfffklkiikmieaaGreatQOrder
import Derived.Test.YtfffklkiikmieaaGreatQOnly
import Derived.Test.YtfffklkiikmieaaGreatQPareto
import Derived.Test.YtfffklkiikmieaaGreatQCopies
import Derived.Test.YtfffklkiikmieaaGreatQReach
namespace Go.Proofs.YtfffklkiikmieaaGreat
open Go.RowKit
set_option linter.unusedVariables false
theorem info_ints : (Tryz.prog.info? 41).map (fun i => (i.zero, i.size, i.bytes)) = some (some (.slice none 0 0), 1, 24) := by kernel_rfl
abbrev fIntss : Fp (List (List Int)) := fSl 41 1 fInts
theorem fIntss_good {B : Nat} : GoodF B fIntss := fSl_good fInts_good
theorem fIntss_rd {B : Nat} {w : World} {xs : List (List Int)} {cs : List Value} {F : List Nat} (h : fIntss w xs cs F) : rIntss w (fun b => b ∈ F ∨ b < B) xs cs := fSl_rd rInts_good (fun _ _ _ h => fInts_rd h) h
theorem fIntss_Rd {w : World} {xs : List (List Int)} {cs : List Value} {F : List Nat} (h : fIntss w xs cs F) : Rd rIntss w xs cs := Rd.of rIntss_good (B := 0) (fIntss_rd h) ((fIntss_good (B := 0)).lt h) (Nat.zero_le _)
def totIntss (xs : List (List Int)) : Nat := xs.length + sumL (fun x => x.length) xs
set_option maxRecDepth 100000 in
set_option maxHeartbeats 800000 in
theorem L_eqIntSS (w : World) (xs ys : List (List Int)) (v1 v2 : Value) (h1 : Rd rIntss w xs [v1]) (h2 : Rd rIntss w ys [v2]) :
    Calls Tryz.prog 13 #[v1, v2] w (Ret w (.bool (decide (xs = ys)))) := by
  obtain ⟨A1, n1, c1, rfl, a1, a2, a3⟩ := rSl_open h1
  obtain ⟨A2, n2, c2, rfl, b1, b2, b3⟩ := rSl_open h2
  unfold maxLen at a3 b3
  have L1 := Lib.hid a1
  have L2 := Lib.hid b1
  clear a1 b1
  by_cases hl : n1 = n2
  · subst hl
    go_enter Tryz.func13, Tryz.ntmps13
    go_wp2
    go_loopw [5] (fun i w' => ∃ k : Nat, k ≤ n1 ∧ i = .int .i64 k ∧ xs.take k = ys.take k ∧ Bw w w') (fun i _ => n1 - (intOf i).toNat)
    case atStart => exact ⟨0, by omega, rfl, by simp, Bw.refl _⟩
    case round =>
      obtain ⟨k, hk, rfl, he, hb⟩ := hrel
      have HE := Lib.hid he
      clear he
      by_cases hlt : k < n1
      · obtain ⟨x, hx⟩ := get_of_lt (xs := xs) (k := k) (by rw [← L1.out]; exact hlt)
        obtain ⟨y, hy⟩ := get_of_lt (xs := ys) (k := k) (by rw [← L2.out]; exact hlt)
        obtain ⟨ba, oa, Ax, cx, rfl, _, hcx, hix⟩ := rIntss_at (h1.bw rIntss_good hb) hx
        obtain ⟨bb, ob, Ay, cy, rfl, _, hcy, hiy⟩ := rIntss_at (h2.bw rIntss_good hb) hy
        have HX := Lib.hid hx
        have HY := Lib.hid hy
        clear hx hy h1 h2
        go_wp2_with fail
        go_still_tail 8, (by kernel_rfl)
        change wpList _ _ _ _ _ wr.drew
        have hix' : Rd rInts wr.drew x [.slice Ax x.length cx] := hix
        have hiy' : Rd rInts wr.drew y [.slice Ay y.length cy] := hiy
        clear hix hiy
        go_wp2_with fail
        refine (L_eqIntS _ x y _ _ hix' hiy').mono ?_
        rintro e w2 ⟨rfl, hb2⟩
        have hbb : Bw w w2 := hb.drew.then hb2
        by_cases hxy : x = y
        · have HD : decide (x = y) = true := by simpa using hxy
          have HXY := Lib.hid hxy
          clear hxy
          go_wp2
          go_roundw
          case rel => exact ⟨k + 1, by omega, by go_num, take_step HE.out HX.out HY.out HXY.out, hbb⟩
          case measure => simp [intOf]; omega
        · have HD : decide (x = y) = false := by simpa using hxy
          go_wp2
          go_ret
          exact Ret.bool (by simpa using ne_of_at HX.out HY.out hxy) hbb
      · go_wp2
        go_ret
        exact Ret.bool (by simpa using eq_of_take HE.out (by rw [← L1.out]; omega) (by rw [← L2.out]; omega)) hb
  · go_enter Tryz.func13, Tryz.ntmps13
    go_wp2
    go_ret
    exact Ret.bool (by simp; intro e; exact hl (by rw [L1.out, L2.out, e])) (Bw.refl _)
end Go.Proofs.YtfffklkiikmieaaGreat

namespace Go.Proofs.YtfffklkiikmieaaGreat
open Go.RowKit
set_option linter.unusedVariables false

/-- what is left behind the best -/
def restM (l : List GItem) (e : List GNode) : List GItem := onlyM l (bestM l e) false
def layersF (e : List GNode) : Nat → List GItem → List (List Int)
  | 0, _ => []
  | n + 1, l => if l.length = 0 then [] else bestM l e :: layersF e n (restM l e)
theorem rest_lt {l : List GItem} {e : List GNode} (hE : isExpr e = true) (hl : ¬ l.length = 0) (hi : ∀ x ∈ l, isItem x = true) : (restM l e).length < l.length := by
  have hb := best_pos hE (fun h => hl (by rw [h]; rfl)) hi
  obtain ⟨b, hb⟩ := List.exists_mem_of_ne_nil _ hb
  obtain ⟨x, hx, rfl⟩ := List.mem_map.1 (show b ∈ (l.filter (freeIn l e)).map (·.id) from hb)
  have hxl := (List.mem_filter.1 hx).1
  rcases Nat.lt_or_ge (restM l e).length l.length with h | h
  · exact h
  · exfalso
    have h2 : (restM l e).length = l.length := Nat.le_antisymm (List.length_filter_le _ _) h
    have := List.length_filter_eq_length_iff.1 h2 x hxl
    simp only [beq_iff_eq] at this
    rw [List.contains_iff_mem.2 hb] at this
    cases this
theorem rest_items {l : List GItem} {e : List GNode} (h : areItems l = true) : areItems (restM l e) = true := areItems_filter _ h
theorem layersF_fuel {e : List GNode} (hE : isExpr e = true) : ∀ (n m : Nat) (l : List GItem), areItems l = true → l.length ≤ n → l.length ≤ m → layersF e n l = layersF e m l
  | 0, 0, l, _, _, _ => rfl
  | 0, m + 1, l, _, h, _ => by simp only [layersF]; rw [if_pos (by omega)]
  | n + 1, 0, l, _, _, h => by simp only [layersF]; rw [if_pos (by omega)]
  | n + 1, m + 1, l, hi, h1, h2 => by
    simp only [layersF]
    by_cases hl : l.length = 0
    · rw [if_pos hl, if_pos hl]
    · rw [if_neg hl, if_neg hl]
      have := rest_lt hE hl (fun x hx => areItems_mem hi hx)
      rw [layersF_fuel hE n m _ (rest_items hi) (by omega) (by omega)]
def layersOf (l : List GItem) (e : List GNode) : List (List Int) := layersF e l.length l
theorem layersOf_nil {l : List GItem} {e : List GNode} (h : l.length = 0) : layersOf l e = [] := by unfold layersOf; rw [h]; rfl
theorem layersOf_cons {l : List GItem} {e : List GNode} (hE : isExpr e = true) (hi : areItems l = true) (h : ¬ l.length = 0) : layersOf l e = bestM l e :: layersOf (restM l e) e := by
  unfold layersOf
  obtain ⟨n, hn⟩ : ∃ n, l.length = n + 1 := ⟨l.length - 1, by omega⟩
  have := rest_lt hE h (fun x hx => areItems_mem hi hx)
  rw [hn]
  simp only [layersF]
  rw [if_neg h, layersF_fuel hE n (restM l e).length _ (rest_items hi) (by omega) (Nat.le_refl _)]
theorem layersF_len {e : List GNode} : ∀ (n : Nat) (l : List GItem), (layersF e n l).length ≤ n
  | 0, _ => Nat.le_refl _
  | n + 1, l => by
    simp only [layersF]
    split
    · simp
    · have := layersF_len (e := e) n (restM l e)
      simp only [List.length_cons]; omega
theorem layersF_mem {e : List GNode} : ∀ (n : Nat) (l : List GItem) (b : List Int), b ∈ layersF e n l → b.length ≤ l.length
  | 0, _, _, h => by simp [layersF] at h
  | n + 1, l, b, h => by
    simp only [layersF] at h
    split at h
    · simp at h
    · rcases List.mem_cons.1 h with rfl | h
      · exact bestM_len l e
      · exact Nat.le_trans (layersF_mem n _ b h) (List.length_filter_le _ _)
def layersM (l : List GItem) (e : List GNode) : List (List Int) := if areBoth l e then layersOf l e else []
theorem layersM_len (l : List GItem) (e : List GNode) : (layersM l e).length ≤ 16 := by
  unfold layersM; split
  · rename_i h
    have := areItems_len (areBoth_items h)
    have := layersF_len (e := e) l.length l
    unfold layersOf; omega
  · simp
theorem layersM_mem {l : List GItem} {e : List GNode} {b : List Int} (h : b ∈ layersM l e) : b.length ≤ 16 := by
  unfold layersM at h; split at h
  · rename_i h2
    have := areItems_len (areBoth_items h2)
    have := layersF_mem l.length l b h
    omega
  · simp at h
end Go.Proofs.YtfffklkiikmieaaGreat

namespace Go.Proofs.YtfffklkiikmieaaGreat
open Go.RowKit
set_option linter.unusedVariables false
set_option linter.unusedSimpArgs false
theorem info_row : (Tryz.prog.info? 41).map (fun i => (i.zero, i.size, i.bytes)) = some (some (.slice none 0 0), 1, 24) := by kernel_rfl
theorem rItems_keep {w w' : World} {S : Blocks} {xs : List GItem} {cs : List Value} (h : rItems w S xs cs) (hk : ∀ b, S b → w'.heap[b]? = w.heap[b]?) : rItems w' S xs cs :=
  rItems_good.step ⟨fun _ h => h, fun p hp => World.cell?_of_block (hk _ hp)⟩ h
theorem rItems_Rd {w : World} {S : Blocks} {xs : List GItem} {cs : List Value} (h : rItems w S xs cs) (hS : ∀ b, S b → b < w.heap.size) : Rd rItems w xs cs :=
  rItems_good.step ⟨hS, fun _ _ => rfl⟩ h
set_option maxRecDepth 100000 in
set_option maxHeartbeats 3200000 in
theorem S_l10Without (w : World) (l : List GItem) (ids : List Int) (v u : Value) (h : Rd rItems w l [v]) (h' : Rd rInts w ids [u]) (hn : l.length ≤ 1048576) (hnn : ∀ x ∈ l, x.vals.length ≤ 1048576) :
    Calls Tryz.prog 54 #[v, u] w (RetV w (Made fItems w.heap.size (onlyM l ids false))) := by
  obtain ⟨i0, hi, hz0, hz1, hz2⟩ := info_parts info_Item
  obtain ⟨A, n, c, rfl, L0, Lc, Lm⟩ := rSl_open h
  unfold maxLen at Lm
  have L := Lib.hid L0
  clear L0
  rw [← L.out] at hn
  have hv0 := fSl_empty (e := 58) (sz := 2) (R := fItem) w
  have HNN := Lib.hid hnn
  clear hnn
  go_enter Tryz.func54, Tryz.ntmps54
  go_wp2
  go_loopw [5, 6] (fun s i w' => ∃ (k : Nat) (F : List Nat), k ≤ n ∧ i = .int .i64 k ∧ fItems w' (onlyTo l ids false k) [s] F ∧ Fresh w.heap.size F ∧ Bw w w') (fun s i _ => n - (intOf i).toNat)
  case atStart => exact ⟨0, _, by omega, rfl, hv0, ⟨by simp, by simp⟩, (Bw.refl _).alloc _⟩
  case round =>
    clear hv0
    obtain ⟨k, F, hk, rfl, hv, hF, hb⟩ := hrel
    by_cases hlt : k < n
    · obtain ⟨x, hx⟩ := get_of_lt (xs := l) (k := k) (by have := L.out; omega)
      have hxm := HNN.out x (List.mem_of_getElem? hx)
      obtain ⟨ba, oa, A', c', rfl, _, hc0, hc1, hin⟩ := rItems_at h hx
      have hcx := hb.cell hc0
      have hcx1 := hb.cell hc1
      have HYES := Lib.hid (fun hc => onlyTo_yes (ids := ids) (b := false) hx hc)
      have HNO := Lib.hid (fun hc => onlyTo_no (ids := ids) (b := false) hx hc)
      have HLEN := Lib.hid (onlyTo_len (l := l) (ids := ids) (b := false) (k := k))
      have i1 : (0 : Int) ≤ (k : Int) := by omega
      have i2 : (k : Int) < (n : Int) := by omega
      have HH := Lib.hid h
      have HIN := Lib.hid hin
      have HC0 := Lib.hid hc0
      have HC1 := Lib.hid hc1
      clear hx h hin hc0 hc1
      go_wp2_with fail
      refine (S_l2Has _ ids x.id _ (h'.bw rInts_good hb)).mono ?_
      rintro e w2 ⟨rfl, hb2⟩
      have hb2w := hb.then hb2
      replace hcx := hb2.cell hcx
      replace hcx1 := hb2.cell hcx1
      have hv2 := (fItems_good (B := w.heap.size)).bw hb2 hb.size hv
      rcases Bool.eq_false_or_eq_true (ids.contains x.id) with e1 | e1
      · have HB := Lib.hid (HNO.out (by rw [e1]; rfl))
        rw [e1]
        clear e1 hv
        have h := HH.out
        go_wp2
        go_roundw
        case rel => exact ⟨k + 1, F, by omega, by go_num, by rw [HB.out]; exact hv2, hF, hb2w⟩
        case measure => simp [intOf]; omega
      · have HB := Lib.hid (HYES.out e1)
        rw [e1]
        clear e1 hv
        have hin' : Rd rInts w2.drew x.vals [.slice A' x.vals.length c'] := Rd.bw rInts_good HIN.out hb2w.drew
        have D1 : Bw w2 w2.drew := (Bw.refl w2).drew
        have hFm := (fItems_good (B := 0)).lt hv2
        have hb2s := hb2w.size
        go_wp2_with fail
        go_region_held3 (fun w' => w'.cell? ⟨ba, oa + k * 2, none⟩ = some (.int .i64 x.id) ∧ w'.cell? ⟨ba, oa + k * 2 + 1, none⟩ = some (.slice A' x.vals.length c')) (first | go_keep | exact ⟨hcx, hcx1⟩ | exact ⟨hAl.cell hcx, hAl.cell hcx1⟩ | exact ⟨hb'.cell HC0.out, hb'.cell HC1.out⟩ | fail)
          (first
            | (go_at_call 100; refine (S_l2One _ x _ hin' hxm).mono ?_; rintro e w1 ⟨v1, rfl, ⟨F1, o1, f1⟩, hb1⟩; obtain ⟨Av, cv, rfl, _⟩ := rSl_shape (fInts_Rd o1); replace hcx := hb1.cell hcx; replace hcx1 := hb1.cell hcx1; have hb1' := D1.then hb1; have hbb := hb2w.then hb1'; have hv1 := (fItems_good (B := w.heap.size)).bw hb1' hb2w.size hv2; have hAl := (Bw.refl w1).alloc (.cells #[.int .i64 x.id, .slice Av x.vals.length cv] 58); have hvW := (fItems_good (B := w.heap.size)).bw hAl hbb.size hv1; have oW := (fInts_good (B := w.heap.size)).bw hAl hbb.size o1; have hbW := hbb.then hAl; have f1' : Fresh w2.heap.size F1 := f1.mono (by simp); have hcl : ∀ j t, [Value.int .i64 x.id, .slice Av x.vals.length cv][j]? = some t → (w1.alloc (.cells #[.int .i64 x.id, .slice Av x.vals.length cv] 58)).cell? ((⟨w1.heap.size, 0, none⟩ : Addr).add j) = some t := World.news_of_block (cs := #[.int .i64 x.id, .slice Av x.vals.length cv]) (t := 58) (fr := (0, 0)) (heap_alloc_new w1 _))
            | (refine step_push _ (by rfl) (.tmp 22) (.tmp 34) 29 (by rfl) w 58 i0 _ 2 32 Tryz.underlying29 hi hz0 hz1 hz2 rfl (by omega) fItem_good _ (onlyTo l ids false k) F (by rfl) hvW hF ⟨w1.heap.size, 0, none⟩ 1 (by rfl) x [.int .i64 x.id, .slice Av x.vals.length cv] F1 hcl ⟨_, rfl, oW⟩ rfl w2.heap.size hFm f1' hb2s (by have := HLEN.out; omega) (by have := HLEN.out; omega) hbW ?_; intro v' w' F' hv' hF' hb')
            | fail)
        have h := HH.out
        go_wp2
        go_roundw
        case rel => exact ⟨k + 1, F', by omega, by go_num, by rw [HB.out]; exact hv', hF', hb'⟩
        case measure => simp [intOf]; omega
    · obtain rfl : k = n := by omega
      rw [onlyTo_end (by rw [← L.out]; exact Nat.le_refl _)] at hv
      go_wp2
      go_ret
      exact ⟨_, rfl, ⟨F, hv, hF⟩, hb⟩
theorem layers_small {l : List GItem} (h : areItems l = true) : l.length ≤ 1048576 ∧ ∀ x ∈ l, x.vals.length ≤ 1048576 :=
  ⟨by have := areItems_len h; omega, fun x hx => by rw [isItem_len (areItems_mem h hx)]; omega⟩
end Go.Proofs.YtfffklkiikmieaaGreat
