/- Parts of lists of items, in the program and in the reference. -/
import Derived.Test.YtpihighajaeabaaGreatQStandS
import Derived.Test.YtpihighajaeabaaGreatQInsS
import Derived.Deep.RegionLaw
import Derived.Test.YtpihighajaeabaaGreatQInsS2
import Derived.Test.YtpihighajaeabaaGreatQCompI
import Derived.Test.YtpihighajaeabaaGreatQChangeM
import Derived.Test.YtpihighajaeabaaGreatQBestI
namespace Go.Proofs.YtpihighajaeabaaGreat
open Go.RowKit
set_option linter.unusedVariables false
set_option linter.unusedSimpArgs false
/-- an item's two cells -/
abbrev IC : Type := { q : Int × Value // 0 ≤ q.1 ∧ q.1 ≤ 99 ∧ q.2.oneCell' = true }
instance : Inhabited IC := ⟨⟨(0, .int .i64 0), by decide, by decide, rfl⟩⟩
end Go.Proofs.YtpihighajaeabaaGreat

namespace Go.Proofs.YtpihighajaeabaaGreat
open Go.RowKit
set_option linter.unusedVariables false
set_option linter.unusedSimpArgs false
end Go.Proofs.YtpihighajaeabaaGreat

namespace Go.Proofs.YtpihighajaeabaaGreat
open Go.RowKit
set_option linter.unusedVariables false
set_option linter.unusedSimpArgs false
end Go.Proofs.YtpihighajaeabaaGreat

namespace Go.Proofs.YtpihighajaeabaaGreat
open Go.RowKit
set_option linter.unusedVariables false
theorem S_InsertItem (w : World) (s : GStanding) (x : GItem) (va vb vc u : Value) (ha : Rd rItems w s.items [va]) (hb : Rd rNodes w s.wanted [vb]) (hc : Rd rInts w s.best [vc]) (hx : Rd rInts w x.vals [u]) (t1 : totItems s.items ≤ 1048576) (t2 : totNodes s.wanted ≤ 1048576) (t3 : s.best.length ≤ 1048576) :
    Calls Tryz.prog 12 #[.agg #[va, vb, vc, .int .i64 s.tests], .agg #[.int .i64 x.id, u]] w (RetV w (TwoA fStanding w.heap.size (insM s x) (.bool (insOk s x)))) := by
  cases h : insOk s x with
  | true => rw [show insM s x = insertS s x by unfold insM; rw [h]; rfl]; exact S_InsertItem_yes w s x va vb vc u ha hb hc hx t1 t2 t3 h
  | false => rw [show insM s x = s by unfold insM; rw [h]; rfl]; exact S_InsertItem_no w s x va vb vc u ha hb hc hx t1 t2 t3 h
theorem sum_const {α : Type} (f : α → Nat) (n : Nat) : ∀ {l : List α}, (∀ x ∈ l, f x = n) → sumL f l = l.length * n
  | [], _ => by simp [sumL]
  | a :: l, h => by
    have h1 := sum_const f n (l := l) (fun x hx => h x (by simp [hx]))
    have h2 := h a (by simp)
    simp only [sumL, List.length_cons, h1, h2, Nat.succ_mul]; omega
theorem put_small {l : List GItem} {x : GItem} (hl : ∀ y ∈ l, isItem y = true) (hx : isItem x = true) (hn : l.length < 16) : totItems (putM l x) ≤ 1048576 := by
  have h1 : ∀ y ∈ putM l x, y.vals.length = 3 := fun y hy => isItem_len ((putM_mem hy).elim (hl y) (fun e => by rw [e]; exact hx))
  have h2 := sum_const (fun y : GItem => y.vals.length) 3 h1
  have h3 := putM_len l x
  unfold totItems
  rw [h2, h3]; omega
theorem insM_small {s : GStanding} {x : GItem} (h : smallSt s) : smallSt (insM s x) := by
  unfold insM
  split
  · rename_i hok
    obtain ⟨E1, E2, _, h16, _⟩ := insOk_parts hok
    have hI := areBoth_items (stand_both E1).1
    have hl := stand_best_len E1
    refine ⟨put_small (fun y hy => areItems_mem hI hy) E2 h16, h.2.1, ?_⟩
    unfold insertS
    dsimp only
    split
    · omega
    · have := keptTo_len s x s.best.length
      rw [sortI_len, List.length_append, List.length_singleton]; omega
  · exact h
end Go.Proofs.YtpihighajaeabaaGreat

namespace Go.Proofs.YtpihighajaeabaaGreat
open Go.RowKit
set_option linter.unusedVariables false
def delOk (s : GStanding) (id : Int) : Bool := isStand s && (decide (0 ≤ findIdx s.items id) && decide (s.tests ≤ 999900))
def delLeft (s : GStanding) (id : Int) : List Int := s.best.filter fun b => !decide (b = id)
def delLeftTo (s : GStanding) (id : Int) (k : Nat) : List Int := (s.best.take k).filter fun b => !decide (b = id)
def delNew (s : GStanding) (id : Int) : List Int := bestM (onlyM s.items (exclM s id) true) s.wanted
def delS (s : GStanding) (id : Int) : GStanding := if s.best.contains id then ⟨onlyM s.items [id] false, s.wanted, sortI (delLeft s id ++ delNew s id), s.tests + ((exclM s id).length : Int)⟩ else ⟨onlyM s.items [id] false, s.wanted, s.best, s.tests⟩
def delM (s : GStanding) (id : Int) : GStanding := if delOk s id then delS s id else s
theorem delOk_parts {s : GStanding} {id : Int} (h : delOk s id = true) : isStand s = true ∧ 0 ≤ findIdx s.items id ∧ s.tests ≤ 999900 := by
  unfold delOk at h
  simp only [Bool.and_eq_true, decide_eq_true_iff] at h
  exact h
theorem delLeftTo_yes {s : GStanding} {id b : Int} {k : Nat} (h : s.best[k]? = some b) (hb : b ≠ id) : delLeftTo s id (k + 1) = delLeftTo s id k ++ [b] := by
  unfold delLeftTo; rw [List.take_add_one, h, List.filter_append]; simp [hb]
theorem delLeftTo_no {s : GStanding} {id b : Int} {k : Nat} (h : s.best[k]? = some b) (hb : b = id) : delLeftTo s id (k + 1) = delLeftTo s id k := by
  unfold delLeftTo; rw [List.take_add_one, h, List.filter_append]; simp [hb]
theorem delLeftTo_end {s : GStanding} {id : Int} {k : Nat} (h : s.best.length ≤ k) : delLeftTo s id k = delLeft s id := by unfold delLeftTo delLeft; rw [List.take_of_length_le h]
theorem delLeftTo_len (s : GStanding) (id : Int) (k : Nat) : (delLeftTo s id k).length ≤ s.best.length := Nat.le_trans (List.length_filter_le _ _) (by rw [List.length_take]; exact Nat.min_le_right _ _)
theorem delLeft_len (s : GStanding) (id : Int) : (delLeft s id).length ≤ s.best.length := List.length_filter_le _ _
/-- the items of the ids -/
def pickTo (l : List GItem) (X : List Int) (k : Nat) : List GItem := (X.take k).map (itemAt l)
theorem pickTo_succ {l : List GItem} {X : List Int} {k : Nat} {d : Int} (h : X[k]? = some d) : pickTo l X (k + 1) = pickTo l X k ++ [itemAt l d] := by
  unfold pickTo; rw [List.take_add_one, h, List.map_append]; rfl
theorem pickTo_len (l : List GItem) (X : List Int) (k : Nat) : (pickTo l X k).length ≤ X.length := by unfold pickTo; rw [List.length_map, List.length_take]; omega
theorem ids_sorted {l : List GItem} (h : areItems l = true) : (l.map (·.id)).Pairwise (· < ·) := List.pairwise_map.2 (items_sorted h)
theorem same_id {l : List GItem} (h : areItems l = true) {x y : GItem} (hx : x ∈ l) (hy : y ∈ l) (e : x.id = y.id) : x = y := by rw [← itemAt_mem h hx, ← itemAt_mem h hy, e]
theorem idsOf_pick {l : List GItem} (h : areItems l = true) (f : GItem → Bool) : (idsOf f l).map (itemAt l) = l.filter f := by
  unfold idsOf
  rw [List.map_map]
  exact (List.map_congr_left (fun x hx => itemAt_mem h (List.mem_filter.1 hx).1)).trans (List.map_id _)
theorem idsOf_only {l : List GItem} (h : areItems l = true) (f : GItem → Bool) : onlyM l (idsOf f l) true = l.filter f := by
  unfold onlyM
  refine List.filter_congr (fun x hx => ?_)
  unfold idsOf
  cases hf : f x with
  | true =>
    have h1 : ((l.filter f).map (·.id)).contains x.id = true := List.contains_iff_mem.2 (List.mem_map.2 ⟨x, List.mem_filter.2 ⟨hx, hf⟩, rfl⟩)
    rw [h1]; rfl
  | false =>
    have h1 : ((l.filter f).map (·.id)).contains x.id = false := by
      rw [← Bool.not_eq_true]
      intro hc
      obtain ⟨y, hy, e⟩ := List.mem_map.1 (List.contains_iff_mem.1 hc)
      obtain ⟨hy1, hy2⟩ := List.mem_filter.1 hy
      rw [same_id h hy1 hx e] at hy2
      rw [hf] at hy2; cases hy2
    rw [h1]; rfl
theorem excl_pick {s : GStanding} (h : areItems s.items = true) (id : Int) : (exclM s id).map (itemAt s.items) = onlyM s.items (exclM s id) true := by
  unfold exclM
  split
  · rw [idsOf_pick h, idsOf_only h]
  · unfold onlyM; symm; rw [List.map_nil, List.filter_eq_nil_iff]; intro x hx; simp
theorem pickTo_end {s : GStanding} (h : areItems s.items = true) {id : Int} {k : Nat} (hk : (exclM s id).length ≤ k) : pickTo s.items (exclM s id) k = onlyM s.items (exclM s id) true := by
  unfold pickTo; rw [List.take_of_length_le hk, excl_pick h]
theorem best_nodup {s : GStanding} (h : isStand s = true) : s.best.Nodup := by
  obtain ⟨h1, h2⟩ := stand_both h
  rw [h2]
  unfold bestM
  have h3 := ids_sorted (areBoth_items h1)
  have h4 : ((s.items.filter (freeIn s.items s.wanted)).map (·.id)).Pairwise (· < ·) := h3.sublist ((List.filter_sublist).map _)
  exact h4.imp (fun h => by omega)
theorem onlyM_sub {l : List GItem} (ids : List Int) (b : Bool) : (onlyM l ids b).Sublist l := List.filter_sublist
theorem onlyM_items {l : List GItem} (h : areItems l = true) (ids : List Int) (b : Bool) : areItems (onlyM l ids b) = true :=
  areItems_of (fun x hx => areItems_mem h ((onlyM_sub ids b).subset hx)) ((items_sorted h).sublist (onlyM_sub ids b)) (Nat.le_trans (onlyM_len l ids b) (areItems_len h))
theorem delNew_len {s : GStanding} (h : areItems s.items = true) (id : Int) : (delNew s id).length ≤ 16 := by
  unfold delNew
  exact Nat.le_trans (bestM_len _ _) (Nat.le_trans (onlyM_len _ _ _) (areItems_len h))
end Go.Proofs.YtpihighajaeabaaGreat

namespace Go.Proofs.YtpihighajaeabaaGreat
open Go.RowKit
set_option linter.unusedVariables false

/-- what is left behind the best -/
def restM (l : List GItem) (e : List GNode) : List GItem := onlyM l (bestM l e) false
def layersF (e : List GNode) : Nat → List GItem → List (List Int)
  | 0, _ => []
  | n + 1, l => if l.length = 0 then [] else bestM l e :: layersF e n (restM l e)
theorem rest_lt {l : List GItem} {e : List GNode} (hE : isExpr e = true) (hl : ¬ l.length = 0) (hi : ∀ x ∈ l, isItem x = true) : (restM l e).length < l.length := by
  have hb := best_pos hE (fun h => hl (by rw [h]; rfl)) hi
  obtain ⟨b, hb⟩ := List.exists_mem_of_ne_nil _ hb
  obtain ⟨x, hx, rfl⟩ := List.mem_map.1 (show b ∈ (l.filter (freeIn l e)).map (·.id) from hb)
  have hxl := (List.mem_filter.1 hx).1
  rcases Nat.lt_or_ge (restM l e).length l.length with h | h
  · exact h
  · exfalso
    have h2 : (restM l e).length = l.length := Nat.le_antisymm (List.length_filter_le _ _) h
    have := List.length_filter_eq_length_iff.1 h2 x hxl
    simp only [beq_iff_eq] at this
    rw [List.contains_iff_mem.2 hb] at this
    cases this
theorem rest_items {l : List GItem} {e : List GNode} (h : areItems l = true) : areItems (restM l e) = true := areItems_filter _ h
theorem layersF_fuel {e : List GNode} (hE : isExpr e = true) : ∀ (n m : Nat) (l : List GItem), areItems l = true → l.length ≤ n → l.length ≤ m → layersF e n l = layersF e m l
  | 0, 0, l, _, _, _ => rfl
  | 0, m + 1, l, _, h, _ => by simp only [layersF]; rw [if_pos (by omega)]
  | n + 1, 0, l, _, _, h => by simp only [layersF]; rw [if_pos (by omega)]
  | n + 1, m + 1, l, hi, h1, h2 => by
    simp only [layersF]
    by_cases hl : l.length = 0
    · rw [if_pos hl, if_pos hl]
    · rw [if_neg hl, if_neg hl]
      have := rest_lt hE hl (fun x hx => areItems_mem hi hx)
      rw [layersF_fuel hE n m _ (rest_items hi) (by omega) (by omega)]
def layersOf (l : List GItem) (e : List GNode) : List (List Int) := layersF e l.length l
theorem layersOf_nil {l : List GItem} {e : List GNode} (h : l.length = 0) : layersOf l e = [] := by unfold layersOf; rw [h]; rfl
theorem layersOf_cons {l : List GItem} {e : List GNode} (hE : isExpr e = true) (hi : areItems l = true) (h : ¬ l.length = 0) : layersOf l e = bestM l e :: layersOf (restM l e) e := by
  unfold layersOf
  obtain ⟨n, hn⟩ : ∃ n, l.length = n + 1 := ⟨l.length - 1, by omega⟩
  have := rest_lt hE h (fun x hx => areItems_mem hi hx)
  rw [hn]
  simp only [layersF]
  rw [if_neg h, layersF_fuel hE n (restM l e).length _ (rest_items hi) (by omega) (Nat.le_refl _)]
theorem layersF_len {e : List GNode} : ∀ (n : Nat) (l : List GItem), (layersF e n l).length ≤ n
  | 0, _ => Nat.le_refl _
  | n + 1, l => by
    simp only [layersF]
    split
    · simp
    · have := layersF_len (e := e) n (restM l e)
      simp only [List.length_cons]; omega
theorem layersF_mem {e : List GNode} : ∀ (n : Nat) (l : List GItem) (b : List Int), b ∈ layersF e n l → b.length ≤ l.length
  | 0, _, _, h => by simp [layersF] at h
  | n + 1, l, b, h => by
    simp only [layersF] at h
    split at h
    · simp at h
    · rcases List.mem_cons.1 h with rfl | h
      · exact bestM_len l e
      · exact Nat.le_trans (layersF_mem n _ b h) (List.length_filter_le _ _)
def layersM (l : List GItem) (e : List GNode) : List (List Int) := if areBoth l e then layersOf l e else []
theorem layersM_len (l : List GItem) (e : List GNode) : (layersM l e).length ≤ 16 := by
  unfold layersM; split
  · rename_i h
    have := areItems_len (areBoth_items h)
    have := layersF_len (e := e) l.length l
    unfold layersOf; omega
  · simp
theorem layersM_mem {l : List GItem} {e : List GNode} {b : List Int} (h : b ∈ layersM l e) : b.length ≤ 16 := by
  unfold layersM at h; split at h
  · rename_i h2
    have := areItems_len (areBoth_items h2)
    have := layersF_mem l.length l b h
    omega
  · simp at h
end Go.Proofs.YtpihighajaeabaaGreat

namespace Go.Proofs.YtpihighajaeabaaGreat
open Go.RowKit
set_option linter.unusedVariables false
set_option linter.unusedSimpArgs false
/-- items in a row of the call's own; what their values lie in is older -/
abbrev fItemsSh (B : Nat) : Fp (List GItem) := fSl 30 2 (fSh B rItem)
/-- what an element lies in is of given blocks -/
def fShS {α : Type} (S : Blocks) (R : Rep α) : Fp α := fun w x cs F => F = [] ∧ R w S x cs ∧ ∀ u ∈ cs, u.oneCell' = true
theorem fShS_good {α : Type} {B : Nat} {S : Blocks} {R : Rep α} (hR : Good R) (hS : ∀ b, S b → b < B) : GoodF B (fShS S R) :=
  ⟨fun hw ⟨hF, h, h1⟩ => ⟨hF, hR.step ⟨fun _ hb => hb, fun p hp => World.cell?_of_block (hw _ (.inr (hS _ hp)))⟩ h, h1⟩, fun h b hb => by rw [h.1] at hb; simp at hb, fun h => h.2.2⟩
abbrev fItemsS (S : Blocks) : Fp (List GItem) := fSl 30 2 (fShS S rItem)
theorem fItemsS_read {S : Blocks} {w : World} {xs : List GItem} {v : Value} {F : List Nat} (h : fItemsS S w xs [v] F) : rItems w (fun b => b ∈ F ∨ S b) xs [v] := by
  obtain ⟨v0, us, Fs, e, hown, hall, hFe⟩ := h
  injection e with e
  subst e
  have hl := all3_len hall
  have hus : ∀ u ∈ us, u.length = 2 := fun u hu => by obtain ⟨x, f, hr⟩ := all3_mem_us hall hu; exact hr.2
  obtain ⟨A, c, rfl, h1, h2, h3⟩ := ownsRow_rSl hown hl.1 hus
  refine ⟨A, c, rfl, h1, h2, fun k x hx => ?_⟩
  obtain ⟨u, f, hu, hf, hr⟩ := all3_at hall hx
  obtain ⟨b, rfl, hb, hc⟩ := h3 k u hu
  exact ⟨b, 0, u, rfl, .inl (by simp [hFe, hb]), hr.2, hc, rItem_good.step ⟨fun _ hb => .inr hb, fun _ _ => rfl⟩ hr.1.2.1⟩
theorem sh_item {w W : World} {S : Blocks} (hS : ∀ b, S b → b < w.heap.size) (hB : Bw w W) {x : GItem} {A : Option Addr} {c : Nat} (h : rInts w S x.vals [.slice A x.vals.length c]) : fShS S rItem W x [.int .i64 x.id, .slice A x.vals.length c] [] := by
  refine ⟨rfl, ⟨_, rfl, ?_⟩, fun u hu => ?_⟩
  · exact rInts_good.step ⟨fun _ h => h, fun p hp => Below.cell hB (hS _ hp)⟩ h
  · simp at hu; rcases hu with rfl | rfl <;> rfl
set_option maxRecDepth 100000 in
set_option maxHeartbeats 3200000 in
theorem I_onlyS (w : World) (l : List GItem) (ids : List Int) (b : Bool) (v u : Value) (S : Blocks) (hS : ∀ b, S b → b < w.heap.size) (h : rItems w S l [v]) (h' : Rd rInts w ids [u]) (hn : l.length ≤ 1048576) : Calls Tryz.prog 98 #[v, u, .bool b] w (RetV w (Made (fItemsS S) w.heap.size (onlyM l ids b))) := by
  obtain ⟨i0, hi, hz0, hz1, hz2⟩ := info_parts info_Item
  obtain ⟨A, n, c, rfl, L0, Lc, Lm⟩ := rSl_open h
  unfold maxLen at Lm
  have L := Lib.hid L0
  clear L0
  rw [← L.out] at hn
  have hv0 := fSl_empty (e := 30) (sz := 2) (R := fShS S rItem) w
  go_enter Tryz.func98, Tryz.ntmps98
  go_wp2
  go_loopg [7, 13] n (fun g s i w' => ∃ (k : Nat) (F : List Nat), k ≤ n ∧ g = n - k ∧ i = .int .i64 k ∧ fItemsS S w' (onlyTo l ids b k) [s] F ∧ Fresh w.heap.size F ∧ Bw w w')
  case atStart => exact ⟨0, _, by omega, rfl, rfl, hv0, ⟨by simp, by simp⟩, (Bw.refl _).alloc _⟩
  case round =>
    clear hv0
    obtain ⟨k, F, hk, rfl, rfl, hv, hF, hb⟩ := hrel
    by_cases hlt : k < n
    · obtain ⟨x, hx⟩ := get_of_lt (xs := l) (k := k) (by have := L.out; omega)
      obtain ⟨ba, oa, Ax, cx, rfl, _, hc0, hc1, hin⟩ := rItems_at h hx
      have i1 : (0 : Int) ≤ (k : Int) := by omega
      have i2 : (k : Int) < (n : Int) := by omega
      replace hc0 := hb.cell hc0
      replace hc1 := hb.cell hc1
      have hbx := World.block_lt_of_cell? _ _ hc0
      have HYES := Lib.hid (fun hc => onlyTo_yes (ids := ids) (b := b) hx hc)
      have HNO := Lib.hid (fun hc => onlyTo_no (ids := ids) (b := b) hx hc)
      have HH := Lib.hid h
      have HIN := Lib.hid hin
      have A1 : Bw wr (wr.alloc (.cells #[.int .i64 x.id, .slice Ax x.vals.length cx] 30)) := (Bw.refl wr).alloc _
      have hbA := hb.then A1
      have GG : GoodF w.heap.size (fItemsS S) := fSl_good (fShS_good rItem_good hS)
      have hvA := GG.bw A1 hb.size hv
      have hFm := GG.lt hvA
      obtain ⟨M, hM⟩ : ∃ M, M = x.vals.length := ⟨_, rfl⟩
      rw [← hM] at hc1 A1 hbA hvA hFm
      have HM := Lib.hid hM
      clear hx h hv hin hM
      go_wp2_with fail
      refine (slices_Contains_ints _ ids x.id _ (h'.bw rInts_good hbA)).mono ?_
      rintro e w2 ⟨rfl, hb2⟩
      have p0 : w2.cell? ⟨wr.heap.size, 0, none⟩ = some (.int .i64 x.id) := hb2.cell (by go_simp)
      have p1 : w2.cell? ⟨wr.heap.size, 1, none⟩ = some (.slice Ax M cx) := hb2.cell (by go_simp)
      have hbb := hbA.then hb2
      have hv2 := GG.bw hb2 hbA.size hvA
      clear hvA
      by_cases hcb : ids.contains x.id = b
      · have HB := Lib.hid (HYES.out hcb)
        have e1 : (ids.contains x.id == b) = true := by simpa using hcb
        obtain ⟨d, hd⟩ : ∃ d, d = ids.contains x.id := ⟨_, rfl⟩
        rw [← hd] at e1 ⊢
        have hvW := GG.bw ((Bw.refl w2).alloc (.cells #[.int .i64 x.id, .slice Ax M cx] 30)) hbb.size hv2
        have hbW := hbb.alloc (.cells #[.int .i64 x.id, .slice Ax M cx] 30)
        have hcl : ∀ j t, [Value.int .i64 x.id, .slice Ax M cx][j]? = some t → (w2.alloc (.cells #[.int .i64 x.id, .slice Ax M cx] 30)).cell? ((⟨w2.heap.size, 0, none⟩ : Addr).add j) = some t := World.news_of_block (cs := #[.int .i64 x.id, .slice Ax M cx]) (t := 30) (fr := (0, 0)) (heap_alloc_new w2 _)
        have hy : fShS S rItem (w2.alloc (.cells #[.int .i64 x.id, .slice Ax M cx] 30)) x [.int .i64 x.id, .slice Ax M cx] [] := by rw [HM.out]; exact sh_item hS (by rw [← HM.out]; exact hbW) HIN.out
        have hol := onlyTo_len (l := l) (ids := ids) (b := b) (k := k)
        have HOL := Lib.hid hol
        have hb0 := hbA.size
        clear hcb hd hv2 hol
        go_wp2_with (at_builtin; refine wpList_push _ rfl (.tmp 23) (.tmp 25) 24 rfl w 30 i0 _ 2 32 Tryz.underlying24 hi hz0 hz1 hz2 rfl (by omega) (fShS_good rItem_good hS) _ (onlyTo l ids b k) F rfl hvW hF ⟨w2.heap.size, 0, none⟩ 1 rfl x [.int .i64 x.id, .slice Ax M cx] [] hcl hy rfl _ hFm Fresh.nil hb0 (by have := HOL.out; omega) (by have := HOL.out; omega) hbW ?_; intro v' w' F' hv' hF' hb')
        go_roundg (n - (k + 1))
        case measure => omega
        case rel => exact ⟨k + 1, F', by omega, rfl, by go_num, by rw [HB.out]; exact hv', hF', hb'⟩
      · have HB := Lib.hid (HNO.out (by cases hq : ids.contains x.id <;> cases b <;> simp_all))
        have e1 : (ids.contains x.id == b) = false := by simpa using hcb
        obtain ⟨d, hd⟩ : ∃ d, d = ids.contains x.id := ⟨_, rfl⟩
        rw [← hd] at e1 ⊢
        clear hcb hd
        go_wp2
        go_roundg (n - (k + 1))
        case measure => omega
        case rel => exact ⟨k + 1, F, by omega, rfl, by go_num, by rw [HB.out]; exact hv2, hF, hbb⟩
    · obtain rfl : k = n := by omega
      rw [onlyTo_end (by rw [← L.out]; exact Nat.le_refl _)] at hv
      go_wp2
      go_ret
      exact ⟨_, rfl, ⟨F, hv, hF⟩, hb⟩
end Go.Proofs.YtpihighajaeabaaGreat
