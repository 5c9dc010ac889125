/- Parts of lists of items, in the program and in the reference. -/
import Derived.Test.YtfffklkiikmieaaQCodes
import Derived.Test.YtfffklkiikmieaaQCoupS
import Derived.Test.YtfffklkiikmieaaQSlicesI
namespace Go.Proofs.Ytfffklkiikmieaa
open Go.RowKit
set_option linter.unusedVariables false
set_option linter.unusedSimpArgs false
/-- items in a row of the call's own; what their values lie in is older -/
abbrev fItemsSh (B : Nat) : Fp (List GItem) := fSl 110 2 (fSh B rItem)
theorem fItemsSh_Rd {B : Nat} {w : World} {xs : List GItem} {v : Value} {F : List Nat} (h : fItemsSh B w xs [v] F) (hB : B ≤ w.heap.size) : Rd rItems w xs [v] :=
  Rd.of rItems_good (B := B) (fSl_rd rItem_good (fun _ _ _ h => fSh_rd rItem_good h) h) ((fSl_good (fSh_good rItem_good (Nat.le_refl _)) : GoodF B (fItemsSh B)).lt h) hB
/-- what an element lies in is of given blocks -/
def fShS {α : Type} (S : Blocks) (R : Rep α) : Fp α := fun w x cs F => F = [] ∧ R w S x cs ∧ ∀ u ∈ cs, u.oneCell' = true
theorem fShS_good {α : Type} {B : Nat} {S : Blocks} {R : Rep α} (hR : Good R) (hS : ∀ b, S b → b < B) : GoodF B (fShS S R) :=
  ⟨fun hw ⟨hF, h, h1⟩ => ⟨hF, hR.step ⟨fun _ hb => hb, fun p hp => World.cell?_of_block (hw _ (.inr (hS _ hp)))⟩ h, h1⟩, fun h b hb => by rw [h.1] at hb; simp at hb, fun h => h.2.2⟩
abbrev fItemsS (S : Blocks) : Fp (List GItem) := fSl 110 2 (fShS S rItem)
theorem fItemsS_read {S : Blocks} {w : World} {xs : List GItem} {v : Value} {F : List Nat} (h : fItemsS S w xs [v] F) : rItems w (fun b => b ∈ F ∨ S b) xs [v] := by
  obtain ⟨v0, us, Fs, e, hown, hall, hFe⟩ := h
  injection e with e
  subst e
  have hl := all3_len hall
  have hus : ∀ u ∈ us, u.length = 2 := fun u hu => by obtain ⟨x, f, hr⟩ := all3_mem_us hall hu; exact hr.2
  obtain ⟨A, c, rfl, h1, h2, h3⟩ := ownsRow_rSl hown hl.1 hus
  refine ⟨A, c, rfl, h1, h2, fun k x hx => ?_⟩
  obtain ⟨u, f, hu, hf, hr⟩ := all3_at hall hx
  obtain ⟨b, rfl, hb, hc⟩ := h3 k u hu
  exact ⟨b, 0, u, rfl, .inl (by simp [hFe, hb]), hr.2, hc, rItem_good.step ⟨fun _ hb => .inr hb, fun _ _ => rfl⟩ hr.1.2.1⟩
theorem sh_item {w W : World} {S : Blocks} (hS : ∀ b, S b → b < w.heap.size) (hB : Bw w W) {x : GItem} {A : Option Addr} {c : Nat} (h : rInts w S x.vals [.slice A x.vals.length c]) : fShS S rItem W x [.int .i64 x.id, .slice A x.vals.length c] [] := by
  refine ⟨rfl, ⟨_, rfl, ?_⟩, fun u hu => ?_⟩
  · exact rInts_good.step ⟨fun _ h => h, fun p hp => Below.cell hB (hS _ hp)⟩ h
  · simp at hu; rcases hu with rfl | rfl <;> rfl
set_option maxRecDepth 100000 in
set_option maxHeartbeats 3200000 in
theorem I_onlyS (w : World) (l : List GItem) (ids : List Int) (b : Bool) (v u : Value) (S : Blocks) (hS : ∀ b, S b → b < w.heap.size) (h : rItems w S l [v]) (h' : Rd rInts w ids [u]) (hn : l.length ≤ 1048576) : Calls Try.prog 182 #[v, u, .bool b] w (RetV w (Made (fItemsS S) w.heap.size (onlyM l ids b))) := by
  obtain ⟨i0, hi, hz0, hz1, hz2⟩ := info_parts info_Item
  obtain ⟨A, n, c, rfl, L0, Lc, Lm⟩ := rSl_open h
  unfold maxLen at Lm
  have L := Lib.hid L0
  clear L0
  rw [← L.out] at hn
  have hv0 := fSl_empty (e := 110) (sz := 2) (R := fShS S rItem) w
  go_enter Try.func182, Try.ntmps182
  go_wp2
  go_loopg [7, 13] n (fun g s i w' => ∃ (k : Nat) (F : List Nat), k ≤ n ∧ g = n - k ∧ i = .int .i64 k ∧ fItemsS S w' (onlyTo l ids b k) [s] F ∧ Fresh w.heap.size F ∧ Bw w w')
  case atStart => exact ⟨0, _, by omega, rfl, rfl, hv0, ⟨by simp, by simp⟩, (Bw.refl _).alloc _⟩
  case round =>
    clear hv0
    obtain ⟨k, F, hk, rfl, rfl, hv, hF, hb⟩ := hrel
    by_cases hlt : k < n
    · obtain ⟨x, hx⟩ := get_of_lt (xs := l) (k := k) (by have := L.out; omega)
      obtain ⟨ba, oa, Ax, cx, rfl, _, hc0, hc1, hin⟩ := rItems_at h hx
      have i1 : (0 : Int) ≤ (k : Int) := by omega
      have i2 : (k : Int) < (n : Int) := by omega
      replace hc0 := hb.cell hc0
      replace hc1 := hb.cell hc1
      have hbx := World.block_lt_of_cell? _ _ hc0
      have HYES := Lib.hid (fun hc => onlyTo_yes (ids := ids) (b := b) hx hc)
      have HNO := Lib.hid (fun hc => onlyTo_no (ids := ids) (b := b) hx hc)
      have HH := Lib.hid h
      have HIN := Lib.hid hin
      have A1 : Bw wr (wr.alloc (.cells #[.int .i64 x.id, .slice Ax x.vals.length cx] 110)) := (Bw.refl wr).alloc _
      have hbA := hb.then A1
      have GG : GoodF w.heap.size (fItemsS S) := fSl_good (fShS_good rItem_good hS)
      have hvA := GG.bw A1 hb.size hv
      have hFm := GG.lt hvA
      obtain ⟨M, hM⟩ : ∃ M, M = x.vals.length := ⟨_, rfl⟩
      rw [← hM] at hc1 A1 hbA hvA hFm
      have HM := Lib.hid hM
      clear hx h hv hin hM
      go_wp2_with fail
      refine (slices_Contains_ints _ ids x.id _ (h'.bw rInts_good hbA)).mono ?_
      rintro e w2 ⟨rfl, hb2⟩
      have p0 : w2.cell? ⟨wr.heap.size, 0, none⟩ = some (.int .i64 x.id) := hb2.cell (by go_simp)
      have p1 : w2.cell? ⟨wr.heap.size, 1, none⟩ = some (.slice Ax M cx) := hb2.cell (by go_simp)
      have hbb := hbA.then hb2
      have hv2 := GG.bw hb2 hbA.size hvA
      clear hvA
      by_cases hcb : ids.contains x.id = b
      · have HB := Lib.hid (HYES.out hcb)
        have e1 : (ids.contains x.id == b) = true := by simpa using hcb
        obtain ⟨d, hd⟩ : ∃ d, d = ids.contains x.id := ⟨_, rfl⟩
        rw [← hd] at e1 ⊢
        have hvW := GG.bw ((Bw.refl w2).alloc (.cells #[.int .i64 x.id, .slice Ax M cx] 110)) hbb.size hv2
        have hbW := hbb.alloc (.cells #[.int .i64 x.id, .slice Ax M cx] 110)
        have hcl : ∀ j t, [Value.int .i64 x.id, .slice Ax M cx][j]? = some t → (w2.alloc (.cells #[.int .i64 x.id, .slice Ax M cx] 110)).cell? ((⟨w2.heap.size, 0, none⟩ : Addr).add j) = some t := World.news_of_block (cs := #[.int .i64 x.id, .slice Ax M cx]) (t := 110) (fr := (0, 0)) (heap_alloc_new w2 _)
        have hy : fShS S rItem (w2.alloc (.cells #[.int .i64 x.id, .slice Ax M cx] 110)) x [.int .i64 x.id, .slice Ax M cx] [] := by rw [HM.out]; exact sh_item hS (by rw [← HM.out]; exact hbW) HIN.out
        have hol := onlyTo_len (l := l) (ids := ids) (b := b) (k := k)
        have HOL := Lib.hid hol
        have hb0 := hbA.size
        clear hcb hd hv2 hol
        go_wp2_with (at_builtin; refine wpList_push _ rfl (.tmp 23) (.tmp 25) 29 rfl w 110 i0 _ 2 32 Try.underlying29 hi hz0 hz1 hz2 rfl (by omega) (fShS_good rItem_good hS) _ (onlyTo l ids b k) F rfl hvW hF ⟨w2.heap.size, 0, none⟩ 1 rfl x [.int .i64 x.id, .slice Ax M cx] [] hcl hy rfl _ hFm Fresh.nil hb0 (by have := HOL.out; omega) (by have := HOL.out; omega) hbW ?_; intro v' w' F' hv' hF' hb')
        go_roundg (n - (k + 1))
        case measure => omega
        case rel => exact ⟨k + 1, F', by omega, rfl, by go_num, by rw [HB.out]; exact hv', hF', hb'⟩
      · have HB := Lib.hid (HNO.out (by cases hq : ids.contains x.id <;> cases b <;> simp_all))
        have e1 : (ids.contains x.id == b) = false := by simpa using hcb
        obtain ⟨d, hd⟩ : ∃ d, d = ids.contains x.id := ⟨_, rfl⟩
        rw [← hd] at e1 ⊢
        clear hcb hd
        go_wp2
        go_roundg (n - (k + 1))
        case measure => omega
        case rel => exact ⟨k + 1, F, by omega, rfl, by go_num, by rw [HB.out]; exact hv2, hF, hbb⟩
    · obtain rfl : k = n := by omega
      rw [onlyTo_end (by rw [← L.out]; exact Nat.le_refl _)] at hv
      go_wp2
      go_ret
      exact ⟨_, rfl, ⟨F, hv, hF⟩, hb⟩
theorem I_only (w : World) (l : List GItem) (ids : List Int) (b : Bool) (v u : Value) (h : Rd rItems w l [v]) (h' : Rd rInts w ids [u]) (hn : l.length ≤ 1048576) : Calls Try.prog 182 #[v, u, .bool b] w (RetV w (Made (fItemsSh w.heap.size) w.heap.size (onlyM l ids b))) :=
  I_onlyS w l ids b v u (lt w) (fun _ h => h) h h' hn
end Go.Proofs.Ytfffklkiikmieaa
