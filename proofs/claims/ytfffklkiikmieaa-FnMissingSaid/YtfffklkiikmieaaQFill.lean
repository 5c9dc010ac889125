/- The filling of the holes. -/
import Derived.Test.YtfffklkiikmieaaQParts
namespace Go.Proofs.Ytfffklkiikmieaa
open Go.RowKit
set_option linter.unusedVariables false
theorem all3_upd {α : Type} {R R' : α → List Value → List Nat → Prop} {b : Nat} {x' : α} {u : List Value} {f : List Nat} (hR' : R' x' u f) (hbf : b ∈ f) (hi : ∀ x u f, b ∉ f → R x u f → R' x u f) :
    ∀ {xs : List α} {us : List (List Value)} {Fs : List (List Nat)} {i : Nat}, all3 R xs us Fs → us[i]? = some u → Fs[i]? = some f → Fs.flatten.Nodup → all3 R' (xs.set i x') us Fs
  | x :: xs, v :: us, g :: Fs, 0, h, hu, hf, hn => by
    simp at hu hf
    subst hu hf
    rw [List.flatten_cons, List.nodup_append] at hn
    exact ⟨hR', all3_imp (fun x u f' hf' hx => hi x u f' (fun hb => hn.2.2 b hbf b (List.mem_flatten.2 ⟨_, hf', hb⟩) rfl) hx) h.2⟩
  | x :: xs, v :: us, g :: Fs, i + 1, h, hu, hf, hn => by
    simp at hu hf
    rw [List.flatten_cons, List.nodup_append] at hn
    refine ⟨hi _ _ _ (fun hb => hn.2.2 b hb b (List.mem_flatten.2 ⟨f, List.mem_iff_getElem?.2 ⟨i, hf⟩, hbf⟩) rfl) h.1, all3_upd hR' hbf hi (xs := xs) h.2 hu hf hn.2.1⟩
  | [], [], [], _, _, hu, _, _ => by simp at hu
  | [], _ :: _, _, _, h, _, _, _ | [], [], _ :: _, _, h, _, _, _ | _ :: _, [], _, _, h, _, _, _ | _ :: _, _ :: _, [], _, h, _, _, _ => h.elim
theorem all3_nils {w : World} : ∀ {xs : List Int} {us : List (List Value)} {Fs : List (List Nat)}, all3 (fun x u f => fInt w x u f ∧ u.length = 1) xs us Fs → Fs.flatten = []
  | [], [], [], _ => rfl
  | _ :: xs, _ :: us, f :: Fs, h => by rw [List.flatten_cons, h.1.1.2, all3_nils (xs := xs) h.2]; rfl
  | [], _ :: _, _, h | [], [], _ :: _, h | _ :: _, [], _, h | _ :: _, _ :: _, [], h => h.elim
theorem fInts_foot {w : World} {xs : List Int} {b n c : Nat} {f : List Nat} (h : fInts w xs [.slice (some ⟨b, 0, none⟩) n c] f) : f = [b] := by
  obtain ⟨v, us, Fs, hv, _, hall, hF⟩ := h
  injection hv with hv
  subst hv
  rw [hF, all3_nils hall]; rfl
def updI (xs : List GItem) (i k : Nat) (z : Int) : List GItem := xs.modify i (fun x => { x with vals := x.vals.set k z })
theorem updI_eq {xs : List GItem} {i k : Nat} {z : Int} {x : GItem} (h : xs[i]? = some x) : updI xs i k z = xs.set i { x with vals := x.vals.set k z } := by
  apply List.ext_getElem?
  intro j
  unfold updI
  rw [List.getElem?_modify, List.getElem?_set]
  by_cases hj : i = j
  · subst hj; rw [h]; have := (List.getElem?_eq_some_iff.1 h).1; simp [this]
  · simp [hj]
/-- a value in an owned item is stored anew -/
theorem fItems_put {B : Nat} {g n c i k : Nat} {w : World} {xs : List GItem} {F : List Nat} (hv : fItems w xs [.slice (some ⟨g, 0, none⟩) n c] F) (hF : Fresh B F) {x : GItem} (hx : xs[i]? = some x) (hk : k < x.vals.length) (z : Int) :
    ∃ b cap, w.cell? ⟨g, i * 2 + 1, none⟩ = some (.slice (some ⟨b, 0, none⟩) x.vals.length cap) ∧ w.frozen? ⟨b, k, none⟩ = false ∧ (∃ y, w.cell? ⟨b, k, none⟩ = some (.int .i64 y)) ∧ b ∈ F ∧ B ≤ b ∧ w.grownBy (w.setCell ⟨b, k, none⟩ (.int .i64 z)) (some b) ∧
      fItems (w.setCell ⟨b, k, none⟩ (.int .i64 z)) (updI xs i k z) [.slice (some ⟨g, 0, none⟩) n c] F := by
  rw [updI_eq hx]
  obtain ⟨v, us, Fs, hv0, hown, hall, hFe⟩ := hv
  injection hv0 with hv0
  subst hv0
  obtain ⟨u, f, hu, hf, ⟨vv, rfl, hin⟩, hul⟩ := all3_at hall hx
  obtain ⟨b, cap, rfl, _, _, hbf⟩ := fSl_lit hin (by omega)
  have hff := fInts_foot hin
  have hfF : ∀ a ∈ f, a ∈ F := fun a ha => by rw [hFe]; exact List.mem_append_right _ (List.mem_flatten.2 ⟨f, List.mem_iff_getElem?.2 ⟨i, hf⟩, ha⟩)
  have hnd := hF.nodup
  rw [hFe, List.nodup_append] at hnd
  have hbB := hF.ge b (hfF b hbf)
  have hgb : g ≠ b := fun e => hnd.2.2 g (by simp [Value.ownBlock]) b (List.mem_flatten.2 ⟨f, List.mem_iff_getElem?.2 ⟨i, hf⟩, hbf⟩) e
  obtain ⟨F', hv', _, hgr, _, _⟩ := fSl_put (fInt_good (B := B)) hin ⟨by rw [hff]; simp, fun a ha => hF.ge a (hfF a ha)⟩ (k := k) (y := z) (u := [.int .i64 z]) ⟨rfl, rfl⟩ rfl (m := w.heap.size) (fun a ha => (fInts_good (B := 0)).lt hin a ha) Fresh.nil (by have := (fInts_good (B := 0)).lt hin b hbf; omega) hk
  have hF' := fInts_foot hv'
  have e1 : putCells w b (k * 1) [.int .i64 z] = w.setCell ⟨b, k, none⟩ (.int .i64 z) := by simp [putCells]
  rw [e1] at hv' hgr
  have hlt := (fItems_good (B := 0)).lt (⟨_, us, Fs, rfl, hown, hall, hFe⟩ : fItems w xs _ F)
  have hcell := ownsRow_rSl hown (all3_len hall).1 (fun u hu => by obtain ⟨x, f, hr⟩ := all3_mem_us hall hu; exact hr.2)
  obtain ⟨A, cc, eA, _, _, hcells⟩ := hcell
  injection eA with eA _ _
  subst eA
  obtain ⟨b1, eb, _, hc⟩ := hcells i _ hu
  injection eb with eb
  injection eb with eb _ _
  subst eb
  have hc1 := hc 1 _ rfl
  obtain ⟨y, hy⟩ : ∃ y, x.vals[k]? = some y := ⟨x.vals[k], List.getElem?_eq_getElem hk⟩
  obtain ⟨bb, oo, ebb, _, hcy⟩ := rInts_at (fInts_Rd hin) hy
  injection ebb with ebb
  injection ebb with ebb eoo _
  subst ebb eoo
  rw [Nat.zero_add] at hc1 hcy
  refine ⟨b, cap, hc1, fSl_frozen hin k, ⟨y, hcy⟩, hfF b hbf, hbB, hgr, ⟨_, us, Fs, rfl, ?_, ?_, hFe⟩⟩
  · rw [List.length_set]
    exact ownsRow_heap hown fun a ha => by
      have : a = g := by simpa [Value.ownBlock] using ha.symm
      subst this
      exact hgr.block _ (hlt _ (by rw [hFe]; simp [Value.ownBlock])) (fun e => by injection e with e; exact hgb e)
  · refine all3_upd (b := b) (u := [.int .i64 x.id, .slice (some ⟨b, 0, none⟩) x.vals.length cap]) (f := f) (R := fun x u f => (fItem w x u f ∧ u.length = 2) ∧ ∀ a ∈ f, a < w.heap.size) ⟨⟨_, rfl, by rw [hff, ← hF']; simpa using hv'⟩, rfl⟩ hbf (fun x u f hnb hx => ?_) (all3_imp (fun x u f' hf' hx => ⟨hx, fun a ha => hlt a (by rw [hFe]; exact List.mem_append_right _ (List.mem_flatten.2 ⟨f', hf', ha⟩))⟩) hall) hu hf hnd.2.1
    exact ⟨(fItem_good (B := 0)).step (fun a ha => by
      rcases ha with ha | ha
      · exact hgr.block _ (hx.2 a ha) (fun e => by injection e with e; exact hnb (e ▸ ha))
      · omega) hx.1.1, hx.1.2⟩
def shape (xs : List GItem) : List Nat := xs.map (fun x => x.vals.length)
theorem shape_upd (xs : List GItem) (i k : Nat) (z : Int) : shape (updI xs i k z) = shape xs := by
  unfold shape updI
  apply List.ext_getElem?
  intro j
  rw [List.getElem?_map, List.getElem?_modify, List.getElem?_map]
  by_cases hj : i = j <;> simp [hj] <;> cases xs[j]? <;> simp
theorem sumL_shape : ∀ {xs ys : List GItem}, shape xs = shape ys → sumL (fun x => x.vals.length) xs = sumL (fun x => x.vals.length) ys
  | [], [], _ => rfl
  | x :: xs, y :: ys, h => by
    simp only [shape, List.map_cons, List.cons.injEq] at h
    simp only [sumL]
    rw [h.1, sumL_shape (xs := xs) (ys := ys) h.2]
  | [], _ :: _, h => by simp [shape] at h
  | _ :: _, [], h => by simp [shape] at h
theorem tot_shape {xs ys : List GItem} (h : shape xs = shape ys) : totItems xs = totItems ys := by
  have h1 := sumL_shape h
  have h2 := congrArg List.length h
  simp [shape] at h2
  unfold totItems; omega
theorem shape_at {xs ys : List GItem} (h : shape xs = shape ys) {i : Nat} {y : GItem} (hy : ys[i]? = some y) : ∃ x, xs[i]? = some x ∧ x.vals.length = y.vals.length := by
  have h1 : (shape xs)[i]? = (shape ys)[i]? := by rw [h]
  simp only [shape, List.getElem?_map, hy, Option.map_some] at h1
  cases hx : xs[i]? with
  | none => rw [hx] at h1; simp at h1
  | some x => rw [hx] at h1; exact ⟨x, rfl, by simpa using h1⟩
def fillL : List GItem → Int → List (List Int) → List GItem
  | cur, _, [] => cur
  | cur, n, h :: hs => fillL (updI cur (h.getD 0 0).toNat (h.getD 1 0).toNat (n.tmod 4)) (n.tdiv 4) hs
theorem shape_fill : ∀ (hs : List (List Int)) (cur : List GItem) (n : Int), shape (fillL cur n hs) = shape cur
  | [], _, _ => rfl
  | h :: hs, cur, n => by rw [fillL, shape_fill hs, shape_upd]
theorem holesV_mem {i : Nat} : ∀ {k : Nat} {vs : List Int} {h : List Int}, h ∈ holesV i k vs → ∃ j : Nat, h = [(i : Int), (j : Int)] ∧ k ≤ j ∧ j < k + vs.length
  | _, [], _, hm => by simp [holesV] at hm
  | k, v :: vs, h, hm => by
    unfold holesV at hm
    split at hm
    · rcases List.mem_cons.1 hm with rfl | hm
      · exact ⟨k, rfl, Nat.le_refl _, by simp⟩
      · obtain ⟨j, e, h1, h2⟩ := holesV_mem hm; exact ⟨j, e, by omega, by simp; omega⟩
    · obtain ⟨j, e, h1, h2⟩ := holesV_mem hm; exact ⟨j, e, by omega, by simp; omega⟩
theorem holesL_mem : ∀ {xs : List GItem} {i : Nat} {h : List Int}, h ∈ holesL i xs → ∃ (p j : Nat) (x : GItem), h = [((i + p : Nat) : Int), (j : Int)] ∧ xs[p]? = some x ∧ j < x.vals.length
  | [], _, _, hm => by simp [holesL] at hm
  | x :: xs, i, h, hm => by
    rcases List.mem_append.1 hm with hm | hm
    · obtain ⟨j, e, _, h2⟩ := holesV_mem hm; exact ⟨0, j, x, e, rfl, by omega⟩
    · obtain ⟨p, j, y, e, h1, h2⟩ := holesL_mem hm; exact ⟨p + 1, j, y, by rw [e]; congr 2; omega, by simpa using h1, h2⟩
theorem holes_mem {xs : List GItem} {h : List Int} (hm : h ∈ holes xs) : ∃ (p j : Nat) (x : GItem), h = [(p : Int), (j : Int)] ∧ xs[p]? = some x ∧ j < x.vals.length := by
  obtain ⟨p, j, x, e, h1, h2⟩ := holesL_mem hm
  exact ⟨p, j, x, by simpa using e, h1, h2⟩
def fillM (xs : List GItem) (n : Int) : List GItem := fillL xs n (holes xs)
set_option maxRecDepth 100000 in
set_option maxHeartbeats 3200000 in
theorem S_l13Fill (w : World) (xs : List GItem) (v : Value) (n : Nat) (h : Rd rItems w xs [v]) (ht : totItems xs ≤ 1048576) (hn : n ≤ 1048576) : Calls Try.prog 154 #[v, .int .i64 n] w (RetV w (Made fItems w.heap.size (fillM xs n))) := by
  have HT := Lib.hid (holes_len ht)
  go_enter Try.func154, Try.ntmps154
  go_wp2_with fail
  refine (S_l2Copy _ xs v h ht).mono ?_
  rintro e w1 ⟨vx, rfl, ⟨F, hv0, hF⟩, hb1⟩
  have hFlt := (fItems_good (B := 0)).lt hv0
  have h1 : Rd rItems w1 xs [v] := Rd.bw rItems_good h hb1
  go_wp2_with fail
  refine (S_HolesOf _ xs v h1 ht).mono ?_
  rintro e w2 ⟨vh, rfl, ⟨Fh, hh0, hFh⟩, hb2⟩
  obtain ⟨Ah, L, ch, rfl, l1, l2, l3⟩ := rSl_open (fIntss_Rd hh0)
  have LH := Lib.hid l1
  have hL : L ≤ 1048576 := by rw [l1]; exact HT.out
  have hv2 := (fItems_good (B := w.heap.size)).bw hb2 hb1.size hv0
  have hbb := hb1.then hb2
  have hsz1 := hb1.size
  obtain ⟨Ax, Nx, cx, rfl, nx1, nx2, nx3⟩ := rSl_open (fItems_Rd hv0)
  clear hv0 l1 ht nx1 nx2 nx3
  go_wp2
  go_loopw [1, 7] (fun s i w' => ∃ (k m : Nat) (cur : List GItem), k ≤ L ∧ m ≤ 1048576 ∧ i = .int .i64 k ∧ s = .int .i64 m ∧ fItems w' cur [.slice Ax Nx cx] F ∧ fIntss w' (holes xs) [.slice Ah L ch] Fh ∧ Hid (shape cur = shape xs) ∧ Hid (fillL cur m ((holes xs).drop k) = fillM xs n) ∧ Bw w w') (fun s i _ => L - (intOf i).toNat)
  case atStart => exact ⟨0, n, xs, by omega, hn, rfl, rfl, hv2, hh0, Lib.hid rfl, Lib.hid rfl, hbb⟩
  case round =>
    obtain ⟨k, m, cur, hk, hm, rfl, rfl, hv, hh, HS, HE, hb⟩ := hrel
    clear hv2 hh0 hbb
    by_cases hlt : k < L
    · obtain ⟨y, hy⟩ := get_of_lt (xs := holes xs) (k := k) (by rw [← LH.out]; exact hlt)
      obtain ⟨p, j, x0, rfl, hx0, hj0⟩ := holes_mem (List.mem_of_getElem? hy)
      obtain ⟨x, hx, hxl⟩ := shape_at HS.out hx0
      obtain ⟨g, Lx, cx', ex, LX, _, _, _⟩ := fSl_lit' hv (by have := (List.getElem?_eq_some_iff.1 hx).1; omega)
      injection ex with ex1 ex2 ex3
      subst ex1 ex2 ex3
      have hpx : p < Nx := by rw [← LX.out]; exact (List.getElem?_eq_some_iff.1 hx).1
      obtain ⟨bh, oh, A2, c2, rfl, _, hch, hinh⟩ := rIntss_at (fIntss_Rd hh) hy
      obtain ⟨bq, oq, rfl, _, hq0⟩ := rInts_at (k := 0) hinh rfl
      obtain ⟨bq', oq', eq', _, hq1⟩ := rInts_at (k := 1) hinh rfl
      injection eq' with eq'
      injection eq' with eq1 eq2 _
      subst eq1 eq2
      obtain ⟨b, cap, hcb, hfb, ⟨y0, hcy⟩, hbF, hBb, hgr, hput⟩ := fItems_put hv hF hx (k := j) (by omega) ((m : Int).tmod 4)
      have hh' := (fIntss_good (B := 0)).step (w' := wr.setCell ⟨b, j, none⟩ (.int .i64 ((m : Int).tmod 4))) (fun a ha => by
        rcases ha with ha | ha
        · exact hgr.block _ ((fIntss_good (B := 0)).lt hh a ha) (fun e => by injection e with e; have := hFh.ge a ha; have := hFlt b hbF; omega)
        · omega) hh
      have hb' := hb.grown hgr (fun q hq => by injection hq with hq; omega)
      have HS' := Lib.hid (show shape (updI cur p j ((m : Int).tmod 4)) = shape xs by rw [shape_upd]; exact HS.out)
      have HE' := Lib.hid (show fillL (updI cur p j ((m : Int).tmod 4)) ((m / 4 : Nat) : Int) ((holes xs).drop (k + 1)) = fillM xs n by rw [← HE.out, drop_cons hy, fillL]; rfl)
      have e4 : (m : Int).tmod 4 = ((m % 4 : Nat) : Int) := rfl
      have e5 : (m : Int).tdiv 4 = ((m / 4 : Nat) : Int) := rfl
      rw [e4] at hput hh' hb' HS' HE' hgr
      rw [Nat.add_zero] at hq0
      obtain ⟨Mx, hMx⟩ : ∃ Mx, Mx = x.vals.length := ⟨_, rfl⟩
      rw [← hMx] at hcb
      have hjM : j < Mx := by omega
      clear hy hx0 hj0 hx hxl hv hh HS HE hinh hgr hMx hbF hFlt
      go_wp2
      go_region
      go_wp2
      go_roundw
      case rel => exact ⟨k + 1, m / 4, _, by omega, by omega, by go_num, by go_num, hput, hh', HS', HE', hb'.drew⟩
      case measure => simp [intOf]; omega
    · obtain rfl : k = L := by omega
      have HF := Lib.hid (show cur = fillM xs n by rw [← HE.out, List.drop_of_length_le (by rw [← LH.out]; exact Nat.le_refl _), fillL])
      go_wp2
      go_ret
      exact ⟨_, rfl, ⟨F, by rw [← HF.out]; exact hv, hF⟩, hb⟩
set_option maxRecDepth 100000 in
set_option maxHeartbeats 3200000 in
theorem I_filled (w : World) (xs : List GItem) (v : Value) (n : Nat) (h : Rd rItems w xs [v]) (ht : totItems xs ≤ 1048576) (hn : n ≤ 1048576) : Calls Try.prog 155 #[v, .int .i64 n] w (RetV w (Made fItems w.heap.size (fillM xs n))) := by
  have HT := Lib.hid (holes_len ht)
  go_enter Try.func155, Try.ntmps155
  go_wp2_with fail
  refine (I_copyItems _ xs v h ht).mono ?_
  rintro e w1 ⟨vx, rfl, ⟨F, hv0, hF⟩, hb1⟩
  have hFlt := (fItems_good (B := 0)).lt hv0
  have h1 : Rd rItems w1 xs [v] := Rd.bw rItems_good h hb1
  go_wp2_with fail
  refine (I_HolesOf _ xs v h1 ht).mono ?_
  rintro e w2 ⟨vh, rfl, ⟨Fh, hh0, hFh⟩, hb2⟩
  obtain ⟨Ah, L, ch, rfl, l1, l2, l3⟩ := rSl_open (fIntss_Rd hh0)
  have LH := Lib.hid l1
  have hL : L ≤ 1048576 := by rw [l1]; exact HT.out
  have hv2 := (fItems_good (B := w.heap.size)).bw hb2 hb1.size hv0
  have hbb := hb1.then hb2
  have hsz1 := hb1.size
  obtain ⟨Ax, Nx, cx, rfl, nx1, nx2, nx3⟩ := rSl_open (fItems_Rd hv0)
  clear hv0 l1 ht nx1 nx2 nx3
  go_wp2
  go_loopw [1, 13] (fun s i w' => ∃ (k m : Nat) (cur : List GItem), k ≤ L ∧ m ≤ 1048576 ∧ i = .int .i64 k ∧ s = .int .i64 m ∧ fItems w' cur [.slice Ax Nx cx] F ∧ fIntss w' (holes xs) [.slice Ah L ch] Fh ∧ Hid (shape cur = shape xs) ∧ Hid (fillL cur m ((holes xs).drop k) = fillM xs n) ∧ Bw w w') (fun s i _ => L - (intOf i).toNat)
  case atStart => exact ⟨0, n, xs, by omega, hn, rfl, rfl, hv2, hh0, Lib.hid rfl, Lib.hid rfl, hbb⟩
  case round =>
    obtain ⟨k, m, cur, hk, hm, rfl, rfl, hv, hh, HS, HE, hb⟩ := hrel
    clear hv2 hh0 hbb
    by_cases hlt : k < L
    · obtain ⟨y, hy⟩ := get_of_lt (xs := holes xs) (k := k) (by rw [← LH.out]; exact hlt)
      obtain ⟨p, j, x0, rfl, hx0, hj0⟩ := holes_mem (List.mem_of_getElem? hy)
      obtain ⟨x, hx, hxl⟩ := shape_at HS.out hx0
      obtain ⟨g, Lx, cx', ex, LX, _, _, _⟩ := fSl_lit' hv (by have := (List.getElem?_eq_some_iff.1 hx).1; omega)
      injection ex with ex1 ex2 ex3
      subst ex1 ex2 ex3
      have hpx : p < Nx := by rw [← LX.out]; exact (List.getElem?_eq_some_iff.1 hx).1
      obtain ⟨bh, oh, A2, c2, rfl, _, hch, hinh⟩ := rIntss_at (fIntss_Rd hh) hy
      obtain ⟨bq, oq, rfl, _, hq0⟩ := rInts_at (k := 0) hinh rfl
      obtain ⟨bq', oq', eq', _, hq1⟩ := rInts_at (k := 1) hinh rfl
      injection eq' with eq'
      injection eq' with eq1 eq2 _
      subst eq1 eq2
      obtain ⟨b, cap, hcb, hfb, ⟨y0, hcy⟩, hbF, hBb, hgr, hput⟩ := fItems_put hv hF hx (k := j) (by omega) ((m : Int).tmod 4)
      have hh' := (fIntss_good (B := 0)).step (w' := wr.setCell ⟨b, j, none⟩ (.int .i64 ((m : Int).tmod 4))) (fun a ha => by
        rcases ha with ha | ha
        · exact hgr.block _ ((fIntss_good (B := 0)).lt hh a ha) (fun e => by injection e with e; have := hFh.ge a ha; have := hFlt b hbF; omega)
        · omega) hh
      have hb' := hb.grown hgr (fun q hq => by injection hq with hq; omega)
      have HS' := Lib.hid (show shape (updI cur p j ((m : Int).tmod 4)) = shape xs by rw [shape_upd]; exact HS.out)
      have HE' := Lib.hid (show fillL (updI cur p j ((m : Int).tmod 4)) ((m / 4 : Nat) : Int) ((holes xs).drop (k + 1)) = fillM xs n by rw [← HE.out, drop_cons hy, fillL]; rfl)
      have e4 : (m : Int).tmod 4 = ((m % 4 : Nat) : Int) := rfl
      have e5 : (m : Int).tdiv 4 = ((m / 4 : Nat) : Int) := rfl
      rw [e4] at hput hh' hb' HS' HE' hgr
      rw [Nat.add_zero] at hq0
      obtain ⟨Mx, hMx⟩ : ∃ Mx, Mx = x.vals.length := ⟨_, rfl⟩
      rw [← hMx] at hcb
      have hjM : j < Mx := by omega
      clear hy hx0 hj0 hx hxl hv hh HS HE hinh hgr hMx hbF hFlt
      go_wp2
      go_region
      go_wp2
      go_roundw
      case rel => exact ⟨k + 1, m / 4, _, by omega, by omega, by go_num, by go_num, hput, hh', HS', HE', hb'.drew⟩
      case measure => simp [intOf]; omega
    · obtain rfl : k = L := by omega
      have HF := Lib.hid (show cur = fillM xs n by rw [← HE.out, List.drop_of_length_le (by rw [← LH.out]; exact Nat.le_refl _), fillL])
      go_wp2
      go_ret
      exact ⟨_, rfl, ⟨F, by rw [← HF.out]; exact hv, hF⟩, hb⟩
end Go.Proofs.Ytfffklkiikmieaa
