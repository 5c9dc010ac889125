/- What the laws write into couples (or pairs), and what they find again. -/
import Derived.Test.YtfffklkiikmieaaGreatQOwn3
import Derived.Test.YtfffklkiikmieaaGreatQPairs
namespace Go.Proofs.YtfffklkiikmieaaGreat
open Go.RowKit
set_option linter.unusedVariables false
theorem all3_upd2 {α : Type} {R R' : α → List Value → List Nat → Prop} {x' : α} {u u' : List Value} {f : List Nat} (hR' : R' x' u' f) (hi : ∀ x u f', (∀ a ∈ f', a ∉ f) → R x u f' → R' x u f') :
    ∀ {xs : List α} {us : List (List Value)} {Fs : List (List Nat)} {i : Nat}, all3 R xs us Fs → us[i]? = some u → Fs[i]? = some f → Fs.flatten.Nodup → all3 R' (xs.set i x') (us.set i u') Fs
  | x :: xs, v :: us, g :: Fs, 0, h, hu, hf, hn => by
    simp at hu hf
    subst hu hf
    rw [List.flatten_cons, List.nodup_append] at hn
    exact ⟨hR', all3_imp (fun x u f' hf' hx => hi x u f' (fun a ha hb => hn.2.2 a hb a (List.mem_flatten.2 ⟨_, hf', ha⟩) rfl) hx) h.2⟩
  | x :: xs, v :: us, g :: Fs, i + 1, h, hu, hf, hn => by
    simp at hu hf
    rw [List.flatten_cons, List.nodup_append] at hn
    refine ⟨hi _ _ _ (fun a ha hb => hn.2.2 a ha a (List.mem_flatten.2 ⟨f, List.mem_iff_getElem?.2 ⟨i, hf⟩, hb⟩) rfl) h.1, all3_upd2 hR' hi (xs := xs) h.2 hu hf hn.2.1⟩
  | [], [], [], _, _, hu, _, _ => by simp at hu
  | [], _ :: _, _, _, h, _, _, _ | [], [], _ :: _, _, h, _, _, _ | _ :: _, [], _, _, h, _, _, _ | _ :: _, _ :: _, [], _, h, _, _, _ => h.elim
theorem nodup_part {f : List Nat} : ∀ {Fs : List (List Nat)}, Fs.flatten.Nodup → f ∈ Fs → f.Nodup
  | g :: Fs, h, hm => by
    rw [List.flatten_cons, List.nodup_append] at h
    rcases List.mem_cons.1 hm with rfl | hm
    · exact h.1
    · exact nodup_part h.2.1 hm
theorem set_same {α : Type} {l : List α} {i : Nat} {x : α} (h : l[i]? = some x) : l.set i x = l := by
  apply List.ext_getElem?
  intro j
  rw [List.getElem?_set]
  by_cases hj : i = j
  · subst hj; rw [if_pos rfl, if_pos (List.getElem?_eq_some_iff.1 h).1, h]
  · rw [if_neg hj]
/-- an item among owned ones: its cells, its values, and the way back -/
theorem fItems_focus {B g n c i : Nat} {w : World} {xs : List GItem} {F : List Nat} (hv : fItems w xs [.slice (some ⟨g, 0, none⟩) n c] F) (hF : Fresh B F) {x : GItem} (hx : xs[i]? = some x) :
    ∃ A' c' f, w.cell? ⟨g, i * 2, none⟩ = some (.int .i64 x.id) ∧ w.cell? ⟨g, i * 2 + 1, none⟩ = some (.slice A' x.vals.length c') ∧ fInts w x.vals [.slice A' x.vals.length c'] f ∧ Fresh B f ∧ (∀ b ∈ f, b ∈ F ∧ b ≠ g) ∧
      (∀ w' ys, Only f w w' → fInts w' ys [.slice A' x.vals.length c'] f → fItems w' (xs.set i ⟨x.id, ys⟩) [.slice (some ⟨g, 0, none⟩) n c] F) ∧
      (∀ z : Int, w.grownBy (w.setCell ⟨g, i * 2, none⟩ (.int .i64 z)) (some g) ∧ fItems (w.setCell ⟨g, i * 2, none⟩ (.int .i64 z)) (xs.set i ⟨z, x.vals⟩) [.slice (some ⟨g, 0, none⟩) n c] F) := by
  have hlt := (fItems_good (B := 0)).lt hv
  obtain ⟨v, us, Fs, hv0, hown, hall, hFe⟩ := hv
  injection hv0 with hv0
  subst hv0
  obtain ⟨u, f, hu, hf, ⟨vv, rfl, hin⟩, hul⟩ := all3_at hall hx
  obtain ⟨A', c', rfl, _⟩ := rSl_shape (fInts_Rd hin)
  have hfF : ∀ a ∈ f, a ∈ F := fun a ha => by rw [hFe]; exact List.mem_append_right _ (List.mem_flatten.2 ⟨f, List.mem_iff_getElem?.2 ⟨i, hf⟩, ha⟩)
  have hnd := hF.nodup
  rw [hFe, List.nodup_append] at hnd
  have hFg : ∀ b ∈ Fs.flatten, b ≠ g := fun b hb e => hnd.2.2 g (by simp [Value.ownBlock]) b hb e.symm
  have hgF : g ∈ F := by rw [hFe]; simp [Value.ownBlock]
  have hfn : ∀ a ∈ f, a ∈ Fs.flatten := fun a ha => List.mem_flatten.2 ⟨f, List.mem_iff_getElem?.2 ⟨i, hf⟩, ha⟩
  have hfd : f.Nodup := nodup_part hnd.2.1 (List.mem_iff_getElem?.2 ⟨i, hf⟩)
  have hus : ∀ u ∈ us, u.length = 2 := fun u hu => by obtain ⟨x, f, hr⟩ := all3_mem_us hall hu; exact hr.2
  have hl := all3_len hall
  have hil : i < us.length := (List.getElem?_eq_some_iff.1 hu).1
  obtain ⟨A, cc, eA, _, _, hcells⟩ := ownsRow_rSl hown hl.1 hus
  injection eA with eA _ _
  subst eA
  obtain ⟨b1, eb, _, hc⟩ := hcells i _ hu
  injection eb with eb
  injection eb with eb _ _
  subst eb
  have hc0 := hc 0 _ rfl
  have hc1 := hc 1 _ rfl
  rw [Nat.zero_add] at hc0 hc1
  have hn : n = xs.length := by
    rcases hown.2 with ⟨h, _⟩ | ⟨g', cap, cur, h, _⟩
    · cases h
    · injection h
  subst hn
  have hallb : all3 (fun x u f => (fItem w x u f ∧ u.length = 2) ∧ ∀ a ∈ f, a ∈ Fs.flatten) xs us Fs := all3_imp (fun x u f' hf' hx => ⟨hx, fun a ha => List.mem_flatten.2 ⟨f', hf', ha⟩⟩) hall
  have hFlt : ∀ a ∈ Fs.flatten, a < w.heap.size := fun a ha => hlt a (by rw [hFe]; exact List.mem_append_right _ ha)
  refine ⟨A', c', f, by simpa using hc0, hc1, hin, ⟨hfd, fun a ha => hF.ge a (hfF a ha)⟩, fun b hb => ⟨hfF b hb, hFg b (hfn b hb)⟩, ?_, ?_⟩
  · intro w' ys hO hys
    refine ⟨_, us, Fs, rfl, ?_, ?_, hFe⟩
    · rw [List.length_set]
      exact ownsRow_heap hown fun a ha => by
        have : a = g := by simpa [Value.ownBlock] using ha.symm
        subst this
        exact hO.2 _ (hlt _ hgF) (fun hm => hFg _ (hfn _ hm) rfl)
    · have hset : us.set i [.int .i64 x.id, .slice A' x.vals.length c'] = us := set_same hu
      rw [← hset]
      refine all3_upd2 (R := fun x u f => (fItem w x u f ∧ u.length = 2) ∧ ∀ a ∈ f, a ∈ Fs.flatten) (f := f) (u := [.int .i64 x.id, .slice A' x.vals.length c']) ⟨⟨_, rfl, hys⟩, rfl⟩ (fun x u f' hd hx => ⟨hO.keeps (fItem_good (B := 0)) hx.1.1 (fun b hb => hd b hb), hx.1.2⟩) hallb hu hf hnd.2.1
  · intro z
    obtain ⟨hs1, hgr⟩ := hown.stored (i * 2) (.int .i64 z)
    have e2 : us.flatten.set (i * 2) (.int .i64 z) = (us.set i [.int .i64 z, .slice A' x.vals.length c']).flatten := by
      rw [← setMany_flatten hus rfl hil]
      simp only [setMany]
      refine (set_same ?_).symm
      rw [List.getElem?_set, if_neg (by omega)]
      exact flatten_at (j := 1) hus hu (by omega)
    rw [e2] at hs1
    refine ⟨hgr, ⟨_, us.set i [.int .i64 z, .slice A' x.vals.length c'], Fs, rfl, by rw [List.length_set]; exact hs1, ?_, hFe⟩⟩
    have hkeep : ∀ {x : GItem} {u : List Value} {f' : List Nat}, (∀ a ∈ f', a ∈ Fs.flatten) → fItem w x u f' → fItem (w.setCell ⟨g, i * 2, none⟩ (.int .i64 z)) x u f' := fun ha hx => (fItem_good (B := 0)).step (fun b hb => by
      rcases hb with hb | hb
      · exact hgr.block _ (hFlt _ (ha b hb)) (fun e => by injection e with e; exact hFg b (ha b hb) e)
      · omega) hx
    have hin2 : fInts (w.setCell ⟨g, i * 2, none⟩ (.int .i64 z)) x.vals [.slice A' x.vals.length c'] f := (fInts_good (B := 0)).step (fun b hb => by
      rcases hb with hb | hb
      · exact hgr.block _ (hFlt _ (hfn b hb)) (fun e => by injection e with e; exact hFg b (hfn b hb) e)
      · omega) hin
    exact all3_upd2 (R := fun x u f => (fItem w x u f ∧ u.length = 2) ∧ ∀ a ∈ f, a ∈ Fs.flatten) (f := f) (u := [.int .i64 x.id, .slice A' x.vals.length c']) ⟨⟨_, rfl, hin2⟩, rfl⟩ (fun x u f' hd hx => ⟨hkeep hx.2 hx.1.1, hx.1.2⟩) hallb hu hf hnd.2.1
def mkItems : List GItem → Nat → List GItem
  | [], _ => []
  | x :: xs, k => ⟨k, mkInts x.vals (k + 1)⟩ :: mkItems xs (k + 1 + x.vals.length)
theorem mkItems_length : ∀ (xs : List GItem) (k : Nat), (mkItems xs k).length = xs.length
  | [], _ => rfl
  | _ :: xs, k => by rw [mkItems, List.length_cons, mkItems_length xs, List.length_cons]
theorem mkItems_at : ∀ {xs : List GItem} {k j : Nat} {x : GItem}, xs[j]? = some x → (mkItems xs k)[j]? = some ⟨((k + totItems (xs.take j) : Nat) : Int), mkInts x.vals (k + totItems (xs.take j) + 1)⟩
  | y :: xs, k, 0, x, h => by simp at h; subst h; simp [mkItems, totItems, sumL]
  | y :: xs, k, j + 1, x, h => by
    simp only [mkItems, List.getElem?_cons_succ]
    rw [mkItems_at (by simpa using h)]
    have e : k + 1 + y.vals.length + totItems (xs.take j) = k + totItems ((y :: xs).take (j + 1)) := by
      simp only [totItems, List.take_succ_cons, List.length_cons, sumL]; omega
    rw [e]
  | [], _, _, _, h => by simp at h
theorem tot_take_succ {xs : List GItem} {j : Nat} {x : GItem} (h : xs[j]? = some x) : totItems (xs.take (j + 1)) = totItems (xs.take j) + (1 + x.vals.length) := by
  have hs : ∀ (l : List GItem) (y : GItem), sumL (fun x => x.vals.length) (l ++ [y]) = sumL (fun x => x.vals.length) l + y.vals.length := fun l y => by
    induction l with
    | nil => simp [sumL]
    | cons a l ih => simp only [List.cons_append, sumL, ih]; omega
  rw [List.take_add_one, h]
  simp only [totItems, Option.toList_some, List.length_append, List.length_singleton, hs]; omega
theorem tot_take_le (xs : List GItem) (j : Nat) : totItems (xs.take j) ≤ totItems xs := by
  have : ∀ (l m : List GItem), sumL (fun x => x.vals.length) l ≤ sumL (fun x => x.vals.length) (l ++ m) := fun l m => by
    induction l with
    | nil => simp [sumL]
    | cons a l ih => simp only [List.cons_append, sumL]; omega
  have h1 := this (xs.take j) (xs.drop j)
  rw [List.take_append_drop] at h1
  unfold totItems
  have : (xs.take j).length ≤ xs.length := by rw [List.length_take]; omega
  omega
set_option maxRecDepth 100000 in
set_option maxHeartbeats 1600000 in
theorem L_heldItemS (w : World) (xs : List GItem) (v : Value) (k : Nat) (h : Rd rItems w (mkItems xs k) [v]) (ht : totItems xs ≤ 1048576) (hk : k ≤ 2097152) : Calls Tryz.prog 70 #[v, .int .i64 k] w (Ret w (.int .i64 ((k + totItems xs : Nat) : Int))) := by
  obtain ⟨A, n, c, rfl, l1, l2, l3⟩ := rSl_open h
  rw [mkItems_length] at l1
  have hnn : n ≤ 1048576 := by rw [l1]; unfold totItems at ht; omega
  have L1 := Lib.hid l1
  have HT := Lib.hid ht
  unfold maxLen at l3
  clear l1 ht
  go_enter Tryz.func70, Tryz.ntmps70
  go_wp2
  go_loopw [1, 5] (fun s i w' => ∃ j m : Nat, j ≤ n ∧ i = .int .i64 j ∧ s = .int .i64 m ∧ Hid (m = k + totItems (xs.take j)) ∧ Bw w w') (fun s i _ => n - (intOf i).toNat)
  case atStart => exact ⟨0, k, by omega, rfl, rfl, Lib.hid (by simp [totItems, sumL]), Bw.refl _⟩
  case round =>
    obtain ⟨j, m, hj, rfl, rfl, HM, hb⟩ := hrel
    by_cases hlt : j < n
    · obtain ⟨x, hx⟩ := get_of_lt (xs := xs) (k := j) (by rw [← L1.out]; exact hlt)
      have hat := mkItems_at (k := k) hx
      rw [← HM.out] at hat
      obtain ⟨b, o, A', c', rfl, _, hc0, hc1, hin⟩ := rItems_at h hat
      have hcx := hb.cell hc0
      have hcx1 := hb.cell hc1
      have hxl : x.vals.length ≤ 1048576 := by have h1 := le_sum (fun x : GItem => x.vals.length) (List.mem_of_getElem? hx); have h3 := HT.out; unfold totItems at h3; omega
      have HM' := Lib.hid (show m + 1 + x.vals.length = k + totItems (xs.take (j + 1)) by rw [tot_take_succ hx]; have := HM.out; omega)
      have hbnd : m + 1 + x.vals.length ≤ 4194304 := by rw [HM'.out]; have h1 := tot_take_le xs (j + 1); have h3 := HT.out; omega
      rw [mkInts_length] at hcx1 hin
      have hcall := L_heldIntS wr x.vals (.slice A' x.vals.length c') (m + 1) (Rd.bw rInts_good hin hb) hxl (by omega)
      obtain ⟨M, hM⟩ : ∃ M, M = x.vals.length := ⟨_, rfl⟩
      rw [← hM] at hcx1 hcall hbnd HM'
      have i1 : ((m + 1 : Nat) : Int) = (m : Int) + 1 := by omega
      have i2 : ((m + 1 + M : Nat) : Int) = (m : Int) + 1 + M := by omega
      have HH := Lib.hid h
      rw [i1, i2] at hcall
      clear hx hat h hc0 hc1 hin HM hM hxl i1 i2
      go_wp2_with fail
      refine hcall.mono ?_
      rintro e w2 ⟨rfl, hb2⟩
      have h := HH.out
      clear HH
      go_wp2
      go_roundw
      case rel => exact ⟨j + 1, m + 1 + M, by omega, by go_num, by go_num, HM', hb.then hb2⟩
      case measure => simp [intOf]; omega
    · obtain rfl : j = n := by omega
      have HN := Lib.hid (show ((m : Nat) : Int) = ((k + totItems xs : Nat) : Int) by rw [HM.out, List.take_of_length_le (by rw [← L1.out]; exact Nat.le_refl _)])
      clear HM
      go_wp2
      go_ret
      exact Ret.int HN.out hb
set_option maxRecDepth 100000 in
set_option maxHeartbeats 3200000 in
theorem L_markItemS (w0 w : World) (xs : List GItem) (v : Value) (F : List Nat) (k : Nat) (hv : fItems w xs [v] F) (hF : Fresh w0.heap.size F) (hb : Bw w0 w) (ht : totItems xs ≤ 1048576) (hk : k ≤ 2097152) : Calls Tryz.prog 16 #[v, .int .i64 k] w (RetM fItems w0 w (mkItems xs k) v F (k + totItems xs)) := by
  obtain ⟨A, n, c, rfl, l1, l2, l3⟩ := rSl_open (fItems_Rd hv)
  have hnn : n ≤ 1048576 := by rw [l1]; unfold totItems at ht; omega
  have L1 := Lib.hid l1
  have HT := Lib.hid ht
  unfold maxLen at l3
  clear l1 ht
  go_enter Tryz.func16, Tryz.ntmps16
  go_wp2
  go_loopw [1, 5] (fun s i w' => ∃ (j m : Nat) (cur : List GItem), j ≤ n ∧ i = .int .i64 j ∧ s = .int .i64 m ∧ Hid (m = k + totItems (xs.take j)) ∧ fItems w' cur [.slice A n c] F ∧ Hid (cur.length = n) ∧ Hid (cur.drop j = xs.drop j) ∧ Hid (cur.take j ++ mkItems (cur.drop j) m = mkItems xs k) ∧ Only F w w' ∧ Bw w0 w') (fun s i _ => n - (intOf i).toNat)
  case atStart => exact ⟨0, k, xs, by omega, rfl, rfl, Lib.hid (by simp [totItems, sumL]), hv, Lib.hid L1.out.symm, Lib.hid rfl, Lib.hid rfl, Only.refl _ _, hb⟩
  case round =>
    obtain ⟨j, m, cur, hj, rfl, rfl, HM, hv1, HL, HD, HE, hO, hb1⟩ := hrel
    clear hv
    by_cases hlt : j < n
    · obtain ⟨x, hy⟩ := get_of_lt (xs := cur) (k := j) (by rw [HL.out]; exact hlt)
      have hx : xs[j]? = some x := by
        have h1 : (cur.drop j)[0]? = (xs.drop j)[0]? := by rw [HD.out]
        rw [List.getElem?_drop, List.getElem?_drop, Nat.add_zero, hy] at h1
        exact h1.symm
      obtain ⟨g, rfl, hne, hgF⟩ := fSl_lit2 hv1 (by rw [HL.out]; omega)
      clear hne
      have hff0 := fSl_frozen hv1 (j * 2)
      obtain ⟨A0, c0, f0, hc0, _, _, _, _, _, hset⟩ := fItems_focus hv1 hF hy
      obtain ⟨hg1, hv2⟩ := hset (m : Int)
      have hy2 : (cur.set j (⟨m, x.vals⟩ : GItem))[j]? = some ⟨m, x.vals⟩ := by rw [List.getElem?_set_self (by rw [HL.out]; exact hlt)]
      obtain ⟨A', c', f, _, hc1, hin, hf, hfg, hback, _⟩ := fItems_focus hv2 hF hy2
      dsimp only at hc1 hin hback
      have hO1 := hO.then (Only.of_grown hg1 (by simp) hgF) (fun _ h => h)
      have hb2 := hb1.grown hg1 (fun q hq => by injection hq with hq; have := hF.ge g hgF; omega)
      have hxl : x.vals.length ≤ 1048576 := by have h1 := le_sum (fun x : GItem => x.vals.length) (List.mem_of_getElem? hx); have h3 := HT.out; unfold totItems at h3; omega
      have HM' := Lib.hid (show m + 1 + x.vals.length = k + totItems (xs.take (j + 1)) by rw [tot_take_succ hx]; have := HM.out; omega)
      have hbnd : m + 1 + x.vals.length ≤ 4194304 := by rw [HM'.out]; have h1 := tot_take_le xs (j + 1); have h3 := HT.out; omega
      have hcall := L_markIntS w0 _ x.vals (.slice A' x.vals.length c') f (m + 1) hin hf hb2 hxl (by omega)
      have HD' := Lib.hid (show (cur.set j (⟨m, mkInts x.vals (m + 1)⟩ : GItem)).drop (j + 1) = xs.drop (j + 1) by
        rw [set_drop]
        have h1 : (cur.drop j).drop 1 = (xs.drop j).drop 1 := by rw [HD.out]
        simpa [List.drop_drop] using h1)
      have HL' := Lib.hid (show (cur.set j (⟨m, mkInts x.vals (m + 1)⟩ : GItem)).length = n by rw [List.length_set]; exact HL.out)
      have HE' := Lib.hid (show (cur.set j (⟨m, mkInts x.vals (m + 1)⟩ : GItem)).take (j + 1) ++ mkItems ((cur.set j (⟨m, mkInts x.vals (m + 1)⟩ : GItem)).drop (j + 1)) (m + 1 + x.vals.length) = mkItems xs k by
        rw [set_take (by rw [HL.out]; exact hlt), set_drop, ← HE.out, drop_cons hy, mkItems, List.append_assoc]; rfl)
      have hback2 : ∀ w', Only f (wr.setCell ⟨g, j * 2, none⟩ (.int .i64 m)) w' → fInts w' (mkInts x.vals (m + 1)) [.slice A' x.vals.length c'] f → fItems w' (cur.set j ⟨m, mkInts x.vals (m + 1)⟩) [.slice (some ⟨g, 0, none⟩) n c] F := fun w' h1 h2 => by
        have := hback w' _ h1 h2
        rwa [List.set_set] at this
      obtain ⟨M, hM⟩ : ∃ M, M = x.vals.length := ⟨_, rfl⟩
      rw [← hM] at hc1 hcall hbnd HM' HE' hback2
      have i1 : ((m + 1 : Nat) : Int) = (m : Int) + 1 := by omega
      rw [i1] at hcall
      have hfF : ∀ b ∈ f, b ∈ F := fun b hb => (hfg b hb).1
      clear hx hy hy2 hv1 hv2 HM HL HD HE hin hback hset hO hb1 hM hxl i1 hg1 hb2 hgF hfg
      go_wp2_with fail
      refine hcall.mono ?_
      rintro e w2 ⟨rfl, hm2, hO2, hb3⟩
      have hv3 := hback2 w2 hO2 hm2
      have hO3 := hO1.then hO2 hfF
      clear hback2 hm2 hO2 hO1 hfF
      go_wp2
      go_roundw
      case rel => exact ⟨j + 1, m + 1 + M, _, by omega, by go_num, by go_num, HM', hv3, HL', HD', HE', hO3, hb3⟩
      case measure => simp [intOf]; omega
    · obtain rfl : j = n := by omega
      have HF := Lib.hid (show cur = mkItems xs k by rw [← HE.out, show cur.drop j = [] from List.drop_of_length_le (by rw [HL.out]; exact Nat.le_refl _), mkItems, List.append_nil, List.take_of_length_le (by rw [HL.out]; exact Nat.le_refl _)])
      have HN := Lib.hid (show ((m : Nat) : Int) = ((k + totItems xs : Nat) : Int) by rw [HM.out, List.take_of_length_le (by rw [← L1.out]; exact Nat.le_refl _)])
      clear HE HL HD HM
      go_wp2
      go_ret
      exact RetM.mk HN.out HF.out hv1 hO hb1
end Go.Proofs.YtfffklkiikmieaaGreat

namespace Go.Proofs.YtfffklkiikmieaaGreat
open Go.RowKit
set_option linter.unusedVariables false
def mkPairs : List GPair → Nat → List GPair
  | [], _ => []
  | _ :: xs, k => ⟨(k : Int), ((k + 1 : Nat) : Int)⟩ :: mkPairs xs (k + 2)
theorem mkPairs_length : ∀ (xs : List GPair) (k : Nat), (mkPairs xs k).length = xs.length
  | [], _ => rfl
  | _ :: xs, k => by rw [mkPairs, List.length_cons, mkPairs_length xs, List.length_cons]
theorem mkPairs_at : ∀ {xs : List GPair} {k j : Nat}, j < xs.length → (mkPairs xs k)[j]? = some ⟨((k + 2 * j : Nat) : Int), ((k + 2 * j + 1 : Nat) : Int)⟩
  | [], _, _, h => by simp at h
  | _ :: xs, k, 0, _ => rfl
  | _ :: xs, k, j + 1, h => by
    simp only [mkPairs, List.getElem?_cons_succ]; rw [mkPairs_at (by simpa using h)]
    rw [show k + 2 + 2 * j = k + 2 * (j + 1) by omega]
theorem all3_nilsP {w : World} : ∀ {xs : List GPair} {us : List (List Value)} {Fs : List (List Nat)}, all3 (fun x u f => fPair w x u f ∧ u.length = 2) xs us Fs → Fs.flatten = []
  | [], [], [], _ => rfl
  | _ :: xs, _ :: us, f :: Fs, h => by rw [List.flatten_cons, h.1.1.2, all3_nilsP (xs := xs) h.2]; rfl
  | [], _ :: _, _, h | [], [], _ :: _, h | _ :: _, [], _, h | _ :: _, _ :: _, [], h => h.elim
theorem fPairs_foot {e : TypeId} {w : World} {xs : List GPair} {v : Value} {f : List Nat} (h : fSl e 2 fPair w xs [v] f) : f = v.ownBlock.toList := by
  obtain ⟨v', us, Fs, hv, _, hall, hF⟩ := h
  injection hv with hv
  subst hv
  rw [hF, all3_nilsP hall, List.append_nil]

set_option maxRecDepth 100000 in
set_option maxHeartbeats 1600000 in
theorem L_markPairS (w0 w : World) (xs : List GPair) (v : Value) (F : List Nat) (k : Nat) (hv : fPairs w xs [v] F) (hF : Fresh w0.heap.size F) (hb : Bw w0 w) (hn : 2 * xs.length ≤ 4194304) (hk : k ≤ 8388608) :
    Calls Tryz.prog 95 #[v, .int .i64 k] w (RetM fPairs w0 w (mkPairs xs k) v F (k + 2 * xs.length)) := by
  obtain ⟨A, n, c, rfl, l1, l2, l3⟩ := rSl_open (fPairs_Rd hv)
  have hnn : n ≤ 2097152 := by rw [l1]; omega
  have L1 := Lib.hid l1
  unfold maxLen at l3
  clear l1 hn
  go_enter Tryz.func95, Tryz.ntmps95
  go_wp2
  go_loopw [1, 5] (fun s i w' => ∃ (j m : Nat) (cur : List GPair), j ≤ n ∧ i = .int .i64 j ∧ s = .int .i64 m ∧ Hid (m = k + 2 * j) ∧ m ≤ 16777216 ∧ fPairs w' cur [.slice A n c] F ∧ Hid (cur.length = n) ∧ Hid (cur.take j ++ mkPairs (cur.drop j) m = mkPairs xs k) ∧ Only F w w' ∧ Bw w0 w') (fun s i _ => n - (intOf i).toNat)
  case atStart => exact ⟨0, k, xs, by omega, rfl, rfl, Lib.hid rfl, by omega, hv, Lib.hid L1.out.symm, Lib.hid rfl, Only.refl _ _, hb⟩
  case round =>
    obtain ⟨j, m, cur, hj, rfl, rfl, HM, hm, hv1, HL, HE, hO, hb1⟩ := hrel
    clear hv
    by_cases hlt : j < n
    · obtain ⟨y, hy⟩ := get_of_lt (xs := cur) (k := j) (by rw [HL.out]; exact hlt)
      obtain ⟨g, rfl, hne, hgF⟩ := fSl_lit2 hv1 (by rw [HL.out]; omega)
      clear hne
      have hfr := fSl_frozen hv1 (j * 2)
      have hfr1 := fSl_frozen hv1 (j * 2 + 1)
      obtain ⟨bb, oo, ebb, _, hcell, hcell1⟩ := rPairs_at (fPairs_Rd hv1) hy
      injection ebb with ebb
      injection ebb with ebb eoo _
      subst ebb eoo
      simp only [Nat.zero_add] at hcell hcell1
      obtain ⟨F', hv', hF', hg, _, _⟩ := fSl_put (fPair_good (B := w0.heap.size)) hv1 hF (k := j) (y := (⟨(m : Int), ((m + 1 : Nat) : Int)⟩ : GPair)) (u := [.int .i64 m, .int .i64 ((m + 1 : Nat) : Int)]) ⟨rfl, rfl⟩ rfl (m := wr.heap.size) (fun b hb => (fPairs_good (B := 0)).lt hv1 b hb) Fresh.nil hb1.size (by rw [HL.out]; exact hlt)
      simp only [putCells] at hv' hg
      have i1 : ((m + 1 : Nat) : Int) = (m : Int) + 1 := by omega
      rw [i1] at hv' hg
      have eF : F' = F := (fPairs_foot hv').trans (fPairs_foot hv1).symm
      rw [eF] at hv'
      have hO' := hO.then (Only.of_grown hg (by simp) hgF) (fun _ h => h)
      have hb' := hb1.grown hg (fun q hq => by injection hq with hq; have := hF.ge g hgF; omega)
      have HL' := Lib.hid (show (cur.set j (⟨(m : Int), (m : Int) + 1⟩ : GPair)).length = n by rw [List.length_set]; exact HL.out)
      have HE' := Lib.hid (show (cur.set j (⟨(m : Int), (m : Int) + 1⟩ : GPair)).take (j + 1) ++ mkPairs ((cur.set j (⟨(m : Int), (m : Int) + 1⟩ : GPair)).drop (j + 1)) (m + 2) = mkPairs xs k by
        rw [set_take (by rw [HL.out]; exact hlt), set_drop, ← HE.out, drop_cons hy, mkPairs, List.append_assoc]; rfl)
      have HM' := Lib.hid (show m + 2 = k + 2 * (j + 1) by have := HM.out; omega)
      have hm' : m + 2 ≤ 16777216 := by have := HM'.out; omega
      clear hy hv1 HL HE HM hO hg hF' i1 eF hgF hb1
      go_wp2
      go_roundw
      case rel => exact ⟨j + 1, m + 2, _, by omega, by go_num, by go_num, HM', hm', hv', HL', HE', hO', hb'⟩
      case measure => simp [intOf]; omega
    · obtain rfl : j = n := by omega
      have HF := Lib.hid (show cur = mkPairs xs k by rw [← HE.out, show cur.drop j = [] from List.drop_of_length_le (by rw [HL.out]; exact Nat.le_refl _), mkPairs, List.append_nil, List.take_of_length_le (by rw [HL.out]; exact Nat.le_refl _)])
      have HN := Lib.hid (show ((m : Nat) : Int) = ((k + 2 * xs.length : Nat) : Int) by rw [HM.out, ← L1.out])
      clear HE HL HM
      go_wp2
      go_ret
      exact RetM.mk HN.out HF.out hv1 hO hb1

set_option maxHeartbeats 1600000 in
theorem L_heldPairS (w : World) (xs : List GPair) (v : Value) (k : Nat) (h : Rd rPairs w (mkPairs xs k) [v]) (hn : 2 * xs.length ≤ 4194304) (hk : k ≤ 8388608) : Calls Tryz.prog 111 #[v, .int .i64 k] w (Ret w (.int .i64 ((k + 2 * xs.length : Nat) : Int))) := by
  obtain ⟨A, n, c, rfl, l1, l2, l3⟩ := rSl_open h
  rw [mkPairs_length] at l1
  have hnn : 2 * n ≤ 4194304 := by rw [l1]; exact hn
  have L1 := Lib.hid l1
  unfold maxLen at l3
  clear l1 hn
  go_enter Tryz.func111, Tryz.ntmps111
  go_wp2
  go_loopw [1, 5] (fun s i w' => ∃ j m : Nat, j ≤ n ∧ i = .int .i64 j ∧ s = .int .i64 m ∧ Hid (m = k + 2 * j) ∧ Bw w w') (fun s i _ => n - (intOf i).toNat)
  case atStart => exact ⟨0, k, by omega, rfl, rfl, Lib.hid rfl, Bw.refl _⟩
  case round =>
    obtain ⟨j, m, hj, rfl, rfl, HM, hb⟩ := hrel
    by_cases hlt : j < n
    · have hat := mkPairs_at (k := k) (show j < xs.length by rw [← L1.out]; exact hlt)
      rw [← HM.out] at hat
      obtain ⟨b, o, rfl, _, hc0, hc1⟩ := rPairs_at h hat
      have hcx := hb.cell hc0
      have hcx1 := hb.cell hc1
      have i1 : ((m + 1 : Nat) : Int) = (m : Int) + 1 := by omega
      simp only [i1] at hcx1
      have hm : m + 2 ≤ 16777216 := by have := HM.out; omega
      have HM' := Lib.hid (show m + 2 = k + 2 * (j + 1) by have := HM.out; omega)
      clear h hc0 hc1 hat HM i1
      go_wp2
      go_roundw
      case rel => exact ⟨j + 1, m + 2, by omega, by go_num, by go_num, HM', hb⟩
      case measure => simp [intOf]; omega
    · obtain rfl : j = n := by omega
      have HN := Lib.hid (show ((m : Nat) : Int) = ((k + 2 * xs.length : Nat) : Int) by rw [HM.out, ← L1.out])
      clear HM
      go_wp2
      go_ret
      exact Ret.int HN.out hb
end Go.Proofs.YtfffklkiikmieaaGreat
