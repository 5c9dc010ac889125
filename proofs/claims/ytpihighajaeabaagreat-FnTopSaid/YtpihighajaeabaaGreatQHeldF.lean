/- The library's IndexFunc, ContainsFunc and DeleteFunc on a window of items. -/
import Derived.Test.YtpihighajaeabaaGreatQWishes3
import Derived.Test.YtpihighajaeabaaGreatQOwn3
import Derived.Test.YtpihighajaeabaaGreatQOnly
import Derived.Test.YtpihighajaeabaaGreatQCmpI
import Derived.Lib.SliceRun
namespace Go.Proofs.YtpihighajaeabaaGreat
open Go.RowKit
set_option linter.unusedVariables false
section
variable {α : Type} {R : α → List Value → List Nat → Prop}
theorem all3_take : ∀ {xs : List α} {us : List (List Value)} {fs : List (List Nat)} (k : Nat), all3 R xs us fs → all3 R (xs.take k) (us.take k) (fs.take k)
  | [], [], [], k, _ => by simp [all3]
  | x :: xs, u :: us, f :: fs, 0, _ => by simp [all3]
  | x :: xs, u :: us, f :: fs, k + 1, h => ⟨h.1, all3_take k h.2⟩
theorem all3_drop : ∀ {xs : List α} {us : List (List Value)} {fs : List (List Nat)} (k : Nat), all3 R xs us fs → all3 R (xs.drop k) (us.drop k) (fs.drop k)
  | [], [], [], k, _ => by simp [all3]
  | x :: xs, u :: us, f :: fs, 0, h => h
  | x :: xs, u :: us, f :: fs, k + 1, h => all3_drop k h.2
theorem all3_without {xs : List α} {us : List (List Value)} {fs : List (List Nat)} (k : Nat) (h : all3 R xs us fs) : all3 R (xs.take k ++ xs.drop (k + 1)) (us.take k ++ us.drop (k + 1)) (fs.take k ++ fs.drop (k + 1)) := all3_append (all3_take k h) (all3_drop (k + 1) h)
end
theorem flat_take {us : List (List Value)} {sz k : Nat} (h : ∀ u ∈ us, u.length = sz) (hk : k ≤ us.length) : us.flatten.take (k * sz) = (us.take k).flatten := by
  have hl : (us.take k).flatten.length = k * sz := by
    rw [flat_len (sz := sz) (fun u hu => h u (List.mem_of_mem_take hu)), List.length_take, Nat.min_eq_left hk]
  conv => lhs; rw [← List.take_append_drop k us, List.flatten_append]
  rw [← hl, List.take_left]
theorem flat_drop {us : List (List Value)} {sz k : Nat} (h : ∀ u ∈ us, u.length = sz) (hk : k ≤ us.length) : us.flatten.drop (k * sz) = (us.drop k).flatten := by
  have hl : (us.take k).flatten.length = k * sz := by
    rw [flat_len (sz := sz) (fun u hu => h u (List.mem_of_mem_take hu)), List.length_take, Nat.min_eq_left hk]
  conv => lhs; rw [← List.take_append_drop k us, List.flatten_append]
  rw [← hl, List.drop_left]
theorem fs_without {Fs : List (List Nat)} {k : Nat} : (Fs.take k ++ Fs.drop (k + 1)).flatten.Sublist Fs.flatten := by
  rw [List.flatten_append]
  conv => rhs; rw [← List.take_append_drop k Fs, List.flatten_append]
  refine List.Sublist.append (List.Sublist.refl _) ?_
  rcases h : Fs.drop k with _ | ⟨f, l⟩
  · have : Fs.drop (k + 1) = [] := by rw [← List.drop_drop, h]; rfl
    rw [this]; exact List.Sublist.refl _
  · have : Fs.drop (k + 1) = l := by rw [← List.drop_drop, h]; rfl
    rw [this, List.flatten_cons]; exact List.sublist_append_right _ _
section
variable {P : Program}
theorem step_without {α : Type} {ops : Array Oper} {o : Oper} {a : Act} {K : Act → World → Prop} {Q : Exit → Act → World → Prop} {E : Prop} (W : World) (hgd : o.guard = none) (s x : Operand) (t : TypeId)
    (ho : o.op = .call { callee := .builtin .append, args := #[s, x], argTypes := #[t, t] })
    (w0 : World) (e : TypeId) (i : TypeInfo) (z : Value) (sz bytes : Nat) (ht : P.underlying t = some (.slice e)) (hi : P.info? e = some i) (hz : i.zero = some z)
    (hsize : i.size = sz) (hby : i.bytes = bytes) (hzs : z.cells.size = sz) (hsz : 0 < sz)
    {R : Fp α} (hR : GoodF w0.heap.size R) (g n c : Nat) (xs : List α) (F : List Nat) (hv : fSl e sz R W xs [.slice (some ⟨g, 0, none⟩) n c] F) (hF : Fresh w0.heap.size F)
    (k : Nat) (hk : k < n) (hs : a.eval s = .slice (some ⟨g, 0, none⟩) k c) (ad : Addr) (l c' : Nat) (hx : a.eval x = .slice (some ad) l c') (hln : l = n - (k + 1)) (had : k + 1 < n → ad = ⟨g, (k + 1) * sz, none⟩)
    (hbytes : n * bytes ≤ 140737488355328) (hlen : n < 4611686018427387904) (hbw : Bw w0 W)
    (h : ∀ v' w' F', fSl e sz R w' (xs.take k ++ xs.drop (k + 1)) [v'] F' → Fresh w0.heap.size F' → Bw w0 w' → Only F W w' → (∀ b ∈ F', b ∈ F ∨ W.heap.size ≤ b) → K (a.put o.dst v') w') : if Region.wanted o (yielded ops a.tmps) = true then Oper.wp P o a W K Q else E := by
  have hw : Region.wanted o (yielded ops a.tmps) = true := by simp [Region.wanted, hgd]
  rw [if_pos hw]
  subst hln
  obtain ⟨v0, us, Fs, hv0, hown, hall, hFe⟩ := hv
  injection hv0 with hv0
  have hl := all3_len hall
  have hus : ∀ u ∈ us, u.length = sz := fun u hu => by obtain ⟨x, f, hr⟩ := all3_mem_us hall hu; exact hr.2
  rcases hown.2 with ⟨h0, _⟩ | ⟨g', cap, cur, hv1, _, hb, h1, h2, h3, h4⟩
  · rw [← hv0] at h0; cases h0
  rw [← hv0] at hv1
  injection hv1 with e1 e2 e3
  injection e1 with e1
  injection e1 with e1
  subst e1 e3
  have hn : us.length = n := by rw [hl.1, e2]
  have hpre : W.ownsRow 0 e sz (.slice (some ⟨g, 0, none⟩) k c) k (us.take k).flatten := by
    refine ⟨by rw [flat_len (sz := sz) (fun u hu => hus u (List.mem_of_mem_take hu)), List.length_take, Nat.min_eq_left (by omega)], .inr ⟨g, c, cur, rfl, Nat.zero_le _, hb, by omega, h2, h3, ?_⟩⟩
    rw [← flat_take hus (by omega), ← h4, List.take_take, Nat.min_eq_left (Nat.mul_le_mul_right _ (by omega))]
  have hnl : (us.drop (k + 1)).flatten.length = (n - (k + 1)) * sz := by rw [flat_len (sz := sz) (fun u hu => hus u (List.mem_of_mem_drop hu)), List.length_drop, hn]
  have hnews : ∀ j u, (us.drop (k + 1)).flatten[j]? = some u → W.cell? (ad.add j) = some u := by
    intro j u hj
    have hjl : j < (n - (k + 1)) * sz := by rw [← hnl]; exact (List.getElem?_eq_some_iff.1 hj).1
    have hkn : k + 1 < n := by
      rcases Nat.lt_or_ge (k + 1) n with h | h
      · exact h
      · rw [show n - (k + 1) = 0 from by omega] at hjl; omega
    rw [had hkn, show (⟨g, (k + 1) * sz, none⟩ : Addr).add j = ⟨g, (k + 1) * sz + j, none⟩ by
      unfold Addr.add
      split
      · rename_i h0; subst h0; rfl
      · rfl]
    rw [cell_of_row W g _ cur e (0, 0) hb]
    rw [← flat_drop hus (by omega), List.getElem?_drop, ← h4, List.getElem?_take] at hj
    split at hj
    · rw [← hj]; simp
    · cases hj
  have hone : ∀ u ∈ (us.drop (k + 1)).flatten, u.oneCell' = true := fun u hu => by
    obtain ⟨l, hl', hul⟩ := List.mem_flatten.1 hu
    obtain ⟨y, f, hr⟩ := all3_mem_us hall (List.mem_of_mem_drop hl')
    exact hR.one hr.1 u hul
  have hvg : w0.heap.size ≤ g := hF.ge g (by rw [hFe, ← hv0]; simp [Value.ownBlock])
  have hgF : g ∈ F := by rw [hFe, ← hv0]; simp [Value.ownBlock]
  obtain ⟨v', w', hrun, hown', hgrow, _, hat⟩ := run_append_own_at (P := P) W 0 t o.type e i z sz bytes ht hi hz hsize hby hzs hsz _ k _ hpre ad (n - (k + 1)) c' (us.drop (k + 1)).flatten hnl hnews hone
    (by simp only [maxLen]; omega) (by rw [show k + (n - (k + 1)) = n - 1 from by omega]; exact Nat.le_trans (Nat.mul_le_mul_right _ (by omega)) hbytes) (Nat.zero_le _)
  have hbw' : Bw w0 w' := hbw.grown hgrow (fun k' hk' => by simp [Value.ownBlock] at hk'; omega)
  have hnd := hF.nodup
  rw [hFe, ← hv0] at hnd
  simp only [Value.ownBlock, Option.toList, List.singleton_append, List.nodup_cons] at hnd
  have hsub := fs_without (Fs := Fs) (k := k)
  have hlts : ∀ b ∈ Fs.flatten, b < W.heap.size := fun b hb => (fSl_good hR).lt (⟨v0, us, Fs, rfl, hown, hall, rfl⟩ : fSl e sz R W xs [v0] _) b (List.mem_append_right _ hb)
  have hold : ∀ b, b < w0.heap.size → w'.heap[b]? = W.heap[b]? := fun b hb => hgrow.block b (Nat.lt_of_lt_of_le hb hbw.size) (fun e => by simp [Value.ownBlock] at e; omega)
  unfold Oper.wp execOp
  simp only [ho, resolve, invoke, builtin, Sem.run_bind, Sem.run_pure, Result.andThen_ok, List.map_toArray, List.map_cons, List.map_nil, hs, hx, hrun]
  refine h v' w' (v'.ownBlock.toList ++ (Fs.take k ++ Fs.drop (k + 1)).flatten) ⟨v', us.take k ++ us.drop (k + 1), Fs.take k ++ Fs.drop (k + 1), rfl, ?_, ?_, rfl⟩ ⟨?_, ?_⟩ hbw' ⟨hgrow.size, fun b hb hn => hgrow.block b hb (fun e => by simp [Value.ownBlock] at e; exact hn (e ▸ hgF))⟩ ?_
  · rw [List.flatten_append, List.length_append, List.length_take, List.length_drop, show min k xs.length + (xs.length - (k + 1)) = k + (n - (k + 1)) from by omega]; exact hown'
  · refine all3_imp (fun y u f' hf' hy => ⟨hR.step (fun b hb => ?_) hy.1, hy.2⟩) (all3_without k hall)
    rcases hb with hb | hb
    · have hb' : b ∈ Fs.flatten := hsub.subset (List.mem_flatten.2 ⟨_, hf', hb⟩)
      exact hgrow.block b (hlts b hb') (fun e => by simp [Value.ownBlock] at e; exact hnd.1 (e ▸ hb'))
    · exact hold b hb
  · rw [List.nodup_append]
    refine ⟨by cases v'.ownBlock <;> simp, hnd.2.sublist hsub, fun p hp q hq e => ?_⟩
    subst e
    have hp' : v'.ownBlock = some p := by simpa using hp
    have hq' := hsub.subset hq
    rcases hat with e | e
    · rw [hp'] at e; simp [Value.ownBlock] at e; exact hnd.1 (e ▸ hq')
    · rw [hp'] at e
      injection e with e
      have := hlts p hq'; omega
  · intro b hb
    rcases List.mem_append.1 hb with hb | hb
    · have hb' : v'.ownBlock = some b := by simpa using hb
      rcases hat with e | e
      · rw [hb'] at e; simp [Value.ownBlock] at e; omega
      · rw [hb'] at e
        injection e with e
        have := hbw.size
        omega
    · exact hF.ge b (by rw [hFe]; exact List.mem_append_right _ (hsub.subset hb))
  · intro b hb
    rcases List.mem_append.1 hb with hb | hb
    · have hb' : v'.ownBlock = some b := by simpa using hb
      rcases hat with e | e
      · rw [hb'] at e; simp [Value.ownBlock] at e; exact .inl (e ▸ hgF)
      · rw [hb'] at e
        injection e with e
        exact .inr (by omega)
    · exact .inl (by rw [hFe]; exact List.mem_append_right _ (hsub.subset hb))
end
end Go.Proofs.YtpihighajaeabaaGreat

namespace Go.Proofs.YtpihighajaeabaaGreat
open Go.RowKit
set_option linter.unusedVariables false
set_option linter.unusedSimpArgs false
structure GHeld where
  item : GItem
  early : Bool
def rHeld : Rep GHeld := fun w S x cs => ∃ v, cs = [.int .i64 x.item.id, v, .bool x.early] ∧ rInts w S x.item.vals [v]
theorem rHeld_good : Good rHeld := ⟨fun hA ⟨v, e, h⟩ => ⟨v, e, rInts_good.step hA h⟩⟩
theorem rHeld_one {w : World} {S : Blocks} {x : GHeld} {cs : List Value} (h : rHeld w S x cs) : ∀ u ∈ cs, u.oneCell' = true := by
  obtain ⟨v, rfl, h⟩ := h
  obtain ⟨A, c, rfl, _⟩ := rSl_shape h
  intro u hu
  simp at hu
  rcases hu with rfl | rfl | rfl <;> rfl
theorem shHeld {B : Nat} {W : World} {x : GHeld} {cs : List Value} (h : rHeld W (fun b => b < B) x cs) : fSh B rHeld W x cs [] := ⟨rfl, h, rHeld_one h⟩
abbrev fHelds (B : Nat) : Fp (List GHeld) := fSl 116 3 (fSh B rHeld)
theorem fHelds_good {B B' : Nat} (hB : B' ≤ B) : GoodF B (fHelds B') := fSl_good (fSh_good rHeld_good hB)
theorem info_held : (Tryz.prog.info? 116).map (fun i => (i.zero, i.size, i.bytes)) = some (some (.agg #[.int .i64 0, .slice none 0 0, .bool false]), 3, 40) := by kernel_rfl
theorem fHelds_at {B : Nat} {w : World} {xs : List GHeld} {A : Option Addr} {n c : Nat} {F : List Nat} (h : fHelds B w xs [.slice A n c] F) {k : Nat} {x : GHeld} (hx : xs[k]? = some x) : ∃ b o A' c', A = some ⟨b, o, none⟩ ∧ w.cell? ⟨b, o + k * 3, none⟩ = some (.int .i64 x.item.id) ∧ w.cell? ⟨b, o + k * 3 + 1, none⟩ = some (.slice A' x.item.vals.length c') ∧ w.cell? ⟨b, o + k * 3 + 2, none⟩ = some (.bool x.early) ∧ rInts w (fun b => b < B) x.item.vals [.slice A' x.item.vals.length c'] := by
  have hr : rSl 3 rHeld w (fun b => b ∈ F ∨ b < B) xs [.slice A n c] := fSl_rd rHeld_good (fun _ _ _ h => fSh_rd rHeld_good h) h
  obtain ⟨b, o, us, e, hS, _, hc, v, rfl, hv⟩ := rSl_at hr hx
  obtain ⟨A', c', rfl, _⟩ := rSl_shape hv
  have hlow : rInts w (fun b => b < B) x.item.vals [.slice A' x.item.vals.length c'] := by
    obtain ⟨v0, us, Fs, e0, hown, hall, hFe⟩ := h
    injection e0 with e0
    subst e0
    have hl := all3_len hall
    have hus : ∀ u ∈ us, u.length = 3 := fun u hu => by obtain ⟨x, f, hr⟩ := all3_mem_us hall hu; exact hr.2
    obtain ⟨A2, c2, e2, _, _, h3⟩ := ownsRow_rSl hown hl.1 hus
    injection e2 with e2 e3 e4
    obtain ⟨u, f, hu, hf, hr2⟩ := all3_at hall hx
    obtain ⟨b2, e5, _, hc2⟩ := h3 k u hu
    obtain ⟨v2, rfl, hv2⟩ := hr2.1.2.1
    rw [e] at e2
    rw [e5] at e2
    injection e2 with e2
    injection e2 with e2 e6
    subst e2 e6
    have h9 := hc2 1 v2 rfl
    have h8 := hc 1 _ rfl
    rw [h8] at h9
    injection h9 with h9
    rw [h9]; exact hv2
  exact ⟨b, o, A', c', e, hc 0 _ rfl, hc 1 _ rfl, hc 2 _ rfl, hlow⟩
/-- what a closure of BlockBest holds: the expression in a box, an item in another -/
structure EnvB (w : World) (p1 p2 : Nat) (e : List GNode) (x : GItem) : Prop where
  ex : ∃ A n c, w.cell? ⟨p1, 0, none⟩ = some (.slice A n c) ∧ Rd rNodes w e [.slice A n c]
  it : ∃ A n c, w.cell? ⟨p2, 0, none⟩ = some (.int .i64 x.id) ∧ w.cell? ⟨p2, 1, none⟩ = some (.slice A n c) ∧ Rd rInts w x.vals [.slice A n c]
theorem EnvB.bw {w w' : World} {p1 p2 : Nat} {e : List GNode} {x : GItem} (h : EnvB w p1 p2 e x) (hb : Bw w w') : EnvB w' p1 p2 e x := by
  obtain ⟨⟨A, n, c, h1, h2⟩, ⟨A', n', c', h3, h4, h5⟩⟩ := h
  exact ⟨⟨A, n, c, hb.cell h1, h2.bw rNodes_good hb⟩, ⟨A', n', c', hb.cell h3, hb.cell h4, h5.bw rInts_good hb⟩⟩
set_option maxRecDepth 100000 in
set_option maxHeartbeats 800000 in
theorem I_bb1 (w : World) (h : GHeld) (u : Value) (p1 p2 : Nat) (e : List GNode) (x : GItem) (hE : EnvB w p1 p2 e x) (hu : Rd rInts w h.item.vals [u]) (he : isExpr e = true) (hx : isItem x = true) (hh : isItem h.item = true) :
    Calls Tryz.prog 114 #[.agg #[.int .i64 h.item.id, u, .bool h.early], .pointer (some ⟨p1, 0, none⟩), .pointer (some ⟨p2, 0, none⟩)] w (Ret w (.bool (beats e h.item x))) := by
  obtain ⟨⟨Ae, ne, ce, c1, r1⟩, ⟨Ax, nx, cx, c2, c3, r2⟩⟩ := hE
  obtain ⟨Ah, nh, ch, rfl, lh, _⟩ := rSl_open hu
  clear lh
  have hAl := (Bw.refl w).alloc (.cells #[.int .i64 h.item.id, .slice Ah nh ch, .bool h.early] 116)
  have d1 := hAl.cell c1
  have d2 := hAl.cell c2
  have d3 := hAl.cell c3
  have hcall := I_compareBy _ e h.item x _ _ _ (r1.bw rNodes_good hAl) (hu.bw rInts_good hAl) (r2.bw rInts_good hAl) he hh hx
  obtain ⟨Y, hY⟩ : ∃ Y, Y = beats e h.item x := ⟨_, rfl⟩
  rw [← hY]
  have HY := Lib.hid hY
  clear hY r1 r2 hu
  go_enter Tryz.func114, Tryz.ntmps114
  go_wp2_with fail
  refine hcall.mono ?_
  rintro e2 w2 ⟨rfl, hb2⟩
  clear hcall
  go_wp2
  go_ret
  exact Ret.bool (by rw [HY.out]; rfl) (hAl.then hb2)
set_option maxRecDepth 100000 in
set_option maxHeartbeats 800000 in
theorem I_bb2 (w : World) (h : GHeld) (u : Value) (p1 p2 : Nat) (e : List GNode) (x : GItem) (hE : EnvB w p1 p2 e x) (hu : Rd rInts w h.item.vals [u]) (he : isExpr e = true) (hx : isItem x = true) (hh : isItem h.item = true) :
    Calls Tryz.prog 116 #[.agg #[.int .i64 h.item.id, u, .bool h.early], .pointer (some ⟨p1, 0, none⟩), .pointer (some ⟨p2, 0, none⟩)] w (Ret w (.bool (beats e x h.item))) := by
  obtain ⟨⟨Ae, ne, ce, c1, r1⟩, ⟨Ax, nx, cx, c2, c3, r2⟩⟩ := hE
  obtain ⟨Ah, nh, ch, rfl, lh, _⟩ := rSl_open hu
  clear lh
  have hAl := (Bw.refl w).alloc (.cells #[.int .i64 h.item.id, .slice Ah nh ch, .bool h.early] 116)
  have d1 := hAl.cell c1
  have d2 := hAl.cell c2
  have d3 := hAl.cell c3
  have hcall := I_compareBy _ e x h.item _ _ _ (r1.bw rNodes_good hAl) (r2.bw rInts_good hAl) (hu.bw rInts_good hAl) he hx hh
  obtain ⟨Y, hY⟩ : ∃ Y, Y = beats e x h.item := ⟨_, rfl⟩
  rw [← hY]
  have HY := Lib.hid hY
  clear hY r1 r2 hu
  go_enter Tryz.func116, Tryz.ntmps116
  go_wp2_with fail
  refine hcall.mono ?_
  rintro e2 w2 ⟨rfl, hb2⟩
  clear hcall
  go_wp2
  go_ret
  exact Ret.bool (by rw [HY.out]; rfl) (hAl.then hb2)
end Go.Proofs.YtpihighajaeabaaGreat

namespace Go.Proofs.YtpihighajaeabaaGreat
open Go.RowKit
set_option linter.unusedVariables false
set_option linter.unusedSimpArgs false
def idxF (P : GHeld → Bool) : Nat → List GHeld → Int
  | _, [] => -1
  | k, h :: l => if P h then (k : Int) else idxF P (k + 1) l
theorem idxF_yes {P : GHeld → Bool} {l : List GHeld} {k : Nat} {x : GHeld} (h : l[k]? = some x) (e : P x = true) : idxF P k (l.drop k) = k := by rw [drop_cons h, idxF, if_pos e]
theorem idxF_no {P : GHeld → Bool} {l : List GHeld} {k : Nat} {x : GHeld} (h : l[k]? = some x) (e : P x = false) : idxF P k (l.drop k) = idxF P (k + 1) (l.drop (k + 1)) := by rw [drop_cons h, idxF, if_neg (by rw [e]; simp)]
theorem idxF_end {P : GHeld → Bool} {l : List GHeld} {k : Nat} (h : l.length ≤ k) : idxF P k (l.drop k) = -1 := by rw [List.drop_of_length_le h, idxF]
theorem idxF_cases (P : GHeld → Bool) : ∀ (l : List GHeld) (k : Nat), (idxF P k l = -1 ∧ ∀ x ∈ l, P x = false) ∨ ∃ (j : Nat) (x : GHeld), idxF P k l = ((k + j : Nat) : Int) ∧ l[j]? = some x ∧ P x = true ∧ ∀ y ∈ l.take j, P y = false
  | [], k => .inl ⟨rfl, by simp⟩
  | h :: l, k => by
    rw [idxF]
    by_cases hp : P h = true
    · rw [if_pos hp]
      exact .inr ⟨0, h, rfl, rfl, hp, by simp⟩
    · rw [if_neg hp]
      rcases idxF_cases P l (k + 1) with ⟨h1, h2⟩ | ⟨j, x, h1, h2, h3, h4⟩
      · refine .inl ⟨h1, fun x hx => ?_⟩
        rcases List.mem_cons.1 hx with rfl | hx
        · simpa using hp
        · exact h2 x hx
      · refine .inr ⟨j + 1, x, by rw [h1]; congr 1; omega, by simpa using h2, h3, fun y hy => ?_⟩
        rw [List.take_succ_cons] at hy
        rcases List.mem_cons.1 hy with rfl | hy
        · simpa using hp
        · exact h4 y hy
theorem idxF_any (P : GHeld → Bool) (l : List GHeld) : decide (0 ≤ idxF P 0 l) = l.any P := by
  rcases idxF_cases P l 0 with ⟨h1, h2⟩ | ⟨j, x, h1, h2, h3, _⟩
  · rw [h1]
    symm
    rw [show decide ((0 : Int) ≤ -1) = false by decide, List.any_eq_false]
    exact fun x hx => by rw [h2 x hx]; simp
  · rw [h1, decide_eq_true (by omega)]
    symm
    rw [List.any_eq_true]
    exact ⟨x, List.mem_of_getElem? h2, h3⟩
theorem helds_bw {B : Nat} {w w' : World} {xs : List GHeld} {v : Value} {F : List Nat} (h : fHelds B w xs [v] F) (hB : B ≤ w.heap.size) (hb : Bw w w') : fHelds B w' xs [v] F := (fHelds_good (B := w.heap.size) hB).bw hb (Nat.le_refl _) h
theorem held_low {B : Nat} {w : World} {xs : List Int} {u : Value} (h : rInts w (fun b => b < B) xs [u]) (hB : B ≤ w.heap.size) : Rd rInts w xs [u] := rInts_good.step ⟨fun b hb => Nat.lt_of_lt_of_le hb hB, fun _ _ => rfl⟩ h
theorem helds_len {B : Nat} {w : World} {xs : List GHeld} {A : Option Addr} {n c : Nat} {F : List Nat} (h : fHelds B w xs [.slice A n c] F) : n = xs.length ∧ n ≤ c ∧ c ≤ maxLen := by
  have hr : rSl 3 rHeld w (fun b => b ∈ F ∨ b < B) xs [.slice A n c] := fSl_rd rHeld_good (fun _ _ _ h => fSh_rd rHeld_good h) h
  obtain ⟨A', n', c', e, l1, l2, l3⟩ := rSl_open hr
  injection e with e1 e2 e3
  subst e1 e2 e3
  exact ⟨l1, l2, l3⟩
set_option maxRecDepth 100000 in
set_option maxHeartbeats 1600000 in
theorem held_idx1 (w : World) (B : Nat) (xs : List GHeld) (A : Option Addr) (n c : Nat) (F : List Nat) (p1 p2 : Nat) (e : List GNode) (x : GItem) (hv : fHelds B w xs [.slice A n c] F) (hB : B ≤ w.heap.size) (hE : EnvB w p1 p2 e x) (he : isExpr e = true) (hx : isItem x = true) (hxs : ∀ h ∈ xs, isItem h.item = true) :
    Calls Tryz.prog 176 #[.slice A n c, .func (.func 114) #[] #[.pointer (some ⟨p1, 0, none⟩), .pointer (some ⟨p2, 0, none⟩)]] w (Ret w (.int .i64 (idxF (fun h => beats e h.item x) 0 xs))) := by
  obtain ⟨l1, _, l3⟩ := helds_len hv
  unfold maxLen at l3
  have L1 := Lib.hid l1
  have HV := Lib.hid hv
  have HE := Lib.hid hE
  obtain ⟨Q, hQ⟩ : ∃ Q : GHeld → Bool, Q = fun h => beats e h.item x := ⟨_, rfl⟩
  rw [← hQ]
  have HQ := Lib.hid hQ
  obtain ⟨Y, hY⟩ : ∃ Y, Y = idxF Q 0 xs := ⟨_, rfl⟩
  rw [← hY]
  have HY := Lib.hid hY
  clear hQ hY l1 hv hE
  go_enter Tryz.func176, Tryz.ntmps176
  go_wp2
  go_loopg [8] (n + 1) (fun gg i w' => ∃ k : Nat, k ≤ n ∧ gg = n + 1 - k ∧ i = .int .i64 k ∧ Hid (Y = idxF Q k (xs.drop k)) ∧ Bw w w')
  case atStart => exact ⟨0, by omega, by omega, rfl, HY, Bw.refl _⟩
  case round =>
    obtain ⟨k, hk, rfl, rfl, HI, hb⟩ := hrel
    by_cases hlt : k < n
    · obtain ⟨h, hh⟩ := get_of_lt (xs := xs) (k := k) (by rw [← L1.out]; exact hlt)
      obtain ⟨ba, oa, A', c', rfl, ca, cb, cc, hlow⟩ := fHelds_at (helds_bw HV.out hB hb) hh
      have hi : isItem h.item = true := hxs h (List.mem_of_getElem? hh)
      have hrd := held_low hlow (Nat.le_trans hB hb.size)
      obtain ⟨m, hm⟩ : ∃ m, m = h.item.vals.length := ⟨_, rfl⟩
      rw [← hm] at cb hrd
      have hcall := I_bb1 wr h _ p1 p2 e x (HE.out.bw hb) hrd he hx hi
      have i1 : (k : Int) < (n : Int) := by omega
      have i0 : (0 : Int) ≤ (k : Int) := by omega
      cases hq : Q h with
      | true =>
        have HS := Lib.hid (idxF_yes hh hq)
        have hq' : (beats e h.item x) = true := by rw [HQ.out] at hq; exact hq
        rw [hq'] at hcall
        clear hh hq hq' hlow hrd hm
        go_wp2_with fail
        refine hcall.mono ?_
        rintro e2 w2 ⟨rfl, hb2⟩
        clear hcall
        go_wp2
        go_ret
        exact Ret.int (by rw [HI.out, HS.out]) (hb.then hb2)
      | false =>
        have HS := Lib.hid (idxF_no hh hq)
        have hq' : (beats e h.item x) = false := by rw [HQ.out] at hq; exact hq
        rw [hq'] at hcall
        clear hh hq hq' hlow hrd hm
        go_wp2_with fail
        refine hcall.mono ?_
        rintro e2 w2 ⟨rfl, hb2⟩
        clear hcall
        go_wp2
        go_roundg (n + 1 - (k + 1))
        case measure => omega
        case rel => exact ⟨k + 1, by omega, rfl, by go_num, Lib.hid (by rw [HI.out, HS.out]), hb.then hb2⟩
    · have i1 : ¬ (k : Int) < (n : Int) := by omega
      go_wp2
      go_ret
      exact Ret.int (by rw [HI.out, idxF_end (by rw [← L1.out]; omega)]) hb
set_option maxRecDepth 100000 in
set_option maxHeartbeats 1600000 in
theorem held_idx2 (w : World) (B : Nat) (xs : List GHeld) (A : Option Addr) (n c : Nat) (F : List Nat) (p1 p2 : Nat) (e : List GNode) (x : GItem) (hv : fHelds B w xs [.slice A n c] F) (hB : B ≤ w.heap.size) (hE : EnvB w p1 p2 e x) (he : isExpr e = true) (hx : isItem x = true) (hxs : ∀ h ∈ xs, isItem h.item = true) :
    Calls Tryz.prog 176 #[.slice A n c, .func (.func 116) #[] #[.pointer (some ⟨p1, 0, none⟩), .pointer (some ⟨p2, 0, none⟩)]] w (Ret w (.int .i64 (idxF (fun h => beats e x h.item) 0 xs))) := by
  obtain ⟨l1, _, l3⟩ := helds_len hv
  unfold maxLen at l3
  have L1 := Lib.hid l1
  have HV := Lib.hid hv
  have HE := Lib.hid hE
  obtain ⟨Q, hQ⟩ : ∃ Q : GHeld → Bool, Q = fun h => beats e x h.item := ⟨_, rfl⟩
  rw [← hQ]
  have HQ := Lib.hid hQ
  obtain ⟨Y, hY⟩ : ∃ Y, Y = idxF Q 0 xs := ⟨_, rfl⟩
  rw [← hY]
  have HY := Lib.hid hY
  clear hQ hY l1 hv hE
  go_enter Tryz.func176, Tryz.ntmps176
  go_wp2
  go_loopg [8] (n + 1) (fun gg i w' => ∃ k : Nat, k ≤ n ∧ gg = n + 1 - k ∧ i = .int .i64 k ∧ Hid (Y = idxF Q k (xs.drop k)) ∧ Bw w w')
  case atStart => exact ⟨0, by omega, by omega, rfl, HY, Bw.refl _⟩
  case round =>
    obtain ⟨k, hk, rfl, rfl, HI, hb⟩ := hrel
    by_cases hlt : k < n
    · obtain ⟨h, hh⟩ := get_of_lt (xs := xs) (k := k) (by rw [← L1.out]; exact hlt)
      obtain ⟨ba, oa, A', c', rfl, ca, cb, cc, hlow⟩ := fHelds_at (helds_bw HV.out hB hb) hh
      have hi : isItem h.item = true := hxs h (List.mem_of_getElem? hh)
      have hrd := held_low hlow (Nat.le_trans hB hb.size)
      obtain ⟨m, hm⟩ : ∃ m, m = h.item.vals.length := ⟨_, rfl⟩
      rw [← hm] at cb hrd
      have hcall := I_bb2 wr h _ p1 p2 e x (HE.out.bw hb) hrd he hx hi
      have i1 : (k : Int) < (n : Int) := by omega
      have i0 : (0 : Int) ≤ (k : Int) := by omega
      cases hq : Q h with
      | true =>
        have HS := Lib.hid (idxF_yes hh hq)
        have hq' : (beats e x h.item) = true := by rw [HQ.out] at hq; exact hq
        rw [hq'] at hcall
        clear hh hq hq' hlow hrd hm
        go_wp2_with fail
        refine hcall.mono ?_
        rintro e2 w2 ⟨rfl, hb2⟩
        clear hcall
        go_wp2
        go_ret
        exact Ret.int (by rw [HI.out, HS.out]) (hb.then hb2)
      | false =>
        have HS := Lib.hid (idxF_no hh hq)
        have hq' : (beats e x h.item) = false := by rw [HQ.out] at hq; exact hq
        rw [hq'] at hcall
        clear hh hq hq' hlow hrd hm
        go_wp2_with fail
        refine hcall.mono ?_
        rintro e2 w2 ⟨rfl, hb2⟩
        clear hcall
        go_wp2
        go_roundg (n + 1 - (k + 1))
        case measure => omega
        case rel => exact ⟨k + 1, by omega, rfl, by go_num, Lib.hid (by rw [HI.out, HS.out]), hb.then hb2⟩
    · have i1 : ¬ (k : Int) < (n : Int) := by omega
      go_wp2
      go_ret
      exact Ret.int (by rw [HI.out, idxF_end (by rw [← L1.out]; omega)]) hb
set_option maxRecDepth 100000 in
set_option maxHeartbeats 800000 in
theorem held_contains (w : World) (B : Nat) (xs : List GHeld) (A : Option Addr) (n c : Nat) (F : List Nat) (p1 p2 : Nat) (e : List GNode) (x : GItem) (hv : fHelds B w xs [.slice A n c] F) (hB : B ≤ w.heap.size) (hE : EnvB w p1 p2 e x) (he : isExpr e = true) (hx : isItem x = true) (hxs : ∀ h ∈ xs, isItem h.item = true) :
    Calls Tryz.prog 113 #[.slice A n c, .func (.func 114) #[] #[.pointer (some ⟨p1, 0, none⟩), .pointer (some ⟨p2, 0, none⟩)]] w (Ret w (.bool (xs.any fun h => beats e h.item x))) := by
  have hcall := held_idx1 w B xs A n c F p1 p2 e x hv hB hE he hx hxs
  have ha := idxF_any (fun h => beats e h.item x) xs
  obtain ⟨Y, hY⟩ : ∃ Y, Y = xs.any fun h => beats e h.item x := ⟨_, rfl⟩
  rw [← hY] at ha ⊢
  obtain ⟨I, hI⟩ : ∃ I, I = idxF (fun h => beats e h.item x) 0 xs := ⟨_, rfl⟩
  rw [← hI] at ha hcall
  have HA := Lib.hid ha
  clear hY hI ha hv hE
  go_enter Tryz.func113, Tryz.ntmps113
  go_wp2_with fail
  refine hcall.mono ?_
  rintro e2 w2 ⟨rfl, hb2⟩
  clear hcall
  go_wp2
  go_ret
  exact Ret.bool HA.out hb2
end Go.Proofs.YtpihighajaeabaaGreat
