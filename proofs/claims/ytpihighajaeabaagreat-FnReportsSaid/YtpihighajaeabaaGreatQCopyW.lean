/- Copies of wishes and of expressions, in both programs. -/
import Derived.Test.YtpihighajaeabaaGreatQOwn3
import Derived.Test.YtpihighajaeabaaGreatQItems
import Derived.Test.YtpihighajaeabaaGreatQDrawD
namespace Go.Proofs.YtpihighajaeabaaGreat
open Go.RowKit
set_option linter.unusedVariables false
theorem wp_append_all {α : Type} {P : Program} {o : Oper} {a : Act} {K : Act → World → Prop} {Q : Exit → Act → World → Prop} (W : World) (s x : Operand) (t : TypeId)
    (ho : o.op = .call { callee := .builtin .append, args := #[s, x], argTypes := #[t, t] })
    (w0 : World) (e : TypeId) (i : TypeInfo) (z : Value) (sz bytes : Nat) (ht : P.underlying t = some (.slice e)) (hi : P.info? e = some i) (hz : i.zero = some z)
    (hsize : i.size = sz) (hby : i.bytes = bytes) (hzs : z.cells.size = sz) (hsz : 0 < sz)
    {R : Fp α} (hR : GoodF w0.heap.size R) (v : Value) (xs : List α) (F : List Nat) (hs : a.eval s = v) (hv : fSl e sz R W xs [v] F) (hF : Fresh w0.heap.size F)
    (sv : Value) (hx : a.eval x = sv) {R' : Rep α} {S : Blocks} (ys : List α) (hsrc : rSl sz R' W S ys [sv]) (hRR : ∀ y u, R' W S y u → R W y u [])
    (hbytes : (xs.length + ys.length) * bytes ≤ 140737488355328) (hlen : xs.length + ys.length < 4611686018427387904) (hbw : Bw w0 W)
    (h : ∀ v' w' F', fSl e sz R w' (xs ++ ys) [v'] F' → Fresh w0.heap.size F' → Bw w0 w' → Only F W w' → (∀ b ∈ F', b ∈ F ∨ W.heap.size ≤ b) → K (a.put o.dst v') w') : o.wp P a W K Q := by
  obtain ⟨v0, us, Fs, hv0, hown, hall, hFe⟩ := hv
  injection hv0 with hv0
  subst hv0
  obtain ⟨A, c, hsv, hc1, hc2, hk⟩ := hsrc
  injection hsv with hsv
  subst hsv
  have hl := all3_len hall
  have hvg : ∀ k, v.ownBlock = some k → w0.heap.size ≤ k := fun k hk => hF.ge k (by rw [hFe]; simp [hk])
  by_cases hy0 : ys = [] ∧ A = none
  · obtain ⟨rfl, rfl⟩ := hy0
    have hrun := run_append_of_nil (P := P) W 0 t o.type e i sz ht hi v xs.length us.flatten hown c
    unfold Oper.wp execOp
    simp only [ho, resolve, invoke, builtin, Sem.run_bind, Sem.run_pure, Result.andThen_ok, List.map_toArray, List.map_cons, List.map_nil, hs, hx]
    rw [show (List.length ([] : List α)) = 0 from rfl, hrun]
    exact (h v W F (by rw [List.append_nil]; exact ⟨v, us, Fs, rfl, hown, hall, hFe⟩) hF hbw (Only.refl F W) (fun b hb => .inl hb))
  · obtain ⟨vs, hvl, hvs⟩ := choose_list (P := fun k y u => ∃ b o, A = some ⟨b, o, none⟩ ∧ u.length = sz ∧ (∀ j t, u[j]? = some t → W.cell? ⟨b, o + k * sz + j, none⟩ = some t) ∧ R' W S y u) (ys := ys) (fun k y hy => by
      obtain ⟨b, o, u, e, _, hul, hcl, hr⟩ := hk k y hy
      exact ⟨u, b, o, e, hul, hcl, hr⟩)
    have hvsl : ∀ u ∈ vs, u.length = sz := fun u hu => by
      obtain ⟨k, hku⟩ := List.mem_iff_getElem?.1 hu
      obtain ⟨y, hy⟩ : ∃ y, ys[k]? = some y := ⟨_, List.getElem?_eq_getElem (by rw [← hvl]; exact (List.getElem?_eq_some_iff.1 hku).1)⟩
      obtain ⟨u', hu', _, _, _, hul, _⟩ := hvs k y hy
      rw [hku] at hu'
      injection hu' with hu'
      rw [hu']; exact hul
    have hR0 : ∀ k y u, ys[k]? = some y → vs[k]? = some u → R W y u [] := fun k y u hy hu => by
      obtain ⟨u', hu', _, _, _, _, _, hr⟩ := hvs k y hy
      rw [hu] at hu'
      injection hu' with hu'
      subst hu'
      exact hRR _ _ hr
    obtain ⟨ad, had⟩ : ∃ ad, A = some ad := by
      cases hA : A with
      | some ad => exact ⟨ad, rfl⟩
      | none =>
        exfalso
        apply hy0
        refine ⟨?_, hA⟩
        cases hys : ys with
        | nil => rfl
        | cons y l =>
          obtain ⟨b, o, _, e, _⟩ := hk 0 y (by rw [hys]; rfl)
          rw [hA] at e; cases e
    have hnews : ∀ j u, vs.flatten[j]? = some u → W.cell? (ad.add j) = some u := by
      intro j u hj
      have hjl : j < vs.length * sz := by rw [← flat_len hvsl]; exact (List.getElem?_eq_some_iff.1 hj).1
      have hkk : j / sz < vs.length := Nat.div_lt_of_lt_mul (by rw [Nat.mul_comm]; exact hjl)
      obtain ⟨y, hy⟩ : ∃ y, ys[j / sz]? = some y := ⟨_, List.getElem?_eq_getElem (by rw [← hvl]; exact hkk)⟩
      obtain ⟨u', hu', b, o, e, hul, hcl, _⟩ := hvs _ y hy
      have hm : j % sz < sz := Nat.mod_lt _ hsz
      have hf := flatten_at hvsl hu' hm
      have hdm : j / sz * sz + j % sz = j := by rw [Nat.mul_comm]; exact Nat.div_add_mod j sz
      rw [hdm, hj] at hf
      have := hcl _ _ hf.symm
      rw [e] at had
      injection had with had
      subst had
      have ea : (⟨b, o, none⟩ : Addr).add j = ⟨b, o + j / sz * sz + j % sz, none⟩ := by
        unfold Addr.add
        split
        · rename_i h0; subst h0; simp
        · simp only [Addr.mk.injEq, true_and, and_true]; omega
      rw [ea]; exact this
    have hone : ∀ u ∈ vs.flatten, u.oneCell' = true := fun u hu => by
      obtain ⟨l, hl', hul⟩ := List.mem_flatten.1 hu
      obtain ⟨k, hku⟩ := List.mem_iff_getElem?.1 hl'
      obtain ⟨y, hy⟩ : ∃ y, ys[k]? = some y := ⟨_, List.getElem?_eq_getElem (by rw [← hvl]; exact (List.getElem?_eq_some_iff.1 hku).1)⟩
      exact hR.one (hR0 k y l hy hku) u hul
    obtain ⟨v', w', hrun, hown', hgrow, _, hat⟩ := run_append_own_at (P := P) W 0 t o.type e i z sz bytes ht hi hz hsize hby hzs hsz v xs.length us.flatten hown ad ys.length c vs.flatten (by rw [flat_len hvsl, hvl]) hnews hone
      (by simp only [maxLen]; omega) hbytes (Nat.zero_le _)
    have hbw' : Bw w0 w' := hbw.grown hgrow hvg
    have hvF : ∀ b, b ∈ Fs.flatten → some b ≠ v.ownBlock := by
      intro b hb e
      have hn := hF.nodup
      rw [hFe, List.nodup_append] at hn
      exact hn.2.2 b (by simp [← e]) b hb rfl
    have hlts : ∀ b ∈ Fs.flatten, b < W.heap.size := fun b hb => (fSl_good hR).lt (⟨v, us, Fs, rfl, hown, hall, rfl⟩ : fSl e sz R W xs [v] _) b (List.mem_append_right _ hb)
    have hold : ∀ b, b < w0.heap.size → w'.heap[b]? = W.heap[b]? := fun b hb => hgrow.block b (Nat.lt_of_lt_of_le hb hbw.size) (fun e => by have := hvg b e.symm; omega)
    unfold Oper.wp execOp
    simp only [ho, resolve, invoke, builtin, Sem.run_bind, Sem.run_pure, Result.andThen_ok, List.map_toArray, List.map_cons, List.map_nil, hs, hx, had, hrun]
    have hrep : (List.replicate ys.length ([] : List Nat)).flatten = [] := by simp
    refine (h v' w' (v'.ownBlock.toList ++ (Fs ++ List.replicate ys.length []).flatten) ⟨v', us ++ vs, Fs ++ List.replicate ys.length [], rfl, ?_, ?_, rfl⟩ ⟨?_, ?_⟩ hbw' ⟨hgrow.size, fun b hb hn => hgrow.block b hb (fun e => hn (by rw [hFe]; simp [← e]))⟩ ?_)
    · rw [List.length_append, List.flatten_append]; exact hown'
    · refine all3_append (all3_imp (fun x u f' hf' hx => ⟨hR.step (fun b hb => ?_) hx.1, hx.2⟩) hall) (all3_of (by rw [hvl]) fun k y u hy hu => ⟨hR.step (fun b hb => ?_) (hR0 k y u hy hu), hvsl u (List.mem_iff_getElem?.2 ⟨k, hu⟩)⟩)
      · rcases hb with hb | hb
        · have hb' : b ∈ Fs.flatten := List.mem_flatten.2 ⟨_, hf', hb⟩
          exact hgrow.block b (hlts b hb') (hvF b hb')
        · exact hold b hb
      · rcases hb with hb | hb
        · simp at hb
        · exact hold b hb
    · rw [List.flatten_append, hrep, List.append_nil, List.nodup_append]
      have hn := hF.nodup
      rw [hFe, List.nodup_append] at hn
      refine ⟨by cases v'.ownBlock <;> simp, hn.2.1, fun p hp q hq e => ?_⟩
      subst e
      have hp' : v'.ownBlock = some p := by simpa using hp
      rcases hat with e | e
      · exact hvF p hq (by rw [← e, hp'])
      · rw [hp'] at e
        injection e with e
        have := hlts p hq; omega
    · intro b hb
      rcases List.mem_append.1 hb with hb | hb
      · have hb' : v'.ownBlock = some b := by simpa using hb
        rcases hat with e | e
        · exact hvg b (by rw [← e, hb'])
        · rw [hb'] at e
          injection e with e
          have := hbw.size
          omega
      · rw [List.flatten_append, hrep, List.append_nil] at hb
        exact hF.ge b (by rw [hFe]; exact List.mem_append_right _ hb)
    · intro b hb
      rcases List.mem_append.1 hb with hb | hb
      · have hb' : v'.ownBlock = some b := by simpa using hb
        rcases hat with e | e
        · exact .inl (by rw [hFe]; simp [← e, hb'])
        · rw [hb'] at e
          injection e with e
          exact .inr (by omega)
      · rw [List.flatten_append, hrep, List.append_nil] at hb
        exact .inl (by rw [hFe]; exact List.mem_append_right _ hb)
theorem step_append_all {α : Type} {P : Program} {ops : Array Oper} {o : Oper} {a : Act} {K : Act → World → Prop} {Q : Exit → Act → World → Prop} {E : Prop} (W : World) (hgd : o.guard = none) (s x : Operand) (t : TypeId)
    (ho : o.op = .call { callee := .builtin .append, args := #[s, x], argTypes := #[t, t] })
    (w0 : World) (e : TypeId) (i : TypeInfo) (z : Value) (sz bytes : Nat) (ht : P.underlying t = some (.slice e)) (hi : P.info? e = some i) (hz : i.zero = some z)
    (hsize : i.size = sz) (hby : i.bytes = bytes) (hzs : z.cells.size = sz) (hsz : 0 < sz)
    {R : Fp α} (hR : GoodF w0.heap.size R) (v : Value) (xs : List α) (F : List Nat) (hs : a.eval s = v) (hv : fSl e sz R W xs [v] F) (hF : Fresh w0.heap.size F)
    (sv : Value) (hx : a.eval x = sv) {R' : Rep α} {S : Blocks} (ys : List α) (hsrc : rSl sz R' W S ys [sv]) (hRR : ∀ y u, R' W S y u → R W y u [])
    (hbytes : (xs.length + ys.length) * bytes ≤ 140737488355328) (hlen : xs.length + ys.length < 4611686018427387904) (hbw : Bw w0 W)
    (h : ∀ v' w' F', fSl e sz R w' (xs ++ ys) [v'] F' → Fresh w0.heap.size F' → Bw w0 w' → Only F W w' → (∀ b ∈ F', b ∈ F ∨ W.heap.size ≤ b) → K (a.put o.dst v') w') : if Region.wanted o (yielded ops a.tmps) = true then Oper.wp P o a W K Q else E := by
  have hw : Region.wanted o (yielded ops a.tmps) = true := by simp [Region.wanted, hgd]
  rw [if_pos hw]
  exact wp_append_all W s x t ho w0 e i z sz bytes ht hi hz hsize hby hzs hsz hR v xs F hs hv hF sv hx ys hsrc hRR hbytes hlen hbw h
end Go.Proofs.YtpihighajaeabaaGreat

namespace Go.Proofs.YtpihighajaeabaaGreat
open Go.RowKit
set_option linter.unusedVariables false
def totWish (x : GWish) : Nat := x.list.length + x.pairs.length
def totNode (x : GNode) : Nat := totWish x.wish
def totNodes (xs : List GNode) : Nat := xs.length + sumL totNode xs
section
variable {w : World} {S : Blocks} {A : Option Addr} {n c k : Nat}
theorem rNodes_at {xs : List GNode} (h : rNodes w S xs [.slice A n c]) {x : GNode} (hx : xs[k]? = some x) : ∃ b o Al cl Ap cp, A = some ⟨b, o, none⟩ ∧ S b ∧
    w.cell? ⟨b, o + k * 6, none⟩ = some (.int .i64 x.op) ∧ w.cell? ⟨b, o + k * 6 + 1, none⟩ = some (.int .i64 x.wish.kind) ∧ w.cell? ⟨b, o + k * 6 + 2, none⟩ = some (.int .i64 x.wish.field) ∧ w.cell? ⟨b, o + k * 6 + 3, none⟩ = some (.int .i64 x.wish.value) ∧
    w.cell? ⟨b, o + k * 6 + 4, none⟩ = some (.slice Al x.wish.list.length cl) ∧ w.cell? ⟨b, o + k * 6 + 5, none⟩ = some (.slice Ap x.wish.pairs.length cp) ∧ rInts w S x.wish.list [.slice Al x.wish.list.length cl] ∧ rPairs w S x.wish.pairs [.slice Ap x.wish.pairs.length cp] := by
  obtain ⟨b, o, us, e, hS, _, hc, us', rfl, v, u, rfl, hv, hu⟩ := rSl_at h hx
  obtain ⟨Al, cl, rfl, _⟩ := rSl_shape hv
  obtain ⟨Ap, cp, rfl, _⟩ := rSl_shape hu
  exact ⟨b, o, Al, cl, Ap, cp, e, hS, hc 0 _ rfl, hc 1 _ rfl, hc 2 _ rfl, hc 3 _ rfl, hc 4 _ rfl, hc 5 _ rfl, hv, hu⟩
theorem rNodess_at {xs : List (List GNode)} (h : rNodess w S xs [.slice A n c]) {x : List GNode} (hx : xs[k]? = some x) : ∃ b o A' c', A = some ⟨b, o, none⟩ ∧ S b ∧
    w.cell? ⟨b, o + k, none⟩ = some (.slice A' x.length c') ∧ rNodes w S x [.slice A' x.length c'] := by
  obtain ⟨b, o, us, e, hS, _, hc, hv⟩ := rSl_at h hx
  obtain ⟨A', c', e', _⟩ := hv
  subst e'
  exact ⟨b, o, A', c', e, hS, by simpa using hc 0 _ rfl, ⟨A', c', rfl, by assumption⟩⟩
end
theorem eqWish_dec (x y : GWish) : decide (x = y) = (decide (x.kind = y.kind) && (decide (x.field = y.field) && (decide (x.value = y.value) && (decide (x.list = y.list) && decide (x.pairs = y.pairs))))) := by rw [Bool.eq_iff_iff]; simp [GWish.eq_iff]
set_option maxRecDepth 100000 in
set_option maxHeartbeats 1600000 in
theorem I_equalWish (w : World) (x y : GWish) (v1 v2 u1 u2 : Value) (h1 : Rd rInts w x.list [v1]) (h2 : Rd rInts w y.list [v2]) (k1 : Rd rPairs w x.pairs [u1]) (k2 : Rd rPairs w y.pairs [u2]) :
    Calls Tryz.prog 186 #[.agg #[.int .i64 x.kind, .int .i64 x.field, .int .i64 x.value, v1, u1], .agg #[.int .i64 y.kind, .int .i64 y.field, .int .i64 y.value, v2, u2]] w (Ret w (.bool (decide (x = y)))) := by
  have B0 : Bw w ((w.alloc (.cells #[.int .i64 x.kind, .int .i64 x.field, .int .i64 x.value, v1, u1] 109)).alloc (.cells #[.int .i64 y.kind, .int .i64 y.field, .int .i64 y.value, v2, u2] 109)) := ((Bw.refl w).alloc _).alloc _
  rw [eqWish_dec]
  by_cases e1 : x.kind = y.kind
  · by_cases e2 : x.field = y.field
    · by_cases e3 : x.value = y.value
      · have H := Lib.hid (show decide (x.kind = y.kind) = true ∧ decide (x.field = y.field) = true ∧ decide (x.value = y.value) = true by simp [e1, e2, e3])
        have a1 : (x.kind == y.kind) = true := by simpa using e1
        have b1 : (x.kind != y.kind) = false := by simpa using e1
        have a2 : (x.field == y.field) = true := by simpa using e2
        have b2 : (x.field != y.field) = false := by simpa using e2
        have a3 : (x.value == y.value) = true := by simpa using e3
        have b3 : (x.value != y.value) = false := by simpa using e3
        clear e1 e2 e3
        go_enter Tryz.func186, Tryz.ntmps186
        go_wp2_with fail
        refine (slices_Equal_ints _ x.list y.list _ _ (h1.bw rInts_good B0) (h2.bw rInts_good B0)).mono ?_
        rintro e w2 ⟨rfl, hb2⟩
        have hc := bw_cell hb2
        have B2 := B0.then hb2
        by_cases e4 : x.list = y.list
        · have H4 := Lib.hid (show decide (x.list = y.list) = true by simpa using e4)
          rw [show decide (x.list = y.list) = true from H4.out]
          clear e4
          go_wp2_with fail
          refine (slices_Equal_pairs _ x.pairs y.pairs _ _ (k1.bw rPairs_good B2) (k2.bw rPairs_good B2)).mono ?_
          rintro e w3 ⟨rfl, hb3⟩
          by_cases e5 : x.pairs = y.pairs
          · have H5 := Lib.hid (show decide (x.pairs = y.pairs) = true by simpa using e5)
            rw [show decide (x.pairs = y.pairs) = true from H5.out]
            clear e5
            go_wp2
            go_ret
            exact Ret.bool (by simp [H.out.1, H.out.2.1, H.out.2.2, H4.out, H5.out]) (B2.then hb3)
          · have H5 := Lib.hid (show decide (x.pairs = y.pairs) = false by simpa using e5)
            rw [show decide (x.pairs = y.pairs) = false from H5.out]
            clear e5
            go_wp2
            go_ret
            exact Ret.bool (by simp [H5.out]) (B2.then hb3)
        · have H4 := Lib.hid (show decide (x.list = y.list) = false by simpa using e4)
          rw [show decide (x.list = y.list) = false from H4.out]
          clear e4
          go_wp2
          go_ret
          exact Ret.bool (by simp [H4.out]) (B2)
      · have H := Lib.hid (show decide (x.value = y.value) = false by simpa using e3)
        have a1 : (x.kind == y.kind) = true := by simpa using e1
        have b1 : (x.kind != y.kind) = false := by simpa using e1
        have a2 : (x.field == y.field) = true := by simpa using e2
        have b2 : (x.field != y.field) = false := by simpa using e2
        have a3 : (x.value == y.value) = false := by simpa using e3
        have b3 : (x.value != y.value) = true := by simpa using e3
        clear e1 e2 e3
        go_enter Tryz.func186, Tryz.ntmps186
        go_wp2
        go_ret
        exact Ret.bool (by rw [H.out]; simp) (B0)
    · have H := Lib.hid (show decide (x.field = y.field) = false by simpa using e2)
      have a1 : (x.kind == y.kind) = true := by simpa using e1
      have b1 : (x.kind != y.kind) = false := by simpa using e1
      have a2 : (x.field == y.field) = false := by simpa using e2
      have b2 : (x.field != y.field) = true := by simpa using e2
      clear e1 e2
      go_enter Tryz.func186, Tryz.ntmps186
      go_wp2
      go_ret
      exact Ret.bool (by rw [H.out]; simp) (B0)
  · have H := Lib.hid (show decide (x.kind = y.kind) = false by simpa using e1)
    have a1 : (x.kind == y.kind) = false := by simpa using e1
    have b1 : (x.kind != y.kind) = true := by simpa using e1
    clear e1
    go_enter Tryz.func186, Tryz.ntmps186
    go_wp2
    go_ret
    exact Ret.bool (by rw [H.out]; simp) (B0)
end Go.Proofs.YtpihighajaeabaaGreat

namespace Go.Proofs.YtpihighajaeabaaGreat
open Go.RowKit
set_option linter.unusedVariables false











end Go.Proofs.YtpihighajaeabaaGreat

namespace Go.Proofs.YtpihighajaeabaaGreat
open Go.RowKit
set_option linter.unusedVariables false
set_option linter.unusedSimpArgs false
def fWish : Fp GWish := fun w x cs F => ∃ v u G H, cs = [.int .i64 x.kind, .int .i64 x.field, .int .i64 x.value, v, u] ∧ fInts w x.list [v] G ∧ fPairs w x.pairs [u] H ∧ F = G ++ H
theorem fWish_good {B : Nat} : GoodF B fWish :=
  ⟨fun hw ⟨v, u, G, H, e, h, k, hF⟩ => ⟨v, u, G, H, e, fInts_good.step (fun b hb => hw b (hb.imp (fun hb => by rw [hF]; exact List.mem_append_left _ hb) id)) h, fPairs_good.step (fun b hb => hw b (hb.imp (fun hb => by rw [hF]; exact List.mem_append_right _ hb) id)) k, hF⟩,
   fun ⟨v, u, G, H, e, h, k, hF⟩ b hb => by
    rw [hF] at hb
    exact (List.mem_append.1 hb).elim ((fInts_good (B := B)).lt h b) ((fPairs_good (B := B)).lt k b),
   fun ⟨v, u, G, H, e, h, k, hF⟩ t ht => by
    rw [e] at ht
    simp at ht
    rcases ht with rfl | rfl | rfl | rfl | rfl
    · rfl
    · rfl
    · rfl
    · exact (fInts_good (B := B)).one h _ (by simp)
    · exact (fPairs_good (B := B)).one k _ (by simp)⟩
theorem fWish_rd {B : Nat} {w : World} {x : GWish} {cs : List Value} {F : List Nat} (h : fWish w x cs F) : rWish w (fun b => b ∈ F ∨ b < B) x cs := by
  obtain ⟨v, u, G, H, e, h, k, hF⟩ := h
  refine ⟨v, u, e, rInts_good.step ⟨fun b hb => ?_, fun _ _ => rfl⟩ (fInts_rd (B := B) h), rPairs_good.step ⟨fun b hb => ?_, fun _ _ => rfl⟩ (fPairs_rd (B := B) k)⟩
  · exact hb.imp (fun hb => by rw [hF]; exact List.mem_append_left _ hb) id
  · exact hb.imp (fun hb => by rw [hF]; exact List.mem_append_right _ hb) id
def fNode : Fp GNode := fun w x cs F => ∃ us, cs = .int .i64 x.op :: us ∧ fWish w x.wish us F
theorem fNode_good {B : Nat} : GoodF B fNode :=
  ⟨fun hw ⟨us, e, h⟩ => ⟨us, e, fWish_good.step hw h⟩, fun ⟨us, e, h⟩ => (fWish_good (B := B)).lt h, fun ⟨us, e, h⟩ t ht => by
    rw [e] at ht
    rcases List.mem_cons.1 ht with rfl | ht
    · rfl
    · exact (fWish_good (B := B)).one h _ ht⟩
theorem fNode_rd {B : Nat} {w : World} {x : GNode} {cs : List Value} {F : List Nat} (h : fNode w x cs F) : rNode w (fun b => b ∈ F ∨ b < B) x cs := by
  obtain ⟨us, e, h⟩ := h
  exact ⟨us, e, fWish_rd h⟩
abbrev fNodes : Fp (List GNode) := fSl 111 6 fNode
theorem fNodes_good {B : Nat} : GoodF B fNodes := fSl_good fNode_good
theorem fNodes_rd {B : Nat} {w : World} {xs : List GNode} {cs : List Value} {F : List Nat} (h : fNodes w xs cs F) : rNodes w (fun b => b ∈ F ∨ b < B) xs cs := fSl_rd rNode_good (fun _ _ _ h => fNode_rd h) h
theorem fNodes_Rd {w : World} {xs : List GNode} {cs : List Value} {F : List Nat} (h : fNodes w xs cs F) : Rd rNodes w xs cs := Rd.of rNodes_good (B := 0) (fNodes_rd h) ((fNodes_good (B := 0)).lt h) (Nat.zero_le _)
theorem info_Node : (Tryz.prog.info? 111).map (fun i => (i.zero, i.size, i.bytes)) = some (some (.agg #[.int .i64 0, .int .i64 0, .int .i64 0, .int .i64 0, .slice none 0 0, .slice none 0 0]), 6, 80) := by kernel_rfl
abbrev fWishes : Fp (List GWish) := fSl 109 5 fWish
theorem fWishes_good {B : Nat} : GoodF B fWishes := fSl_good fWish_good
theorem fWishes_rd {B : Nat} {w : World} {xs : List GWish} {cs : List Value} {F : List Nat} (h : fWishes w xs cs F) : rWishes w (fun b => b ∈ F ∨ b < B) xs cs := fSl_rd rWish_good (fun _ _ _ h => fWish_rd h) h
abbrev fNodess : Fp (List (List GNode)) := fSl 25 1 fNodes
theorem info_Nodes : (Tryz.prog.info? 25).map (fun i => (i.zero, i.size, i.bytes)) = some (some (.slice none 0 0), 1, 24) := by kernel_rfl
/-- the call returned a struct in new memory -/
def RetA {α : Type} (f : Fp α) (w : World) (x : α) (e : Ending) (w' : World) : Prop := ∃ cs F, e = .returned (.agg cs.toArray) ∧ f w' x cs F ∧ Fresh w.heap.size F ∧ Bw w w'
theorem Fresh.append {B m : Nat} {F G : List Nat} (h : Fresh B F) (hlt : ∀ b ∈ F, b < m) (k : Fresh m G) (hm : B ≤ m) : Fresh B (F ++ G) :=
  ⟨nodup_push h.nodup k hlt, fun b hb => (List.mem_append.1 hb).elim (h.ge b) (fun hb => Nat.le_trans hm (k.ge b hb))⟩
theorem Fresh.left {B : Nat} {F G : List Nat} (h : Fresh B (F ++ G)) : Fresh B F := ⟨(List.nodup_append.1 h.nodup).1, fun b hb => h.ge b (List.mem_append_left _ hb)⟩
end Go.Proofs.YtpihighajaeabaaGreat

namespace Go.Proofs.YtpihighajaeabaaGreat
open Go.RowKit
set_option linter.unusedVariables false
set_option linter.unusedSimpArgs false
theorem info_PairW : (Tryz.prog.info? 214).map (fun i => (i.zero, i.size, i.bytes)) = some (some (.agg #[.int .i64 0, .int .i64 0]), 2, 16) := by kernel_rfl
/-- two lists under way in one region -/
def St2 (W X : World) (l : List Int) (v : Value) (F : List Nat) (p : List GPair) (u : Value) (G : List Nat) : Prop :=
  fInts X l [v] F ∧ fPairs X p [u] G ∧ (∀ b ∈ F, b ∉ G) ∧ Fresh W.heap.size F ∧ Fresh W.heap.size G ∧ Bw W X
theorem St2.start (W : World) : St2 W W [] (.slice none 0 0) [] [] (.slice none 0 0) [] :=
  ⟨⟨_, [], [], rfl, World.ownsRow_nil _ _ _ _, trivial, by simp [Value.ownBlock]⟩, ⟨_, [], [], rfl, World.ownsRow_nil _ _ _ _, trivial, by simp [Value.ownBlock]⟩, by simp, ⟨by simp, by simp⟩, ⟨by simp, by simp⟩, Bw.refl W⟩
theorem St2.row1 {W X : World} {l v F p u G} (h : St2 W X l v F p u G) : St2 W (X.alloc (.cells #[] 3)) [] (.slice (some ⟨X.heap.size, 0, none⟩) 0 0) [X.heap.size] p u G := by
  obtain ⟨h1, h2, h3, h4, h5, h6⟩ := h
  have A : Bw X (X.alloc (.cells #[] 3)) := (Bw.refl X).alloc _
  have hs := h6.size
  refine ⟨fSl_empty X, (fPairs_good (B := 0)).bw A (Nat.zero_le _) h2, fun b hb hg => ?_, ⟨by simp, by simpa using hs⟩, h5, h6.then A⟩
  have := (fPairs_good (B := 0)).lt h2 b hg
  simp at hb; omega
theorem St2.row2 {W X : World} {l v F p u G} (h : St2 W X l v F p u G) : St2 W (X.alloc (.cells #[] 214)) l v F [] (.slice (some ⟨X.heap.size, 0, none⟩) 0 0) [X.heap.size] := by
  obtain ⟨h1, h2, h3, h4, h5, h6⟩ := h
  have A : Bw X (X.alloc (.cells #[] 214)) := (Bw.refl X).alloc _
  have hs := h6.size
  refine ⟨(fInts_good (B := 0)).bw A (Nat.zero_le _) h1, fSl_empty X, fun b hb hg => ?_, h4, ⟨by simp, by simpa using hs⟩, h6.then A⟩
  have := (fInts_good (B := 0)).lt h1 b hb
  simp at hg; omega
section
variable {ops : Array Oper} {o : Oper} {a : Act} {K : Act → World → Prop} {Q : Exit → Act → World → Prop} {E : Prop} {W X : World} {v : Value} {F : List Nat} {l : List Int} {pp : List GPair} {u : Value} {G : List Nat}
theorem St2.app1 (p : St2 W X [] v F pp u G) (s x : Operand) (hgd : o.guard = none) (ho : o.op = .call { callee := .builtin .append, args := #[s, x], argTypes := #[26, 26] })
    (hs : a.eval s = v) (sv : Value) (hx : a.eval x = sv) (ys : List Int) (hsrc : Rd rInts W ys [sv]) (hn : ys.length ≤ 1048576)
    (h : ∀ A c w' F', St2 W w' ys (.slice A ys.length c) F' pp u G → K (a.put o.dst (.slice A ys.length c)) w') : if Region.wanted o (yielded ops a.tmps) = true then Oper.wp Tryz.prog o a X K Q else E := by
  obtain ⟨i0, hi0, hx0, hx1, hx2⟩ := info_parts info_int
  obtain ⟨h1, h2, h3, h4, h5, h6⟩ := p
  refine step_append_all X hgd s x 26 ho W 3 i0 _ 1 8 Tryz.underlying26 hi0 hx0 hx1 hx2 rfl (by omega) fInt_good v [] F hs h1 h4 sv hx ys (hsrc.bw rInts_good h6) (fun y u h => ⟨h, rfl⟩) (by simp; omega) (by simp; omega) h6 ?_
  intro v' w' F' o1 f1 hb hO hF
  rw [List.nil_append] at o1
  obtain ⟨A, c, rfl, _⟩ := rSl_shape (fInts_Rd o1)
  refine h A c w' F' ⟨o1, hO.keeps fPairs_good h2 (fun b hb hf => h3 b hf hb), fun b hb hg => ?_, f1, h5, hb⟩
  rcases hF b hb with h | h
  · exact h3 b h hg
  · have := (fPairs_good (B := 0)).lt h2 b hg; omega
theorem St2.app2 (p : St2 W X l v F [] u G) (s x : Operand) (hgd : o.guard = none) (ho : o.op = .call { callee := .builtin .append, args := #[s, x], argTypes := #[107, 107] })
    (hs : a.eval s = u) (sv : Value) (hx : a.eval x = sv) (ys : List GPair) (hsrc : Rd rPairs W ys [sv]) (hn : ys.length ≤ 1048576)
    (h : ∀ A c w' G', St2 W w' l v F ys (.slice A ys.length c) G' → K (a.put o.dst (.slice A ys.length c)) w') : if Region.wanted o (yielded ops a.tmps) = true then Oper.wp Tryz.prog o a X K Q else E := by
  obtain ⟨i1, hi, hy0, hy1, hy2⟩ := info_parts info_PairW
  obtain ⟨h1, h2, h3, h4, h5, h6⟩ := p
  refine step_append_all X hgd s x 107 ho W 214 i1 _ 2 16 Tryz.underlying107 hi hy0 hy1 hy2 rfl (by omega) fPair_good u [] G hs h2 h5 sv hx ys (hsrc.bw rPairs_good h6) (fun y u h => ⟨h, rfl⟩) (by simp; omega) (by simp; omega) h6 ?_
  intro v' w' F' o1 f1 hb hO hF
  rw [List.nil_append] at o1
  obtain ⟨A, c, rfl, _⟩ := rSl_shape (fPairs_Rd o1)
  refine h A c w' F' ⟨hO.keeps fInts_good h1 (fun b hb hf => h3 b hb hf), o1, fun b hb hg => ?_, h4, f1, hb⟩
  rcases hF b hg with h | h
  · exact h3 b hb h
  · have := (fInts_good (B := 0)).lt h1 b hb; omega
end
set_option maxRecDepth 100000 in
set_option maxHeartbeats 3200000 in
theorem S_l5Wish (w : World) (x : GWish) (v u : Value) (h : Rd rInts w x.list [v]) (h' : Rd rPairs w x.pairs [u]) (hn1 : x.list.length ≤ 1048576) (hn2 : x.pairs.length ≤ 1048576) :
    Calls Tryz.prog 173 #[.agg #[.int .i64 x.kind, .int .i64 x.field, .int .i64 x.value, v, u]] w (RetA fWish w x) := by
  obtain ⟨Z, hZ⟩ : ∃ Z, Z = (w.alloc (.cells #[.int .i64 x.kind, .int .i64 x.field, .int .i64 x.value, v, u] 109)).alloc (.cells #[.int .i64 0, .int .i64 0, .int .i64 0, .slice none 0 0, .slice none 0 0] 109) := ⟨_, rfl⟩
  have A0 : Bw w Z.drew := by rw [hZ]; exact (((Bw.refl w).alloc _).alloc _).drew
  have q0 : Z.drew.cell? ⟨w.heap.size, 0, none⟩ = some (.int .i64 x.kind) := by rw [hZ]; go_simp
  have q1 : Z.drew.cell? ⟨w.heap.size, 1, none⟩ = some (.int .i64 x.field) := by rw [hZ]; go_simp
  have q2 : Z.drew.cell? ⟨w.heap.size, 2, none⟩ = some (.int .i64 x.value) := by rw [hZ]; go_simp
  have q3 : Z.drew.cell? ⟨w.heap.size, 3, none⟩ = some (v) := by rw [hZ]; go_simp
  have q4 : Z.drew.cell? ⟨w.heap.size, 4, none⟩ = some (u) := by rw [hZ]; go_simp
  have r0 : Z.drew.cell? ⟨w.heap.size + 1, 0, none⟩ = some (.int .i64 0) := by rw [hZ]; go_simp
  have r1 : Z.drew.cell? ⟨w.heap.size + 1, 1, none⟩ = some (.int .i64 0) := by rw [hZ]; go_simp
  have r2 : Z.drew.cell? ⟨w.heap.size + 1, 2, none⟩ = some (.int .i64 0) := by rw [hZ]; go_simp
  have r3 : Z.drew.cell? ⟨w.heap.size + 1, 3, none⟩ = some (.slice none 0 0) := by rw [hZ]; go_simp
  have r4 : Z.drew.cell? ⟨w.heap.size + 1, 4, none⟩ = some (.slice none 0 0) := by rw [hZ]; go_simp
  have z0 : Z.cell? ⟨w.heap.size, 0, none⟩ = some (.int .i64 x.kind) := by rw [hZ]; go_simp
  have z1 : Z.cell? ⟨w.heap.size, 1, none⟩ = some (.int .i64 x.field) := by rw [hZ]; go_simp
  have z2 : Z.cell? ⟨w.heap.size, 2, none⟩ = some (.int .i64 x.value) := by rw [hZ]; go_simp
  have z3 : Z.cell? ⟨w.heap.size, 3, none⟩ = some (v) := by rw [hZ]; go_simp
  have z4 : Z.cell? ⟨w.heap.size, 4, none⟩ = some (u) := by rw [hZ]; go_simp
  have hsz : Z.drew.heap.size = w.heap.size + 2 := by rw [hZ]; simp
  have HSZ := Lib.hid hsz
  have hfW : ∀ o, Z.drew.frozen? ⟨w.heap.size + 1, o, none⟩ = false := fun o => by rw [hZ]; go_simp
  have hfr := Lib.hid (fun o (w2 : World) (hb : Bw Z.drew w2) => (bw_frozen hb (w.heap.size + 1) o (by rw [hsz]; omega)).trans (hfW o))
  have HZ := Lib.hid hZ
  have p := St2.start Z.drew
  have hs1 := h.bw rInts_good A0
  have hs2 := h'.bw rPairs_good A0
  clear hZ hsz hfW
  go_enter Tryz.func173, Tryz.ntmps173
  go_wp2
  rw [← HZ.out]
  go_region_held3 (fun w' => w'.cell? ⟨w.heap.size, 0, none⟩ = some (.int .i64 x.kind) ∧ w'.cell? ⟨w.heap.size, 1, none⟩ = some (.int .i64 x.field) ∧ w'.cell? ⟨w.heap.size, 2, none⟩ = some (.int .i64 x.value) ∧ w'.cell? ⟨w.heap.size, 3, none⟩ = some (v) ∧ w'.cell? ⟨w.heap.size, 4, none⟩ = some (u)) (first | go_keep | exact ⟨q0, q1, q2, q3, q4⟩ | (have HB := p.2.2.2.2.2; exact ⟨HB.cell q0, HB.cell q1, HB.cell q2, HB.cell q3, HB.cell q4⟩))
    (first
      | ((first
        | refine St2.app1 p (.tmp 9) (.tmp 11) (by rfl) (by rfl) (by first | rfl | (go_simp; done)) _ (by rfl) x.list hs1 hn1 ?_
        | refine St2.app1 p.row1 (.tmp 9) (.tmp 11) (by rfl) (by rfl) (by first | rfl | (go_simp; done)) _ (by rfl) x.list hs1 hn1 ?_
        | refine St2.app1 p.row1.row2 (.tmp 9) (.tmp 11) (by rfl) (by rfl) (by first | rfl | (go_simp; done)) _ (by rfl) x.list hs1 hn1 ?_
        | refine St2.app1 p.row2.row1 (.tmp 9) (.tmp 11) (by rfl) (by rfl) (by first | rfl | (go_simp; done)) _ (by rfl) x.list hs1 hn1 ?_); clear p; (try clear e0 e1 e2 e3 e4 g0 g1 g2 g3 g4 hf3); intro A c w2 F p; have HB := p.2.2.2.2.2; have e0 := HB.cell q0; have e1 := HB.cell q1; have e2 := HB.cell q2; have e3 := HB.cell q3; have e4 := HB.cell q4; have g0 := HB.cell r0; have g1 := HB.cell r1; have g2 := HB.cell r2; have g3 := HB.cell r3; have g4 := HB.cell r4; have hf3 := fun o => hfr.out o w2 HB; clear HB)
      | ((first
        | refine St2.app2 p (.tmp 13) (.tmp 15) (by rfl) (by rfl) (by first | rfl | (go_simp; done)) _ (by rfl) x.pairs hs2 hn2 ?_
        | refine St2.app2 p.row2 (.tmp 13) (.tmp 15) (by rfl) (by rfl) (by first | rfl | (go_simp; done)) _ (by rfl) x.pairs hs2 hn2 ?_
        | refine St2.app2 p.row2.row1 (.tmp 13) (.tmp 15) (by rfl) (by rfl) (by first | rfl | (go_simp; done)) _ (by rfl) x.pairs hs2 hn2 ?_
        | refine St2.app2 p.row1.row2 (.tmp 13) (.tmp 15) (by rfl) (by rfl) (by first | rfl | (go_simp; done)) _ (by rfl) x.pairs hs2 hn2 ?_); clear p; (try clear e0 e1 e2 e3 e4 g0 g1 g2 g3 g4 hf3); intro Ap cp w2 G p; have HB := p.2.2.2.2.2; have e0 := HB.cell q0; have e1 := HB.cell q1; have e2 := HB.cell q2; have e3 := HB.cell q3; have e4 := HB.cell q4; have g0 := HB.cell r0; have g1 := HB.cell r1; have g2 := HB.cell r2; have g3 := HB.cell r3; have g4 := HB.cell r4; have hf3 := fun o => hfr.out o w2 HB; clear HB))
  all_goals
    obtain ⟨o2, o3, hd, f2, f3, hB⟩ := p
    have hsz2 := hB.size
    have hS := HSZ.out
    go_wp2
    have f2z : ∀ b ∈ F, w.heap.size + 2 ≤ b := fun b hb => by have := f2.ge b hb; omega
    have f3z : ∀ b ∈ G, w.heap.size + 2 ≤ b := fun b hb => by have := f3.ge b hb; omega
    have FF : Fresh w.heap.size (F ++ G) := ⟨List.nodup_append.2 ⟨f2.nodup, f3.nodup, fun a ha b hb e => hd a ha (e ▸ hb)⟩, fun b hb => (List.mem_append.1 hb).elim (fun h => by have := f2z b h; omega) (fun h => by have := f3z b h; omega)⟩
    refine bodyPost_ret (v := .agg #[.int .i64 x.kind, .int .i64 x.field, .int .i64 x.value, .slice A x.list.length c, .slice Ap x.pairs.length cp]) (by simp [results, Tryz.results173, go_sem, g0, g1, g2, g3, g4]) rfl ⟨_, F ++ G, rfl, ⟨_, _, F, G, rfl, ?_, ?_, rfl⟩, FF, ?_⟩
    · refine (fInts_good (B := 0)).step (fun b hb => ?_) o2
      rcases hb with hb | hb
      · have := f2z b hb
        repeat rw [Below.heap_setCell _ _ _ _ (by dsimp only; omega)]
      · omega
    · refine (fPairs_good (B := 0)).step (fun b hb => ?_) o3
      rcases hb with hb | hb
      · have := f3z b hb
        repeat rw [Below.heap_setCell _ _ _ _ (by dsimp only; omega)]
      · omega
    · repeat (first | with_reducible exact (A0.then hB) | with_reducible refine Bw.set ?_ ?_ _)
      all_goals (dsimp only; omega)
theorem node_lens {xs : List GNode} (ht : totNodes xs ≤ 1048576) : xs.length ≤ 1048576 ∧ ∀ x ∈ xs, x.wish.list.length ≤ 1048576 ∧ x.wish.pairs.length ≤ 1048576 := by
  unfold totNodes at ht
  refine ⟨by omega, fun x hx => ?_⟩
  have h1 := le_sum totNode hx
  have h2 : totNode x = x.wish.list.length + x.wish.pairs.length := rfl
  omega
set_option maxRecDepth 100000 in
set_option maxHeartbeats 3200000 in
theorem S_l5Copy (w : World) (xs : List GNode) (v : Value) (h : Rd rNodes w xs [v]) (ht : totNodes xs ≤ 1048576) : Calls Tryz.prog 110 #[v] w (RetV w (Made fNodes w.heap.size xs)) := by
  obtain ⟨hn, hnn⟩ := node_lens ht
  clear ht
  obtain ⟨i0, hi, hz0, hz1, hz2⟩ := info_parts info_Node
  obtain ⟨A, n, c, rfl, a1, a2, a3⟩ := rSl_open h
  rw [← a1] at hn
  have L1 := Lib.hid a1
  clear a1
  have hv0 := fSl_empty (e := 111) (sz := 6) (R := fNode) w
  go_enter Tryz.func110, Tryz.ntmps110
  go_wp2
  go_loopw [3, 4] (fun s i w' => ∃ (k : Nat) (F : List Nat), k ≤ n ∧ i = .int .i64 k ∧ fNodes w' (xs.take k) [s] F ∧ Fresh w.heap.size F ∧ Bw w w') (fun s i _ => n - (intOf i).toNat)
  case atStart => exact ⟨0, _, by omega, rfl, hv0, ⟨by simp, by simp⟩, (Bw.refl _).alloc _⟩
  case round =>
    obtain ⟨k, F, hk, rfl, hv, hF, hb⟩ := hrel
    by_cases hlt : k < n
    · obtain ⟨x, hx⟩ := get_of_lt (xs := xs) (k := k) (by rw [← L1.out]; exact hlt)
      have hxm := hnn x (List.mem_of_getElem? hx)
      obtain ⟨ba, oa, Al, cl, Ap, cp, rfl, _, d0, d1, d2, d3, d4, d5, hi1, hi2⟩ := rNodes_at h hx
      have c0 := hb.cell d0
      have c1 := hb.cell d1
      have c2 := hb.cell d2
      have c3 := hb.cell d3
      have c4 := hb.cell d4
      have c5 := hb.cell d5
      have HS := Lib.hid (take_snoc_at hx)
      have hkl : (xs.take k).length = k := by rw [List.length_take]; have := L1.out; omega
      have HK := Lib.hid hkl
      have i1 : (0 : Int) ≤ (k : Int) := by omega
      have i2 : (k : Int) < (n : Int) := by omega
      have hin1 : Rd rInts wr.drew x.wish.list [.slice Al x.wish.list.length cl] := Rd.bw rInts_good hi1 hb.drew
      have hin2 : Rd rPairs wr.drew x.wish.pairs [.slice Ap x.wish.pairs.length cp] := Rd.bw rPairs_good hi2 hb.drew
      have D1 : Bw wr wr.drew := (Bw.refl wr).drew
      clear hx h hnn hv0 hkl hi1 hi2
      have hFm := (fNodes_good (B := 0)).lt hv
      go_wp2_with fail
      go_region_held3 (fun w' => w'.cell? ⟨ba, oa + k * 6, none⟩ = some (.int .i64 x.op) ∧ w'.cell? ⟨ba, oa + k * 6 + 1, none⟩ = some (.int .i64 x.wish.kind) ∧ w'.cell? ⟨ba, oa + k * 6 + 2, none⟩ = some (.int .i64 x.wish.field) ∧ w'.cell? ⟨ba, oa + k * 6 + 3, none⟩ = some (.int .i64 x.wish.value) ∧ w'.cell? ⟨ba, oa + k * 6 + 4, none⟩ = some (.slice Al x.wish.list.length cl) ∧ w'.cell? ⟨ba, oa + k * 6 + 5, none⟩ = some (.slice Ap x.wish.pairs.length cp)) (first | go_keep | exact ⟨c0, c1, c2, c3, c4, c5⟩ | exact ⟨hAl.cell c0, hAl.cell c1, hAl.cell c2, hAl.cell c3, hAl.cell c4, hAl.cell c5⟩ | exact ⟨hb'.cell d0, hb'.cell d1, hb'.cell d2, hb'.cell d3, hb'.cell d4, hb'.cell d5⟩ | fail)
        (first
          | (go_at_call 173; refine (S_l5Wish _ x.wish _ _ hin1 hin2 hxm.1 hxm.2).mono ?_; rintro e w1 ⟨cs, F1, rfl, ⟨v2, u2, G2, H2, rfl, o21, o22, rfl⟩, f1, hb1⟩; obtain ⟨Al2, cl2, rfl, _⟩ := rSl_shape (fInts_Rd o21); obtain ⟨Ap2, cp2, rfl, _⟩ := rSl_shape (fPairs_Rd o22); have o1 : fWish w1 x.wish [.int .i64 x.wish.kind, .int .i64 x.wish.field, .int .i64 x.wish.value, .slice Al2 x.wish.list.length cl2, .slice Ap2 x.wish.pairs.length cp2] (G2 ++ H2) := ⟨_, _, G2, H2, rfl, o21, o22, rfl⟩; replace c0 := hb1.cell c0; replace c1 := hb1.cell c1; replace c2 := hb1.cell c2; replace c3 := hb1.cell c3; replace c4 := hb1.cell c4; replace c5 := hb1.cell c5; have hb1' := D1.then hb1; have hbb := hb.then hb1'; have hv1 := (fNodes_good (B := w.heap.size)).bw hb1' hb.size hv; have hAl := (Bw.refl w1).alloc (.cells #[.int .i64 x.op, .int .i64 x.wish.kind, .int .i64 x.wish.field, .int .i64 x.wish.value, .slice Al2 x.wish.list.length cl2, .slice Ap2 x.wish.pairs.length cp2] 111); have hvW := (fNodes_good (B := w.heap.size)).bw hAl hbb.size hv1; have oW := (fWish_good (B := w.heap.size)).bw hAl hbb.size o1; have hbW := hbb.then hAl; have f1' : Fresh wr.heap.size (G2 ++ H2) := f1.mono (by simp); have hcl : ∀ j t, [Value.int .i64 x.op, .int .i64 x.wish.kind, .int .i64 x.wish.field, .int .i64 x.wish.value, .slice Al2 x.wish.list.length cl2, .slice Ap2 x.wish.pairs.length cp2][j]? = some t → (w1.alloc (.cells #[.int .i64 x.op, .int .i64 x.wish.kind, .int .i64 x.wish.field, .int .i64 x.wish.value, .slice Al2 x.wish.list.length cl2, .slice Ap2 x.wish.pairs.length cp2] 111)).cell? ((⟨w1.heap.size, 0, none⟩ : Addr).add j) = some t := World.news_of_block (cs := #[.int .i64 x.op, .int .i64 x.wish.kind, .int .i64 x.wish.field, .int .i64 x.wish.value, .slice Al2 x.wish.list.length cl2, .slice Ap2 x.wish.pairs.length cp2]) (t := 111) (fr := (0, 0)) (heap_alloc_new w1 _))
          | (refine step_push _ (by rfl) (.tmp 12) (.tmp 25) 25 (by rfl) w 111 i0 _ 6 80 Tryz.underlying25 hi hz0 hz1 hz2 rfl (by omega) fNode_good _ (xs.take k) F (by rfl) hvW hF ⟨w1.heap.size, 0, none⟩ 1 (by rfl) x [.int .i64 x.op, .int .i64 x.wish.kind, .int .i64 x.wish.field, .int .i64 x.wish.value, .slice Al2 x.wish.list.length cl2, .slice Ap2 x.wish.pairs.length cp2] (G2 ++ H2) hcl ⟨_, rfl, oW⟩ rfl wr.heap.size hFm f1' hb.size (by rw [HK.out]; omega) (by rw [HK.out]; omega) hbW ?_; intro v' w' F' hv' hF' hb')
          | fail)
      go_wp2
      go_roundw
      case rel => exact ⟨k + 1, F', by omega, by go_num, by rw [HS.out]; exact hv', hF', hb'⟩
      case measure => simp [intOf]; omega
    · obtain rfl : k = n := by omega
      rw [List.take_of_length_le (by rw [← L1.out]; exact Nat.le_refl _)] at hv
      go_wp2
      go_ret
      exact ⟨_, rfl, ⟨F, hv, hF⟩, hb⟩
end Go.Proofs.YtpihighajaeabaaGreat
