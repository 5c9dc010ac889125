/- Wishes and nodes: readings, copies, counts, comparisons. -/
import Derived.Test.YthlaabaffbffkaaQOwn3
import Derived.Test.YthlaabaffbffkaaQItems
namespace Go.Proofs.Ythlaabaffbffkaa
open Go.RowKit
set_option linter.unusedVariables false
theorem wp_append_all {α : Type} {P : Program} {o : Oper} {a : Act} {K : Act → World → Prop} {Q : Exit → Act → World → Prop} (W : World) (s x : Operand) (t : TypeId)
    (ho : o.op = .call { callee := .builtin .append, args := #[s, x], argTypes := #[t, t] })
    (w0 : World) (e : TypeId) (i : TypeInfo) (z : Value) (sz bytes : Nat) (ht : P.underlying t = some (.slice e)) (hi : P.info? e = some i) (hz : i.zero = some z)
    (hsize : i.size = sz) (hby : i.bytes = bytes) (hzs : z.cells.size = sz) (hsz : 0 < sz)
    {R : Fp α} (hR : GoodF w0.heap.size R) (v : Value) (xs : List α) (F : List Nat) (hs : a.eval s = v) (hv : fSl e sz R W xs [v] F) (hF : Fresh w0.heap.size F)
    (sv : Value) (hx : a.eval x = sv) {R' : Rep α} {S : Blocks} (ys : List α) (hsrc : rSl sz R' W S ys [sv]) (hRR : ∀ y u, R' W S y u → R W y u [])
    (hbytes : (xs.length + ys.length) * bytes ≤ 140737488355328) (hlen : xs.length + ys.length < 4611686018427387904) (hbw : Bw w0 W)
    (h : ∀ v' w' F', fSl e sz R w' (xs ++ ys) [v'] F' → Fresh w0.heap.size F' → Bw w0 w' → Only F W w' → (∀ b ∈ F', b ∈ F ∨ W.heap.size ≤ b) → K (a.put o.dst v') w') : o.wp P a W K Q := by
  obtain ⟨v0, us, Fs, hv0, hown, hall, hFe⟩ := hv
  injection hv0 with hv0
  subst hv0
  obtain ⟨A, c, hsv, hc1, hc2, hk⟩ := hsrc
  injection hsv with hsv
  subst hsv
  have hl := all3_len hall
  have hvg : ∀ k, v.ownBlock = some k → w0.heap.size ≤ k := fun k hk => hF.ge k (by rw [hFe]; simp [hk])
  by_cases hy0 : ys = [] ∧ A = none
  · obtain ⟨rfl, rfl⟩ := hy0
    have hrun := run_append_of_nil (P := P) W 0 t o.type e i sz ht hi v xs.length us.flatten hown c
    unfold Oper.wp execOp
    simp only [ho, resolve, invoke, builtin, Sem.run_bind, Sem.run_pure, Result.andThen_ok, List.map_toArray, List.map_cons, List.map_nil, hs, hx]
    rw [show (List.length ([] : List α)) = 0 from rfl, hrun]
    exact (h v W F (by rw [List.append_nil]; exact ⟨v, us, Fs, rfl, hown, hall, hFe⟩) hF hbw (Only.refl F W) (fun b hb => .inl hb))
  · obtain ⟨vs, hvl, hvs⟩ := choose_list (P := fun k y u => ∃ b o, A = some ⟨b, o, none⟩ ∧ u.length = sz ∧ (∀ j t, u[j]? = some t → W.cell? ⟨b, o + k * sz + j, none⟩ = some t) ∧ R' W S y u) (ys := ys) (fun k y hy => by
      obtain ⟨b, o, u, e, _, hul, hcl, hr⟩ := hk k y hy
      exact ⟨u, b, o, e, hul, hcl, hr⟩)
    have hvsl : ∀ u ∈ vs, u.length = sz := fun u hu => by
      obtain ⟨k, hku⟩ := List.mem_iff_getElem?.1 hu
      obtain ⟨y, hy⟩ : ∃ y, ys[k]? = some y := ⟨_, List.getElem?_eq_getElem (by rw [← hvl]; exact (List.getElem?_eq_some_iff.1 hku).1)⟩
      obtain ⟨u', hu', _, _, _, hul, _⟩ := hvs k y hy
      rw [hku] at hu'
      injection hu' with hu'
      rw [hu']; exact hul
    have hR0 : ∀ k y u, ys[k]? = some y → vs[k]? = some u → R W y u [] := fun k y u hy hu => by
      obtain ⟨u', hu', _, _, _, _, _, hr⟩ := hvs k y hy
      rw [hu] at hu'
      injection hu' with hu'
      subst hu'
      exact hRR _ _ hr
    obtain ⟨ad, had⟩ : ∃ ad, A = some ad := by
      cases hA : A with
      | some ad => exact ⟨ad, rfl⟩
      | none =>
        exfalso
        apply hy0
        refine ⟨?_, hA⟩
        cases hys : ys with
        | nil => rfl
        | cons y l =>
          obtain ⟨b, o, _, e, _⟩ := hk 0 y (by rw [hys]; rfl)
          rw [hA] at e; cases e
    have hnews : ∀ j u, vs.flatten[j]? = some u → W.cell? (ad.add j) = some u := by
      intro j u hj
      have hjl : j < vs.length * sz := by rw [← flat_len hvsl]; exact (List.getElem?_eq_some_iff.1 hj).1
      have hkk : j / sz < vs.length := Nat.div_lt_of_lt_mul (by rw [Nat.mul_comm]; exact hjl)
      obtain ⟨y, hy⟩ : ∃ y, ys[j / sz]? = some y := ⟨_, List.getElem?_eq_getElem (by rw [← hvl]; exact hkk)⟩
      obtain ⟨u', hu', b, o, e, hul, hcl, _⟩ := hvs _ y hy
      have hm : j % sz < sz := Nat.mod_lt _ hsz
      have hf := flatten_at hvsl hu' hm
      have hdm : j / sz * sz + j % sz = j := by rw [Nat.mul_comm]; exact Nat.div_add_mod j sz
      rw [hdm, hj] at hf
      have := hcl _ _ hf.symm
      rw [e] at had
      injection had with had
      subst had
      have ea : (⟨b, o, none⟩ : Addr).add j = ⟨b, o + j / sz * sz + j % sz, none⟩ := by
        unfold Addr.add
        split
        · rename_i h0; subst h0; simp
        · simp only [Addr.mk.injEq, true_and, and_true]; omega
      rw [ea]; exact this
    have hone : ∀ u ∈ vs.flatten, u.oneCell' = true := fun u hu => by
      obtain ⟨l, hl', hul⟩ := List.mem_flatten.1 hu
      obtain ⟨k, hku⟩ := List.mem_iff_getElem?.1 hl'
      obtain ⟨y, hy⟩ : ∃ y, ys[k]? = some y := ⟨_, List.getElem?_eq_getElem (by rw [← hvl]; exact (List.getElem?_eq_some_iff.1 hku).1)⟩
      exact hR.one (hR0 k y l hy hku) u hul
    obtain ⟨v', w', hrun, hown', hgrow, _, hat⟩ := run_append_own_at (P := P) W 0 t o.type e i z sz bytes ht hi hz hsize hby hzs hsz v xs.length us.flatten hown ad ys.length c vs.flatten (by rw [flat_len hvsl, hvl]) hnews hone
      (by simp only [maxLen]; omega) hbytes (Nat.zero_le _)
    have hbw' : Bw w0 w' := hbw.grown hgrow hvg
    have hvF : ∀ b, b ∈ Fs.flatten → some b ≠ v.ownBlock := by
      intro b hb e
      have hn := hF.nodup
      rw [hFe, List.nodup_append] at hn
      exact hn.2.2 b (by simp [← e]) b hb rfl
    have hlts : ∀ b ∈ Fs.flatten, b < W.heap.size := fun b hb => (fSl_good hR).lt (⟨v, us, Fs, rfl, hown, hall, rfl⟩ : fSl e sz R W xs [v] _) b (List.mem_append_right _ hb)
    have hold : ∀ b, b < w0.heap.size → w'.heap[b]? = W.heap[b]? := fun b hb => hgrow.block b (Nat.lt_of_lt_of_le hb hbw.size) (fun e => by have := hvg b e.symm; omega)
    unfold Oper.wp execOp
    simp only [ho, resolve, invoke, builtin, Sem.run_bind, Sem.run_pure, Result.andThen_ok, List.map_toArray, List.map_cons, List.map_nil, hs, hx, had, hrun]
    have hrep : (List.replicate ys.length ([] : List Nat)).flatten = [] := by simp
    refine (h v' w' (v'.ownBlock.toList ++ (Fs ++ List.replicate ys.length []).flatten) ⟨v', us ++ vs, Fs ++ List.replicate ys.length [], rfl, ?_, ?_, rfl⟩ ⟨?_, ?_⟩ hbw' ⟨hgrow.size, fun b hb hn => hgrow.block b hb (fun e => hn (by rw [hFe]; simp [← e]))⟩ ?_)
    · rw [List.length_append, List.flatten_append]; exact hown'
    · refine all3_append (all3_imp (fun x u f' hf' hx => ⟨hR.step (fun b hb => ?_) hx.1, hx.2⟩) hall) (all3_of (by rw [hvl]) fun k y u hy hu => ⟨hR.step (fun b hb => ?_) (hR0 k y u hy hu), hvsl u (List.mem_iff_getElem?.2 ⟨k, hu⟩)⟩)
      · rcases hb with hb | hb
        · have hb' : b ∈ Fs.flatten := List.mem_flatten.2 ⟨_, hf', hb⟩
          exact hgrow.block b (hlts b hb') (hvF b hb')
        · exact hold b hb
      · rcases hb with hb | hb
        · simp at hb
        · exact hold b hb
    · rw [List.flatten_append, hrep, List.append_nil, List.nodup_append]
      have hn := hF.nodup
      rw [hFe, List.nodup_append] at hn
      refine ⟨by cases v'.ownBlock <;> simp, hn.2.1, fun p hp q hq e => ?_⟩
      subst e
      have hp' : v'.ownBlock = some p := by simpa using hp
      rcases hat with e | e
      · exact hvF p hq (by rw [← e, hp'])
      · rw [hp'] at e
        injection e with e
        have := hlts p hq; omega
    · intro b hb
      rcases List.mem_append.1 hb with hb | hb
      · have hb' : v'.ownBlock = some b := by simpa using hb
        rcases hat with e | e
        · exact hvg b (by rw [← e, hb'])
        · rw [hb'] at e
          injection e with e
          have := hbw.size
          omega
      · rw [List.flatten_append, hrep, List.append_nil] at hb
        exact hF.ge b (by rw [hFe]; exact List.mem_append_right _ hb)
    · intro b hb
      rcases List.mem_append.1 hb with hb | hb
      · have hb' : v'.ownBlock = some b := by simpa using hb
        rcases hat with e | e
        · exact .inl (by rw [hFe]; simp [← e, hb'])
        · rw [hb'] at e
          injection e with e
          exact .inr (by omega)
      · rw [List.flatten_append, hrep, List.append_nil] at hb
        exact .inl (by rw [hFe]; exact List.mem_append_right _ hb)
theorem step_append_all {α : Type} {P : Program} {ops : Array Oper} {o : Oper} {a : Act} {K : Act → World → Prop} {Q : Exit → Act → World → Prop} {E : Prop} (W : World) (hgd : o.guard = none) (s x : Operand) (t : TypeId)
    (ho : o.op = .call { callee := .builtin .append, args := #[s, x], argTypes := #[t, t] })
    (w0 : World) (e : TypeId) (i : TypeInfo) (z : Value) (sz bytes : Nat) (ht : P.underlying t = some (.slice e)) (hi : P.info? e = some i) (hz : i.zero = some z)
    (hsize : i.size = sz) (hby : i.bytes = bytes) (hzs : z.cells.size = sz) (hsz : 0 < sz)
    {R : Fp α} (hR : GoodF w0.heap.size R) (v : Value) (xs : List α) (F : List Nat) (hs : a.eval s = v) (hv : fSl e sz R W xs [v] F) (hF : Fresh w0.heap.size F)
    (sv : Value) (hx : a.eval x = sv) {R' : Rep α} {S : Blocks} (ys : List α) (hsrc : rSl sz R' W S ys [sv]) (hRR : ∀ y u, R' W S y u → R W y u [])
    (hbytes : (xs.length + ys.length) * bytes ≤ 140737488355328) (hlen : xs.length + ys.length < 4611686018427387904) (hbw : Bw w0 W)
    (h : ∀ v' w' F', fSl e sz R w' (xs ++ ys) [v'] F' → Fresh w0.heap.size F' → Bw w0 w' → Only F W w' → (∀ b ∈ F', b ∈ F ∨ W.heap.size ≤ b) → K (a.put o.dst v') w') : if Region.wanted o (yielded ops a.tmps) = true then Oper.wp P o a W K Q else E := by
  have hw : Region.wanted o (yielded ops a.tmps) = true := by simp [Region.wanted, hgd]
  rw [if_pos hw]
  exact wp_append_all W s x t ho w0 e i z sz bytes ht hi hz hsize hby hzs hsz hR v xs F hs hv hF sv hx ys hsrc hRR hbytes hlen hbw h
end Go.Proofs.Ythlaabaffbffkaa

namespace Go.Proofs.Ythlaabaffbffkaa
open Go.RowKit
set_option linter.unusedVariables false
def totWish (x : GWish) : Nat := x.list.length + x.pairs.length
def totNode (x : GNode) : Nat := totWish x.wish
def totNodes (xs : List GNode) : Nat := xs.length + sumL totNode xs
def totWishes (xs : List GWish) : Nat := xs.length + sumL totWish xs
def totNodess (xs : List (List GNode)) : Nat := xs.length + sumL totNodes xs
def totStanding (s : GStanding) : Nat := totItems s.items + totNodes s.wanted + s.best.length
section
variable {w : World} {S : Blocks} {A : Option Addr} {n c k : Nat}
theorem rWishes_at {xs : List GWish} (h : rWishes w S xs [.slice A n c]) {x : GWish} (hx : xs[k]? = some x) : ∃ b o Al cl Ap cp, A = some ⟨b, o, none⟩ ∧ S b ∧
    w.cell? ⟨b, o + k * 5, none⟩ = some (.int .i64 x.kind) ∧ w.cell? ⟨b, o + k * 5 + 1, none⟩ = some (.int .i64 x.field) ∧ w.cell? ⟨b, o + k * 5 + 2, none⟩ = some (.int .i64 x.value) ∧
    w.cell? ⟨b, o + k * 5 + 3, none⟩ = some (.slice Al x.list.length cl) ∧ w.cell? ⟨b, o + k * 5 + 4, none⟩ = some (.slice Ap x.pairs.length cp) ∧ rInts w S x.list [.slice Al x.list.length cl] ∧ rPairs w S x.pairs [.slice Ap x.pairs.length cp] := by
  obtain ⟨b, o, us, e, hS, _, hc, v, u, rfl, hv, hu⟩ := rSl_at h hx
  obtain ⟨Al, cl, rfl, _⟩ := rSl_shape hv
  obtain ⟨Ap, cp, rfl, _⟩ := rSl_shape hu
  exact ⟨b, o, Al, cl, Ap, cp, e, hS, hc 0 _ rfl, hc 1 _ rfl, hc 2 _ rfl, hc 3 _ rfl, hc 4 _ rfl, hv, hu⟩
theorem rNodes_at {xs : List GNode} (h : rNodes w S xs [.slice A n c]) {x : GNode} (hx : xs[k]? = some x) : ∃ b o Al cl Ap cp, A = some ⟨b, o, none⟩ ∧ S b ∧
    w.cell? ⟨b, o + k * 6, none⟩ = some (.int .i64 x.op) ∧ w.cell? ⟨b, o + k * 6 + 1, none⟩ = some (.int .i64 x.wish.kind) ∧ w.cell? ⟨b, o + k * 6 + 2, none⟩ = some (.int .i64 x.wish.field) ∧ w.cell? ⟨b, o + k * 6 + 3, none⟩ = some (.int .i64 x.wish.value) ∧
    w.cell? ⟨b, o + k * 6 + 4, none⟩ = some (.slice Al x.wish.list.length cl) ∧ w.cell? ⟨b, o + k * 6 + 5, none⟩ = some (.slice Ap x.wish.pairs.length cp) ∧ rInts w S x.wish.list [.slice Al x.wish.list.length cl] ∧ rPairs w S x.wish.pairs [.slice Ap x.wish.pairs.length cp] := by
  obtain ⟨b, o, us, e, hS, _, hc, us', rfl, v, u, rfl, hv, hu⟩ := rSl_at h hx
  obtain ⟨Al, cl, rfl, _⟩ := rSl_shape hv
  obtain ⟨Ap, cp, rfl, _⟩ := rSl_shape hu
  exact ⟨b, o, Al, cl, Ap, cp, e, hS, hc 0 _ rfl, hc 1 _ rfl, hc 2 _ rfl, hc 3 _ rfl, hc 4 _ rfl, hc 5 _ rfl, hv, hu⟩
theorem rNodess_at {xs : List (List GNode)} (h : rNodess w S xs [.slice A n c]) {x : List GNode} (hx : xs[k]? = some x) : ∃ b o A' c', A = some ⟨b, o, none⟩ ∧ S b ∧
    w.cell? ⟨b, o + k, none⟩ = some (.slice A' x.length c') ∧ rNodes w S x [.slice A' x.length c'] := by
  obtain ⟨b, o, us, e, hS, _, hc, hv⟩ := rSl_at h hx
  obtain ⟨A', c', e', _⟩ := hv
  subst e'
  exact ⟨b, o, A', c', e, hS, by simpa using hc 0 _ rfl, ⟨A', c', rfl, by assumption⟩⟩
end
theorem eqWish_dec (x y : GWish) : decide (x = y) = (decide (x.kind = y.kind) && (decide (x.field = y.field) && (decide (x.value = y.value) && (decide (x.list = y.list) && decide (x.pairs = y.pairs))))) := by rw [Bool.eq_iff_iff]; simp [GWish.eq_iff]
theorem eqNode_dec (x y : GNode) : decide (x = y) = (decide (x.op = y.op) && decide (x.wish = y.wish)) := by rw [Bool.eq_iff_iff]; simp [GNode.eq_iff]

set_option maxRecDepth 100000 in
set_option maxHeartbeats 1600000 in
theorem I_equalWish (w : World) (x y : GWish) (v1 v2 u1 u2 : Value) (h1 : Rd rInts w x.list [v1]) (h2 : Rd rInts w y.list [v2]) (k1 : Rd rPairs w x.pairs [u1]) (k2 : Rd rPairs w y.pairs [u2]) :
    Calls Try.prog 74 #[.agg #[.int .i64 x.kind, .int .i64 x.field, .int .i64 x.value, v1, u1], .agg #[.int .i64 y.kind, .int .i64 y.field, .int .i64 y.value, v2, u2]] w (Ret w (.bool (decide (x = y)))) := by
  have B0 : Bw w ((w.alloc (.cells #[.int .i64 x.kind, .int .i64 x.field, .int .i64 x.value, v1, u1] 71)).alloc (.cells #[.int .i64 y.kind, .int .i64 y.field, .int .i64 y.value, v2, u2] 71)) := ((Bw.refl w).alloc _).alloc _
  rw [eqWish_dec]
  by_cases e1 : x.kind = y.kind
  · by_cases e2 : x.field = y.field
    · by_cases e3 : x.value = y.value
      · have H := Lib.hid (show decide (x.kind = y.kind) = true ∧ decide (x.field = y.field) = true ∧ decide (x.value = y.value) = true by simp [e1, e2, e3])
        have a1 : (x.kind == y.kind) = true := by simpa using e1
        have b1 : (x.kind != y.kind) = false := by simpa using e1
        have a2 : (x.field == y.field) = true := by simpa using e2
        have b2 : (x.field != y.field) = false := by simpa using e2
        have a3 : (x.value == y.value) = true := by simpa using e3
        have b3 : (x.value != y.value) = false := by simpa using e3
        clear e1 e2 e3
        go_enter Try.func74, Try.ntmps74
        go_wp2_with fail
        refine (slices_Equal_ints _ x.list y.list _ _ (h1.bw rInts_good B0) (h2.bw rInts_good B0)).mono ?_
        rintro e w2 ⟨rfl, hb2⟩
        have hc := bw_cell hb2
        have B2 := B0.then hb2
        by_cases e4 : x.list = y.list
        · have H4 := Lib.hid (show decide (x.list = y.list) = true by simpa using e4)
          rw [show decide (x.list = y.list) = true from H4.out]
          clear e4
          go_wp2_with fail
          refine (slices_Equal_pairs _ x.pairs y.pairs _ _ (k1.bw rPairs_good B2) (k2.bw rPairs_good B2)).mono ?_
          rintro e w3 ⟨rfl, hb3⟩
          by_cases e5 : x.pairs = y.pairs
          · have H5 := Lib.hid (show decide (x.pairs = y.pairs) = true by simpa using e5)
            rw [show decide (x.pairs = y.pairs) = true from H5.out]
            clear e5
            go_wp2
            go_ret
            exact Ret.bool (by simp [H.out.1, H.out.2.1, H.out.2.2, H4.out, H5.out]) (B2.then hb3)
          · have H5 := Lib.hid (show decide (x.pairs = y.pairs) = false by simpa using e5)
            rw [show decide (x.pairs = y.pairs) = false from H5.out]
            clear e5
            go_wp2
            go_ret
            exact Ret.bool (by simp [H5.out]) (B2.then hb3)
        · have H4 := Lib.hid (show decide (x.list = y.list) = false by simpa using e4)
          rw [show decide (x.list = y.list) = false from H4.out]
          clear e4
          go_wp2
          go_ret
          exact Ret.bool (by simp [H4.out]) (B2)
      · have H := Lib.hid (show decide (x.value = y.value) = false by simpa using e3)
        have a1 : (x.kind == y.kind) = true := by simpa using e1
        have b1 : (x.kind != y.kind) = false := by simpa using e1
        have a2 : (x.field == y.field) = true := by simpa using e2
        have b2 : (x.field != y.field) = false := by simpa using e2
        have a3 : (x.value == y.value) = false := by simpa using e3
        have b3 : (x.value != y.value) = true := by simpa using e3
        clear e1 e2 e3
        go_enter Try.func74, Try.ntmps74
        go_wp2
        go_ret
        exact Ret.bool (by rw [H.out]; simp) (B0)
    · have H := Lib.hid (show decide (x.field = y.field) = false by simpa using e2)
      have a1 : (x.kind == y.kind) = true := by simpa using e1
      have b1 : (x.kind != y.kind) = false := by simpa using e1
      have a2 : (x.field == y.field) = false := by simpa using e2
      have b2 : (x.field != y.field) = true := by simpa using e2
      clear e1 e2
      go_enter Try.func74, Try.ntmps74
      go_wp2
      go_ret
      exact Ret.bool (by rw [H.out]; simp) (B0)
  · have H := Lib.hid (show decide (x.kind = y.kind) = false by simpa using e1)
    have a1 : (x.kind == y.kind) = false := by simpa using e1
    have b1 : (x.kind != y.kind) = true := by simpa using e1
    clear e1
    go_enter Try.func74, Try.ntmps74
    go_wp2
    go_ret
    exact Ret.bool (by rw [H.out]; simp) (B0)



end Go.Proofs.Ythlaabaffbffkaa
