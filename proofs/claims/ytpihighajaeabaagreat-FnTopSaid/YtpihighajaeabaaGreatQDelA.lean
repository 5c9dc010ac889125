/- Appending a whole list in a region that draws its order: what was not nil is not nil behind it. -/
import Derived.Test.YtpihighajaeabaaGreatQWishes3
import Derived.Test.YtpihighajaeabaaGreatQOwn3
namespace Go.Proofs.YtpihighajaeabaaGreat
open Go.RowKit
set_option linter.unusedVariables false
theorem wp_append_allN {α : Type} {P : Program} {o : Oper} {a : Act} {K : Act → World → Prop} {Q : Exit → Act → World → Prop} (W : World) (s x : Operand) (t : TypeId)
    (ho : o.op = .call { callee := .builtin .append, args := #[s, x], argTypes := #[t, t] })
    (w0 : World) (e : TypeId) (i : TypeInfo) (z : Value) (sz bytes : Nat) (ht : P.underlying t = some (.slice e)) (hi : P.info? e = some i) (hz : i.zero = some z)
    (hsize : i.size = sz) (hby : i.bytes = bytes) (hzs : z.cells.size = sz) (hsz : 0 < sz)
    {R : Fp α} (hR : GoodF w0.heap.size R) (v : Value) (xs : List α) (F : List Nat) (hs : a.eval s = v) (hv : fSl e sz R W xs [v] F) (hF : Fresh w0.heap.size F)
    (sv : Value) (hx : a.eval x = sv) {R' : Rep α} {S : Blocks} (ys : List α) (hsrc : rSl sz R' W S ys [sv]) (hRR : ∀ y u, R' W S y u → R W y u [])
    (hbytes : (xs.length + ys.length) * bytes ≤ 140737488355328) (hlen : xs.length + ys.length < 4611686018427387904) (hbw : Bw w0 W)
    (h : ∀ v' w' F', fSl e sz R w' (xs ++ ys) [v'] F' → Fresh w0.heap.size F' → Bw w0 w' → Only F W w' → (∀ b ∈ F', b ∈ F ∨ W.heap.size ≤ b) → (v' = .slice none 0 0 → v = .slice none 0 0) → K (a.put o.dst v') w') : o.wp P a W K Q := by
  obtain ⟨v0, us, Fs, hv0, hown, hall, hFe⟩ := hv
  injection hv0 with hv0
  subst hv0
  obtain ⟨A, c, hsv, hc1, hc2, hk⟩ := hsrc
  injection hsv with hsv
  subst hsv
  have hl := all3_len hall
  have hvg : ∀ k, v.ownBlock = some k → w0.heap.size ≤ k := fun k hk => hF.ge k (by rw [hFe]; simp [hk])
  by_cases hy0 : ys = [] ∧ A = none
  · obtain ⟨rfl, rfl⟩ := hy0
    have hrun := run_append_of_nil (P := P) W 0 t o.type e i sz ht hi v xs.length us.flatten hown c
    unfold Oper.wp execOp
    simp only [ho, resolve, invoke, builtin, Sem.run_bind, Sem.run_pure, Result.andThen_ok, List.map_toArray, List.map_cons, List.map_nil, hs, hx]
    rw [show (List.length ([] : List α)) = 0 from rfl, hrun]
    exact (h v W F (by rw [List.append_nil]; exact ⟨v, us, Fs, rfl, hown, hall, hFe⟩) hF hbw (Only.refl F W) (fun b hb => .inl hb) (fun e => e))
  · obtain ⟨vs, hvl, hvs⟩ := choose_list (P := fun k y u => ∃ b o, A = some ⟨b, o, none⟩ ∧ u.length = sz ∧ (∀ j t, u[j]? = some t → W.cell? ⟨b, o + k * sz + j, none⟩ = some t) ∧ R' W S y u) (ys := ys) (fun k y hy => by
      obtain ⟨b, o, u, e, _, hul, hcl, hr⟩ := hk k y hy
      exact ⟨u, b, o, e, hul, hcl, hr⟩)
    have hvsl : ∀ u ∈ vs, u.length = sz := fun u hu => by
      obtain ⟨k, hku⟩ := List.mem_iff_getElem?.1 hu
      obtain ⟨y, hy⟩ : ∃ y, ys[k]? = some y := ⟨_, List.getElem?_eq_getElem (by rw [← hvl]; exact (List.getElem?_eq_some_iff.1 hku).1)⟩
      obtain ⟨u', hu', _, _, _, hul, _⟩ := hvs k y hy
      rw [hku] at hu'
      injection hu' with hu'
      rw [hu']; exact hul
    have hR0 : ∀ k y u, ys[k]? = some y → vs[k]? = some u → R W y u [] := fun k y u hy hu => by
      obtain ⟨u', hu', _, _, _, _, _, hr⟩ := hvs k y hy
      rw [hu] at hu'
      injection hu' with hu'
      subst hu'
      exact hRR _ _ hr
    obtain ⟨ad, had⟩ : ∃ ad, A = some ad := by
      cases hA : A with
      | some ad => exact ⟨ad, rfl⟩
      | none =>
        exfalso
        apply hy0
        refine ⟨?_, hA⟩
        cases hys : ys with
        | nil => rfl
        | cons y l =>
          obtain ⟨b, o, _, e, _⟩ := hk 0 y (by rw [hys]; rfl)
          rw [hA] at e; cases e
    have hnews : ∀ j u, vs.flatten[j]? = some u → W.cell? (ad.add j) = some u := by
      intro j u hj
      have hjl : j < vs.length * sz := by rw [← flat_len hvsl]; exact (List.getElem?_eq_some_iff.1 hj).1
      have hkk : j / sz < vs.length := Nat.div_lt_of_lt_mul (by rw [Nat.mul_comm]; exact hjl)
      obtain ⟨y, hy⟩ : ∃ y, ys[j / sz]? = some y := ⟨_, List.getElem?_eq_getElem (by rw [← hvl]; exact hkk)⟩
      obtain ⟨u', hu', b, o, e, hul, hcl, _⟩ := hvs _ y hy
      have hm : j % sz < sz := Nat.mod_lt _ hsz
      have hf := flatten_at hvsl hu' hm
      have hdm : j / sz * sz + j % sz = j := by rw [Nat.mul_comm]; exact Nat.div_add_mod j sz
      rw [hdm, hj] at hf
      have := hcl _ _ hf.symm
      rw [e] at had
      injection had with had
      subst had
      have ea : (⟨b, o, none⟩ : Addr).add j = ⟨b, o + j / sz * sz + j % sz, none⟩ := by
        unfold Addr.add
        split
        · rename_i h0; subst h0; simp
        · simp only [Addr.mk.injEq, true_and, and_true]; omega
      rw [ea]; exact this
    have hone : ∀ u ∈ vs.flatten, u.oneCell' = true := fun u hu => by
      obtain ⟨l, hl', hul⟩ := List.mem_flatten.1 hu
      obtain ⟨k, hku⟩ := List.mem_iff_getElem?.1 hl'
      obtain ⟨y, hy⟩ : ∃ y, ys[k]? = some y := ⟨_, List.getElem?_eq_getElem (by rw [← hvl]; exact (List.getElem?_eq_some_iff.1 hku).1)⟩
      exact hR.one (hR0 k y l hy hku) u hul
    obtain ⟨v', w', hrun, hown', hgrow, hnil, hat⟩ := run_append_own_at (P := P) W 0 t o.type e i z sz bytes ht hi hz hsize hby hzs hsz v xs.length us.flatten hown ad ys.length c vs.flatten (by rw [flat_len hvsl, hvl]) hnews hone
      (by simp only [maxLen]; omega) hbytes (Nat.zero_le _)
    have hbw' : Bw w0 w' := hbw.grown hgrow hvg
    have hvF : ∀ b, b ∈ Fs.flatten → some b ≠ v.ownBlock := by
      intro b hb e
      have hn := hF.nodup
      rw [hFe, List.nodup_append] at hn
      exact hn.2.2 b (by simp [← e]) b hb rfl
    have hlts : ∀ b ∈ Fs.flatten, b < W.heap.size := fun b hb => (fSl_good hR).lt (⟨v, us, Fs, rfl, hown, hall, rfl⟩ : fSl e sz R W xs [v] _) b (List.mem_append_right _ hb)
    have hold : ∀ b, b < w0.heap.size → w'.heap[b]? = W.heap[b]? := fun b hb => hgrow.block b (Nat.lt_of_lt_of_le hb hbw.size) (fun e => by have := hvg b e.symm; omega)
    unfold Oper.wp execOp
    simp only [ho, resolve, invoke, builtin, Sem.run_bind, Sem.run_pure, Result.andThen_ok, List.map_toArray, List.map_cons, List.map_nil, hs, hx, had, hrun]
    have hrep : (List.replicate ys.length ([] : List Nat)).flatten = [] := by simp
    refine (h v' w' (v'.ownBlock.toList ++ (Fs ++ List.replicate ys.length []).flatten) ⟨v', us ++ vs, Fs ++ List.replicate ys.length [], rfl, ?_, ?_, rfl⟩ ⟨?_, ?_⟩ hbw' ⟨hgrow.size, fun b hb hn => hgrow.block b hb (fun e => hn (by rw [hFe]; simp [← e]))⟩ ?_ (fun e => (hnil.1 e).1))
    · rw [List.length_append, List.flatten_append]; exact hown'
    · refine all3_append (all3_imp (fun x u f' hf' hx => ⟨hR.step (fun b hb => ?_) hx.1, hx.2⟩) hall) (all3_of (by rw [hvl]) fun k y u hy hu => ⟨hR.step (fun b hb => ?_) (hR0 k y u hy hu), hvsl u (List.mem_iff_getElem?.2 ⟨k, hu⟩)⟩)
      · rcases hb with hb | hb
        · have hb' : b ∈ Fs.flatten := List.mem_flatten.2 ⟨_, hf', hb⟩
          exact hgrow.block b (hlts b hb') (hvF b hb')
        · exact hold b hb
      · rcases hb with hb | hb
        · simp at hb
        · exact hold b hb
    · rw [List.flatten_append, hrep, List.append_nil, List.nodup_append]
      have hn := hF.nodup
      rw [hFe, List.nodup_append] at hn
      refine ⟨by cases v'.ownBlock <;> simp, hn.2.1, fun p hp q hq e => ?_⟩
      subst e
      have hp' : v'.ownBlock = some p := by simpa using hp
      rcases hat with e | e
      · exact hvF p hq (by rw [← e, hp'])
      · rw [hp'] at e
        injection e with e
        have := hlts p hq; omega
    · intro b hb
      rcases List.mem_append.1 hb with hb | hb
      · have hb' : v'.ownBlock = some b := by simpa using hb
        rcases hat with e | e
        · exact hvg b (by rw [← e, hb'])
        · rw [hb'] at e
          injection e with e
          have := hbw.size
          omega
      · rw [List.flatten_append, hrep, List.append_nil] at hb
        exact hF.ge b (by rw [hFe]; exact List.mem_append_right _ hb)
    · intro b hb
      rcases List.mem_append.1 hb with hb | hb
      · have hb' : v'.ownBlock = some b := by simpa using hb
        rcases hat with e | e
        · exact .inl (by rw [hFe]; simp [← e, hb'])
        · rw [hb'] at e
          injection e with e
          exact .inr (by omega)
      · rw [List.flatten_append, hrep, List.append_nil] at hb
        exact .inl (by rw [hFe]; exact List.mem_append_right _ hb)
theorem step_append_allN {α : Type} {P : Program} {ops : Array Oper} {o : Oper} {a : Act} {K : Act → World → Prop} {Q : Exit → Act → World → Prop} {E : Prop} (W : World) (hgd : o.guard = none) (s x : Operand) (t : TypeId)
    (ho : o.op = .call { callee := .builtin .append, args := #[s, x], argTypes := #[t, t] })
    (w0 : World) (e : TypeId) (i : TypeInfo) (z : Value) (sz bytes : Nat) (ht : P.underlying t = some (.slice e)) (hi : P.info? e = some i) (hz : i.zero = some z)
    (hsize : i.size = sz) (hby : i.bytes = bytes) (hzs : z.cells.size = sz) (hsz : 0 < sz)
    {R : Fp α} (hR : GoodF w0.heap.size R) (v : Value) (xs : List α) (F : List Nat) (hs : a.eval s = v) (hv : fSl e sz R W xs [v] F) (hF : Fresh w0.heap.size F)
    (sv : Value) (hx : a.eval x = sv) {R' : Rep α} {S : Blocks} (ys : List α) (hsrc : rSl sz R' W S ys [sv]) (hRR : ∀ y u, R' W S y u → R W y u [])
    (hbytes : (xs.length + ys.length) * bytes ≤ 140737488355328) (hlen : xs.length + ys.length < 4611686018427387904) (hbw : Bw w0 W)
    (h : ∀ v' w' F', fSl e sz R w' (xs ++ ys) [v'] F' → Fresh w0.heap.size F' → Bw w0 w' → Only F W w' → (∀ b ∈ F', b ∈ F ∨ W.heap.size ≤ b) → (v' = .slice none 0 0 → v = .slice none 0 0) → K (a.put o.dst v') w') : if Region.wanted o (yielded ops a.tmps) = true then Oper.wp P o a W K Q else E := by
  have hw : Region.wanted o (yielded ops a.tmps) = true := by simp [Region.wanted, hgd]
  rw [if_pos hw]
  exact wp_append_allN W s x t ho w0 e i z sz bytes ht hi hz hsize hby hzs hsz hR v xs F hs hv hF sv hx ys hsrc hRR hbytes hlen hbw h
theorem wpList_append_allN {α : Type} {P : Program} {ops : Array Oper} {rest : List Oper} {o : Oper} {a : Act} {Q : Exit → Act → World → Prop} (W : World) (hgd : o.guard = none) (s x : Operand) (t : TypeId)
    (ho : o.op = .call { callee := .builtin .append, args := #[s, x], argTypes := #[t, t] })
    (w0 : World) (e : TypeId) (i : TypeInfo) (z : Value) (sz bytes : Nat) (ht : P.underlying t = some (.slice e)) (hi : P.info? e = some i) (hz : i.zero = some z)
    (hsize : i.size = sz) (hby : i.bytes = bytes) (hzs : z.cells.size = sz) (hsz : 0 < sz)
    {R : Fp α} (hR : GoodF w0.heap.size R) (v : Value) (xs : List α) (F : List Nat) (hs : a.eval s = v) (hv : fSl e sz R W xs [v] F) (hF : Fresh w0.heap.size F)
    (sv : Value) (hx : a.eval x = sv) {R' : Rep α} {S : Blocks} (ys : List α) (hsrc : rSl sz R' W S ys [sv]) (hRR : ∀ y u, R' W S y u → R W y u [])
    (hbytes : (xs.length + ys.length) * bytes ≤ 140737488355328) (hlen : xs.length + ys.length < 4611686018427387904) (hbw : Bw w0 W)
    (h : ∀ v' w' F', fSl e sz R w' (xs ++ ys) [v'] F' → Fresh w0.heap.size F' → Bw w0 w' → Only F W w' → (∀ b ∈ F', b ∈ F ∨ W.heap.size ≤ b) → (v' = .slice none 0 0 → v = .slice none 0 0) → wpList P ops Q rest (a.put o.dst v') w') : wpList P ops Q (o :: rest) a W :=
  wpList_plain hgd fun _ hK => wp_append_allN W s x t ho w0 e i z sz bytes ht hi hz hsize hby hzs hsz hR v xs F hs hv hF sv hx ys hsrc hRR hbytes hlen hbw fun v' w' F' h1 h2 h3 h4 h5 h6 => hK _ _ (h v' w' F' h1 h2 h3 h4 h5 h6)
theorem fInts_some {w : World} {xs : List Int} {v : Value} {F : List Nat} (h : fInts w xs [v] F) (hn : v ≠ .slice none 0 0) : ∃ g c, v = .slice (some ⟨g, 0, none⟩) xs.length c := by
  obtain ⟨v0, us, Fs, e, hown, _, _⟩ := h
  injection e with e
  subst e
  rcases hown.2 with ⟨h0, _⟩ | ⟨g, cap, cur, rfl, _⟩
  · exact absurd h0 hn
  · exact ⟨g, cap, rfl⟩
theorem I_copyIntsN (w : World) (xs : List Int) (v : Value) (h : Rd rInts w xs [v]) (hn : xs.length ≤ 1048576) : Calls Tryz.prog 96 #[v] w (RetV w (fun w' v' => Made fInts w.heap.size xs w' v' ∧ v' ≠ .slice none 0 0)) := by
  obtain ⟨i0, hi, hz0, hz1, hz2⟩ := info_parts info_int
  have hv0 := fSl_empty (e := 3) (sz := 1) (R := fInt) w
  have B0 : Bw w (w.alloc (.cells #[] 3)) := (Bw.refl w).alloc _
  have hs := h.bw rInts_good B0
  have hF0 : Fresh w.heap.size [w.heap.size] := ⟨by simp, by simp⟩
  go_enter Tryz.func96, Tryz.ntmps96
  go_wp2_with (at_builtin; refine wpList_append_allN _ rfl (.tmp 3) (.tmp 4) 26 rfl w 3 i0 _ 1 8 Tryz.underlying26 hi hz0 hz1 hz2 rfl (by omega) fInt_good _ [] [w.heap.size] rfl hv0 hF0 _ rfl xs hs (fun y u h => ⟨h, rfl⟩) (by simp; omega) (by simp; omega) B0 ?_; intro v' w' F' hv' hF' hb' hO' hs' hnn; have HNN := Lib.hid hnn; clear hnn)
  go_ret
  exact ⟨_, rfl, ⟨⟨F', by simpa using hv', hF'⟩, fun e => by have := HNN.out e; cases this⟩, hb'⟩
end Go.Proofs.YtpihighajaeabaaGreat
