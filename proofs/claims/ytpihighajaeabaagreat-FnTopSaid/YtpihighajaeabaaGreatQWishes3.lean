/- Owned wishes, nodes, standings; the laws' conversions of them. -/
import Derived.Test.YtpihighajaeabaaGreatQOwn3
import Derived.Test.YtpihighajaeabaaGreatQFind
import Derived.Test.YtpihighajaeabaaGreatQWishes
namespace Go.Proofs.YtpihighajaeabaaGreat
open Go.RowKit
set_option linter.unusedVariables false
theorem wp_append_all {α : Type} {P : Program} {o : Oper} {a : Act} {K : Act → World → Prop} {Q : Exit → Act → World → Prop} (W : World) (s x : Operand) (t : TypeId)
    (ho : o.op = .call { callee := .builtin .append, args := #[s, x], argTypes := #[t, t] })
    (w0 : World) (e : TypeId) (i : TypeInfo) (z : Value) (sz bytes : Nat) (ht : P.underlying t = some (.slice e)) (hi : P.info? e = some i) (hz : i.zero = some z)
    (hsize : i.size = sz) (hby : i.bytes = bytes) (hzs : z.cells.size = sz) (hsz : 0 < sz)
    {R : Fp α} (hR : GoodF w0.heap.size R) (v : Value) (xs : List α) (F : List Nat) (hs : a.eval s = v) (hv : fSl e sz R W xs [v] F) (hF : Fresh w0.heap.size F)
    (sv : Value) (hx : a.eval x = sv) {R' : Rep α} {S : Blocks} (ys : List α) (hsrc : rSl sz R' W S ys [sv]) (hRR : ∀ y u, R' W S y u → R W y u [])
    (hbytes : (xs.length + ys.length) * bytes ≤ 140737488355328) (hlen : xs.length + ys.length < 4611686018427387904) (hbw : Bw w0 W)
    (h : ∀ v' w' F', fSl e sz R w' (xs ++ ys) [v'] F' → Fresh w0.heap.size F' → Bw w0 w' → Only F W w' → (∀ b ∈ F', b ∈ F ∨ W.heap.size ≤ b) → K (a.put o.dst v') w') : o.wp P a W K Q := by
  obtain ⟨v0, us, Fs, hv0, hown, hall, hFe⟩ := hv
  injection hv0 with hv0
  subst hv0
  obtain ⟨A, c, hsv, hc1, hc2, hk⟩ := hsrc
  injection hsv with hsv
  subst hsv
  have hl := all3_len hall
  have hvg : ∀ k, v.ownBlock = some k → w0.heap.size ≤ k := fun k hk => hF.ge k (by rw [hFe]; simp [hk])
  by_cases hy0 : ys = [] ∧ A = none
  · obtain ⟨rfl, rfl⟩ := hy0
    have hrun := run_append_of_nil (P := P) W 0 t o.type e i sz ht hi v xs.length us.flatten hown c
    unfold Oper.wp execOp
    simp only [ho, resolve, invoke, builtin, Sem.run_bind, Sem.run_pure, Result.andThen_ok, List.map_toArray, List.map_cons, List.map_nil, hs, hx]
    rw [show (List.length ([] : List α)) = 0 from rfl, hrun]
    exact (h v W F (by rw [List.append_nil]; exact ⟨v, us, Fs, rfl, hown, hall, hFe⟩) hF hbw (Only.refl F W) (fun b hb => .inl hb))
  · obtain ⟨vs, hvl, hvs⟩ := choose_list (P := fun k y u => ∃ b o, A = some ⟨b, o, none⟩ ∧ u.length = sz ∧ (∀ j t, u[j]? = some t → W.cell? ⟨b, o + k * sz + j, none⟩ = some t) ∧ R' W S y u) (ys := ys) (fun k y hy => by
      obtain ⟨b, o, u, e, _, hul, hcl, hr⟩ := hk k y hy
      exact ⟨u, b, o, e, hul, hcl, hr⟩)
    have hvsl : ∀ u ∈ vs, u.length = sz := fun u hu => by
      obtain ⟨k, hku⟩ := List.mem_iff_getElem?.1 hu
      obtain ⟨y, hy⟩ : ∃ y, ys[k]? = some y := ⟨_, List.getElem?_eq_getElem (by rw [← hvl]; exact (List.getElem?_eq_some_iff.1 hku).1)⟩
      obtain ⟨u', hu', _, _, _, hul, _⟩ := hvs k y hy
      rw [hku] at hu'
      injection hu' with hu'
      rw [hu']; exact hul
    have hR0 : ∀ k y u, ys[k]? = some y → vs[k]? = some u → R W y u [] := fun k y u hy hu => by
      obtain ⟨u', hu', _, _, _, _, _, hr⟩ := hvs k y hy
      rw [hu] at hu'
      injection hu' with hu'
      subst hu'
      exact hRR _ _ hr
    obtain ⟨ad, had⟩ : ∃ ad, A = some ad := by
      cases hA : A with
      | some ad => exact ⟨ad, rfl⟩
      | none =>
        exfalso
        apply hy0
        refine ⟨?_, hA⟩
        cases hys : ys with
        | nil => rfl
        | cons y l =>
          obtain ⟨b, o, _, e, _⟩ := hk 0 y (by rw [hys]; rfl)
          rw [hA] at e; cases e
    have hnews : ∀ j u, vs.flatten[j]? = some u → W.cell? (ad.add j) = some u := by
      intro j u hj
      have hjl : j < vs.length * sz := by rw [← flat_len hvsl]; exact (List.getElem?_eq_some_iff.1 hj).1
      have hkk : j / sz < vs.length := Nat.div_lt_of_lt_mul (by rw [Nat.mul_comm]; exact hjl)
      obtain ⟨y, hy⟩ : ∃ y, ys[j / sz]? = some y := ⟨_, List.getElem?_eq_getElem (by rw [← hvl]; exact hkk)⟩
      obtain ⟨u', hu', b, o, e, hul, hcl, _⟩ := hvs _ y hy
      have hm : j % sz < sz := Nat.mod_lt _ hsz
      have hf := flatten_at hvsl hu' hm
      have hdm : j / sz * sz + j % sz = j := by rw [Nat.mul_comm]; exact Nat.div_add_mod j sz
      rw [hdm, hj] at hf
      have := hcl _ _ hf.symm
      rw [e] at had
      injection had with had
      subst had
      have ea : (⟨b, o, none⟩ : Addr).add j = ⟨b, o + j / sz * sz + j % sz, none⟩ := by
        unfold Addr.add
        split
        · rename_i h0; subst h0; simp
        · simp only [Addr.mk.injEq, true_and, and_true]; omega
      rw [ea]; exact this
    have hone : ∀ u ∈ vs.flatten, u.oneCell' = true := fun u hu => by
      obtain ⟨l, hl', hul⟩ := List.mem_flatten.1 hu
      obtain ⟨k, hku⟩ := List.mem_iff_getElem?.1 hl'
      obtain ⟨y, hy⟩ : ∃ y, ys[k]? = some y := ⟨_, List.getElem?_eq_getElem (by rw [← hvl]; exact (List.getElem?_eq_some_iff.1 hku).1)⟩
      exact hR.one (hR0 k y l hy hku) u hul
    obtain ⟨v', w', hrun, hown', hgrow, _, hat⟩ := run_append_own_at (P := P) W 0 t o.type e i z sz bytes ht hi hz hsize hby hzs hsz v xs.length us.flatten hown ad ys.length c vs.flatten (by rw [flat_len hvsl, hvl]) hnews hone
      (by simp only [maxLen]; omega) hbytes (Nat.zero_le _)
    have hbw' : Bw w0 w' := hbw.grown hgrow hvg
    have hvF : ∀ b, b ∈ Fs.flatten → some b ≠ v.ownBlock := by
      intro b hb e
      have hn := hF.nodup
      rw [hFe, List.nodup_append] at hn
      exact hn.2.2 b (by simp [← e]) b hb rfl
    have hlts : ∀ b ∈ Fs.flatten, b < W.heap.size := fun b hb => (fSl_good hR).lt (⟨v, us, Fs, rfl, hown, hall, rfl⟩ : fSl e sz R W xs [v] _) b (List.mem_append_right _ hb)
    have hold : ∀ b, b < w0.heap.size → w'.heap[b]? = W.heap[b]? := fun b hb => hgrow.block b (Nat.lt_of_lt_of_le hb hbw.size) (fun e => by have := hvg b e.symm; omega)
    unfold Oper.wp execOp
    simp only [ho, resolve, invoke, builtin, Sem.run_bind, Sem.run_pure, Result.andThen_ok, List.map_toArray, List.map_cons, List.map_nil, hs, hx, had, hrun]
    have hrep : (List.replicate ys.length ([] : List Nat)).flatten = [] := by simp
    refine (h v' w' (v'.ownBlock.toList ++ (Fs ++ List.replicate ys.length []).flatten) ⟨v', us ++ vs, Fs ++ List.replicate ys.length [], rfl, ?_, ?_, rfl⟩ ⟨?_, ?_⟩ hbw' ⟨hgrow.size, fun b hb hn => hgrow.block b hb (fun e => hn (by rw [hFe]; simp [← e]))⟩ ?_)
    · rw [List.length_append, List.flatten_append]; exact hown'
    · refine all3_append (all3_imp (fun x u f' hf' hx => ⟨hR.step (fun b hb => ?_) hx.1, hx.2⟩) hall) (all3_of (by rw [hvl]) fun k y u hy hu => ⟨hR.step (fun b hb => ?_) (hR0 k y u hy hu), hvsl u (List.mem_iff_getElem?.2 ⟨k, hu⟩)⟩)
      · rcases hb with hb | hb
        · have hb' : b ∈ Fs.flatten := List.mem_flatten.2 ⟨_, hf', hb⟩
          exact hgrow.block b (hlts b hb') (hvF b hb')
        · exact hold b hb
      · rcases hb with hb | hb
        · simp at hb
        · exact hold b hb
    · rw [List.flatten_append, hrep, List.append_nil, List.nodup_append]
      have hn := hF.nodup
      rw [hFe, List.nodup_append] at hn
      refine ⟨by cases v'.ownBlock <;> simp, hn.2.1, fun p hp q hq e => ?_⟩
      subst e
      have hp' : v'.ownBlock = some p := by simpa using hp
      rcases hat with e | e
      · exact hvF p hq (by rw [← e, hp'])
      · rw [hp'] at e
        injection e with e
        have := hlts p hq; omega
    · intro b hb
      rcases List.mem_append.1 hb with hb | hb
      · have hb' : v'.ownBlock = some b := by simpa using hb
        rcases hat with e | e
        · exact hvg b (by rw [← e, hb'])
        · rw [hb'] at e
          injection e with e
          have := hbw.size
          omega
      · rw [List.flatten_append, hrep, List.append_nil] at hb
        exact hF.ge b (by rw [hFe]; exact List.mem_append_right _ hb)
    · intro b hb
      rcases List.mem_append.1 hb with hb | hb
      · have hb' : v'.ownBlock = some b := by simpa using hb
        rcases hat with e | e
        · exact .inl (by rw [hFe]; simp [← e, hb'])
        · rw [hb'] at e
          injection e with e
          exact .inr (by omega)
      · rw [List.flatten_append, hrep, List.append_nil] at hb
        exact .inl (by rw [hFe]; exact List.mem_append_right _ hb)
theorem step_append_all {α : Type} {P : Program} {ops : Array Oper} {o : Oper} {a : Act} {K : Act → World → Prop} {Q : Exit → Act → World → Prop} {E : Prop} (W : World) (hgd : o.guard = none) (s x : Operand) (t : TypeId)
    (ho : o.op = .call { callee := .builtin .append, args := #[s, x], argTypes := #[t, t] })
    (w0 : World) (e : TypeId) (i : TypeInfo) (z : Value) (sz bytes : Nat) (ht : P.underlying t = some (.slice e)) (hi : P.info? e = some i) (hz : i.zero = some z)
    (hsize : i.size = sz) (hby : i.bytes = bytes) (hzs : z.cells.size = sz) (hsz : 0 < sz)
    {R : Fp α} (hR : GoodF w0.heap.size R) (v : Value) (xs : List α) (F : List Nat) (hs : a.eval s = v) (hv : fSl e sz R W xs [v] F) (hF : Fresh w0.heap.size F)
    (sv : Value) (hx : a.eval x = sv) {R' : Rep α} {S : Blocks} (ys : List α) (hsrc : rSl sz R' W S ys [sv]) (hRR : ∀ y u, R' W S y u → R W y u [])
    (hbytes : (xs.length + ys.length) * bytes ≤ 140737488355328) (hlen : xs.length + ys.length < 4611686018427387904) (hbw : Bw w0 W)
    (h : ∀ v' w' F', fSl e sz R w' (xs ++ ys) [v'] F' → Fresh w0.heap.size F' → Bw w0 w' → Only F W w' → (∀ b ∈ F', b ∈ F ∨ W.heap.size ≤ b) → K (a.put o.dst v') w') : if Region.wanted o (yielded ops a.tmps) = true then Oper.wp P o a W K Q else E := by
  have hw : Region.wanted o (yielded ops a.tmps) = true := by simp [Region.wanted, hgd]
  rw [if_pos hw]
  exact wp_append_all W s x t ho w0 e i z sz bytes ht hi hz hsize hby hzs hsz hR v xs F hs hv hF sv hx ys hsrc hRR hbytes hlen hbw h
end Go.Proofs.YtpihighajaeabaaGreat

namespace Go.Proofs.YtpihighajaeabaaGreat
open Go.RowKit
set_option linter.unusedVariables false
set_option maxHeartbeats 400000 in
theorem I_copyInts (w : World) (xs : List Int) (v : Value) (h : Rd rInts w xs [v]) (hn : xs.length ≤ 1048576) : Calls Tryz.prog 96 #[v] w (RetV w (Made fInts w.heap.size xs)) := by
  obtain ⟨i0, hi, hz0, hz1, hz2⟩ := info_parts info_int
  have hv0 := fSl_empty (e := 3) (sz := 1) (R := fInt) w
  have B0 : Bw w (w.alloc (.cells #[] 3)) := (Bw.refl w).alloc _
  have hs := h.bw rInts_good B0
  have hF0 : Fresh w.heap.size [w.heap.size] := ⟨by simp, by simp⟩
  go_enter Tryz.func96, Tryz.ntmps96
  go_wp2_with (at_builtin; refine wpList_append_all _ rfl (.tmp 3) (.tmp 4) 26 rfl w 3 i0 _ 1 8 Tryz.underlying26 hi hz0 hz1 hz2 rfl (by omega) fInt_good _ [] [w.heap.size] rfl hv0 hF0 _ rfl xs hs (fun y u h => ⟨h, rfl⟩) (by simp; omega) (by simp; omega) B0 ?_; intro v' w' F' hv' hF' hb')
  go_ret
  exact ⟨_, rfl, ⟨F', by simpa using hv', hF'⟩, hb'⟩
set_option maxRecDepth 100000 in
set_option maxHeartbeats 800000 in
theorem I_copyItem (w : World) (x : GItem) (v : Value) (h : Rd rInts w x.vals [v]) (hn : x.vals.length ≤ 1048576) : Calls Tryz.prog 80 #[.agg #[.int .i64 x.id, v]] w (RetItem w x) := by
  have A0 : Bw w ((w.alloc (.cells #[.int .i64 x.id, v] 30)).alloc (.cells #[.int .i64 0, .slice none 0 0] 30)).drew := (((Bw.refl w).alloc _).alloc _).drew
  have hs := h.bw rInts_good A0
  obtain ⟨W, hW⟩ : ∃ W, W = ((w.alloc (.cells #[.int .i64 x.id, v] 30)).alloc (.cells #[.int .i64 0, .slice none 0 0] 30)).drew := ⟨_, rfl⟩
  have k0 : W.cell? ⟨w.heap.size, 0, none⟩ = some (.int .i64 x.id) := by rw [hW]; go_simp
  have k1 : W.cell? ⟨w.heap.size, 1, none⟩ = some v := by rw [hW]; go_simp
  have k2 : W.cell? ⟨w.heap.size + 1, 0, none⟩ = some (.int .i64 0) := by rw [hW]; go_simp
  have k3 : W.cell? ⟨w.heap.size + 1, 1, none⟩ = some (.slice none 0 0) := by rw [hW]; go_simp
  have hsz : W.heap.size = w.heap.size + 2 := by rw [hW]; simp
  have HSZ := Lib.hid hsz
  have hfr := fun o (w2 : World) (hb : Bw W w2) => bw_frozen hb (w.heap.size + 1) o (by rw [hsz]; omega)
  have hfW : ∀ o, W.frozen? ⟨w.heap.size + 1, o, none⟩ = false := fun o => by rw [hW]; go_simp
  rw [← hW] at A0 hs
  have HW := Lib.hid hW
  clear hW hsz
  go_enter Tryz.func80, Tryz.ntmps80
  go_wp2
  go_region_held3 (fun w' => w'.cell? ⟨w.heap.size, 0, none⟩ = some (.int .i64 x.id) ∧ w'.cell? ⟨w.heap.size, 1, none⟩ = some v) (first | go_keep | exact ⟨k0, k1⟩)
    (first
      | (go_at_call 96; rw [← HW.out]; refine (I_copyInts _ x.vals _ hs hn).mono ?_; rintro e w2 ⟨v2, rfl, ⟨F2, o2, f2⟩, hb2⟩; obtain ⟨A2, c2, rfl, _⟩ := rSl_shape (fInts_Rd o2); replace k0 := hb2.cell k0; replace k1 := hb2.cell k1; replace k2 := hb2.cell k2; replace k3 := hb2.cell k3; have hf2 := fun o => (hfr o w2 hb2).trans (hfW o)))
  go_wp2
  have hFz : ∀ b ∈ F2, w.heap.size + 2 ≤ b := fun b hb => by have := f2.ge b hb; rw [HSZ.out] at this; exact this
  refine bodyPost_ret (v := .agg #[.int .i64 x.id, .slice A2 x.vals.length c2]) (by simp [results, Tryz.results80, go_sem, k2, k3]) rfl ⟨_, rfl, ⟨F2, ?_, ⟨f2.nodup, fun b hb => by have := hFz b hb; omega⟩⟩, ?_⟩
  · refine (fInts_good (B := 0)).step (fun b hb => ?_) o2
    rcases hb with hb | hb
    · have := hFz b hb
      repeat rw [Below.heap_setCell _ _ _ _ (by dsimp only; omega)]
    · omega
  · repeat (first | exact A0.then hb2 | refine Bw.set ?_ (by dsimp only; omega) _)
theorem take_snoc_at {α : Type} {l : List α} {k : Nat} {x : α} (h : l[k]? = some x) : l.take (k + 1) = l.take k ++ [x] := by rw [List.take_add_one, h]; rfl
set_option maxRecDepth 100000 in
set_option maxHeartbeats 1600000 in
theorem I_copyItems (w : World) (xs : List GItem) (v : Value) (h : Rd rItems w xs [v]) (ht : totItems xs ≤ 1048576) : Calls Tryz.prog 107 #[v] w (RetV w (Made fItems w.heap.size xs)) := by
  have hn : xs.length ≤ 1048576 := by unfold totItems at ht; omega
  have hnn : ∀ x ∈ xs, x.vals.length ≤ 1048576 := fun x hx => by have := le_sum (fun x : GItem => x.vals.length) hx; unfold totItems at ht; omega
  clear ht
  obtain ⟨i0, hi, hz0, hz1, hz2⟩ := info_parts info_Item
  obtain ⟨A, n, c, rfl, a1, a2, a3⟩ := rSl_open h
  rw [← a1] at hn
  have L1 := Lib.hid a1
  clear a1
  have hv0 := fSl_empty (e := 30) (sz := 2) (R := fItem) w
  go_enter Tryz.func107, Tryz.ntmps107
  go_wp2
  go_loopw [3, 9] (fun s i w' => ∃ (k : Nat) (F : List Nat), k ≤ n ∧ i = .int .i64 k ∧ fItems w' (xs.take k) [s] F ∧ Fresh w.heap.size F ∧ Bw w w') (fun s i _ => n - (intOf i).toNat)
  case atStart => exact ⟨0, _, by omega, rfl, hv0, ⟨by simp, by simp⟩, (Bw.refl _).alloc _⟩
  case round =>
    obtain ⟨k, F, hk, rfl, hv, hF, hb⟩ := hrel
    by_cases hlt : k < n
    · obtain ⟨x, hx⟩ := get_of_lt (xs := xs) (k := k) (by rw [← L1.out]; exact hlt)
      have hxm := hnn x (List.mem_of_getElem? hx)
      obtain ⟨ba, oa, A', c', rfl, _, hcx, hcx1, hin⟩ := rItems_at (h.bw rItems_good hb) hx
      have HS := Lib.hid (take_snoc_at hx)
      have hkl : (xs.take k).length = k := by rw [List.length_take]; have := L1.out; omega
      have HK := Lib.hid hkl
      have A1 : Bw wr (wr.alloc (.cells #[.int .i64 x.id, .slice A' x.vals.length c'] 30)) := (Bw.refl wr).alloc _
      clear hx h hnn hv0 hkl
      go_wp2_with fail
      refine (I_copyItem _ x _ (Rd.bw rInts_good hin A1) hxm).mono ?_
      rintro e w1 ⟨v1, rfl, ⟨F1, o1, f1⟩, hb1⟩
      have hb1' := A1.then hb1
      have hv1 := (fItems_good (B := w.heap.size)).bw hb1' hb.size hv
      have hFm := (fItems_good (B := 0)).lt hv
      have hbb := hb.then hb1'
      obtain ⟨Av, cv, rfl, _⟩ := rSl_shape (fInts_Rd o1)
      have hvW := (fItems_good (B := w.heap.size)).bw ((Bw.refl w1).alloc (.cells #[.int .i64 x.id, .slice Av x.vals.length cv] 30)) hbb.size hv1
      have oW := (fInts_good (B := w.heap.size)).bw ((Bw.refl w1).alloc (.cells #[.int .i64 x.id, .slice Av x.vals.length cv] 30)) hbb.size o1
      have hbW := hbb.alloc (.cells #[.int .i64 x.id, .slice Av x.vals.length cv] 30)
      have f1' : Fresh wr.heap.size F1 := f1.mono A1.size
      have hcl : ∀ j t, [Value.int .i64 x.id, .slice Av x.vals.length cv][j]? = some t → (w1.alloc (.cells #[.int .i64 x.id, .slice Av x.vals.length cv] 30)).cell? ((⟨w1.heap.size, 0, none⟩ : Addr).add j) = some t := World.news_of_block (cs := #[.int .i64 x.id, .slice Av x.vals.length cv]) (t := 30) (fr := (0, 0)) (heap_alloc_new w1 _)
      clear hv hv1 hcx hcx1 hin o1 f1
      go_wp2_with (at_builtin; refine wpList_push _ rfl (.tmp 13) (.tmp 16) 24 rfl w 30 i0 _ 2 32 Tryz.underlying24 hi hz0 hz1 hz2 rfl (by omega) fItem_good _ (xs.take k) F rfl hvW hF ⟨w1.heap.size, 0, none⟩ 1 rfl x [.int .i64 x.id, .slice Av x.vals.length cv] F1 hcl ⟨_, rfl, oW⟩ rfl wr.heap.size hFm f1' hb.size (by rw [HK.out]; omega) (by rw [HK.out]; omega) hbW ?_; intro v' w' F' hv' hF' hb')
      go_roundw
      case rel => exact ⟨k + 1, F', by omega, by go_num, by rw [HS.out]; exact hv', hF', hb'⟩
      case measure => simp [intOf]; omega
    · obtain rfl : k = n := by omega
      rw [List.take_of_length_le (by rw [← L1.out]; exact Nat.le_refl _)] at hv
      go_wp2
      go_ret
      exact ⟨_, rfl, ⟨F, hv, hF⟩, hb⟩
end Go.Proofs.YtpihighajaeabaaGreat

namespace Go.Proofs.YtpihighajaeabaaGreat
open Go.RowKit
set_option linter.unusedVariables false











end Go.Proofs.YtpihighajaeabaaGreat

namespace Go.Proofs.YtpihighajaeabaaGreat
open Go.RowKit
set_option linter.unusedVariables false
set_option linter.unusedSimpArgs false
def fWish : Fp GWish := fun w x cs F => ∃ v u G H, cs = [.int .i64 x.kind, .int .i64 x.field, .int .i64 x.value, v, u] ∧ fInts w x.list [v] G ∧ fPairs w x.pairs [u] H ∧ F = G ++ H
theorem fWish_good {B : Nat} : GoodF B fWish :=
  ⟨fun hw ⟨v, u, G, H, e, h, k, hF⟩ => ⟨v, u, G, H, e, fInts_good.step (fun b hb => hw b (hb.imp (fun hb => by rw [hF]; exact List.mem_append_left _ hb) id)) h, fPairs_good.step (fun b hb => hw b (hb.imp (fun hb => by rw [hF]; exact List.mem_append_right _ hb) id)) k, hF⟩,
   fun ⟨v, u, G, H, e, h, k, hF⟩ b hb => by
    rw [hF] at hb
    exact (List.mem_append.1 hb).elim ((fInts_good (B := B)).lt h b) ((fPairs_good (B := B)).lt k b),
   fun ⟨v, u, G, H, e, h, k, hF⟩ t ht => by
    rw [e] at ht
    simp at ht
    rcases ht with rfl | rfl | rfl | rfl | rfl
    · rfl
    · rfl
    · rfl
    · exact (fInts_good (B := B)).one h _ (by simp)
    · exact (fPairs_good (B := B)).one k _ (by simp)⟩
theorem fWish_rd {B : Nat} {w : World} {x : GWish} {cs : List Value} {F : List Nat} (h : fWish w x cs F) : rWish w (fun b => b ∈ F ∨ b < B) x cs := by
  obtain ⟨v, u, G, H, e, h, k, hF⟩ := h
  refine ⟨v, u, e, rInts_good.step ⟨fun b hb => ?_, fun _ _ => rfl⟩ (fInts_rd (B := B) h), rPairs_good.step ⟨fun b hb => ?_, fun _ _ => rfl⟩ (fPairs_rd (B := B) k)⟩
  · exact hb.imp (fun hb => by rw [hF]; exact List.mem_append_left _ hb) id
  · exact hb.imp (fun hb => by rw [hF]; exact List.mem_append_right _ hb) id
def fNode : Fp GNode := fun w x cs F => ∃ us, cs = .int .i64 x.op :: us ∧ fWish w x.wish us F
theorem fNode_good {B : Nat} : GoodF B fNode :=
  ⟨fun hw ⟨us, e, h⟩ => ⟨us, e, fWish_good.step hw h⟩, fun ⟨us, e, h⟩ => (fWish_good (B := B)).lt h, fun ⟨us, e, h⟩ t ht => by
    rw [e] at ht
    rcases List.mem_cons.1 ht with rfl | ht
    · rfl
    · exact (fWish_good (B := B)).one h _ ht⟩
theorem fNode_rd {B : Nat} {w : World} {x : GNode} {cs : List Value} {F : List Nat} (h : fNode w x cs F) : rNode w (fun b => b ∈ F ∨ b < B) x cs := by
  obtain ⟨us, e, h⟩ := h
  exact ⟨us, e, fWish_rd h⟩
abbrev fNodes : Fp (List GNode) := fSl 111 6 fNode
theorem fNodes_good {B : Nat} : GoodF B fNodes := fSl_good fNode_good
theorem fNodes_rd {B : Nat} {w : World} {xs : List GNode} {cs : List Value} {F : List Nat} (h : fNodes w xs cs F) : rNodes w (fun b => b ∈ F ∨ b < B) xs cs := fSl_rd rNode_good (fun _ _ _ h => fNode_rd h) h
theorem fNodes_Rd {w : World} {xs : List GNode} {cs : List Value} {F : List Nat} (h : fNodes w xs cs F) : Rd rNodes w xs cs := Rd.of rNodes_good (B := 0) (fNodes_rd h) ((fNodes_good (B := 0)).lt h) (Nat.zero_le _)
theorem info_Node : (Tryz.prog.info? 111).map (fun i => (i.zero, i.size, i.bytes)) = some (some (.agg #[.int .i64 0, .int .i64 0, .int .i64 0, .int .i64 0, .slice none 0 0, .slice none 0 0]), 6, 80) := by kernel_rfl
abbrev fWishes : Fp (List GWish) := fSl 109 5 fWish
abbrev fNodess : Fp (List (List GNode)) := fSl 25 1 fNodes
/-- the call returned a struct in new memory -/
def RetA {α : Type} (f : Fp α) (w : World) (x : α) (e : Ending) (w' : World) : Prop := ∃ cs F, e = .returned (.agg cs.toArray) ∧ f w' x cs F ∧ Fresh w.heap.size F ∧ Bw w w'
theorem Fresh.append {B m : Nat} {F G : List Nat} (h : Fresh B F) (hlt : ∀ b ∈ F, b < m) (k : Fresh m G) (hm : B ≤ m) : Fresh B (F ++ G) :=
  ⟨nodup_push h.nodup k hlt, fun b hb => (List.mem_append.1 hb).elim (h.ge b) (fun hb => Nat.le_trans hm (k.ge b hb))⟩
end Go.Proofs.YtpihighajaeabaaGreat
