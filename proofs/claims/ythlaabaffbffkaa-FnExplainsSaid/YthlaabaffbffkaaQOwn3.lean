/- Appends that also tell what they leave alone. -/
import Derived.Test.YthlaabaffbffkaaQMarks
namespace Go.Proofs.Ythlaabaffbffkaa
open Go.RowKit
set_option linter.unusedVariables false
section
variable {α : Type} {P : Program}
theorem push_run2 (W : World) (w0 : World) (t ty e : TypeId) (i : TypeInfo) (z : Value) (sz bytes : Nat) (ht : P.underlying t = some (.slice e)) (hi : P.info? e = some i) (hz : i.zero = some z)
    (hsize : i.size = sz) (hby : i.bytes = bytes) (hzs : z.cells.size = sz) (hsz : 0 < sz)
    {R : Fp α} (hR : GoodF w0.heap.size R) (v : Value) (xs : List α) (F : List Nat) (hv : fSl e sz R W xs [v] F) (hF : Fresh w0.heap.size F)
    (ad : Addr) (c : Nat) (y : α) (u : List Value) (f : List Nat) (hu : ∀ j t, u[j]? = some t → W.cell? (ad.add j) = some t)
    (hy : R W y u f) (hul : u.length = sz) (m : Nat) (hFm : ∀ b ∈ F, b < m) (hf : Fresh m f) (hm : w0.heap.size ≤ m) (hbytes : (xs.length + 1) * bytes ≤ 140737488355328) (hlen : xs.length < 4611686018427387904) (hbw : Bw w0 W) :
    ∃ v' w' F', (Builtin.append_ #[t, t] ty #[v, .slice (some ad) 1 c]).run P W = .ok v' w' ∧ fSl e sz R w' (xs ++ [y]) [v'] F' ∧ Fresh w0.heap.size F' ∧ Bw w0 w' ∧ Only F W w' ∧ ∀ b ∈ F', b ∈ F ∨ b ∈ f ∨ W.heap.size ≤ b := by
  obtain ⟨v0, us, Fs, hv0, hown, hall, hFe⟩ := hv
  injection hv0 with hv0
  subst hv0
  have hl := all3_len hall
  obtain ⟨v', w', hrun, hown', hgrow, _, hat⟩ := run_append_own_at (P := P) W 0 t ty e i z sz bytes ht hi hz hsize hby hzs hsz v xs.length us.flatten hown ad 1 c u (by omega) hu
    (hR.one hy) (by simp only [maxLen]; omega) hbytes (Nat.zero_le _)
  have hvg : ∀ k, v.ownBlock = some k → w0.heap.size ≤ k := fun k hk => hF.ge k (by rw [hFe]; simp [hk])
  have hbw' : Bw w0 w' := hbw.grown hgrow hvg
  have hvF : ∀ b, b ∈ Fs.flatten → some b ≠ v.ownBlock := by
    intro b hb e
    have hn := hF.nodup
    rw [hFe, List.nodup_append] at hn
    exact hn.2.2 b (by simp [← e]) b hb rfl
  have hvf : ∀ b, b ∈ f → some b ≠ v.ownBlock := by
    intro b hb e
    have h1 := hf.ge b hb
    have h2 := hFm b (by rw [hFe]; simp [← e])
    omega
  have hlts : ∀ b ∈ Fs.flatten, b < W.heap.size := fun b hb => (fSl_good hR).lt (⟨v, us, Fs, rfl, hown, hall, rfl⟩ : fSl e sz R W xs [v] _) b (List.mem_append_right _ hb)
  have hltf : ∀ b ∈ f, b < W.heap.size := hR.lt hy
  have hold : ∀ b, b < w0.heap.size → w'.heap[b]? = W.heap[b]? := fun b hb => hgrow.block b (Nat.lt_of_lt_of_le hb hbw.size) (fun e => by have := hvg b e.symm; omega)
  refine ⟨v', w', v'.ownBlock.toList ++ (Fs ++ [f]).flatten, hrun, ⟨v', us ++ [u], Fs ++ [f], rfl, ?_, ?_, rfl⟩, ⟨?_, ?_⟩, hbw', ⟨?_, ?_⟩, ?_⟩
  · rw [List.length_append, List.flatten_append, List.flatten_singleton]; exact hown'
  · have hy' : R w' y u f := hR.step (fun b hb => hb.elim (fun hb => hgrow.block b (hltf b hb) (hvf b hb)) (hold b)) hy
    refine all3_snoc ⟨hy', hul⟩ (all3_imp (fun x u f' hf' hx => ⟨hR.step (fun b hb => ?_) hx.1, hx.2⟩) hall)
    rcases hb with hb | hb
    · have hb' : b ∈ Fs.flatten := List.mem_flatten.2 ⟨_, hf', hb⟩
      exact hgrow.block b (hlts b hb') (hvF b hb')
    · exact hold b hb
  · rw [List.flatten_append, List.flatten_singleton, List.nodup_append]
    have hn := hF.nodup
    rw [hFe, List.nodup_append] at hn
    refine ⟨by cases v'.ownBlock <;> simp, nodup_push hn.2.1 hf fun b hb => hFm b (by rw [hFe]; exact List.mem_append_right _ hb), fun p hp q hq e => ?_⟩
    subst e
    have hp' : v'.ownBlock = some p := by simpa using hp
    rcases hat with e | e
    · rcases List.mem_append.1 hq with hq | hq
      · exact hvF p hq (by rw [← e, hp'])
      · exact hvf p hq (by rw [← e, hp'])
    · rw [hp'] at e
      injection e with e
      rcases List.mem_append.1 hq with hq | hq
      · have := hlts p hq; omega
      · have := hltf p hq; omega
  · intro b hb
    rcases List.mem_append.1 hb with hb | hb
    · have hb' : v'.ownBlock = some b := by simpa using hb
      rcases hat with e | e
      · exact hvg b (by rw [← e, hb'])
      · rw [hb'] at e
        injection e with e
        have := hbw.size
        omega
    · rw [List.flatten_append, List.flatten_singleton] at hb
      rcases List.mem_append.1 hb with hb | hb
      · exact hF.ge b (by rw [hFe]; exact List.mem_append_right _ hb)
      · exact Nat.le_trans hm (hf.ge b hb)
  · exact hgrow.size
  · intro b hb hn
    exact hgrow.block b hb (fun e => hn (by rw [hFe]; simp [← e]))
  · intro b hb
    rcases List.mem_append.1 hb with hb | hb
    · have hb' : v'.ownBlock = some b := by simpa using hb
      rcases hat with e | e
      · exact .inl (by rw [hFe]; simp [← e, hb'])
      · rw [hb'] at e
        injection e with e
        exact .inr (.inr (by omega))
    · rw [List.flatten_append, List.flatten_singleton] at hb
      rcases List.mem_append.1 hb with hb | hb
      · exact .inl (by rw [hFe]; exact List.mem_append_right _ hb)
      · exact .inr (.inl hb)
theorem wp_push2 {o : Oper} {a : Act} {K : Act → World → Prop} {Q : Exit → Act → World → Prop} (W : World) (s x : Operand) (t : TypeId)
    (ho : o.op = .call { callee := .builtin .append, args := #[s, x], argTypes := #[t, t] })
    (w0 : World) (e : TypeId) (i : TypeInfo) (z : Value) (sz bytes : Nat) (ht : P.underlying t = some (.slice e)) (hi : P.info? e = some i) (hz : i.zero = some z)
    (hsize : i.size = sz) (hby : i.bytes = bytes) (hzs : z.cells.size = sz) (hsz : 0 < sz)
    {R : Fp α} (hR : GoodF w0.heap.size R) (v : Value) (xs : List α) (F : List Nat) (hs : a.eval s = v) (hv : fSl e sz R W xs [v] F) (hF : Fresh w0.heap.size F)
    (ad : Addr) (c : Nat) (hx : a.eval x = .slice (some ad) 1 c) (y : α) (u : List Value) (f : List Nat) (hu : ∀ j t, u[j]? = some t → W.cell? (ad.add j) = some t)
    (hy : R W y u f) (hul : u.length = sz) (m : Nat) (hFm : ∀ b ∈ F, b < m) (hf : Fresh m f) (hm : w0.heap.size ≤ m) (hbytes : (xs.length + 1) * bytes ≤ 140737488355328) (hlen : xs.length < 4611686018427387904) (hbw : Bw w0 W)
    (h : ∀ v' w' F', fSl e sz R w' (xs ++ [y]) [v'] F' → Fresh w0.heap.size F' → Bw w0 w' → Only F W w' → (∀ b ∈ F', b ∈ F ∨ b ∈ f ∨ W.heap.size ≤ b) → K (a.put o.dst v') w') : o.wp P a W K Q := by
  obtain ⟨v', w', F', hrun, h1, h2, h3, h4, h5⟩ := push_run2 (P := P) W w0 t o.type e i z sz bytes ht hi hz hsize hby hzs hsz hR v xs F hv hF ad c y u f hu hy hul m hFm hf hm hbytes hlen hbw
  unfold Oper.wp execOp
  simp only [ho, resolve, invoke, builtin, Sem.run_bind, Sem.run_pure, Result.andThen_ok, List.map_toArray, List.map_cons, List.map_nil, hs, hx, hrun]
  exact h v' w' F' h1 h2 h3 h4 h5
theorem wpList_push2 {ops : Array Oper} {rest : List Oper} {o : Oper} {a : Act} {Q : Exit → Act → World → Prop} (W : World) (hgd : o.guard = none) (s x : Operand) (t : TypeId)
    (ho : o.op = .call { callee := .builtin .append, args := #[s, x], argTypes := #[t, t] })
    (w0 : World) (e : TypeId) (i : TypeInfo) (z : Value) (sz bytes : Nat) (ht : P.underlying t = some (.slice e)) (hi : P.info? e = some i) (hz : i.zero = some z)
    (hsize : i.size = sz) (hby : i.bytes = bytes) (hzs : z.cells.size = sz) (hsz : 0 < sz)
    {R : Fp α} (hR : GoodF w0.heap.size R) (v : Value) (xs : List α) (F : List Nat) (hs : a.eval s = v) (hv : fSl e sz R W xs [v] F) (hF : Fresh w0.heap.size F)
    (ad : Addr) (c : Nat) (hx : a.eval x = .slice (some ad) 1 c) (y : α) (u : List Value) (f : List Nat) (hu : ∀ j t, u[j]? = some t → W.cell? (ad.add j) = some t)
    (hy : R W y u f) (hul : u.length = sz) (m : Nat) (hFm : ∀ b ∈ F, b < m) (hf : Fresh m f) (hm : w0.heap.size ≤ m) (hbytes : (xs.length + 1) * bytes ≤ 140737488355328) (hlen : xs.length < 4611686018427387904) (hbw : Bw w0 W)
    (h : ∀ v' w' F', fSl e sz R w' (xs ++ [y]) [v'] F' → Fresh w0.heap.size F' → Bw w0 w' → Only F W w' → (∀ b ∈ F', b ∈ F ∨ b ∈ f ∨ W.heap.size ≤ b) → wpList P ops Q rest (a.put o.dst v') w') : wpList P ops Q (o :: rest) a W := by
  exact wpList_plain hgd fun _ hK => wp_push2 W s x t ho w0 e i z sz bytes ht hi hz hsize hby hzs hsz hR v xs F hs hv hF ad c hx y u f hu hy hul m hFm hf hm hbytes hlen hbw fun v' w' F' h1 h2 h3 h4 h5 => hK _ _ (h v' w' F' h1 h2 h3 h4 h5)
/-- in a region that draws its order -/
theorem step_push2 {ops : Array Oper} {o : Oper} {a : Act} {K : Act → World → Prop} {Q : Exit → Act → World → Prop} {E : Prop} (W : World) (hgd : o.guard = none) (s x : Operand) (t : TypeId)
    (ho : o.op = .call { callee := .builtin .append, args := #[s, x], argTypes := #[t, t] })
    (w0 : World) (e : TypeId) (i : TypeInfo) (z : Value) (sz bytes : Nat) (ht : P.underlying t = some (.slice e)) (hi : P.info? e = some i) (hz : i.zero = some z)
    (hsize : i.size = sz) (hby : i.bytes = bytes) (hzs : z.cells.size = sz) (hsz : 0 < sz)
    {R : Fp α} (hR : GoodF w0.heap.size R) (v : Value) (xs : List α) (F : List Nat) (hs : a.eval s = v) (hv : fSl e sz R W xs [v] F) (hF : Fresh w0.heap.size F)
    (ad : Addr) (c : Nat) (hx : a.eval x = .slice (some ad) 1 c) (y : α) (u : List Value) (f : List Nat) (hu : ∀ j t, u[j]? = some t → W.cell? (ad.add j) = some t)
    (hy : R W y u f) (hul : u.length = sz) (m : Nat) (hFm : ∀ b ∈ F, b < m) (hf : Fresh m f) (hm : w0.heap.size ≤ m) (hbytes : (xs.length + 1) * bytes ≤ 140737488355328) (hlen : xs.length < 4611686018427387904) (hbw : Bw w0 W)
    (h : ∀ v' w' F', fSl e sz R w' (xs ++ [y]) [v'] F' → Fresh w0.heap.size F' → Bw w0 w' → Only F W w' → (∀ b ∈ F', b ∈ F ∨ b ∈ f ∨ W.heap.size ≤ b) → K (a.put o.dst v') w') : if Region.wanted o (yielded ops a.tmps) = true then Oper.wp P o a W K Q else E := by
  have hw : Region.wanted o (yielded ops a.tmps) = true := by simp [Region.wanted, hgd]
  rw [if_pos hw]
  exact wp_push2 W s x t ho w0 e i z sz bytes ht hi hz hsize hby hzs hsz hR v xs F hs hv hF ad c hx y u f hu hy hul m hFm hf hm hbytes hlen hbw h
end
end Go.Proofs.Ythlaabaffbffkaa
