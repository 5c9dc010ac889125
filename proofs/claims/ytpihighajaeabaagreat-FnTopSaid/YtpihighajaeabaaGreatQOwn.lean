/- Memory that a call has made and owns: deep readings with their blocks; the append that adds one element. -/
import Derived.Test.YtpihighajaeabaaGreatQBase
namespace Go.Proofs.YtpihighajaeabaaGreat
open Go.RowKit
set_option linter.unusedVariables false

abbrev Fp (α : Type) := World → α → List Value → List Nat → Prop
structure GoodF {α : Type} (B : Nat) (R : Fp α) : Prop where
  step : ∀ {w w' : World} {x : α} {cs : List Value} {F : List Nat}, (∀ b, b ∈ F ∨ b < B → w'.heap[b]? = w.heap[b]?) → R w x cs F → R w' x cs F
  lt : ∀ {w : World} {x : α} {cs : List Value} {F : List Nat}, R w x cs F → ∀ b ∈ F, b < w.heap.size
  one : ∀ {w : World} {x : α} {cs : List Value} {F : List Nat}, R w x cs F → ∀ u ∈ cs, u.oneCell' = true
structure Fresh (B : Nat) (F : List Nat) : Prop where
  nodup : F.Nodup
  ge : ∀ b ∈ F, B ≤ b
theorem Fresh.nil {B : Nat} : Fresh B [] := ⟨List.nodup_nil, fun _ h => by simp at h⟩
theorem Fresh.mono {B B' : Nat} {F : List Nat} (h : Fresh B F) (hB : B' ≤ B) : Fresh B' F := ⟨h.nodup, fun b hb => Nat.le_trans hB (h.ge b hb)⟩

def all3 {α : Type} (R : α → List Value → List Nat → Prop) : List α → List (List Value) → List (List Nat) → Prop
  | [], [], [] => True
  | x :: xs, u :: us, f :: fs => R x u f ∧ all3 R xs us fs
  | _, _, _ => False
section
variable {α : Type} {R R' : α → List Value → List Nat → Prop}
theorem all3_len : ∀ {xs : List α} {us : List (List Value)} {fs : List (List Nat)}, all3 R xs us fs → us.length = xs.length ∧ fs.length = xs.length
  | [], [], [], _ => ⟨rfl, rfl⟩
  | _ :: xs, _ :: us, _ :: fs, h => by have := all3_len (xs := xs) h.2; simp [this]
  | [], _ :: _, _, h | [], [], _ :: _, h | _ :: _, [], _, h | _ :: _, _ :: _, [], h => h.elim
theorem all3_snoc {x : α} {u : List Value} {f : List Nat} (hx : R x u f) : ∀ {xs : List α} {us : List (List Value)} {fs : List (List Nat)}, all3 R xs us fs → all3 R (xs ++ [x]) (us ++ [u]) (fs ++ [f])
  | [], [], [], _ => ⟨hx, trivial⟩
  | _ :: xs, _ :: us, _ :: fs, h => ⟨h.1, all3_snoc hx (xs := xs) h.2⟩
  | [], _ :: _, _, h | [], [], _ :: _, h | _ :: _, [], _, h | _ :: _, _ :: _, [], h => h.elim
theorem all3_imp : ∀ {xs : List α} {us : List (List Value)} {fs : List (List Nat)}, (∀ x u f, f ∈ fs → R x u f → R' x u f) → all3 R xs us fs → all3 R' xs us fs
  | [], [], [], _, _ => trivial
  | _ :: xs, _ :: us, _ :: fs, hi, h => ⟨hi _ _ _ (by simp) h.1, all3_imp (xs := xs) (fun x u f hf => hi x u f (by simp [hf])) h.2⟩
  | [], _ :: _, _, _, h | [], [], _ :: _, _, h | _ :: _, [], _, _, h | _ :: _, _ :: _, [], _, h => h.elim
theorem all3_at : ∀ {xs : List α} {us : List (List Value)} {fs : List (List Nat)} {k : Nat} {x : α}, all3 R xs us fs → xs[k]? = some x → ∃ u f, us[k]? = some u ∧ fs[k]? = some f ∧ R x u f
  | _ :: xs, u :: us, f :: fs, 0, _, h, e => by simp at e; subst e; exact ⟨u, f, rfl, rfl, h.1⟩
  | _ :: xs, _ :: us, _ :: fs, k + 1, _, h, e => by simpa using all3_at (xs := xs) h.2 (by simpa using e)
  | [], [], [], _, _, _, e => by simp at e
  | [], _ :: _, _, _, _, h, _ | [], [], _ :: _, _, _, h, _ | _ :: _, [], _, _, _, h, _ | _ :: _, _ :: _, [], _, _, h, _ => h.elim
theorem all3_set : ∀ {xs : List α} {us : List (List Value)} {fs : List (List Nat)} {k : Nat} {x : α} {u : List Value} {f : List Nat}, all3 R xs us fs → R x u f → all3 R (xs.set k x) (us.set k u) (fs.set k f)
  | [], [], [], _, _, _, _, _, _ => trivial
  | _ :: _, _ :: _, _ :: _, 0, _, _, _, h, hx => ⟨hx, h.2⟩
  | _ :: xs, _ :: us, _ :: fs, k + 1, _, _, _, h, hx => ⟨h.1, all3_set (xs := xs) h.2 hx⟩
  | [], _ :: _, _, _, _, _, _, h, _ | [], [], _ :: _, _, _, _, _, h, _ | _ :: _, [], _, _, _, _, _, h, _ | _ :: _, _ :: _, [], _, _, _, _, h, _ => h.elim
theorem all3_mem_us : ∀ {xs : List α} {us : List (List Value)} {fs : List (List Nat)} {u : List Value}, all3 R xs us fs → u ∈ us → ∃ x f, R x u f
  | _ :: xs, _ :: us, _ :: fs, u, h, hm => by
    rcases List.mem_cons.1 hm with rfl | hm
    · exact ⟨_, _, h.1⟩
    · exact all3_mem_us (xs := xs) h.2 hm
  | [], [], [], _, _, hm => by simp at hm
  | [], _ :: _, _, _, h, _ | [], [], _ :: _, _, h, _ | _ :: _, [], _, _, h, _ | _ :: _, _ :: _, [], _, h, _ => h.elim
end

theorem flatten_at {sz : Nat} : ∀ {us : List (List Value)} {k j : Nat} {u : List Value}, (∀ u ∈ us, u.length = sz) → us[k]? = some u → j < sz → us.flatten[k * sz + j]? = u[j]?
  | v :: us, 0, j, u, hl, e, hj => by
    simp at e; subst e
    rw [List.flatten_cons, Nat.zero_mul, Nat.zero_add, List.getElem?_append_left (by rw [hl v (by simp)]; exact hj)]
  | v :: us, k + 1, j, u, hl, e, hj => by
    have hv := hl v (by simp)
    have ih := flatten_at (us := us) (k := k) (j := j) (u := u) (fun u hu => hl u (by simp [hu])) (by simpa using e) hj
    rw [List.flatten_cons, List.getElem?_append_right (by rw [hv, Nat.succ_mul]; omega), ← ih]
    congr 1
    rw [hv, Nat.succ_mul]; omega

def fSl {α : Type} (e : TypeId) (sz : Nat) (R : Fp α) : Fp (List α) := fun w xs cs F =>
  ∃ v us Fs, cs = [v] ∧ w.ownsRow 0 e sz v xs.length us.flatten ∧ all3 (fun x u f => R w x u f ∧ u.length = sz) xs us Fs ∧ F = v.ownBlock.toList ++ Fs.flatten
/-- read, not owned: from the blocks below B -/
def fSh {α : Type} (B : Nat) (R : Rep α) : Fp α := fun w x cs F => F = [] ∧ R w (fun b => b < B) x cs ∧ ∀ u ∈ cs, u.oneCell' = true
def fInt : Fp Int := fun _ n cs F => cs = [.int .i64 n] ∧ F = []
def fPair : Fp GPair := fun _ p cs F => cs = [.int .i64 p.fst, .int .i64 p.snd] ∧ F = []
theorem fInt_good {B : Nat} : GoodF B fInt := ⟨fun _ h => h, fun h b hb => by rw [h.2] at hb; simp at hb, fun h u hu => by rw [h.1] at hu; simp at hu; rw [hu]; rfl⟩
theorem fPair_good {B : Nat} : GoodF B fPair := ⟨fun _ h => h, fun h b hb => by rw [h.2] at hb; simp at hb, fun h u hu => by rw [h.1] at hu; simp at hu; rcases hu with rfl | rfl <;> rfl⟩
theorem fSh_good {α : Type} {B B' : Nat} {R : Rep α} (hR : Good R) (hB : B' ≤ B) : GoodF B (fSh B' R) :=
  ⟨fun hw ⟨hF, h, h1⟩ => ⟨hF, hR.step ⟨fun _ hb => hb, fun p hp => World.cell?_of_block (hw _ (.inr (by have : p.block < B' := hp; omega)))⟩ h, h1⟩, fun h b hb => by rw [h.1] at hb; simp at hb, fun h => h.2.2⟩
theorem GoodF.mono {α : Type} {B B' : Nat} {R : Fp α} (h : GoodF B R) (hB : B ≤ B') : GoodF B' R :=
  ⟨fun hw hr => h.step (fun b hb => hw b (hb.imp id fun h => by omega)) hr, h.lt, h.one⟩

theorem ownsRow_heap {w w' : World} {base : Nat} {e : TypeId} {sz : Nat} {v : Value} {n : Nat} {xs : List Value} (h : w.ownsRow base e sz v n xs) (hw : ∀ b, v.ownBlock = some b → w'.heap[b]? = w.heap[b]?) : w'.ownsRow base e sz v n xs := by
  refine ⟨h.1, ?_⟩
  rcases h.2 with h' | ⟨g, cap, cur, rfl, hb, hg, rest⟩
  · exact .inl h'
  · exact .inr ⟨g, cap, cur, rfl, hb, by rw [hw g rfl]; exact hg, rest⟩
theorem ownsRow_one {w : World} {base : Nat} {e : TypeId} {sz : Nat} {v : Value} {n : Nat} {xs : List Value} (h : w.ownsRow base e sz v n xs) : v.oneCell' = true := by
  rcases h.2 with ⟨rfl, _⟩ | ⟨g, cap, cur, rfl, _⟩ <;> rfl

theorem fSl_good {α : Type} {B : Nat} {e : TypeId} {sz : Nat} {R : Fp α} (hR : GoodF B R) : GoodF B (fSl e sz R) := by
  refine ⟨?_, ?_, ?_⟩
  · rintro w w' xs cs F hw ⟨v, us, Fs, rfl, hown, hall, rfl⟩
    refine ⟨v, us, Fs, rfl, ownsRow_heap hown (fun b hb => hw b (.inl (by simp [hb]))), all3_imp (fun x u f hf hx => ⟨hR.step (fun b hb => hw b ?_) hx.1, hx.2⟩) hall, rfl⟩
    rcases hb with hb | hb
    · exact .inl (List.mem_append_right _ (List.mem_flatten.2 ⟨f, hf, hb⟩))
    · exact .inr hb
  · rintro w xs cs F ⟨v, us, Fs, rfl, hown, hall, rfl⟩ b hb
    rcases List.mem_append.1 hb with hb | hb
    · exact (hown.lt b (by simpa using hb)).2
    · obtain ⟨f, hf, hb⟩ := List.mem_flatten.1 hb
      obtain ⟨k, hk⟩ := List.mem_iff_getElem?.1 hf
      have hl := all3_len hall
      have hkl : k < xs.length := by rw [← hl.2]; exact (List.getElem?_eq_some_iff.1 hk).1
      obtain ⟨u, f', _, hf', hr⟩ := all3_at hall (List.getElem?_eq_getElem hkl)
      rw [hk] at hf'
      injection hf' with hf'
      subst hf'
      exact hR.lt hr.1 b hb
  · rintro w xs cs F ⟨v, us, Fs, rfl, hown, hall, rfl⟩ u hu
    simp at hu
    subst hu
    exact ownsRow_one hown
theorem fSl_frozen {α : Type} {e : TypeId} {sz g n c : Nat} {R : Fp α} {w : World} {xs : List α} {F : List Nat} (h : fSl e sz R w xs [.slice (some ⟨g, 0, none⟩) n c] F) (j : Nat) : w.frozen? ⟨g, j, none⟩ = false := by
  obtain ⟨v, us, Fs, hv, hown, _⟩ := h
  injection hv with hv
  subst hv
  have hn : n = xs.length := by
    rcases hown.2 with ⟨h, _⟩ | ⟨g', cap, cur, h, _⟩
    · cases h
    · injection h
  subst hn
  exact hown.frozenAt j
theorem fSl_nil {α : Type} {e : TypeId} {sz : Nat} {R : Fp α} (w : World) : fSl e sz R w [] [.slice none 0 0] [] :=
  ⟨_, [], [], rfl, World.ownsRow_nil _ _ _ _, trivial, rfl⟩

theorem ownsRow_rSl {w : World} {base : Nat} {e : TypeId} {sz n : Nat} {v : Value} {us : List (List Value)} (h : w.ownsRow base e sz v n us.flatten) (hl : us.length = n) (hu : ∀ u ∈ us, u.length = sz) :
    ∃ A c, v = .slice A n c ∧ n ≤ c ∧ c ≤ maxLen ∧ ∀ k u, us[k]? = some u → ∃ b, A = some ⟨b, 0, none⟩ ∧ v.ownBlock = some b ∧ ∀ j t, u[j]? = some t → w.cell? ⟨b, 0 + k * sz + j, none⟩ = some t := by
  rcases h.2 with ⟨rfl, rfl⟩ | ⟨g, cap, cur, rfl, _, hg, hnc, hcm, hcs, _⟩
  · exact ⟨none, 0, rfl, Nat.le_refl _, by simp [maxLen], fun k u hk => by rw [List.eq_nil_of_length_eq_zero hl] at hk; simp at hk⟩
  · refine ⟨_, _, rfl, hnc, hcm, fun k u hk => ⟨_, rfl, rfl, fun j t ht => ?_⟩⟩
    have hj : j < sz := by rw [← hu u (List.mem_iff_getElem?.2 ⟨k, hk⟩)]; exact (List.getElem?_eq_some_iff.1 ht).1
    have := h.cells (g := g) rfl (k * sz + j) t (by rw [flatten_at hu hk hj]; exact ht)
    have hadd : (⟨g, 0, none⟩ : Addr).add (k * sz + j) = ⟨g, k * sz + j, none⟩ := by unfold Addr.add; split <;> simp_all
    rw [hadd] at this
    rw [Nat.zero_add]
    exact this

theorem fSl_rd {α : Type} {B : Nat} {e : TypeId} {sz : Nat} {R : Fp α} {R' : Rep α} (hg : Good R') {w : World} {xs : List α} {cs : List Value} {F : List Nat}
    (hR : ∀ x u f, R w x u f → R' w (fun b => b ∈ f ∨ b < B) x u) (h : fSl e sz R w xs cs F) : rSl sz R' w (fun b => b ∈ F ∨ b < B) xs cs := by
  obtain ⟨v, us, Fs, rfl, hown, hall, rfl⟩ := h
  have hl := all3_len hall
  have hus : ∀ u ∈ us, u.length = sz := fun u hu => by obtain ⟨x, f, hr⟩ := all3_mem_us hall hu; exact hr.2
  obtain ⟨A, c, rfl, h1, h2, h3⟩ := ownsRow_rSl hown hl.1 hus
  refine ⟨A, c, rfl, h1, h2, fun k x hx => ?_⟩
  obtain ⟨u, f, hu, hf, hr⟩ := all3_at hall hx
  obtain ⟨b, rfl, hb, hc⟩ := h3 k u hu
  refine ⟨b, 0, u, rfl, .inl (by simp [hb]), hr.2, hc, hg.step ⟨fun b hb => ?_, fun _ _ => rfl⟩ (hR x u f hr.1)⟩
  rcases hb with hb | hb
  · exact .inl (List.mem_append_right _ (List.mem_flatten.2 ⟨f, List.mem_iff_getElem?.2 ⟨k, hf⟩, hb⟩))
  · exact .inr hb
theorem fSh_rd {α : Type} {B : Nat} {R : Rep α} (hg : Good R) {w : World} {x : α} {u : List Value} {f : List Nat} (h : fSh B R w x u f) : R w (fun b => b ∈ f ∨ b < B) x u :=
  hg.step ⟨fun _ hb => .inr hb, fun _ _ => rfl⟩ h.2.1
theorem fInt_rd {B : Nat} {w : World} {x : Int} {u : List Value} {f : List Nat} (h : fInt w x u f) : rInt w (fun b => b ∈ f ∨ b < B) x u := h.1
theorem fPair_rd {B : Nat} {w : World} {x : GPair} {u : List Value} {f : List Nat} (h : fPair w x u f) : rPair w (fun b => b ∈ f ∨ b < B) x u := h.1
/-- owned is read -/
theorem Rd.of {α : Type} {R : Rep α} (hg : Good R) {w : World} {x : α} {cs : List Value} {F : List Nat} {B : Nat} (h : R w (fun b => b ∈ F ∨ b < B) x cs) (hF : ∀ b ∈ F, b < w.heap.size) (hB : B ≤ w.heap.size) : Rd R w x cs :=
  hg.step ⟨fun b hb => hb.elim (hF b) fun h => Nat.lt_of_lt_of_le h hB, fun _ _ => rfl⟩ h

/-! ### append of one element -/
section
variable {α : Type} {P : Program}
theorem nodup_push {F f : List Nat} {m : Nat} (hF : F.Nodup) (hf : Fresh m f) (hlt : ∀ b ∈ F, b < m) : (F ++ f).Nodup := by
  rw [List.nodup_append]
  refine ⟨hF, hf.nodup, fun a ha b hb e => ?_⟩
  have := hlt a ha
  have := hf.ge b hb
  omega

theorem push_run (W : World) (w0 : World) (t ty e : TypeId) (i : TypeInfo) (z : Value) (sz bytes : Nat) (ht : P.underlying t = some (.slice e)) (hi : P.info? e = some i) (hz : i.zero = some z)
    (hsize : i.size = sz) (hby : i.bytes = bytes) (hzs : z.cells.size = sz) (hsz : 0 < sz)
    {R : Fp α} (hR : GoodF w0.heap.size R) (v : Value) (xs : List α) (F : List Nat) (hv : fSl e sz R W xs [v] F) (hF : Fresh w0.heap.size F)
    (ad : Addr) (c : Nat) (y : α) (u : List Value) (f : List Nat) (hu : ∀ j t, u[j]? = some t → W.cell? (ad.add j) = some t)
    (hy : R W y u f) (hul : u.length = sz) (m : Nat) (hFm : ∀ b ∈ F, b < m) (hf : Fresh m f) (hm : w0.heap.size ≤ m) (hbytes : (xs.length + 1) * bytes ≤ 140737488355328) (hlen : xs.length < 4611686018427387904) (hbw : Bw w0 W) :
    ∃ v' w' F', (Builtin.append_ #[t, t] ty #[v, .slice (some ad) 1 c]).run P W = .ok v' w' ∧ fSl e sz R w' (xs ++ [y]) [v'] F' ∧ Fresh w0.heap.size F' ∧ Bw w0 w' := by
  obtain ⟨v0, us, Fs, hv0, hown, hall, hFe⟩ := hv
  injection hv0 with hv0
  subst hv0
  have hl := all3_len hall
  obtain ⟨v', w', hrun, hown', hgrow, _, hat⟩ := run_append_own_at (P := P) W 0 t ty e i z sz bytes ht hi hz hsize hby hzs hsz v xs.length us.flatten hown ad 1 c u (by omega) hu
    (hR.one hy) (by simp only [maxLen]; omega) hbytes (Nat.zero_le _)
  have hvg : ∀ k, v.ownBlock = some k → w0.heap.size ≤ k := fun k hk => hF.ge k (by rw [hFe]; simp [hk])
  have hbw' : Bw w0 w' := hbw.grown hgrow hvg
  have hvF : ∀ b, b ∈ Fs.flatten → some b ≠ v.ownBlock := by
    intro b hb e
    have hn := hF.nodup
    rw [hFe, List.nodup_append] at hn
    exact hn.2.2 b (by simp [← e]) b hb rfl
  have hvf : ∀ b, b ∈ f → some b ≠ v.ownBlock := by
    intro b hb e
    have h1 := hf.ge b hb
    have h2 := hFm b (by rw [hFe]; simp [← e])
    omega
  have hlts : ∀ b ∈ Fs.flatten, b < W.heap.size := fun b hb => (fSl_good hR).lt (⟨v, us, Fs, rfl, hown, hall, rfl⟩ : fSl e sz R W xs [v] _) b (List.mem_append_right _ hb)
  have hltf : ∀ b ∈ f, b < W.heap.size := hR.lt hy
  have hold : ∀ b, b < w0.heap.size → w'.heap[b]? = W.heap[b]? := fun b hb => hgrow.block b (Nat.lt_of_lt_of_le hb hbw.size) (fun e => by have := hvg b e.symm; omega)
  refine ⟨v', w', v'.ownBlock.toList ++ (Fs ++ [f]).flatten, hrun, ⟨v', us ++ [u], Fs ++ [f], rfl, ?_, ?_, rfl⟩, ⟨?_, ?_⟩, hbw'⟩
  · rw [List.length_append, List.flatten_append, List.flatten_singleton]; exact hown'
  · have hy' : R w' y u f := hR.step (fun b hb => hb.elim (fun hb => hgrow.block b (hltf b hb) (hvf b hb)) (hold b)) hy
    refine all3_snoc ⟨hy', hul⟩ (all3_imp (fun x u f' hf' hx => ⟨hR.step (fun b hb => ?_) hx.1, hx.2⟩) hall)
    rcases hb with hb | hb
    · have hb' : b ∈ Fs.flatten := List.mem_flatten.2 ⟨_, hf', hb⟩
      exact hgrow.block b (hlts b hb') (hvF b hb')
    · exact hold b hb
  · rw [List.flatten_append, List.flatten_singleton, List.nodup_append]
    have hn := hF.nodup
    rw [hFe, List.nodup_append] at hn
    refine ⟨by cases v'.ownBlock <;> simp, nodup_push hn.2.1 hf fun b hb => hFm b (by rw [hFe]; exact List.mem_append_right _ hb), fun p hp q hq e => ?_⟩
    subst e
    have hp' : v'.ownBlock = some p := by simpa using hp
    rcases hat with e | e
    · rcases List.mem_append.1 hq with hq | hq
      · exact hvF p hq (by rw [← e, hp'])
      · exact hvf p hq (by rw [← e, hp'])
    · rw [hp'] at e
      injection e with e
      rcases List.mem_append.1 hq with hq | hq
      · have := hlts p hq; omega
      · have := hltf p hq; omega
  · intro b hb
    rcases List.mem_append.1 hb with hb | hb
    · have hb' : v'.ownBlock = some b := by simpa using hb
      rcases hat with e | e
      · exact hvg b (by rw [← e, hb'])
      · rw [hb'] at e
        injection e with e
        have := hbw.size
        omega
    · rw [List.flatten_append, List.flatten_singleton] at hb
      rcases List.mem_append.1 hb with hb | hb
      · exact hF.ge b (by rw [hFe]; exact List.mem_append_right _ hb)
      · exact Nat.le_trans hm (hf.ge b hb)
theorem wp_push {o : Oper} {a : Act} {K : Act → World → Prop} {Q : Exit → Act → World → Prop} (W : World) (s x : Operand) (t : TypeId)
    (ho : o.op = .call { callee := .builtin .append, args := #[s, x], argTypes := #[t, t] })
    (w0 : World) (e : TypeId) (i : TypeInfo) (z : Value) (sz bytes : Nat) (ht : P.underlying t = some (.slice e)) (hi : P.info? e = some i) (hz : i.zero = some z)
    (hsize : i.size = sz) (hby : i.bytes = bytes) (hzs : z.cells.size = sz) (hsz : 0 < sz)
    {R : Fp α} (hR : GoodF w0.heap.size R) (v : Value) (xs : List α) (F : List Nat) (hs : a.eval s = v) (hv : fSl e sz R W xs [v] F) (hF : Fresh w0.heap.size F)
    (ad : Addr) (c : Nat) (hx : a.eval x = .slice (some ad) 1 c) (y : α) (u : List Value) (f : List Nat) (hu : ∀ j t, u[j]? = some t → W.cell? (ad.add j) = some t)
    (hy : R W y u f) (hul : u.length = sz) (m : Nat) (hFm : ∀ b ∈ F, b < m) (hf : Fresh m f) (hm : w0.heap.size ≤ m) (hbytes : (xs.length + 1) * bytes ≤ 140737488355328) (hlen : xs.length < 4611686018427387904) (hbw : Bw w0 W)
    (h : ∀ v' w' F', fSl e sz R w' (xs ++ [y]) [v'] F' → Fresh w0.heap.size F' → Bw w0 w' → K (a.put o.dst v') w') : o.wp P a W K Q := by
  obtain ⟨v', w', F', hrun, h1, h2, h3⟩ := push_run (P := P) W w0 t o.type e i z sz bytes ht hi hz hsize hby hzs hsz hR v xs F hv hF ad c y u f hu hy hul m hFm hf hm hbytes hlen hbw
  unfold Oper.wp execOp
  simp only [ho, resolve, invoke, builtin, Sem.run_bind, Sem.run_pure, Result.andThen_ok, List.map_toArray, List.map_cons, List.map_nil, hs, hx, hrun]
  exact h v' w' F' h1 h2 h3
theorem wpList_push {ops : Array Oper} {rest : List Oper} {o : Oper} {a : Act} {Q : Exit → Act → World → Prop} (W : World) (hgd : o.guard = none) (s x : Operand) (t : TypeId)
    (ho : o.op = .call { callee := .builtin .append, args := #[s, x], argTypes := #[t, t] })
    (w0 : World) (e : TypeId) (i : TypeInfo) (z : Value) (sz bytes : Nat) (ht : P.underlying t = some (.slice e)) (hi : P.info? e = some i) (hz : i.zero = some z)
    (hsize : i.size = sz) (hby : i.bytes = bytes) (hzs : z.cells.size = sz) (hsz : 0 < sz)
    {R : Fp α} (hR : GoodF w0.heap.size R) (v : Value) (xs : List α) (F : List Nat) (hs : a.eval s = v) (hv : fSl e sz R W xs [v] F) (hF : Fresh w0.heap.size F)
    (ad : Addr) (c : Nat) (hx : a.eval x = .slice (some ad) 1 c) (y : α) (u : List Value) (f : List Nat) (hu : ∀ j t, u[j]? = some t → W.cell? (ad.add j) = some t)
    (hy : R W y u f) (hul : u.length = sz) (m : Nat) (hFm : ∀ b ∈ F, b < m) (hf : Fresh m f) (hm : w0.heap.size ≤ m) (hbytes : (xs.length + 1) * bytes ≤ 140737488355328) (hlen : xs.length < 4611686018427387904) (hbw : Bw w0 W)
    (h : ∀ v' w' F', fSl e sz R w' (xs ++ [y]) [v'] F' → Fresh w0.heap.size F' → Bw w0 w' → wpList P ops Q rest (a.put o.dst v') w') : wpList P ops Q (o :: rest) a W := by
  exact wpList_plain hgd fun _ hK => wp_push W s x t ho w0 e i z sz bytes ht hi hz hsize hby hzs hsz hR v xs F hs hv hF ad c hx y u f hu hy hul m hFm hf hm hbytes hlen hbw fun v' w' F' h1 h2 h3 => hK _ _ (h v' w' F' h1 h2 h3)
/-- in a region that draws its order -/
theorem step_push {ops : Array Oper} {o : Oper} {a : Act} {K : Act → World → Prop} {Q : Exit → Act → World → Prop} {E : Prop} (W : World) (hgd : o.guard = none) (s x : Operand) (t : TypeId)
    (ho : o.op = .call { callee := .builtin .append, args := #[s, x], argTypes := #[t, t] })
    (w0 : World) (e : TypeId) (i : TypeInfo) (z : Value) (sz bytes : Nat) (ht : P.underlying t = some (.slice e)) (hi : P.info? e = some i) (hz : i.zero = some z)
    (hsize : i.size = sz) (hby : i.bytes = bytes) (hzs : z.cells.size = sz) (hsz : 0 < sz)
    {R : Fp α} (hR : GoodF w0.heap.size R) (v : Value) (xs : List α) (F : List Nat) (hs : a.eval s = v) (hv : fSl e sz R W xs [v] F) (hF : Fresh w0.heap.size F)
    (ad : Addr) (c : Nat) (hx : a.eval x = .slice (some ad) 1 c) (y : α) (u : List Value) (f : List Nat) (hu : ∀ j t, u[j]? = some t → W.cell? (ad.add j) = some t)
    (hy : R W y u f) (hul : u.length = sz) (m : Nat) (hFm : ∀ b ∈ F, b < m) (hf : Fresh m f) (hm : w0.heap.size ≤ m) (hbytes : (xs.length + 1) * bytes ≤ 140737488355328) (hlen : xs.length < 4611686018427387904) (hbw : Bw w0 W)
    (h : ∀ v' w' F', fSl e sz R w' (xs ++ [y]) [v'] F' → Fresh w0.heap.size F' → Bw w0 w' → K (a.put o.dst v') w') : if Region.wanted o (yielded ops a.tmps) = true then Oper.wp P o a W K Q else E := by
  have hw : Region.wanted o (yielded ops a.tmps) = true := by simp [Region.wanted, hgd]
  rw [if_pos hw]
  exact wp_push W s x t ho w0 e i z sz bytes ht hi hz hsize hby hzs hsz hR v xs F hs hv hF ad c hx y u f hu hy hul m hFm hf hm hbytes hlen hbw h
end

/-! ### a row that make has laid; a store of one element -/
theorem flatten_replicate_nil (n : Nat) : (List.replicate n ([] : List Nat)).flatten = [] := by induction n <;> simp_all [List.replicate_succ]
def putCells (w : World) (g : Nat) : Nat → List Value → World
  | _, [] => w
  | i, a :: u => putCells (w.setCell ⟨g, i, none⟩ a) g (i + 1) u
def setMany : List Value → Nat → List Value → List Value
  | l, _, [] => l
  | l, i, a :: u => setMany (l.set i a) (i + 1) u
theorem setMany_at : ∀ (u l : List Value) (i j : Nat), i + u.length ≤ l.length → (setMany l i u)[j]? = if i ≤ j ∧ j < i + u.length then u[j - i]? else l[j]?
  | [], l, i, j, _ => by simp only [setMany]; rw [if_neg (fun h => by have h2 := h.2; simp at h2; omega)]
  | a :: u, l, i, j, h => by
    rw [setMany, setMany_at u _ _ _ (by simp at h ⊢; omega)]
    simp only [List.length_cons] at h ⊢
    by_cases h1 : i = j
    · subst h1
      rw [if_neg (by omega), if_pos (by omega)]
      simp [show i < l.length by omega]
    · by_cases h2 : i + 1 ≤ j ∧ j < i + 1 + u.length
      · rw [if_pos h2, if_pos (by omega)]
        have : j - i = (j - (i + 1)) + 1 := by omega
        rw [this]; rfl
      · rw [if_neg h2, if_neg (by omega), List.getElem?_set, if_neg h1]
theorem setMany_flatten {sz : Nat} {us : List (List Value)} {k : Nat} {u : List Value} (hl : ∀ u ∈ us, u.length = sz) (hu : u.length = sz) (hk : k < us.length) : setMany us.flatten (k * sz) u = (us.set k u).flatten := by
  have flen : ∀ (vs : List (List Value)), (∀ v ∈ vs, v.length = sz) → vs.flatten.length = vs.length * sz := by
    intro vs hv
    induction vs with
    | nil => simp
    | cons v vs ih => rw [List.flatten_cons, List.length_append, hv v (by simp), ih (fun v h => hv v (by simp [h])), List.length_cons, Nat.succ_mul]; omega
  have hls : ∀ v ∈ us.set k u, v.length = sz := fun v hv => by
    rcases List.mem_or_eq_of_mem_set hv with h | h
    · exact hl v h
    · rw [h, hu]
  have hkl : (k + 1) * sz ≤ us.length * sz := Nat.mul_le_mul_right _ hk
  rw [Nat.succ_mul] at hkl
  apply List.ext_getElem?
  intro j
  rw [setMany_at _ _ _ _ (by rw [flen us hl, hu]; omega)]
  by_cases hsz : sz = 0
  · subst hsz
    rw [if_neg (by rw [hu]; omega), List.getElem?_eq_none (by rw [flen us hl]; omega), List.getElem?_eq_none (by rw [flen _ hls]; omega)]
  have hdm : j = j / sz * sz + j % sz := by rw [Nat.mul_comm]; exact (Nat.div_add_mod j sz).symm
  have hm : j % sz < sz := Nat.mod_lt _ (by omega)
  by_cases hj : j / sz < us.length
  · have e1 := flatten_at (us := us) (k := j / sz) (j := j % sz) hl (List.getElem?_eq_getElem hj) hm
    have e2 := flatten_at (us := us.set k u) (k := j / sz) (j := j % sz) (u := if k = j / sz then u else us[j / sz]) hls (by
      rw [List.getElem?_set]
      by_cases h : k = j / sz
      · rw [if_pos h, if_pos hk, if_pos h]
      · rw [if_neg h, if_neg h]; exact List.getElem?_eq_getElem hj) hm
    rw [← hdm] at e1 e2
    rw [e1, e2]
    by_cases hkj : k = j / sz
    · rw [if_pos hkj, if_pos (by rw [hu, hkj]; omega)]
      congr 1
      rw [hkj]; omega
    · rw [if_neg hkj, if_neg]
      rw [hu]
      rintro ⟨h1, h2⟩
      apply hkj
      have : j / sz = k := by
        apply Nat.div_eq_of_lt_le
        · exact h1
        · rw [Nat.succ_mul]; exact h2
      exact this.symm
  · have hjl : us.length * sz ≤ j := by
      have := Nat.mul_le_mul_right sz (Nat.le_of_not_lt hj)
      omega
    rw [if_neg (by rw [hu]; omega), List.getElem?_eq_none (by rw [flen us hl]; exact hjl), List.getElem?_eq_none (by rw [flen _ hls, List.length_set]; exact hjl)]
theorem ownsRow_put {base : Nat} {e : TypeId} {sz g n cap : Nat} : ∀ (u : List Value) (w : World) (xs : List Value) (i : Nat), w.ownsRow base e sz (.slice (some ⟨g, 0, none⟩) n cap) n xs →
    (putCells w g i u).ownsRow base e sz (.slice (some ⟨g, 0, none⟩) n cap) n (setMany xs i u) ∧ w.grownBy (putCells w g i u) (some g)
  | [], w, xs, i, h => ⟨h, World.grownBy.refl w _⟩
  | a :: u, w, xs, i, h => by
    obtain ⟨h1, h2⟩ := h.stored i a
    obtain ⟨h3, h4⟩ := ownsRow_put u _ _ (i + 1) h1
    exact ⟨h3, h2.trans h4⟩
theorem nodup_set {f : List Nat} : ∀ {Fs : List (List Nat)} {k : Nat}, Fs.flatten.Nodup → f.Nodup → (∀ b ∈ f, b ∉ Fs.flatten) → (Fs.set k f).flatten.Nodup
  | [], _, _, _, _ => by simp
  | g :: Fs, 0, h, hf, hd => by
    rw [List.set_cons_zero, List.flatten_cons]
    rw [List.flatten_cons, List.nodup_append] at h
    rw [List.nodup_append]
    exact ⟨hf, h.2.1, fun a ha b hb e => hd a ha (by rw [e]; simp only [List.flatten_cons]; exact List.mem_append_right _ hb)⟩
  | g :: Fs, k + 1, h, hf, hd => by
    rw [List.set_cons_succ, List.flatten_cons]
    rw [List.flatten_cons, List.nodup_append] at h
    rw [List.nodup_append]
    refine ⟨h.1, nodup_set h.2.1 hf (fun b hb hm => hd b hb (by rw [List.flatten_cons]; exact List.mem_append_right _ hm)), fun a ha b hb e => ?_⟩
    obtain ⟨l, hl, hbl⟩ := List.mem_flatten.1 hb
    rcases List.mem_or_eq_of_mem_set hl with h' | h'
    · exact h.2.2 a ha b (List.mem_flatten.2 ⟨l, h', hbl⟩) e
    · subst h' e
      exact hd a hbl (by rw [List.flatten_cons]; exact List.mem_append_left _ ha)
/-- one element of an owned slice is stored anew -/
theorem fSl_put {α : Type} {B : Nat} {e : TypeId} {sz g n c k : Nat} {R : Fp α} (hR : GoodF B R) {w : World} {xs : List α} {F : List Nat} (hv : fSl e sz R w xs [.slice (some ⟨g, 0, none⟩) n c] F) (hF : Fresh B F)
    {y : α} {u : List Value} {f : List Nat} (hy : R w y u f) (hu : u.length = sz) {m : Nat} (hFm : ∀ b ∈ F, b < m) (hf : Fresh m f) (hm : B ≤ m) (hk : k < xs.length) :
    ∃ F', fSl e sz R (putCells w g (k * sz) u) (xs.set k y) [.slice (some ⟨g, 0, none⟩) n c] F' ∧ Fresh B F' ∧ w.grownBy (putCells w g (k * sz) u) (some g) ∧ B ≤ g ∧ ∀ b ∈ F', b ∈ F ∨ b ∈ f := by
  have hlt := (fSl_good hR).lt hv
  obtain ⟨v, us, Fs, hv0, hown, hall, hFe⟩ := hv
  injection hv0 with hv0
  subst hv0
  have hl := all3_len hall
  have hus : ∀ u ∈ us, u.length = sz := fun u hu => by obtain ⟨x, f, hr⟩ := all3_mem_us hall hu; exact hr.2
  have hn : n = xs.length := by
    rcases hown.2 with ⟨h, _⟩ | ⟨g', cap, cur, h, _⟩
    · cases h
    · injection h
  subst hn
  obtain ⟨hown', hgrow⟩ := ownsRow_put u w us.flatten (k * sz) hown
  rw [setMany_flatten hus hu (by rw [hl.1]; exact hk)] at hown'
  have hgF : g ∈ F := by rw [hFe]; simp [Value.ownBlock]
  have hnd := hF.nodup
  rw [hFe, List.nodup_append] at hnd
  have hgFs : ∀ b ∈ Fs.flatten, b ≠ g := fun b hb e => hnd.2.2 g (by simp [Value.ownBlock]) b hb e.symm
  have hgf : ∀ b ∈ f, b ≠ g := fun b hb e => by have := hf.ge b hb; have := hFm g hgF; omega
  have hBg : B ≤ g := hF.ge g hgF
  have hold : ∀ b, b < B → (putCells w g (k * sz) u).heap[b]? = w.heap[b]? := fun b hb => hgrow.block b (by have := hlt g hgF; omega) (fun e => by injection e with e; omega)
  have hy' : R (putCells w g (k * sz) u) y u f := hR.step (fun b hb => hb.elim (fun hb => hgrow.block b (hR.lt hy b hb) (fun e => by injection e with e; exact hgf b hb e)) (hold b)) hy
  have hall' : all3 (fun x u f => R (putCells w g (k * sz) u) x u f ∧ u.length = sz) xs us Fs → True := fun _ => trivial
  have hall2 : all3 (fun x u' f' => R (putCells w g (k * sz) u) x u' f' ∧ u'.length = sz) xs us Fs := all3_imp (fun x u' f' hf' hx => ⟨hR.step (fun b hb => hb.elim (fun hb => by
    have hb' : b ∈ Fs.flatten := List.mem_flatten.2 ⟨_, hf', hb⟩
    exact hgrow.block b (hR.lt hx.1 b hb) (fun e => by injection e with e; exact hgFs b hb' e)) (hold b)) hx.1, hx.2⟩) hall
  refine ⟨[g] ++ (Fs.set k f).flatten, ⟨_, us.set k u, Fs.set k f, rfl, by rw [List.length_set]; exact hown', all3_set hall2 ⟨hy', hu⟩, by simp [Value.ownBlock]⟩, ⟨?_, ?_⟩, hgrow, hBg, ?_⟩
  · rw [List.nodup_append]
    refine ⟨by simp, nodup_set hnd.2.1 hf.nodup (fun b hb hm' => ?_), fun a ha b hb e => ?_⟩
    · have := hf.ge b hb
      have := hFm b (by rw [hFe]; exact List.mem_append_right _ hm')
      omega
    · simp at ha
      subst ha e
      obtain ⟨l, hl', hbl⟩ := List.mem_flatten.1 hb
      rcases List.mem_or_eq_of_mem_set hl' with h' | h'
      · exact hgFs _ (List.mem_flatten.2 ⟨l, h', hbl⟩) rfl
      · subst h'; exact hgf _ hbl rfl
  · intro b hb
    rcases List.mem_append.1 hb with hb | hb
    · simp at hb; omega
    · obtain ⟨l, hl', hbl⟩ := List.mem_flatten.1 hb
      rcases List.mem_or_eq_of_mem_set hl' with h' | h'
      · exact hF.ge b (by rw [hFe]; exact List.mem_append_right _ (List.mem_flatten.2 ⟨l, h', hbl⟩))
      · subst h'; exact Nat.le_trans hm (hf.ge b hbl)
  · intro b hb
    rcases List.mem_append.1 hb with hb | hb
    · simp at hb; subst hb; exact .inl hgF
    · obtain ⟨l, hl', hbl⟩ := List.mem_flatten.1 hb
      rcases List.mem_or_eq_of_mem_set hl' with h' | h'
      · exact .inl (by rw [hFe]; exact List.mem_append_right _ (List.mem_flatten.2 ⟨l, h', hbl⟩))
      · subst h'; exact .inr hbl

/-! ### append of a whole slice whose elements are not owned -/
theorem choose_list {α : Type} {P : Nat → α → List Value → Prop} : ∀ {ys : List α}, (∀ k x, ys[k]? = some x → ∃ u, P k x u) → ∃ us : List (List Value), us.length = ys.length ∧ ∀ k x, ys[k]? = some x → ∃ u, us[k]? = some u ∧ P k x u
  | [], _ => ⟨[], rfl, fun k x h => by simp at h⟩
  | y :: ys, h => by
    obtain ⟨u0, h0⟩ := h 0 y rfl
    obtain ⟨us, hl, hus⟩ := choose_list (P := fun k x u => P (k + 1) x u) (ys := ys) (fun k x hk => h (k + 1) x (by simpa using hk))
    refine ⟨u0 :: us, by simp [hl], fun k x hk => ?_⟩
    cases k with
    | zero => simp at hk; subst hk; exact ⟨u0, rfl, h0⟩
    | succ k => simpa using hus k x (by simpa using hk)
theorem all3_append {α : Type} {R : α → List Value → List Nat → Prop} : ∀ {xs : List α} {us : List (List Value)} {fs : List (List Nat)} {ys : List α} {vs : List (List Value)} {gs : List (List Nat)}, all3 R xs us fs → all3 R ys vs gs → all3 R (xs ++ ys) (us ++ vs) (fs ++ gs)
  | [], [], [], _, _, _, _, h => h
  | _ :: xs, _ :: us, _ :: fs, _, _, _, h, k => ⟨h.1, all3_append (xs := xs) h.2 k⟩
  | [], _ :: _, _, _, _, _, h, _ | [], [], _ :: _, _, _, _, h, _ | _ :: _, [], _, _, _, _, h, _ | _ :: _, _ :: _, [], _, _, _, h, _ => h.elim
theorem all3_of {α : Type} {R : α → List Value → List Nat → Prop} : ∀ {ys : List α} {us : List (List Value)}, us.length = ys.length → (∀ (k : Nat) (x : α) (u : List Value), ys[k]? = some x → us[k]? = some u → R x u []) → all3 R ys us (List.replicate ys.length [])
  | [], [], _, _ => trivial
  | y :: ys, u :: us, hl, h => ⟨h 0 y u rfl rfl, all3_of (ys := ys) (by simpa using hl) fun k x u hx hu => h (k + 1) x u (by simpa using hx) (by simpa using hu)⟩
theorem run_append_of_nil {P : Program} (w : World) (base : Nat) (t ty e : TypeId) (i : TypeInfo) (size : Nat) (ht : P.underlying t = some (.slice e)) (hi : P.info? e = some i)
    (v : Value) (n : Nat) (xs : List Value) (hown : w.ownsRow base e size v n xs) (c : Nat) : (Builtin.append_ #[t, t] ty #[v, .slice none 0 c]).run P w = .ok v w := by
  rcases hown.2 with ⟨rfl, rfl⟩ | ⟨g, cap, cur, rfl, _, _, hnc, _⟩
  · simp [Builtin.append_, run_underlying ht, sizeOf, typeInfo, hi, Builtin.lenOf, Builtin.firstCells]
  · simp [Builtin.append_, run_underlying ht, sizeOf, typeInfo, hi, Builtin.lenOf, Builtin.firstCells, hnc, storeCells]
theorem flat_len {sz : Nat} : ∀ {us : List (List Value)}, (∀ u ∈ us, u.length = sz) → us.flatten.length = us.length * sz
  | [], _ => by simp
  | u :: us, h => by rw [List.flatten_cons, List.length_append, h u (by simp), flat_len (fun v hv => h v (by simp [hv])), List.length_cons, Nat.succ_mul]; omega
theorem wpList_append_all {α : Type} {P : Program} {ops : Array Oper} {rest : List Oper} {o : Oper} {a : Act} {Q : Exit → Act → World → Prop} (W : World) (hgd : o.guard = none) (s x : Operand) (t : TypeId)
    (ho : o.op = .call { callee := .builtin .append, args := #[s, x], argTypes := #[t, t] })
    (w0 : World) (e : TypeId) (i : TypeInfo) (z : Value) (sz bytes : Nat) (ht : P.underlying t = some (.slice e)) (hi : P.info? e = some i) (hz : i.zero = some z)
    (hsize : i.size = sz) (hby : i.bytes = bytes) (hzs : z.cells.size = sz) (hsz : 0 < sz)
    {R : Fp α} (hR : GoodF w0.heap.size R) (v : Value) (xs : List α) (F : List Nat) (hs : a.eval s = v) (hv : fSl e sz R W xs [v] F) (hF : Fresh w0.heap.size F)
    (sv : Value) (hx : a.eval x = sv) {R' : Rep α} {S : Blocks} (ys : List α) (hsrc : rSl sz R' W S ys [sv]) (hRR : ∀ y u, R' W S y u → R W y u [])
    (hbytes : (xs.length + ys.length) * bytes ≤ 140737488355328) (hlen : xs.length + ys.length < 4611686018427387904) (hbw : Bw w0 W)
    (h : ∀ v' w' F', fSl e sz R w' (xs ++ ys) [v'] F' → Fresh w0.heap.size F' → Bw w0 w' → wpList P ops Q rest (a.put o.dst v') w') : wpList P ops Q (o :: rest) a W := by
  obtain ⟨v0, us, Fs, hv0, hown, hall, hFe⟩ := hv
  injection hv0 with hv0
  subst hv0
  obtain ⟨A, c, hsv, hc1, hc2, hk⟩ := hsrc
  injection hsv with hsv
  subst hsv
  have hl := all3_len hall
  have hvg : ∀ k, v.ownBlock = some k → w0.heap.size ≤ k := fun k hk => hF.ge k (by rw [hFe]; simp [hk])
  by_cases hy0 : ys = [] ∧ A = none
  · obtain ⟨rfl, rfl⟩ := hy0
    have hrun := run_append_of_nil (P := P) W 0 t o.type e i sz ht hi v xs.length us.flatten hown c
    refine wpList_plain hgd fun _ hK => ?_
    unfold Oper.wp execOp
    simp only [ho, resolve, invoke, builtin, Sem.run_bind, Sem.run_pure, Result.andThen_ok, List.map_toArray, List.map_cons, List.map_nil, hs, hx]
    rw [show (List.length ([] : List α)) = 0 from rfl, hrun]
    exact hK _ _ (h v W F (by rw [List.append_nil]; exact ⟨v, us, Fs, rfl, hown, hall, hFe⟩) hF hbw)
  · obtain ⟨vs, hvl, hvs⟩ := choose_list (P := fun k y u => ∃ b o, A = some ⟨b, o, none⟩ ∧ u.length = sz ∧ (∀ j t, u[j]? = some t → W.cell? ⟨b, o + k * sz + j, none⟩ = some t) ∧ R' W S y u) (ys := ys) (fun k y hy => by
      obtain ⟨b, o, u, e, _, hul, hcl, hr⟩ := hk k y hy
      exact ⟨u, b, o, e, hul, hcl, hr⟩)
    have hvsl : ∀ u ∈ vs, u.length = sz := fun u hu => by
      obtain ⟨k, hku⟩ := List.mem_iff_getElem?.1 hu
      obtain ⟨y, hy⟩ : ∃ y, ys[k]? = some y := ⟨_, List.getElem?_eq_getElem (by rw [← hvl]; exact (List.getElem?_eq_some_iff.1 hku).1)⟩
      obtain ⟨u', hu', _, _, _, hul, _⟩ := hvs k y hy
      rw [hku] at hu'
      injection hu' with hu'
      rw [hu']; exact hul
    have hR0 : ∀ k y u, ys[k]? = some y → vs[k]? = some u → R W y u [] := fun k y u hy hu => by
      obtain ⟨u', hu', _, _, _, _, _, hr⟩ := hvs k y hy
      rw [hu] at hu'
      injection hu' with hu'
      subst hu'
      exact hRR _ _ hr
    obtain ⟨ad, had⟩ : ∃ ad, A = some ad := by
      cases hA : A with
      | some ad => exact ⟨ad, rfl⟩
      | none =>
        exfalso
        apply hy0
        refine ⟨?_, hA⟩
        cases hys : ys with
        | nil => rfl
        | cons y l =>
          obtain ⟨b, o, _, e, _⟩ := hk 0 y (by rw [hys]; rfl)
          rw [hA] at e; cases e
    have hnews : ∀ j u, vs.flatten[j]? = some u → W.cell? (ad.add j) = some u := by
      intro j u hj
      have hjl : j < vs.length * sz := by rw [← flat_len hvsl]; exact (List.getElem?_eq_some_iff.1 hj).1
      have hkk : j / sz < vs.length := Nat.div_lt_of_lt_mul (by rw [Nat.mul_comm]; exact hjl)
      obtain ⟨y, hy⟩ : ∃ y, ys[j / sz]? = some y := ⟨_, List.getElem?_eq_getElem (by rw [← hvl]; exact hkk)⟩
      obtain ⟨u', hu', b, o, e, hul, hcl, _⟩ := hvs _ y hy
      have hm : j % sz < sz := Nat.mod_lt _ hsz
      have hf := flatten_at hvsl hu' hm
      have hdm : j / sz * sz + j % sz = j := by rw [Nat.mul_comm]; exact Nat.div_add_mod j sz
      rw [hdm, hj] at hf
      have := hcl _ _ hf.symm
      rw [e] at had
      injection had with had
      subst had
      have ea : (⟨b, o, none⟩ : Addr).add j = ⟨b, o + j / sz * sz + j % sz, none⟩ := by
        unfold Addr.add
        split
        · rename_i h0; subst h0; simp
        · simp only [Addr.mk.injEq, true_and, and_true]; omega
      rw [ea]; exact this
    have hone : ∀ u ∈ vs.flatten, u.oneCell' = true := fun u hu => by
      obtain ⟨l, hl', hul⟩ := List.mem_flatten.1 hu
      obtain ⟨k, hku⟩ := List.mem_iff_getElem?.1 hl'
      obtain ⟨y, hy⟩ : ∃ y, ys[k]? = some y := ⟨_, List.getElem?_eq_getElem (by rw [← hvl]; exact (List.getElem?_eq_some_iff.1 hku).1)⟩
      exact hR.one (hR0 k y l hy hku) u hul
    obtain ⟨v', w', hrun, hown', hgrow, _, hat⟩ := run_append_own_at (P := P) W 0 t o.type e i z sz bytes ht hi hz hsize hby hzs hsz v xs.length us.flatten hown ad ys.length c vs.flatten (by rw [flat_len hvsl, hvl]) hnews hone
      (by simp only [maxLen]; omega) hbytes (Nat.zero_le _)
    have hbw' : Bw w0 w' := hbw.grown hgrow hvg
    have hvF : ∀ b, b ∈ Fs.flatten → some b ≠ v.ownBlock := by
      intro b hb e
      have hn := hF.nodup
      rw [hFe, List.nodup_append] at hn
      exact hn.2.2 b (by simp [← e]) b hb rfl
    have hlts : ∀ b ∈ Fs.flatten, b < W.heap.size := fun b hb => (fSl_good hR).lt (⟨v, us, Fs, rfl, hown, hall, rfl⟩ : fSl e sz R W xs [v] _) b (List.mem_append_right _ hb)
    have hold : ∀ b, b < w0.heap.size → w'.heap[b]? = W.heap[b]? := fun b hb => hgrow.block b (Nat.lt_of_lt_of_le hb hbw.size) (fun e => by have := hvg b e.symm; omega)
    refine wpList_plain hgd fun _ hK => ?_
    unfold Oper.wp execOp
    simp only [ho, resolve, invoke, builtin, Sem.run_bind, Sem.run_pure, Result.andThen_ok, List.map_toArray, List.map_cons, List.map_nil, hs, hx, had, hrun]
    have hrep : (List.replicate ys.length ([] : List Nat)).flatten = [] := by simp
    refine hK _ _ (h v' w' (v'.ownBlock.toList ++ (Fs ++ List.replicate ys.length []).flatten) ⟨v', us ++ vs, Fs ++ List.replicate ys.length [], rfl, ?_, ?_, rfl⟩ ⟨?_, ?_⟩ hbw')
    · rw [List.length_append, List.flatten_append]; exact hown'
    · refine all3_append (all3_imp (fun x u f' hf' hx => ⟨hR.step (fun b hb => ?_) hx.1, hx.2⟩) hall) (all3_of (by rw [hvl]) fun k y u hy hu => ⟨hR.step (fun b hb => ?_) (hR0 k y u hy hu), hvsl u (List.mem_iff_getElem?.2 ⟨k, hu⟩)⟩)
      · rcases hb with hb | hb
        · have hb' : b ∈ Fs.flatten := List.mem_flatten.2 ⟨_, hf', hb⟩
          exact hgrow.block b (hlts b hb') (hvF b hb')
        · exact hold b hb
      · rcases hb with hb | hb
        · simp at hb
        · exact hold b hb
    · rw [List.flatten_append, hrep, List.append_nil, List.nodup_append]
      have hn := hF.nodup
      rw [hFe, List.nodup_append] at hn
      refine ⟨by cases v'.ownBlock <;> simp, hn.2.1, fun p hp q hq e => ?_⟩
      subst e
      have hp' : v'.ownBlock = some p := by simpa using hp
      rcases hat with e | e
      · exact hvF p hq (by rw [← e, hp'])
      · rw [hp'] at e
        injection e with e
        have := hlts p hq; omega
    · intro b hb
      rcases List.mem_append.1 hb with hb | hb
      · have hb' : v'.ownBlock = some b := by simpa using hb
        rcases hat with e | e
        · exact hvg b (by rw [← e, hb'])
        · rw [hb'] at e
          injection e with e
          have := hbw.size
          omega
      · rw [List.flatten_append, hrep, List.append_nil] at hb
        exact hF.ge b (by rw [hFe]; exact List.mem_append_right _ hb)
end Go.Proofs.YtpihighajaeabaaGreat
