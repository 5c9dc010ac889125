/- Rules of rewriting in the reference. -/
import Derived.Test.YtpihighajaeabaaGreatQOwn3
import Derived.Test.YtpihighajaeabaaGreatQCopyW
import Derived.Test.YtpihighajaeabaaGreatQStart
import Derived.Test.YtpihighajaeabaaGreatQItems
import Derived.Test.YtpihighajaeabaaGreatQWishes3
namespace Go.Proofs.YtpihighajaeabaaGreat
open Go.RowKit
set_option linter.unusedVariables false
theorem Bw.only {a b : World} (F : List Nat) (h : Bw a b) : Only F a b := ⟨h.size, fun x hx _ => Below.block h x hx⟩
theorem Only.push {g : Nat} {F : List Nat} {a b c : World} (h : Only [g] a b) (k : Only F b c) (hF : ∀ x ∈ F, x = g ∨ a.heap.size ≤ x) : Only [g] a c := ⟨Nat.le_trans h.1 k.1, fun x hx hn => (k.2 x (Nat.lt_of_lt_of_le hx h.1) (fun e => (hF x e).elim (fun e => hn (by simp [e])) (fun e => by omega))).trans (h.2 x hx hn)⟩
/-- a result in memory and one more -/
def Two {α : Type} (f : Fp α) (B : Nat) (x : α) (z : Value) (w : World) (u : Value) : Prop := ∃ v, u = .tuple #[v, z] ∧ Made f B x w v
theorem RetV.two {α : Type} {f : Fp α} {w w' : World} {x : α} {v z z' : Value} {F : List Nat} (h : f w' x [v] F) (hF : Fresh w.heap.size F) (hz : z = z') (hb : Bw w w') : RetV w (Two f w.heap.size x z') (.returned (.tuple #[v, z])) w' := ⟨_, rfl, ⟨v, by rw [hz], F, h, hF⟩, hb⟩
end Go.Proofs.YtpihighajaeabaaGreat

namespace Go.Proofs.YtpihighajaeabaaGreat
open Go.RowKit
set_option linter.unusedVariables false
set_option linter.unusedSimpArgs false
theorem asc_len : ∀ {l : List Int} {p : Int}, ascFrom (some p) l = true → p ≤ 9 → (l.length : Int) ≤ 9 - p
  | [], p, _, h => by simp; omega
  | v :: l, p, h, hp => by
    simp only [ascFrom, Bool.and_eq_true, decide_eq_true_eq] at h
    have hv := inB_iff.1 h.1.1
    have := asc_len h.2 hv.2
    simp only [List.length_cons]
    omega
theorem wish_small {x : GWish} (h : isWish x = true) : x.list.length ≤ 10 ∧ x.pairs.length ≤ 8 := by
  unfold isWish at h
  simp only [Bool.and_eq_true] at h
  refine ⟨?_, ?_⟩
  · have ha := h.2.2.2.1
    match hl : x.list, ha with
    | [], _ => simp
    | v :: l, ha =>
      simp only [ascFrom, Bool.and_eq_true] at ha
      have hv := inB_iff.1 ha.1
      have := asc_len ha.2 hv.2
      simp only [List.length_cons]
      omega
  · have hp := h.2.2.2.2.2.2
    split at hp
    · unfold arePairs at hp
      simp only [Bool.and_eq_true, decide_eq_true_eq] at hp
      exact hp.2.1
    · rw [decide_eq_true_eq] at hp; omega
theorem depth_small : ∀ {e : List GNode} {d r : Int}, depthOf e d = some r → ∀ n ∈ e, totNode n ≤ 18
  | [], _, _, _, n, hn => by simp at hn
  | m :: e, d, r, h, n, hn => by
    rw [depthOf] at h
    split at h
    · rename_i hk
      rcases List.mem_cons.1 hn with h1 | h1
      · subst h1
        unfold nodeOk at hk
        simp only [Bool.and_eq_true] at hk
        have hw := hk.2.2
        split at hw
        · have := wish_small hw
          unfold totNode totWish; omega
        · rw [decide_eq_true_eq] at hw
          unfold totNode totWish; rw [hw]; simp [noWish]
      · exact depth_small h n h1
    · cases h
theorem sum_le {α : Type} (f : α → Nat) (B : Nat) : ∀ {l : List α}, (∀ x ∈ l, f x ≤ B) → sumL f l ≤ B * l.length
  | [], _ => by simp [sumL]
  | x :: l, h => by
    have h1 := h x (by simp)
    have h2 := sum_le f B (l := l) (fun y hy => h y (by simp [hy]))
    simp only [sumL, List.length_cons, Nat.mul_add]
    omega
theorem expr_small {e : List GNode} (h : isExpr e = true) : totNodes e ≤ 171 := by
  unfold isExpr at h
  rw [Bool.and_eq_true, decide_eq_true_eq, decide_eq_true_eq] at h
  have := sum_le totNode 18 (depth_small h.1)
  unfold totNodes
  omega
end Go.Proofs.YtpihighajaeabaaGreat

namespace Go.Proofs.YtpihighajaeabaaGreat
open Go.RowKit
set_option linter.unusedVariables false
set_option linter.unusedSimpArgs false
theorem rSl_sub {α : Type} {sz : Nat} {R : Rep α} {w : World} {S : Blocks} {xs : List α} {b o n c : Nat} (h : rSl sz R w S xs [.slice (some ⟨b, o, none⟩) n c]) (i k : Nat) (hik : i ≤ k) (hk : k ≤ n) (hn : n = xs.length) :
    rSl sz R w S ((xs.drop i).take (k - i)) [.slice (some ⟨b, o + i * sz, none⟩) (k - i) (c - i)] := by
  obtain ⟨A, c', e, h1, h2, h3⟩ := h
  injection e with e _
  injection e with e1 e2 e3
  subst e1 e3
  have hl : ((xs.drop i).take (k - i)).length = k - i := by rw [List.length_take, List.length_drop]; omega
  refine ⟨_, c - i, by rw [hl], by rw [hl]; omega, Nat.le_trans (Nat.sub_le _ _) h2, fun j x hx => ?_⟩
  have hj : j < k - i := by rw [← hl]; exact (List.getElem?_eq_some_iff.1 hx).1
  rw [List.getElem?_take, if_pos hj, List.getElem?_drop] at hx
  obtain ⟨b', o', us, eA, hS, hul, hc, hr⟩ := h3 (i + j) x hx
  injection eA with eA
  injection eA with e4 e5 _
  subst e4 e5
  refine ⟨b, o + i * sz, us, rfl, hS, hul, fun t u hu => ?_, hr⟩
  have := hc t u hu
  rw [show o + i * sz + j * sz + t = o + (i + j) * sz + t by rw [Nat.add_mul]; omega]
  exact this
def opOf : XT → Int
  | .base _ => 0
  | .dual _ => 3
  | .two op _ _ => op
theorem flat_last : ∀ t : XT, ∃ n, (flat t)[(flat t).length - 1]? = some n ∧ n.op = opOf t
  | .base w => ⟨⟨0, w⟩, by simp [flat], rfl⟩
  | .dual t => ⟨⟨3, noWish⟩, by simp [flat], rfl⟩
  | .two op a b => ⟨⟨op, noWish⟩, by
      have : flat (.two op a b) = (flat a ++ flat b) ++ [⟨op, noWish⟩] := by simp [flat]
      rw [this]; simp, rfl⟩
theorem flat_two_len (op : Int) (a b : XT) : (flat (.two op a b)).length = (flat a).length + (flat b).length + 1 := by simp [flat]; omega
end Go.Proofs.YtpihighajaeabaaGreat

namespace Go.Proofs.YtpihighajaeabaaGreat
open Go.RowKit
set_option linter.unusedVariables false
theorem wp_append_own {α : Type} {P : Program} {o : Oper} {a : Act} {K : Act → World → Prop} {Q : Exit → Act → World → Prop} (W : World) (s x : Operand) (t : TypeId)
    (ho : o.op = .call { callee := .builtin .append, args := #[s, x], argTypes := #[t, t] })
    (w0 : World) (e : TypeId) (i : TypeInfo) (z : Value) (sz bytes : Nat) (ht : P.underlying t = some (.slice e)) (hi : P.info? e = some i) (hz : i.zero = some z)
    (hsize : i.size = sz) (hby : i.bytes = bytes) (hzs : z.cells.size = sz) (hsz : 0 < sz)
    {R : Fp α} (hR : GoodF w0.heap.size R) (v : Value) (xs : List α) (F : List Nat) (hs : a.eval s = v) (hv : fSl e sz R W xs [v] F) (hF : Fresh w0.heap.size F)
    (sv : Value) (hx : a.eval x = sv) (ys : List α) (G : List Nat) (hw : fSl e sz R W ys [sv] G) (m : Nat) (hFm : ∀ b ∈ F, b < m) (hG : Fresh m G) (hm : w0.heap.size ≤ m)
    (hbytes : (xs.length + ys.length) * bytes ≤ 140737488355328) (hlen : xs.length + ys.length < 4611686018427387904) (hbw : Bw w0 W)
    (h : ∀ v' w' F', fSl e sz R w' (xs ++ ys) [v'] F' → Fresh w0.heap.size F' → Bw w0 w' → Only F W w' → (∀ b ∈ F', b ∈ F ∨ b ∈ G ∨ W.heap.size ≤ b) → K (a.put o.dst v') w') : o.wp P a W K Q := by
  have hw0 := hw
  obtain ⟨v0, us, Fs, hv0, hown, hall, hFe⟩ := hv
  injection hv0 with hv0
  subst hv0
  obtain ⟨v1, vs, Gs, hv1, hownG, hallG, hGe⟩ := hw
  injection hv1 with hv1
  subst hv1
  have hl := all3_len hall
  have hlG := all3_len hallG
  have hvg : ∀ k, v.ownBlock = some k → w0.heap.size ≤ k := fun k hk => hF.ge k (by rw [hFe]; simp [hk])
  rcases hownG.2 with ⟨rfl, hz0⟩ | ⟨g, cap, cur, rfl, hb, hg, hnc, hcm, hcs, _⟩
  · have hy0 : ys = [] := List.eq_nil_of_length_eq_zero hz0
    subst hy0
    have hrun := run_append_of_nil (P := P) W 0 t o.type e i sz ht hi v xs.length us.flatten hown 0
    unfold Oper.wp execOp
    simp only [ho, resolve, invoke, builtin, Sem.run_bind, Sem.run_pure, Result.andThen_ok, List.map_toArray, List.map_cons, List.map_nil, hs, hx]
    rw [hrun]
    exact (h v W F (by rw [List.append_nil]; exact ⟨v, us, Fs, rfl, hown, hall, hFe⟩) hF hbw (Only.refl F W) (fun b hb => .inl hb))
  · have hvsl : ∀ u ∈ vs, u.length = sz := fun u hu => by obtain ⟨x, f, hr⟩ := all3_mem_us hallG hu; exact hr.2
    have hone : ∀ u ∈ vs.flatten, u.oneCell' = true := fun u hu => by
      obtain ⟨l, hl', hul⟩ := List.mem_flatten.1 hu
      obtain ⟨x, f, hr⟩ := all3_mem_us hallG hl'
      exact hR.one hr.1 u hul
    have hnews : ∀ j u, vs.flatten[j]? = some u → W.cell? ((⟨g, 0, none⟩ : Addr).add j) = some u := fun j u hj => hownG.cells (g := g) rfl j u hj
    obtain ⟨v', w', hrun, hown', hgrow, _, hat⟩ := run_append_own_at (P := P) W 0 t o.type e i z sz bytes ht hi hz hsize hby hzs hsz v xs.length us.flatten hown ⟨g, 0, none⟩ ys.length cap vs.flatten (by rw [flat_len hvsl, hlG.1]) hnews hone
      (by simp only [maxLen]; omega) hbytes (Nat.zero_le _)
    have hbw' : Bw w0 w' := hbw.grown hgrow hvg
    have hvF : ∀ b, b ∈ Fs.flatten → some b ≠ v.ownBlock := by
      intro b hb e
      have hn := hF.nodup
      rw [hFe, List.nodup_append] at hn
      exact hn.2.2 b (by simp [← e]) b hb rfl
    have hGge : ∀ b ∈ Gs.flatten, m ≤ b := fun b hb => hG.ge b (by rw [hGe]; exact List.mem_append_right _ hb)
    have hFlt : ∀ b ∈ Fs.flatten, b < m := fun b hb => hFm b (by rw [hFe]; exact List.mem_append_right _ hb)
    have hvG : ∀ b, b ∈ Gs.flatten → some b ≠ v.ownBlock := by
      intro b hb e
      have h1 := hGge b hb
      have h2 := hFm b (by rw [hFe]; simp [← e])
      omega
    have hlts : ∀ b ∈ Fs.flatten, b < W.heap.size := fun b hb => (fSl_good hR).lt (⟨v, us, Fs, rfl, hown, hall, rfl⟩ : fSl e sz R W xs [v] _) b (List.mem_append_right _ hb)
    have hltG : ∀ b ∈ Gs.flatten, b < W.heap.size := fun b hb => (fSl_good hR).lt hw0 b (by rw [hGe]; exact List.mem_append_right _ hb)
    have hold : ∀ b, b < w0.heap.size → w'.heap[b]? = W.heap[b]? := fun b hb => hgrow.block b (Nat.lt_of_lt_of_le hb hbw.size) (fun e => by have := hvg b e.symm; omega)
    unfold Oper.wp execOp
    simp only [ho, resolve, invoke, builtin, Sem.run_bind, Sem.run_pure, Result.andThen_ok, List.map_toArray, List.map_cons, List.map_nil, hs, hx, hrun]
    refine (h v' w' (v'.ownBlock.toList ++ (Fs ++ Gs).flatten) ⟨v', us ++ vs, Fs ++ Gs, rfl, ?_, ?_, rfl⟩ ⟨?_, ?_⟩ hbw' ⟨hgrow.size, fun b hb hn => hgrow.block b hb (fun e => hn (by rw [hFe]; simp [← e]))⟩ ?_)
    · rw [List.length_append, List.flatten_append]; exact hown'
    · refine all3_append (all3_imp (fun x u f' hf' hx => ⟨hR.step (fun b hb => ?_) hx.1, hx.2⟩) hall) (all3_imp (fun x u f' hf' hx => ⟨hR.step (fun b hb => ?_) hx.1, hx.2⟩) hallG)
      · rcases hb with hb | hb
        · have hb' : b ∈ Fs.flatten := List.mem_flatten.2 ⟨_, hf', hb⟩
          exact hgrow.block b (hlts b hb') (hvF b hb')
        · exact hold b hb
      · rcases hb with hb | hb
        · have hb' : b ∈ Gs.flatten := List.mem_flatten.2 ⟨_, hf', hb⟩
          exact hgrow.block b (hltG b hb') (hvG b hb')
        · exact hold b hb
    · rw [List.flatten_append, List.nodup_append]
      have hn := hF.nodup
      rw [hFe, List.nodup_append] at hn
      have hnG := hG.nodup
      rw [hGe, List.nodup_append] at hnG
      refine ⟨by cases v'.ownBlock <;> simp, List.nodup_append.2 ⟨hn.2.1, hnG.2.1, fun p hp q hq e => ?_⟩, fun p hp q hq e => ?_⟩
      · have := hFlt p hp; have := hGge q hq; omega
      · subst e
        have hp' : v'.ownBlock = some p := by simpa using hp
        rcases hat with e | e
        · rcases List.mem_append.1 hq with hq | hq
          · exact hvF p hq (by rw [← e, hp'])
          · exact hvG p hq (by rw [← e, hp'])
        · rw [hp'] at e
          injection e with e
          rcases List.mem_append.1 hq with hq | hq
          · have := hlts p hq; omega
          · have := hltG p hq; omega
    · intro b hb
      rcases List.mem_append.1 hb with hb | hb
      · have hb' : v'.ownBlock = some b := by simpa using hb
        rcases hat with e | e
        · exact hvg b (by rw [← e, hb'])
        · rw [hb'] at e
          injection e with e
          have := hbw.size
          omega
      · rw [List.flatten_append] at hb
        rcases List.mem_append.1 hb with hb | hb
        · exact hF.ge b (by rw [hFe]; exact List.mem_append_right _ hb)
        · have := hGge b hb; omega
    · intro b hb
      rcases List.mem_append.1 hb with hb | hb
      · have hb' : v'.ownBlock = some b := by simpa using hb
        rcases hat with e | e
        · exact .inl (by rw [hFe]; simp [← e, hb'])
        · rw [hb'] at e
          injection e with e
          exact .inr (.inr (by omega))
      · rw [List.flatten_append] at hb
        rcases List.mem_append.1 hb with hb | hb
        · exact .inl (by rw [hFe]; exact List.mem_append_right _ hb)
        · exact .inr (.inl (by rw [hGe]; exact List.mem_append_right _ hb))
theorem wpList_append_own {α : Type} {P : Program} {ops : Array Oper} {rest : List Oper} {o : Oper} {a : Act} {Q : Exit → Act → World → Prop} (W : World) (hgd : o.guard = none) (s x : Operand) (t : TypeId)
    (ho : o.op = .call { callee := .builtin .append, args := #[s, x], argTypes := #[t, t] })
    (w0 : World) (e : TypeId) (i : TypeInfo) (z : Value) (sz bytes : Nat) (ht : P.underlying t = some (.slice e)) (hi : P.info? e = some i) (hz : i.zero = some z)
    (hsize : i.size = sz) (hby : i.bytes = bytes) (hzs : z.cells.size = sz) (hsz : 0 < sz)
    {R : Fp α} (hR : GoodF w0.heap.size R) (v : Value) (xs : List α) (F : List Nat) (hs : a.eval s = v) (hv : fSl e sz R W xs [v] F) (hF : Fresh w0.heap.size F)
    (sv : Value) (hx : a.eval x = sv) (ys : List α) (G : List Nat) (hw : fSl e sz R W ys [sv] G) (m : Nat) (hFm : ∀ b ∈ F, b < m) (hG : Fresh m G) (hm : w0.heap.size ≤ m)
    (hbytes : (xs.length + ys.length) * bytes ≤ 140737488355328) (hlen : xs.length + ys.length < 4611686018427387904) (hbw : Bw w0 W)
    (h : ∀ v' w' F', fSl e sz R w' (xs ++ ys) [v'] F' → Fresh w0.heap.size F' → Bw w0 w' → Only F W w' → (∀ b ∈ F', b ∈ F ∨ b ∈ G ∨ W.heap.size ≤ b) → wpList P ops Q rest (a.put o.dst v') w') : wpList P ops Q (o :: rest) a W :=
  wpList_plain hgd fun _ hK => wp_append_own W s x t ho w0 e i z sz bytes ht hi hz hsize hby hzs hsz hR v xs F hs hv hF sv hx ys G hw m hFm hG hm hbytes hlen hbw fun v' w' F' h1 h2 h3 h4 h5 => hK _ _ (h v' w' F' h1 h2 h3 h4 h5)
end Go.Proofs.YtpihighajaeabaaGreat

namespace Go.Proofs.YtpihighajaeabaaGreat
open Go.RowKit
set_option linter.unusedVariables false
set_option linter.unusedSimpArgs false
theorem only_setCell (p o : Nat) (w : World) (u : Value) : Only [p] w (w.setCell ⟨p, o, none⟩ u) := ⟨by simp, fun b _ hn => Below.heap_setCell _ _ _ _ (by simpa using hn)⟩
theorem Only.bwNext {F : List Nat} {a b c : World} (h : Only F a b) (k : Bw b c) : Only F a c := h.then (k.only F) (fun _ h => h)
theorem Only.two {p : Nat} {a b c : World} (h : Only [p] a b) (k : Only [p] b c) : Only [p] a c := h.then k (fun _ h => h)
theorem Only.frozen {F : List Nat} {w w' : World} (h : Only F w w') {b : Nat} (hb : b < w.heap.size) (hd : b ∉ F) (o : Nat) : w'.frozen? ⟨b, o, none⟩ = w.frozen? ⟨b, o, none⟩ := World.frozen?_of_block (h.2 _ hb hd)
theorem Fresh.raise {a B m : Nat} {F f F' : List Nat} (h : Fresh a F') (h5 : ∀ b ∈ F', b ∈ F ∨ b ∈ f ∨ m ≤ b) (hF : ∀ b ∈ F, B ≤ b) (hf : ∀ b ∈ f, B ≤ b) (hm : B ≤ m) : Fresh B F' :=
  ⟨h.nodup, fun b hb => (h5 b hb).elim (hF b) (fun h => h.elim (hf b) (fun h => Nat.le_trans hm h))⟩
/-- a block of two cells -/
structure Box2 (W : World) (b : Nat) (x y : Value) : Prop where
  c0 : W.cell? ⟨b, 0, none⟩ = some x
  c1 : W.cell? ⟨b, 1, none⟩ = some y
  fr : ∀ o, W.frozen? ⟨b, o, none⟩ = false
theorem Box2.lt {W : World} {b : Nat} {x y : Value} (h : Box2 W b x y) : b < W.heap.size := World.block_lt_of_cell? _ _ h.c0
theorem Box2.only {F : List Nat} {w w' : World} {b : Nat} {x y : Value} (h : Box2 w b x y) (hO : Only F w w') (hd : b ∉ F) : Box2 w' b x y := ⟨hO.cell h.c0 hd, hO.cell h.c1 hd, fun o => (hO.frozen h.lt hd o).trans (h.fr o)⟩
theorem Box2.bw {w w' : World} {b : Nat} {x y : Value} (h : Box2 w b x y) (hb : Bw w w') : Box2 w' b x y := ⟨hb.cell h.c0, hb.cell h.c1, fun o => (bw_frozen hb b o h.lt).trans (h.fr o)⟩
theorem Box2.new (w : World) (x y : Value) (t : TypeId) : Box2 (w.alloc (.cells #[x, y] t)) w.heap.size x y := ⟨by go_simp, by go_simp, fun o => by go_simp⟩
theorem keepBw {W W' : World} (hb : Bw W W') {α : Type} {R : Fp α} (hR : GoodF 0 R) {x : α} {cs : List Value} {F : List Nat} (hx : R W x cs F) : R W' x cs F := hR.bw hb (Nat.zero_le _) hx
theorem keepSet {W : World} {b o : Nat} {u : Value} {α : Type} {R : Fp α} (hR : GoodF 0 R) {x : α} {cs : List Value} {F : List Nat} (hx : R W x cs F) (hF : b ∉ F) : R (W.setCell ⟨b, o, none⟩ u) x cs F :=
  (only_setCell b o W u).keeps hR hx fun c hc e => by simp at e; exact hF (e ▸ hc)
/-- a block of cells -/
structure Box (W : World) (b : Nat) (vs : List Value) : Prop where
  lt : b < W.heap.size
  c : ∀ j v, vs[j]? = some v → W.cell? ⟨b, j, none⟩ = some v
  fr : ∀ o, W.frozen? ⟨b, o, none⟩ = false
theorem Box.only {F : List Nat} {w w' : World} {b : Nat} {vs : List Value} (h : Box w b vs) (hO : Only F w w') (hd : b ∉ F) : Box w' b vs := ⟨Nat.lt_of_lt_of_le h.lt hO.1, fun j v hv => hO.cell (h.c j v hv) hd, fun o => (hO.frozen h.lt hd o).trans (h.fr o)⟩
theorem Box.bw {w w' : World} {b : Nat} {vs : List Value} (h : Box w b vs) (hb : Bw w w') : Box w' b vs := h.only (hb.only []) (by simp)
theorem Box.new (w : World) (cs : Array Value) (t : TypeId) : Box (w.alloc (.cells cs t)) w.heap.size cs.toList := ⟨by simp, fun j v hv => by
  have := World.news_of_block (cs := cs) (t := t) (fr := (0, 0)) (heap_alloc_new w (.cells cs t)) j v hv
  have hadd : (⟨w.heap.size, 0, none⟩ : Addr).add j = ⟨w.heap.size, j, none⟩ := by unfold Addr.add; split <;> simp_all
  rwa [hadd] at this, fun o => by go_simp⟩
theorem cell_set_same {W : World} {b o : Nat} {x u : Value} (h : W.cell? ⟨b, o, none⟩ = some x) : (W.setCell ⟨b, o, none⟩ u).cell? ⟨b, o, none⟩ = some u := by go_simp
theorem cell_set_other {W : World} {b o k : Nat} {x u : Value} (h : W.cell? ⟨b, k, none⟩ = some x) (hk : k ≠ o) : (W.setCell ⟨b, o, none⟩ u).cell? ⟨b, k, none⟩ = some x := by go_simp
theorem Box.set {W : World} {b j : Nat} {vs : List Value} (h : Box W b vs) (hj : j < vs.length) (u : Value) : Box (W.setCell ⟨b, j, none⟩ u) b (vs.set j u) := by
  refine ⟨by have := h.lt; simpa using this, fun k v hv => ?_, fun o => ?_⟩
  · rw [List.getElem?_set] at hv
    by_cases hk : j = k
    · rw [if_pos hk, if_pos (by omega)] at hv
      injection hv with hv
      subst hv hk
      exact cell_set_same (h.c j _ (List.getElem?_eq_getElem hj))
    · rw [if_neg hk] at hv
      exact cell_set_other (h.c k v hv) (fun e => hk e.symm)
  · have h0 := h.fr o; go_simp
/-- four stores into a block -/
def set4 (W : World) (b : Nat) (a0 a1 a2 a3 : Value) : World := (((W.setCell ⟨b, 0, none⟩ a0).setCell ⟨b, 1, none⟩ a1).setCell ⟨b, 2, none⟩ a2).setCell ⟨b, 3, none⟩ a3
theorem keepSet4 {W : World} {b : Nat} {a0 a1 a2 a3 : Value} {α : Type} {R : Fp α} (hR : GoodF 0 R) {x : α} {cs : List Value} {F : List Nat} (hx : R W x cs F) (hF : b ∉ F) : R (set4 W b a0 a1 a2 a3) x cs F := keepSet hR (keepSet hR (keepSet hR (keepSet hR hx hF) hF) hF) hF
theorem Bw.set4 {w W : World} {b : Nat} {a0 a1 a2 a3 : Value} (h : Bw w W) (hb : w.heap.size ≤ b) : Bw w (set4 W b a0 a1 a2 a3) := (((h.set (p := ⟨b, 0, none⟩) hb _).set (p := ⟨b, 1, none⟩) hb _).set (p := ⟨b, 2, none⟩) hb _).set (p := ⟨b, 3, none⟩) hb _
end Go.Proofs.YtpihighajaeabaaGreat

namespace Go.Proofs.YtpihighajaeabaaGreat
open Go.RowKit
set_option linter.unusedVariables false
set_option linter.unusedSimpArgs false
theorem sub_mid {α : Type} (pre x post : List α) : ((pre ++ (x ++ post)).drop pre.length).take x.length = x := by simp
theorem take_mid {α : Type} (pre x post : List α) : (pre ++ (x ++ post)).take (pre.length + x.length) = pre ++ x := by
  rw [← List.append_assoc, ← List.length_append, List.take_left']
  rfl
theorem rSl_part {α : Type} {sz : Nat} {R : Rep α} {w : World} {S : Blocks} {e pre x post : List α} {b o n c : Nat} (h : rSl sz R w S e [.slice (some ⟨b, o, none⟩) n c]) (hn : n = e.length) (he : e = pre ++ (x ++ post)) {i k : Nat} (hi : i = pre.length) (hk : k = pre.length + x.length) :
    rSl sz R w S x [.slice (some ⟨b, o + i * sz, none⟩) (k - i) (c - i)] := by
  have h1 := rSl_sub h i k (by omega) (by rw [hn, he]; simp; omega) hn
  rw [he, hi, show k - pre.length = x.length by omega, sub_mid, ← hi] at h1
  rw [show k - i = x.length by omega]
  exact h1
end Go.Proofs.YtpihighajaeabaaGreat

namespace Go.Proofs.YtpihighajaeabaaGreat
open Go.RowKit
set_option linter.unusedVariables false

set_option maxRecDepth 100000 in
set_option maxHeartbeats 3200000 in
theorem slices_EqualFunc_nodes (w : World) (xs ys : List GNode) (v1 v2 : Value) (h1 : Rd rNodes w xs [v1]) (h2 : Rd rNodes w ys [v2]) :
    Calls Tryz.prog 271 #[v1, v2, .func (.func 272) #[] #[]] w (Ret w (.bool (decide (xs = ys)))) := by
  obtain ⟨A1, n1, c1, rfl, a1, a2, a3⟩ := rSl_open h1
  obtain ⟨A2, n2, c2, rfl, b1, b2, b3⟩ := rSl_open h2
  unfold maxLen at a3 b3
  have L1 := Lib.hid a1
  have L2 := Lib.hid b1
  clear a1 b1
  by_cases hl : n1 = n2
  · subst hl
    go_enter Tryz.func271, Tryz.ntmps271
    go_wp2
    go_loopw [17] (fun i w' => ∃ k : Nat, k ≤ n1 ∧ i = .int .i64 k ∧ xs.take k = ys.take k ∧ Bw w w') (fun i _ => n1 - (intOf i).toNat)
    case atStart => exact ⟨0, by omega, rfl, by simp, Bw.refl _⟩
    case round =>
      obtain ⟨k, hk, rfl, he, hb⟩ := hrel
      have HE := Lib.hid he
      clear he
      by_cases hlt : k < n1
      · obtain ⟨x, hx⟩ := get_of_lt (xs := xs) (k := k) (by rw [← L1.out]; exact hlt)
        obtain ⟨y, hy⟩ := get_of_lt (xs := ys) (k := k) (by rw [← L2.out]; exact hlt)
        obtain ⟨ba, oa, Alx, clx, Apx, cpx, rfl, _, p0, p1, p2, p3, p4, p5, hix, hjx⟩ := rNodes_at (h1.bw rNodes_good hb) hx
        obtain ⟨bb, ob, Aly, cly, Apy, cpy, rfl, _, q0, q1, q2, q3, q4, q5, hiy, hjy⟩ := rNodes_at (h2.bw rNodes_good hb) hy
        have HX := Lib.hid hx
        have HY := Lib.hid hy
        have D : Bw wr ((wr.alloc (.cells #[.int .i64 x.op, .int .i64 x.wish.kind, .int .i64 x.wish.field, .int .i64 x.wish.value, .slice Alx x.wish.list.length clx, .slice Apx x.wish.pairs.length cpx] 111)).alloc (.cells #[.int .i64 y.op, .int .i64 y.wish.kind, .int .i64 y.wish.field, .int .i64 y.wish.value, .slice Aly y.wish.list.length cly, .slice Apy y.wish.pairs.length cpy] 111)) := ((Bw.refl wr).alloc _).alloc _
        have hbx := World.block_lt_of_cell? _ _ p0
        have hby := World.block_lt_of_cell? _ _ q0
        clear hx hy h1 h2
        go_wp2_with fail
        refine (I_EqExpr1 _ x y _ _ _ _ (Rd.bw rInts_good hix D) (Rd.bw rInts_good hiy D) (Rd.bw rPairs_good hjx D) (Rd.bw rPairs_good hjy D)).mono ?_
        rintro e w2 ⟨rfl, hb2⟩
        have hbb : Bw w w2 := hb.then (D.then hb2)
        by_cases hxy : x = y
        · have HD : decide (x = y) = true := by simpa using hxy
          have HXY := Lib.hid hxy
          clear hxy
          go_wp2
          go_roundw
          case rel => exact ⟨k + 1, by omega, by go_num, take_step HE.out HX.out HY.out HXY.out, hbb⟩
          case measure => simp [intOf]; omega
        · have HD : decide (x = y) = false := by simpa using hxy
          go_wp2
          go_ret
          exact Ret.bool (by simpa using ne_of_at HX.out HY.out hxy) hbb
      · go_wp2
        go_ret
        exact Ret.bool (by simpa using eq_of_take HE.out (by rw [← L1.out]; omega) (by rw [← L2.out]; omega)) hb
  · go_enter Tryz.func271, Tryz.ntmps271
    go_wp2
    go_ret
    exact Ret.bool (by simp; intro e; exact hl (by rw [L1.out, L2.out, e])) (Bw.refl _)

set_option maxHeartbeats 400000 in
theorem I_EqualExpressions (w : World) (xs ys : List GNode) (v1 v2 : Value) (h1 : Rd rNodes w xs [v1]) (h2 : Rd rNodes w ys [v2]) :
    Calls Tryz.prog 236 #[v1, v2] w (Ret w (.bool (decide (xs = ys)))) := by
  go_enter Tryz.func236, Tryz.ntmps236
  go_wp2_with fail
  refine (slices_EqualFunc_nodes _ xs ys _ _ h1 h2).mono ?_
  rintro e w2 ⟨rfl, hb2⟩
  go_wp2
  go_ret
  exact Ret.bool (rfl) (hb2)
end Go.Proofs.YtpihighajaeabaaGreat

namespace Go.Proofs.YtpihighajaeabaaGreat
open Go.RowKit
set_option linter.unusedVariables false
end Go.Proofs.YtpihighajaeabaaGreat

namespace Go.Proofs.YtpihighajaeabaaGreat
open Go.RowKit
set_option linter.unusedVariables false
set_option linter.unusedSimpArgs false
/-- what a rule makes of a part -/
def ruleT (r : Int) : XT → Option (List GNode)
  | .dual (.dual s) => if r = 1 then some (flat s) else none
  | .dual (.two op a b) => if r = 2 then some (flat a ++ (⟨3, noWish⟩ :: (flat b ++ [⟨3, noWish⟩, ⟨op, noWish⟩]))) else none
  | .two op a b => if r = 3 ∧ flat a = flat b then some (flat a) else none
  | _ => none
def RulePost (pre post : List GNode) (o : Option (List GNode)) (w : World) (e : Ending) (w' : World) : Prop := ∃ v b, e = .returned (.tuple #[v, .bool b]) ∧ Bw w w' ∧ match o with
  | some x => b = decide ((pre ++ (x ++ post)).length ≤ 9) ∧ Rd rNodes w' (pre ++ (x ++ post)) [v]
  | none => b = false
theorem node_at {t : XT} {e pre post : List GNode} {m : Nat} (he : e = pre ++ (flat t ++ post)) (hm : m + 1 = pre.length + (flat t).length) : ∃ x, e[m]? = some x ∧ x.op = opOf t := by
  obtain ⟨x, hx, hxo⟩ := flat_last t
  have hp := flat_pos t
  refine ⟨x, ?_, hxo⟩
  rw [he, List.getElem?_append_right (by omega), List.getElem?_append_left (by omega), show m - pre.length = (flat t).length - 1 by omega]
  exact hx
theorem op_cell {w : World} {t : XT} {e pre post : List GNode} {ba oa n m c : Nat} (h : Rd rNodes w e [.slice (some ⟨ba, oa, none⟩) n c]) (he : e = pre ++ (flat t ++ post)) (hm : m + 1 = pre.length + (flat t).length) : w.cell? ⟨ba, oa + m * 6, none⟩ = some (.int .i64 (opOf t)) := by
  obtain ⟨x, hx, hxo⟩ := node_at he hm
  obtain ⟨b, o, Al, cl, Ap, cp, e1, _, c0, _⟩ := rNodes_at h hx
  injection e1 with e1
  injection e1 with e1 e2
  subst e1 e2
  rw [← hxo]
  exact c0
theorem flat_dual (s : XT) (post : List GNode) : flat (.dual s) ++ post = flat s ++ (⟨3, noWish⟩ :: post) := by simp [flat]
theorem flat_dual_len (s : XT) : (flat (.dual s)).length = (flat s).length + 1 := by simp [flat]
theorem opOf_not3 {t : XT} (h : okT t) (hd : ¬ ∃ s, t = .dual s) : opOf t ≠ 3 := by
  cases t with
  | base w => simp [opOf]
  | dual s => exact absurd ⟨s, rfl⟩ hd
  | two op a b => have := h.1; unfold isTwo at this; simp only [opOf]; omega
theorem ruleT1_dual {s : XT} (hd : ¬ ∃ s', s = .dual s') : ruleT 1 (.dual s) = none := by
  cases s with
  | base w => rfl
  | dual s => exact absurd ⟨s, rfl⟩ hd
  | two op a b => simp [ruleT]
theorem ruleT1_not {t : XT} (hd : ¬ ∃ s, t = .dual s) : ruleT 1 t = none := by
  cases t with
  | base w => rfl
  | dual s => exact absurd ⟨s, rfl⟩ hd
  | two op a b => simp [ruleT]
theorem ruleT2_two (op : Int) (a b : XT) : ruleT 2 (.dual (.two op a b)) = some (flat a ++ (⟨3, noWish⟩ :: (flat b ++ [⟨3, noWish⟩, ⟨op, noWish⟩]))) := by simp [ruleT]
theorem ruleT2_dual {s : XT} (hd : ¬ ∃ op a b, s = .two op a b) : ruleT 2 (.dual s) = none := by
  cases s with
  | base w => rfl
  | dual s => simp [ruleT]
  | two op a b => exact absurd ⟨op, a, b, rfl⟩ hd
theorem ruleT2_not {t : XT} (hd : ¬ ∃ s, t = .dual s) : ruleT 2 t = none := by
  cases t with
  | base w => rfl
  | dual s => exact absurd ⟨s, rfl⟩ hd
  | two op a b => simp [ruleT]
theorem ruleT3_yes {op : Int} {a b : XT} (h : flat a = flat b) : ruleT 3 (.two op a b) = some (flat a) := by simp [ruleT, h]
theorem ruleT3_no {op : Int} {a b : XT} (h : ¬ flat a = flat b) : ruleT 3 (.two op a b) = none := by simp [ruleT, h]
theorem ruleT3_not {t : XT} (hd : ¬ ∃ op a b, t = .two op a b) : ruleT 3 t = none := by
  cases t with
  | base w => rfl
  | dual s => cases s <;> simp [ruleT]
  | two op a b => exact absurd ⟨op, a, b, rfl⟩ hd
end Go.Proofs.YtpihighajaeabaaGreat
