/- A list of the call's own that may begin within its block (e[1:] ..), and an append to it. -/
import Derived.Test.YtpihighajaeabaaGreatQDrawM
import Derived.ArgAppend
namespace Go.Proofs.YtpihighajaeabaaGreat
open Go.RowKit
set_option linter.unusedVariables false
set_option linter.unusedSimpArgs false
/-- the elements xs lie as the cells us, which are read; nothing that they read lies in block g -/
structure Elems {α : Type} (sz : Nat) (R : Rep α) (B : Nat) (W : World) (S : Blocks) (us : List (List Value)) (xs : List α) : Prop where
  len : us.length = xs.length
  wide : ∀ u ∈ us, u.length = sz
  one : ∀ t ∈ us.flatten, t.oneCell' = true
  rd : ∀ (k : Nat) (x : α) (u : List Value), xs[k]? = some x → us[k]? = some u → R W S x u
theorem Elems.step {α : Type} {sz : Nat} {R : Rep α} (hR : Good R) {B : Nat} {W W' : World} {S S' : Blocks} {us : List (List Value)} {xs : List α} (h : Elems sz R B W S us xs) (hA : Agree S S' W W') : Elems sz R B W' S' us xs :=
  ⟨h.len, h.wide, h.one, fun k x u hx hu => hR.step hA (h.rd k x u hx hu)⟩
theorem Elems.append {α : Type} {sz : Nat} {R : Rep α} {B : Nat} {W : World} {S : Blocks} {us vs : List (List Value)} {xs ys : List α} (h : Elems sz R B W S us xs) (k : Elems sz R B W S vs ys) : Elems sz R B W S (us ++ vs) (xs ++ ys) := by
  refine ⟨by rw [List.length_append, List.length_append, h.len, k.len], fun u hu => (List.mem_append.1 hu).elim (h.wide u) (k.wide u), fun t ht => ?_, fun i x u hx hu => ?_⟩
  · rw [List.flatten_append] at ht
    exact (List.mem_append.1 ht).elim (h.one t) (k.one t)
  · rcases Nat.lt_or_ge i xs.length with hi | hi
    · rw [List.getElem?_append_left hi] at hx
      rw [List.getElem?_append_left (by rw [h.len]; exact hi)] at hu
      exact h.rd i x u hx hu
    · rw [List.getElem?_append_right hi] at hx
      rw [List.getElem?_append_right (by rw [h.len]; exact hi), h.len] at hu
      exact k.rd _ x u hx hu
theorem flat_wide {us : List (List Value)} {sz : Nat} (h : ∀ u ∈ us, u.length = sz) : us.flatten.length = us.length * sz := by
  induction us with
  | nil => simp
  | cons u us ih => rw [List.flatten_cons, List.length_append, h u (by simp), ih (fun v hv => h v (by simp [hv])), List.length_cons, Nat.succ_mul]; omega
theorem Elems.flat {α : Type} {sz : Nat} {R : Rep α} {B : Nat} {W : World} {S : Blocks} {us : List (List Value)} {xs : List α} (h : Elems sz R B W S us xs) : us.flatten.length = xs.length * sz := by
  rw [flat_wide h.wide, h.len]
def offRow (B : Nat) (W : World) (A : Option Addr) : Blocks := fun b => B ≤ b ∧ b < W.heap.size ∧ ∀ a, A = some a → b ≠ a.block
def Room {α : Type} (sz : Nat) (R : Rep α) (B : Nat) (W : World) (A : Option Addr) (c : Nat) (xs : List α) : Prop :=
  xs.length ≤ c ∧ c ≤ maxLen ∧ ∃ us, Elems sz R B W (offRow B W A) us xs ∧
    ((A = none ∧ c = 0) ∨ ∃ g o, A = some ⟨g, o, none⟩ ∧ B ≤ g ∧ g < W.heap.size ∧ (∀ j, j < c * sz → (W.cell? ⟨g, o + j, none⟩).isSome = true ∧ W.frozen? ⟨g, o + j, none⟩ = false) ∧
      ∀ j t, us.flatten[j]? = some t → W.cell? ⟨g, o + j, none⟩ = some t)
/-- an owned row with what its elements read -/
theorem Room.of_row {α : Type} {sz : Nat} {R : Rep α} {B base : Nat} {W : World} {e : TypeId} {v : Value} {xs : List α} {us : List (List Value)} (h : W.ownsRow base e sz v xs.length us.flatten) (hb : ∀ g, v.ownBlock = some g → B ≤ g)
    (hE : Elems sz R B W (fun b => B ≤ b ∧ b < W.heap.size ∧ v.ownBlock ≠ some b) us xs) (hR : Good R) : ∃ A c, v = .slice A xs.length c ∧ Room sz R B W A c xs := by
  rcases h.2 with ⟨rfl, hz⟩ | ⟨g, cap, cur, rfl, _, hg, hnc, hcm, hcs, htake⟩
  · refine ⟨none, 0, by rw [hz], by omega, by simp [maxLen], us, hE.step hR ⟨fun b hb => ⟨hb.1, hb.2.1, fun a ha => by cases ha⟩, fun _ _ => rfl⟩, .inl ⟨rfl, rfl⟩⟩
  · refine ⟨_, cap, rfl, hnc, hcm, us, hE.step hR ⟨fun b hb => ⟨hb.1, hb.2.1, fun a ha e => hb.2.2 (by injection ha with ha; subst ha; rw [e]; rfl)⟩, fun _ _ => rfl⟩, .inr ⟨g, 0, rfl, hb g rfl, (Array.getElem?_eq_some_iff.1 hg).1, fun j hj => ?_, fun j t ht => ?_⟩⟩
    · rw [Nat.zero_add]
      refine ⟨?_, ?_⟩
      · rw [cell_of_row W g j cur e (0, 0) hg]; rw [← hcs] at hj; simp [hj]
      · simp [World.frozen?, hg]
    · have := h.cells (g := g) rfl j t ht
      rwa [Addr.add_lit] at this
theorem Room.keep {α : Type} {sz : Nat} {R : Rep α} (hR : Good R) {B p : Nat} {W W' : World} {A : Option Addr} {c : Nat} {xs : List α} (h : Room sz R B W A c xs) (hO : Only [p] W W') (hp : p < B) : Room sz R B W' A c xs := by
  obtain ⟨h1, h2, us, hE, h3⟩ := h
  refine ⟨h1, h2, us, hE.step hR ⟨fun b hb => ⟨hb.1, Nat.lt_of_lt_of_le hb.2.1 hO.1, hb.2.2⟩, fun q hq => World.cell?_of_block (hO.2 _ hq.2.1 (by have := hq.1; simp; omega))⟩, ?_⟩
  rcases h3 with h3 | ⟨g, o, hA, hB, hg, hc, hu⟩
  · exact .inl h3
  · have hbl : W'.heap[g]? = W.heap[g]? := hO.2 g hg (by simp; omega)
    exact .inr ⟨g, o, hA, hB, Nat.lt_of_lt_of_le hg hO.1, fun j hj => ⟨by rw [World.cell?_of_block (a := ⟨g, o + j, none⟩) hbl]; exact (hc j hj).1, by rw [World.frozen?_of_block (a := ⟨g, o + j, none⟩) hbl]; exact (hc j hj).2⟩, fun j t ht => by rw [World.cell?_of_block (a := ⟨g, o + j, none⟩) hbl]; exact hu j t ht⟩
theorem Room.bw {α : Type} {sz : Nat} {R : Rep α} (hR : Good R) {B : Nat} {W W' : World} {A : Option Addr} {c : Nat} {xs : List α} (h : Room sz R B W A c xs) (hb : Bw W W') : Room sz R B W' A c xs := by
  obtain ⟨h1, h2, us, hE, h3⟩ := h
  refine ⟨h1, h2, us, hE.step hR ⟨fun b h => ⟨h.1, Nat.lt_of_lt_of_le h.2.1 hb.size, h.2.2⟩, fun q hq => Below.cell hb hq.2.1⟩, ?_⟩
  rcases h3 with h3 | ⟨g, o, hA, hB, hg, hc, hu⟩
  · exact .inl h3
  · have hbl : W'.heap[g]? = W.heap[g]? := Below.block hb g hg
    exact .inr ⟨g, o, hA, hB, Nat.lt_of_lt_of_le hg hb.size, fun j hj => ⟨by rw [World.cell?_of_block (a := ⟨g, o + j, none⟩) hbl]; exact (hc j hj).1, by rw [World.frozen?_of_block (a := ⟨g, o + j, none⟩) hbl]; exact (hc j hj).2⟩, fun j t ht => by rw [World.cell?_of_block (a := ⟨g, o + j, none⟩) hbl]; exact hu j t ht⟩
theorem Room.read {α : Type} {sz : Nat} {R : Rep α} (hR : Good R) {B : Nat} {W : World} {A : Option Addr} {c : Nat} {xs : List α} (h : Room sz R B W A c xs) : rSl sz R W (fun b => B ≤ b ∧ b < W.heap.size) xs [.slice A xs.length c] := by
  obtain ⟨h1, h2, us, hE, h3⟩ := h
  refine ⟨A, c, rfl, h1, h2, fun k x hx => ?_⟩
  have hk := (List.getElem?_eq_some_iff.1 hx).1
  rcases h3 with ⟨_, h3⟩ | ⟨g, o, hA, hB, hg, hc, hu⟩
  · omega
  · obtain ⟨u, hus⟩ : ∃ u, us[k]? = some u := ⟨_, List.getElem?_eq_getElem (by rw [hE.len]; exact hk)⟩
    have hw := hE.wide u (List.mem_iff_getElem?.2 ⟨k, hus⟩)
    refine ⟨g, o, u, hA, ⟨hB, hg⟩, hw, fun j t ht => ?_, hR.step ⟨fun b hb => ⟨hb.1, hb.2.1⟩, fun _ _ => rfl⟩ (hE.rd k x u hx hus)⟩
    have := hu (k * sz + j) t (by rw [flatten_at hE.wide hus (by rw [← hw]; exact (List.getElem?_eq_some_iff.1 ht).1)]; exact ht)
    rwa [← Nat.add_assoc] at this
/-- what is left without its first element -/
theorem Room.tail {α : Type} {sz : Nat} {R : Rep α} (hR : Good R) {B g o : Nat} {W : World} {c : Nat} {xs : List α} (h : Room sz R B W (some ⟨g, o, none⟩) c xs) (hn : 1 ≤ xs.length) : Room sz R B W (some ⟨g, o + sz, none⟩) (c - 1) (xs.drop 1) := by
  obtain ⟨h1, h2, us, hE, h3⟩ := h
  rcases h3 with ⟨h3, _⟩ | ⟨g', o', hA, hB, hg, hc, hu⟩
  · cases h3
  · injection hA with hA
    injection hA with e1 e2
    subst e1 e2
    match xs, us, hE with
    | [], _, _ => simp at hn
    | x :: xs, [], hE => have := hE.len; simp at this
    | x :: xs, u :: us, hE =>
      have hw := hE.wide u (by simp)
      refine ⟨by simp at h1 ⊢; omega, by omega, us, ⟨by have := hE.len; simp at this; simpa using this, fun v hv => hE.wide v (by simp [hv]), fun t ht => hE.one t (by rw [List.flatten_cons]; exact List.mem_append_right _ ht), fun k y v hy hv => ?_⟩, .inr ⟨g, o + sz, rfl, hB, hg, fun j hj => ?_, fun j t ht => ?_⟩⟩
      · exact hR.step ⟨fun b hb => ⟨hb.1, hb.2.1, fun a ha => by injection ha with ha; subst ha; exact hb.2.2 ⟨g, o, none⟩ rfl⟩, fun _ _ => rfl⟩ (hE.rd (k + 1) y v (by simpa using hy) (by simpa using hv))
      · have hj2 : sz + j < c * sz := by
          obtain ⟨d, rfl⟩ : ∃ d, c = d + 1 := ⟨c - 1, by simp at h1; omega⟩
          rw [Nat.succ_mul]
          simp at hj
          omega
        have := hc (sz + j) hj2
        rwa [← Nat.add_assoc] at this
      · have := hu (sz + j) t (by rw [List.flatten_cons, List.getElem?_append_right (by omega), hw]; simpa using ht)
        rwa [← Nat.add_assoc] at this
theorem Dn.sets {w0 w : World} {p b : Nat} (hb : w.heap.size ≤ b) : ∀ (vs : List Value) (o : Nat) (W : World), Dn w0 w p W → Dn w0 w p (W.setCells b o vs)
  | [], _, _, h => h
  | v :: vs, o, W, h => Dn.sets hb vs (o + 1) _ (h.set hb v)
theorem size_setCells (b : Nat) : ∀ (vs : List Value) (o : Nat) (W : World), (W.setCells b o vs).heap.size = W.heap.size
  | [], _, _ => rfl
  | v :: vs, o, W => by rw [World.setCells, size_setCells b vs]; simp
theorem isSome_setCells {b : Nat} {vs : List Value} {o : Nat} {W : World} (hw : ∀ j, j < vs.length → (W.cell? ⟨b, o + j, none⟩).isSome = true) {i : Nat} (h : (W.cell? ⟨b, i, none⟩).isSome = true) : ((W.setCells b o vs).cell? ⟨b, i, none⟩).isSome = true := by
  by_cases hi : o ≤ i ∧ i < o + vs.length
  · obtain ⟨j, rfl⟩ : ∃ j, i = o + j := ⟨i - o, by omega⟩
    rw [World.cell?_setCells_in b vs o W hw j (by omega)]
    rfl
  · rw [World.cell?_setCells_out b vs o W _ (fun _ _ => by dsimp only; omega)]
    exact h
theorem Room.run {α : Type} {P : Program} (W : World) (t ty e : TypeId) (i : TypeInfo) (z : Value) (sz bytes : Nat) (ht : P.underlying t = some (.slice e)) (hi : P.info? e = some i) (hz : i.zero = some z)
    (hsize : i.size = sz) (hby : i.bytes = bytes) (hzs : z.cells.size = sz) (hsz : 0 < sz) {R : Rep α} (hR : Good R) (w0 w : World) (p : Nat) (hD : Dn w0 w p W) (B : Nat) (hB : w.heap.size ≤ B) (hBW : B ≤ W.heap.size)
    (A : Option Addr) (c : Nat) (xs : List α) (h : Room sz R B W A c xs) (ad : Addr) (m cy : Nat) (ys : List α) (vs : List (List Value)) (hm : ys.length = m) (hv : Elems sz R B W (offRow B W A) vs ys)
    (hc : ∀ j t, vs.flatten[j]? = some t → W.cell? (ad.add j) = some t) (h63 : xs.length + m ≤ 1048576) (hbytes : (xs.length + m) * bytes ≤ 140737488355328) :
    ∃ A' c' w', (Builtin.append_ #[t, t] ty #[.slice A xs.length c, .slice (some ad) m cy]).run P W = .ok (.slice A' (xs.length + m) c') w' ∧ Room sz R B w' A' c' (xs ++ ys) ∧ Dn w0 w p w' := by
  obtain ⟨h1, h2, us, hE, h3⟩ := h
  have hnl : vs.flatten.length = m * sz := by rw [hv.flat, hm]
  have hlen : (xs ++ ys).length = xs.length + m := by rw [List.length_append, hm]
  have hmax : xs.length + m ≤ maxLen := by simp only [maxLen]; omega
  have both := hE.append hv
  have grows : ∀ v' w', w'.ownsRow W.heap.size e sz v' (xs.length + m) (us.flatten ++ vs.flatten) → W.grownBy w' none → ∃ A' c', v' = .slice A' (xs.length + m) c' ∧ Room sz R B w' A' c' (xs ++ ys) ∧ Dn w0 w p w' := by
    intro v' w' hown hgr
    have hb : Bw W w' := (Bw.refl W).grown hgr (fun k hk => by cases hk)
    rw [← List.flatten_append, ← hlen] at hown
    obtain ⟨A', c', e1, hroom⟩ := Room.of_row (B := B) hown (fun g hg => Nat.le_trans hBW (hown.lt g hg).1)
      (both.step hR ⟨fun b h => ⟨h.1, Nat.lt_of_lt_of_le h.2.1 hb.size, fun e => by have := (hown.lt b e).1; have := h.2.1; omega⟩, fun q hq => Below.cell hb hq.2.1⟩) hR
    exact ⟨A', c', by rw [e1, hlen], hroom, hD.bw hb⟩
  rcases h3 with ⟨rfl, rfl⟩ | ⟨g, o, rfl, hBg, hg, hcs, hu⟩
  · obtain rfl : xs = [] := List.eq_nil_of_length_eq_zero (by omega)
    obtain rfl : us = [] := List.eq_nil_of_length_eq_zero hE.len
    obtain ⟨v', w', hrun, hown, hgr, _⟩ := run_append_own (P := P) W W.heap.size t ty e i z sz bytes ht hi hz hsize hby hzs hsz (.slice none 0 0) 0 [] (World.ownsRow_nil W _ e sz) ad m cy vs.flatten hnl hc hv.one (by simpa using hmax) (by simpa using hbytes) (Nat.le_refl _)
    obtain ⟨A', c', rfl, hroom, hd⟩ := grows v' w' (by simpa using hown) hgr
    exact ⟨A', c', w', by simpa using hrun, hroom, hd⟩
  · by_cases hroom : xs.length + m ≤ c
    · subst hsize
      have hfit : ∀ j, j < vs.flatten.length → xs.length * i.size + j < c * i.size := fun j hj => by
        rw [hnl] at hj
        have : (xs.length + m) * i.size ≤ c * i.size := Nat.mul_le_mul_right _ hroom
        rw [Nat.add_mul] at this
        omega
      have hsome : ∀ j, j < vs.flatten.length → (W.cell? ⟨g, o + xs.length * i.size + j, none⟩).isSome = true := fun j hj => by rw [Nat.add_assoc]; exact (hcs _ (hfit j hj)).1
      have hrun := run_append_room_cells (P := P) W t ty e i ht hi g o xs.length c ad m cy vs.flatten hnl hc hv.one hroom hsome (fun j hj => by rw [Nat.add_assoc]; exact (hcs _ (hfit j hj)).2)
      refine ⟨_, _, _, hrun, ⟨by rw [hlen]; exact hroom, h2, us ++ vs, both.step hR ⟨fun b h => ⟨h.1, by rw [size_setCells]; exact h.2.1, h.2.2⟩, fun q hq => World.cell?_setCells_out g _ _ W q (fun e => absurd e (hq.2.2 _ rfl))⟩, .inr ⟨g, o, rfl, hBg, by rw [size_setCells]; exact hg, fun j hj => ⟨isSome_setCells hsome (hcs j hj).1, by rw [World.frozen?_setCells]; exact (hcs j hj).2⟩, fun j t ht => ?_⟩⟩, Dn.sets (Nat.le_trans hB hBg) _ _ _ hD⟩
      rw [List.flatten_append] at ht
      rcases Nat.lt_or_ge j us.flatten.length with hj | hj
      · rw [List.getElem?_append_left hj] at ht
        rw [World.cell?_setCells_out g _ _ W _ (fun _ _ => by dsimp only; rw [hE.flat] at hj; omega)]
        exact hu j t ht
      · obtain ⟨k, rfl⟩ : ∃ k, j = us.flatten.length + k := ⟨j - us.flatten.length, by omega⟩
        rw [List.getElem?_append_right hj, Nat.add_sub_cancel_left] at ht
        have hk := (List.getElem?_eq_some_iff.1 ht).1
        have := World.cell?_setCells_in g vs.flatten (o + xs.length * i.size) W hsome k hk
        rw [hE.flat, ← Nat.add_assoc, this, ← ht]
        exact (List.getElem?_eq_getElem hk).symm
    · obtain ⟨v', w', hrun, hown, hgr⟩ := run_append_arg_grows (P := P) W t ty e i z sz bytes ht hi hz hsize hby hzs hsz ⟨g, o, none⟩ xs.length c us.flatten hE.flat (fun j u hj => by rw [Addr.add_lit]; exact hu j u hj) ad m cy vs.flatten hnl hc (by omega) hmax hbytes
      obtain ⟨A', c', rfl, hr, hd⟩ := grows v' w' hown hgr
      exact ⟨A', c', w', hrun, hr, hd⟩
theorem wp_roomD {α : Type} {P : Program} {o : Oper} {a : Act} {K : Act → World → Prop} {Q : Exit → Act → World → Prop} (W : World) (s x : Operand) (t : TypeId)
    (ho : o.op = .call { callee := .builtin .append, args := #[s, x], argTypes := #[t, t] })
    (e : TypeId) (i : TypeInfo) (z : Value) (sz bytes : Nat) (ht : P.underlying t = some (.slice e)) (hi : P.info? e = some i) (hz : i.zero = some z)
    (hsize : i.size = sz) (hby : i.bytes = bytes) (hzs : z.cells.size = sz) (hsz : 0 < sz) {R : Rep α} (hR : Good R) (w0 w : World) (p : Nat) (hD : Dn w0 w p W) (B : Nat) (hB : w.heap.size ≤ B) (hBW : B ≤ W.heap.size)
    (A : Option Addr) (n c : Nat) (xs : List α) (hs : a.eval s = .slice A n c) (hn : Hid (xs.length = n)) (h : Room sz R B W A c xs) (ad : Addr) (m cy : Nat) (ys : List α) (hx : a.eval x = .slice (some ad) m cy) (vs : List (List Value)) (hm : Hid (ys.length = m)) (hv : Elems sz R B W (offRow B W A) vs ys)
    (hc : ∀ j t, vs.flatten[j]? = some t → W.cell? (ad.add j) = some t) (h63 : n + m ≤ 1048576) (hbytes : (n + m) * bytes ≤ 140737488355328)
    (hk : ∀ A' c' w', Room sz R B w' A' c' (xs ++ ys) → Dn w0 w p w' → K (a.put o.dst (.slice A' (n + m) c')) w') : o.wp P a W K Q := by
  have hn' := hn.out
  subst hn'
  obtain ⟨A', c', w', hrun, h1, h2⟩ := Room.run (P := P) W t o.type e i z sz bytes ht hi hz hsize hby hzs hsz hR w0 w p hD B hB hBW A c xs h ad m cy ys vs hm.out hv hc h63 hbytes
  unfold Oper.wp execOp
  simp only [ho, resolve, invoke, builtin, Sem.run_bind, Sem.run_pure, Result.andThen_ok, List.map_toArray, List.map_cons, List.map_nil, hs, hx, hrun]
  exact hk _ _ _ h1 h2
theorem wpList_roomD {α : Type} {P : Program} {ops : Array Oper} {rest : List Oper} {o : Oper} {a : Act} {Q : Exit → Act → World → Prop} (W : World) (hgd : o.guard = none) (s x : Operand) (t : TypeId)
    (ho : o.op = .call { callee := .builtin .append, args := #[s, x], argTypes := #[t, t] })
    (e : TypeId) (i : TypeInfo) (z : Value) (sz bytes : Nat) (ht : P.underlying t = some (.slice e)) (hi : P.info? e = some i) (hz : i.zero = some z)
    (hsize : i.size = sz) (hby : i.bytes = bytes) (hzs : z.cells.size = sz) (hsz : 0 < sz) {R : Rep α} (hR : Good R) (w0 w : World) (p : Nat) (hD : Dn w0 w p W) (B : Nat) (hB : w.heap.size ≤ B) (hBW : B ≤ W.heap.size)
    (A : Option Addr) (n c : Nat) (xs : List α) (hs : a.eval s = .slice A n c) (hn : Hid (xs.length = n)) (h : Room sz R B W A c xs) (ad : Addr) (m cy : Nat) (ys : List α) (hx : a.eval x = .slice (some ad) m cy) (vs : List (List Value)) (hm : Hid (ys.length = m)) (hv : Elems sz R B W (offRow B W A) vs ys)
    (hc : ∀ j t, vs.flatten[j]? = some t → W.cell? (ad.add j) = some t) (h63 : n + m ≤ 1048576) (hbytes : (n + m) * bytes ≤ 140737488355328)
    (hk : ∀ A' c' w', Room sz R B w' A' c' (xs ++ ys) → Dn w0 w p w' → wpList P ops Q rest (a.put o.dst (.slice A' (n + m) c')) w') : wpList P ops Q (o :: rest) a W :=
  wpList_plain hgd fun _ hK => wp_roomD W s x t ho e i z sz bytes ht hi hz hsize hby hzs hsz hR w0 w p hD B hB hBW A n c xs hs hn h ad m cy ys hx vs hm hv hc h63 hbytes fun A' c' w' h1 h2 => hK _ _ (hk A' c' w' h1 h2)
/-- owned nodes -/
theorem Room.nodes {B : Nat} {W : World} {xs : List GNode} {v : Value} {F : List Nat} (h : fNodes W xs [v] F) (hF : Fresh B F) : ∃ A c, v = .slice A xs.length c ∧ Room 6 rNode B W A c xs := by
  have hlt := (fNodes_good (B := 0)).lt h
  obtain ⟨v0, us, Fs, hv0, hown, hall, hFe⟩ := h
  injection hv0 with hv0
  subst hv0
  have hl := all3_len hall
  have hn := hF.nodup
  rw [hFe, List.nodup_append] at hn
  refine Room.of_row (e := 111) hown (fun g hg => hF.ge g (by rw [hFe]; simp [hg])) ⟨hl.1, fun u hu => by obtain ⟨x, f, hr⟩ := all3_mem_us hall hu; exact hr.2, fun t ht => ?_, fun k x u hx hu => ?_⟩ rNode_good
  · obtain ⟨u, hu, htu⟩ := List.mem_flatten.1 ht
    obtain ⟨x, f, hr⟩ := all3_mem_us hall hu
    exact (fNode_good (B := 0)).one hr.1 t htu
  · obtain ⟨u', f, hu', hf, hr⟩ := all3_at hall hx
    rw [hu'] at hu
    injection hu with hu
    subst hu
    have hin : ∀ b ∈ f, b ∈ Fs.flatten := fun b hb => List.mem_flatten.2 ⟨f, List.mem_iff_getElem?.2 ⟨k, hf⟩, hb⟩
    refine rNode_good.step ⟨fun b hb => ?_, fun _ _ => rfl⟩ (fNode_rd (B := 0) hr.1)
    have hb := hb.resolve_right (Nat.not_lt_zero _)
    have hbF : b ∈ F := by rw [hFe]; exact List.mem_append_right _ (hin b hb)
    exact ⟨hF.ge b hbF, hlt b hbF, fun e => hn.2.2 b (by rw [e]; simp) b (hin b hb) rfl⟩
/-- nodes without memory -/
def opCells (ns : List Int) : List (List Value) := ns.map fun n => [Value.int .i64 n, .int .i64 0, .int .i64 0, .int .i64 0, .slice none 0 0, .slice none 0 0]
def opNodes (ns : List Int) : List GNode := ns.map fun n => ⟨n, ⟨0, 0, 0, [], []⟩⟩
theorem Elems.ops (B : Nat) (W : World) (S : Blocks) (ns : List Int) : Elems 6 rNode B W S (opCells ns) (opNodes ns) := by
  refine ⟨by simp [opCells, opNodes], fun u hu => ?_, fun t ht => ?_, fun k x u hx hu => ?_⟩
  · obtain ⟨n, _, rfl⟩ := List.mem_map.1 hu; rfl
  · obtain ⟨u, hu, htu⟩ := List.mem_flatten.1 ht
    obtain ⟨n, _, rfl⟩ := List.mem_map.1 hu
    simp at htu
    rcases htu with rfl | rfl | rfl <;> rfl
  · simp only [opNodes, List.getElem?_map, Option.map_eq_some_iff] at hx
    simp only [opCells, List.getElem?_map, Option.map_eq_some_iff] at hu
    obtain ⟨n, hn, rfl⟩ := hx
    obtain ⟨n', hn', rfl⟩ := hu
    rw [hn] at hn'
    injection hn' with hn'
    subst hn'
    exact ⟨_, rfl, _, _, rfl, rSl_nil, rSl_nil⟩
end Go.Proofs.YtpihighajaeabaaGreat
