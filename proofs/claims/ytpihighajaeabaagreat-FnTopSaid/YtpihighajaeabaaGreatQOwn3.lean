/- Appends that also tell what they leave alone. -/
import Derived.Test.YtpihighajaeabaaGreatQFind
import Derived.Test.YtpihighajaeabaaGreatQOwn
import Derived.Test.YtpihighajaeabaaGreatQItems
namespace Go.Proofs.YtpihighajaeabaaGreat
open Go.RowKit
set_option linter.unusedVariables false
theorem inB_iff {x lo hi : Int} : inB x lo hi = true ↔ lo ≤ x ∧ x ≤ hi := by unfold inB; exact decide_eq_true_iff
theorem areItemsFrom_mem : ∀ {l : List GItem} {p : Option Int} {x : GItem}, areItemsFrom p l = true → x ∈ l → isItem x = true
  | y :: l, none, x, h, hx => by
    simp only [areItemsFrom, Bool.and_eq_true] at h
    rcases List.mem_cons.1 hx with rfl | hx
    · exact h.1
    · exact areItemsFrom_mem h.2 hx
  | y :: l, some p, x, h, hx => by
    simp only [areItemsFrom, Bool.and_eq_true] at h
    rcases List.mem_cons.1 hx with rfl | hx
    · exact h.1.1
    · exact areItemsFrom_mem h.2 hx
theorem areItems_mem {l : List GItem} {x : GItem} (h : areItems l = true) (hx : x ∈ l) : isItem x = true := by
  simp only [areItems, Bool.and_eq_true] at h
  exact areItemsFrom_mem h.1 hx
theorem areItems_len {l : List GItem} (h : areItems l = true) : l.length ≤ 16 := by
  simp only [areItems, Bool.and_eq_true, decide_eq_true_iff] at h
  exact h.2
theorem isItem_len {x : GItem} (h : isItem x = true) : x.vals.length = 3 := by
  simp only [isItem, Bool.and_eq_true, decide_eq_true_iff] at h
  exact h.2.1
theorem isItem_id {x : GItem} (h : isItem x = true) : 0 ≤ x.id ∧ x.id ≤ 99 := by
  simp only [isItem, Bool.and_eq_true] at h
  exact inB_iff.1 h.1
theorem isItem_val {x : GItem} (h : isItem x = true) {v : Int} (hv : v ∈ x.vals) : 0 ≤ v ∧ v ≤ 9 := by
  simp only [isItem, Bool.and_eq_true, List.all_eq_true] at h
  exact inB_iff.1 (h.2.2 v hv)
/-- the value of a field -/
def valAt (x : GItem) (f : Int) : Int := x.vals.getD f.toNat 0
theorem valAt_get {x : GItem} (h : isItem x = true) {f : Nat} (hf : f ≤ 2) : x.vals[f]? = some (valAt x f) := by
  have hl := isItem_len h
  unfold valAt
  rw [Int.toNat_natCast, List.getD_eq_getElem?_getD, List.getElem?_eq_getElem (by omega)]; rfl
theorem valAt_bd {x : GItem} (h : isItem x = true) {f : Nat} (hf : f ≤ 2) : 0 ≤ valAt x f ∧ valAt x f ≤ 9 := isItem_val h (List.mem_of_getElem? (valAt_get h hf))
end Go.Proofs.YtpihighajaeabaaGreat

namespace Go.Proofs.YtpihighajaeabaaGreat
open Go.RowKit
set_option linter.unusedVariables false

/-! ### pairs -/
def baseB (l : List GPair) (i j : Nat) : Bool := l.any fun p => decide (p.fst = (i : Int)) && decide (p.snd = (j : Int))
def warsh (M : Nat → Nat → Bool) : Nat → Nat → Nat → Bool
  | 0 => M
  | k + 1 => fun i j => warsh M k i j || (warsh M k i k && warsh M k k j)
def reachB (l : List GPair) (a b : Int) : Bool := warsh (baseB l) 10 a.toNat b.toNat
def pairIn (p : GPair) : Bool := inB p.fst 0 9 && inB p.snd 0 9
def pairsIn (l : List GPair) : Bool := l.all pairIn
def arePairs (l : List GPair) : Bool := pairsIn l && (decide (l.length ≤ 8) && (List.range 10).all fun v => !reachB l (v : Int) (v : Int))
theorem warsh_ge {M : Nat → Nat → Bool} {i j : Nat} (h : M i j = true) : ∀ k, warsh M k i j = true
  | 0 => h
  | k + 1 => by simp [warsh, warsh_ge h k]
theorem warsh_closed (M : Nat → Nat → Bool) : ∀ (k m : Nat), m < k → ∀ i j, warsh M k i m = true → warsh M k m j = true → warsh M k i j = true
  | 0, m, h, _, _, _, _ => by omega
  | k + 1, m, h, i, j, h1, h2 => by
    simp only [warsh, Bool.or_eq_true, Bool.and_eq_true] at h1 h2 ⊢
    have ih := warsh_closed M k m
    by_cases hm : m < k
    · have ih := ih hm
      rcases h1 with h1 | ⟨h1, h1'⟩ <;> rcases h2 with h2 | ⟨h2, h2'⟩
      · exact .inl (ih _ _ h1 h2)
      · exact .inr ⟨ih _ _ h1 h2, h2'⟩
      · exact .inr ⟨h1, ih _ _ h1' h2⟩
      · exact .inr ⟨h1, h2'⟩
    · obtain rfl : m = k := by omega
      rcases h1 with h1 | ⟨h1, h1'⟩ <;> rcases h2 with h2 | ⟨h2, h2'⟩
      · exact .inr ⟨h1, h2⟩
      · exact .inr ⟨h1, h2'⟩
      · exact .inr ⟨h1, h2⟩
      · exact .inr ⟨h1, h2'⟩
theorem warsh_sound {M : Nat → Nat → Bool} {R : Nat → Nat → Prop} (ht : ∀ a b c, R a b → R b c → R a c) (hM : ∀ i j, M i j = true → R i j) : ∀ (k : Nat) {i j : Nat}, warsh M k i j = true → R i j
  | 0, i, j, h => hM i j h
  | k + 1, i, j, h => by
    simp only [warsh, Bool.or_eq_true, Bool.and_eq_true] at h
    rcases h with h | ⟨h1, h2⟩
    · exact warsh_sound ht hM k h
    · exact ht _ _ _ (warsh_sound ht hM k h1) (warsh_sound ht hM k h2)
theorem warsh_row {M : Nat → Nat → Bool} {k i : Nat} : warsh M (k + 1) i k = warsh M k i k := by
  simp only [warsh]; cases warsh M k i k <;> simp
theorem warsh_col {M : Nat → Nat → Bool} {k j : Nat} : warsh M (k + 1) k j = warsh M k k j := by
  simp only [warsh]; cases warsh M k k j <;> simp
theorem baseB_mem {l : List GPair} {i j : Nat} (h : baseB l i j = true) : ∃ p ∈ l, p.fst = (i : Int) ∧ p.snd = (j : Int) := by
  obtain ⟨p, hp, h⟩ := List.any_eq_true.1 h
  simp at h
  exact ⟨p, hp, h⟩
theorem pairsIn_mem {l : List GPair} (h : pairsIn l = true) {p : GPair} (hp : p ∈ l) : (0 ≤ p.fst ∧ p.fst ≤ 9) ∧ 0 ≤ p.snd ∧ p.snd ≤ 9 := by
  have := List.all_eq_true.1 h p hp
  simp only [pairIn, Bool.and_eq_true, inB_iff] at this
  exact this
theorem reach_edge {l : List GPair} (hl : pairsIn l = true) {p : GPair} (hp : p ∈ l) : reachB l p.fst p.snd = true := by
  have := pairsIn_mem hl hp
  refine warsh_ge ?_ 10
  refine List.any_eq_true.2 ⟨p, hp, ?_⟩
  simp only [Bool.and_eq_true, decide_eq_true_iff]
  omega
theorem reach_trans {l : List GPair} {a b c : Int} (hb : 0 ≤ b ∧ b ≤ 9) (h1 : reachB l a b = true) (h2 : reachB l b c = true) : reachB l a c = true :=
  warsh_closed _ 10 b.toNat (by omega) _ _ h1 h2
/-- what a search that has come to its end tells -/
theorem reach_no {l : List GPair} {a b : Int} {S : List Int} (ha : 0 ≤ a) (hb : 0 ≤ b) (h0 : a ∈ S) (hS : ∀ s ∈ S, ∀ p ∈ l, p.fst = s → p.snd ∈ S ∧ p.snd ≠ b) : reachB l a b = false := by
  rw [Bool.eq_false_iff]
  intro h
  have := warsh_sound (R := fun i j => (i : Int) ∈ S → ((j : Int) ∈ S ∧ (j : Int) ≠ b)) (fun x y z h1 h2 hx => h2 (h1 hx).1) (fun i j h hi => by
    obtain ⟨p, hp, e1, e2⟩ := baseB_mem h
    rw [← e2]; exact hS _ hi p hp e1) 10 h
  have := this (by rw [Int.toNat_of_nonneg ha]; exact h0)
  omega

end Go.Proofs.YtpihighajaeabaaGreat

namespace Go.Proofs.YtpihighajaeabaaGreat
open Go.RowKit
set_option linter.unusedVariables false

/-! ### wishes -/
def ascFrom : Option Int → List Int → Bool
  | _, [] => true
  | none, v :: l => inB v 0 9 && ascFrom (some v) l
  | some p, v :: l => (inB v 0 9 && decide (p < v)) && ascFrom (some v) l
def prevI (l : List Int) (k : Nat) : Option Int := match k with | 0 => none | k + 1 => l[k]?
theorem prevI_succ {l : List Int} {k : Nat} {x : Int} (h : l[k]? = some x) : prevI l (k + 1) = some x := h
theorem asc_first {l : List Int} {x : Int} (h : l[0]? = some x) : ascFrom (prevI l 0) (l.drop 0) = (inB x 0 9 && ascFrom (prevI l 1) (l.drop 1)) := by
  rw [prevI_succ h, drop_cons h]; rfl
theorem asc_next {l : List Int} {k : Nat} {x y : Int} (hy : l[k]? = some y) (h : l[k + 1]? = some x) : ascFrom (prevI l (k + 1)) (l.drop (k + 1)) = ((inB x 0 9 && decide (y < x)) && ascFrom (prevI l (k + 1 + 1)) (l.drop (k + 1 + 1))) := by
  rw [prevI_succ hy, prevI_succ h, drop_cons h]; rfl
def isWish (w : GWish) : Bool :=
  inB w.field 0 2 && (inB w.kind 0 4 && (inB w.value 0 9 && (ascFrom none w.list && ((decide (w.kind = 2) || decide (w.value = 0)) && ((decide (w.kind = 3) == decide (0 < w.list.length)) &&
    (if w.kind = 4 then arePairs w.pairs else decide (w.pairs.length = 0)))))))
def rankV (w : GWish) (v : Int) : Int :=
  if w.kind = 0 then v else if w.kind = 1 then 9 - v else if w.kind = 2 then max (v - w.value) (w.value - v) else if w.list.contains v then 0 else 1
def cmpV (w : GWish) (a b : Int) : Int :=
  if w.kind = 4 then (if a = b then 0 else if reachB w.pairs a b then 1 else if reachB w.pairs b a then -1 else 2)
  else if rankV w a < rankV w b then 1 else if rankV w b < rankV w a then -1 else 0
def cmpItem (w : GWish) (x y : GItem) : Int := cmpV w (valAt x w.field) (valAt y w.field)
theorem cmpV_code (w : GWish) (a b : Int) : -1 ≤ cmpV w a b ∧ cmpV w a b ≤ 2 := by
  unfold cmpV; repeat' split
  all_goals omega

/-! ### expressions -/
def noWish : GWish := ⟨0, 0, 0, [], []⟩
def opnds (op : Int) : Int := if op = 0 then 0 else if op = 3 then 1 else 2
def nodeOk (n : GNode) (d : Int) : Bool := inB n.op 0 4 && (decide (opnds n.op ≤ d) && if n.op = 0 then isWish n.wish else decide (n.wish = noWish))
/-- the depth behind a list of nodes, or none -/
def depthOf : List GNode → Int → Option Int
  | [], d => some d
  | n :: l, d => if nodeOk n d then depthOf l (d - opnds n.op + 1) else none
def isExpr (e : List GNode) : Bool := decide (depthOf e 0 = some 1) && decide (e.length ≤ 9)
def comb (op a b : Int) : Int :=
  if op = 1 then (if a = 2 ∨ b = 2 ∨ a * b < 0 then 2 else if a = 0 then b else a) else if op = 2 then (if a = 0 then b else a) else if a = b then a else 2
def neg2 (a : Int) : Int := if a = 2 then 2 else -a
/-- one node on a stack whose top stands last -/
def stackStep (x y : GItem) (st : List Int) (n : GNode) : List Int :=
  if n.op = 0 then st ++ [cmpItem n.wish x y]
  else if n.op = 3 then st.take (st.length - 1) ++ [neg2 (st.getD (st.length - 1) 0)]
  else st.take (st.length - 2) ++ [comb n.op (st.getD (st.length - 2) 0) (st.getD (st.length - 1) 0)]
def cmpBy (e : List GNode) (x y : GItem) : Int := (e.foldl (stackStep x y) []).getD 0 0
theorem comb_code {op a b : Int} (ha : -1 ≤ a ∧ a ≤ 2) (hb : -1 ≤ b ∧ b ≤ 2) : -1 ≤ comb op a b ∧ comb op a b ≤ 2 := by
  unfold comb; repeat' split
  all_goals omega
theorem neg2_code {a : Int} (ha : -1 ≤ a ∧ a ≤ 2) : -1 ≤ neg2 a ∧ neg2 a ≤ 2 := by
  unfold neg2; split <;> omega
end Go.Proofs.YtpihighajaeabaaGreat

namespace Go.Proofs.YtpihighajaeabaaGreat
open Go.RowKit
set_option linter.unusedVariables false
theorem fSl_lit {α : Type} {e : TypeId} {sz : Nat} {R : Fp α} {w : World} {v : Value} {xs : List α} {F : List Nat} (h : fSl e sz R w xs [v] F) (hne : 0 < xs.length) : ∃ g c, v = .slice (some ⟨g, 0, none⟩) xs.length c ∧ xs.length ≤ c ∧ c ≤ maxLen ∧ g ∈ F := by
  obtain ⟨v', us, Fs, hv, hown, _, hF⟩ := h
  injection hv with hv
  subst hv
  rcases hown.2 with ⟨_, h0⟩ | ⟨g, cap, cur, rfl, _, _, hc, hm, _⟩
  · omega
  · exact ⟨g, cap, rfl, hc, hm, by rw [hF]; simp [Value.ownBlock]⟩
theorem fSl_empty {α : Type} {e : TypeId} {sz : Nat} {R : Fp α} (w : World) : fSl e sz R (w.alloc (.cells #[] e)) [] [.slice (some ⟨w.heap.size, 0, none⟩) 0 0] [w.heap.size] := by
  refine ⟨_, [], [], rfl, ?_, trivial, by simp [Value.ownBlock]⟩
  exact World.ownsRow_made w #[] 0 (Nat.zero_le _) (Nat.zero_le _) (by simp)
theorem fSl_lit' {α : Type} {e : TypeId} {sz : Nat} {R : Fp α} {w : World} {v : Value} {xs : List α} {F : List Nat} (h : fSl e sz R w xs [v] F) (hne : 0 < xs.length) : ∃ g L c, v = .slice (some ⟨g, 0, none⟩) L c ∧ Hid (xs.length = L) ∧ L ≤ c ∧ c ≤ maxLen ∧ 0 < L := by
  obtain ⟨g, c, e, h1, h2, _⟩ := fSl_lit h hne
  exact ⟨g, xs.length, c, e, rfl, h1, h2, hne⟩
end Go.Proofs.YtpihighajaeabaaGreat

namespace Go.Proofs.YtpihighajaeabaaGreat
open Go.RowKit
set_option linter.unusedVariables false
/-- of what stood before, only the blocks in F are written -/
def Only (F : List Nat) (w w' : World) : Prop := w.heap.size ≤ w'.heap.size ∧ ∀ b, b < w.heap.size → b ∉ F → w'.heap[b]? = w.heap[b]?
theorem Only.refl (F : List Nat) (w : World) : Only F w w := ⟨Nat.le_refl _, fun _ _ _ => rfl⟩
theorem Only.then {F G : List Nat} {a b c : World} (h : Only F a b) (k : Only G b c) (hG : ∀ x ∈ G, x ∈ F) : Only F a c :=
  ⟨Nat.le_trans h.1 k.1, fun x hx hn => (k.2 x (Nat.lt_of_lt_of_le hx h.1) (fun hm => hn (hG x hm))).trans (h.2 x hx hn)⟩
theorem Only.of_grown {F : List Nat} {w w' : World} {b : Nat} (h : w.grownBy w' (some b)) (hs : w.heap.size ≤ w'.heap.size) (hb : b ∈ F) : Only F w w' :=
  ⟨hs, fun x hx hn => h.block x hx (fun e => by injection e with e; exact hn (e ▸ hb))⟩
theorem Only.keeps {α : Type} {R : Fp α} {F G : List Nat} {w w' : World} (h : Only F w w') (hR : GoodF 0 R) {x : α} {cs : List Value} (hx : R w x cs G) (hd : ∀ b ∈ G, b ∉ F) : R w' x cs G :=
  hR.step (fun b hb => by
    rcases hb with hb | hb
    · exact h.2 b (hR.lt hx b hb) (hd b hb)
    · omega) hx
theorem Only.alloc (F : List Nat) (w : World) (o : Obj) : Only F w (w.alloc o) := ⟨((Bw.refl w).alloc o).size, fun b hb _ => by
  have := ((Bw.refl w).alloc o : Below w.heap.size w (w.alloc o)).block b hb
  exact this⟩
theorem Only.cell {F : List Nat} {w w' : World} (h : Only F w w') {p : Addr} {u : Value} (hc : w.cell? p = some u) (hd : p.block ∉ F) : w'.cell? p = some u := (World.cell?_of_block (h.2 _ (World.block_lt_of_cell? w p hc) hd)).trans hc
def RetM {α : Type} (f : Fp α) (w0 w : World) (x : α) (v : Value) (F : List Nat) (k : Nat) (e : Ending) (w' : World) : Prop := e = .returned (.int .i64 k) ∧ f w' x [v] F ∧ Only F w w' ∧ Bw w0 w'
theorem RetM.mk {α : Type} {f : Fp α} {w0 w w' : World} {x y : α} {v : Value} {F : List Nat} {k : Nat} {n : Int} (h : n = (k : Int)) (hx : y = x) (h1 : f w' y [v] F) (h2 : Only F w w') (h3 : Bw w0 w') : RetM f w0 w x v F k (.returned (.int .i64 n)) w' := by
  subst h hx
  exact ⟨rfl, h1, h2, h3⟩
theorem fSl_lit2 {α : Type} {e : TypeId} {sz : Nat} {R : Fp α} {w : World} {A : Option Addr} {n c : Nat} {xs : List α} {F : List Nat} (h : fSl e sz R w xs [.slice A n c] F) (hne : 0 < xs.length) : ∃ g, A = some ⟨g, 0, none⟩ ∧ n = xs.length ∧ g ∈ F := by
  obtain ⟨g, c', e, _, _, hg⟩ := fSl_lit h hne
  injection e with e1 e2 _
  exact ⟨g, e1, e2, hg⟩


end Go.Proofs.YtpihighajaeabaaGreat

namespace Go.Proofs.YtpihighajaeabaaGreat
open Go.RowKit
set_option linter.unusedVariables false
section
variable {α : Type} {P : Program}
theorem push_run2 (W : World) (w0 : World) (t ty e : TypeId) (i : TypeInfo) (z : Value) (sz bytes : Nat) (ht : P.underlying t = some (.slice e)) (hi : P.info? e = some i) (hz : i.zero = some z)
    (hsize : i.size = sz) (hby : i.bytes = bytes) (hzs : z.cells.size = sz) (hsz : 0 < sz)
    {R : Fp α} (hR : GoodF w0.heap.size R) (v : Value) (xs : List α) (F : List Nat) (hv : fSl e sz R W xs [v] F) (hF : Fresh w0.heap.size F)
    (ad : Addr) (c : Nat) (y : α) (u : List Value) (f : List Nat) (hu : ∀ j t, u[j]? = some t → W.cell? (ad.add j) = some t)
    (hy : R W y u f) (hul : u.length = sz) (m : Nat) (hFm : ∀ b ∈ F, b < m) (hf : Fresh m f) (hm : w0.heap.size ≤ m) (hbytes : (xs.length + 1) * bytes ≤ 140737488355328) (hlen : xs.length < 4611686018427387904) (hbw : Bw w0 W) :
    ∃ v' w' F', (Builtin.append_ #[t, t] ty #[v, .slice (some ad) 1 c]).run P W = .ok v' w' ∧ fSl e sz R w' (xs ++ [y]) [v'] F' ∧ Fresh w0.heap.size F' ∧ Bw w0 w' ∧ Only F W w' ∧ ∀ b ∈ F', b ∈ F ∨ b ∈ f ∨ W.heap.size ≤ b := by
  obtain ⟨v0, us, Fs, hv0, hown, hall, hFe⟩ := hv
  injection hv0 with hv0
  subst hv0
  have hl := all3_len hall
  obtain ⟨v', w', hrun, hown', hgrow, _, hat⟩ := run_append_own_at (P := P) W 0 t ty e i z sz bytes ht hi hz hsize hby hzs hsz v xs.length us.flatten hown ad 1 c u (by omega) hu
    (hR.one hy) (by simp only [maxLen]; omega) hbytes (Nat.zero_le _)
  have hvg : ∀ k, v.ownBlock = some k → w0.heap.size ≤ k := fun k hk => hF.ge k (by rw [hFe]; simp [hk])
  have hbw' : Bw w0 w' := hbw.grown hgrow hvg
  have hvF : ∀ b, b ∈ Fs.flatten → some b ≠ v.ownBlock := by
    intro b hb e
    have hn := hF.nodup
    rw [hFe, List.nodup_append] at hn
    exact hn.2.2 b (by simp [← e]) b hb rfl
  have hvf : ∀ b, b ∈ f → some b ≠ v.ownBlock := by
    intro b hb e
    have h1 := hf.ge b hb
    have h2 := hFm b (by rw [hFe]; simp [← e])
    omega
  have hlts : ∀ b ∈ Fs.flatten, b < W.heap.size := fun b hb => (fSl_good hR).lt (⟨v, us, Fs, rfl, hown, hall, rfl⟩ : fSl e sz R W xs [v] _) b (List.mem_append_right _ hb)
  have hltf : ∀ b ∈ f, b < W.heap.size := hR.lt hy
  have hold : ∀ b, b < w0.heap.size → w'.heap[b]? = W.heap[b]? := fun b hb => hgrow.block b (Nat.lt_of_lt_of_le hb hbw.size) (fun e => by have := hvg b e.symm; omega)
  refine ⟨v', w', v'.ownBlock.toList ++ (Fs ++ [f]).flatten, hrun, ⟨v', us ++ [u], Fs ++ [f], rfl, ?_, ?_, rfl⟩, ⟨?_, ?_⟩, hbw', ⟨?_, ?_⟩, ?_⟩
  · rw [List.length_append, List.flatten_append, List.flatten_singleton]; exact hown'
  · have hy' : R w' y u f := hR.step (fun b hb => hb.elim (fun hb => hgrow.block b (hltf b hb) (hvf b hb)) (hold b)) hy
    refine all3_snoc ⟨hy', hul⟩ (all3_imp (fun x u f' hf' hx => ⟨hR.step (fun b hb => ?_) hx.1, hx.2⟩) hall)
    rcases hb with hb | hb
    · have hb' : b ∈ Fs.flatten := List.mem_flatten.2 ⟨_, hf', hb⟩
      exact hgrow.block b (hlts b hb') (hvF b hb')
    · exact hold b hb
  · rw [List.flatten_append, List.flatten_singleton, List.nodup_append]
    have hn := hF.nodup
    rw [hFe, List.nodup_append] at hn
    refine ⟨by cases v'.ownBlock <;> simp, nodup_push hn.2.1 hf fun b hb => hFm b (by rw [hFe]; exact List.mem_append_right _ hb), fun p hp q hq e => ?_⟩
    subst e
    have hp' : v'.ownBlock = some p := by simpa using hp
    rcases hat with e | e
    · rcases List.mem_append.1 hq with hq | hq
      · exact hvF p hq (by rw [← e, hp'])
      · exact hvf p hq (by rw [← e, hp'])
    · rw [hp'] at e
      injection e with e
      rcases List.mem_append.1 hq with hq | hq
      · have := hlts p hq; omega
      · have := hltf p hq; omega
  · intro b hb
    rcases List.mem_append.1 hb with hb | hb
    · have hb' : v'.ownBlock = some b := by simpa using hb
      rcases hat with e | e
      · exact hvg b (by rw [← e, hb'])
      · rw [hb'] at e
        injection e with e
        have := hbw.size
        omega
    · rw [List.flatten_append, List.flatten_singleton] at hb
      rcases List.mem_append.1 hb with hb | hb
      · exact hF.ge b (by rw [hFe]; exact List.mem_append_right _ hb)
      · exact Nat.le_trans hm (hf.ge b hb)
  · exact hgrow.size
  · intro b hb hn
    exact hgrow.block b hb (fun e => hn (by rw [hFe]; simp [← e]))
  · intro b hb
    rcases List.mem_append.1 hb with hb | hb
    · have hb' : v'.ownBlock = some b := by simpa using hb
      rcases hat with e | e
      · exact .inl (by rw [hFe]; simp [← e, hb'])
      · rw [hb'] at e
        injection e with e
        exact .inr (.inr (by omega))
    · rw [List.flatten_append, List.flatten_singleton] at hb
      rcases List.mem_append.1 hb with hb | hb
      · exact .inl (by rw [hFe]; exact List.mem_append_right _ hb)
      · exact .inr (.inl hb)
theorem wp_push2 {o : Oper} {a : Act} {K : Act → World → Prop} {Q : Exit → Act → World → Prop} (W : World) (s x : Operand) (t : TypeId)
    (ho : o.op = .call { callee := .builtin .append, args := #[s, x], argTypes := #[t, t] })
    (w0 : World) (e : TypeId) (i : TypeInfo) (z : Value) (sz bytes : Nat) (ht : P.underlying t = some (.slice e)) (hi : P.info? e = some i) (hz : i.zero = some z)
    (hsize : i.size = sz) (hby : i.bytes = bytes) (hzs : z.cells.size = sz) (hsz : 0 < sz)
    {R : Fp α} (hR : GoodF w0.heap.size R) (v : Value) (xs : List α) (F : List Nat) (hs : a.eval s = v) (hv : fSl e sz R W xs [v] F) (hF : Fresh w0.heap.size F)
    (ad : Addr) (c : Nat) (hx : a.eval x = .slice (some ad) 1 c) (y : α) (u : List Value) (f : List Nat) (hu : ∀ j t, u[j]? = some t → W.cell? (ad.add j) = some t)
    (hy : R W y u f) (hul : u.length = sz) (m : Nat) (hFm : ∀ b ∈ F, b < m) (hf : Fresh m f) (hm : w0.heap.size ≤ m) (hbytes : (xs.length + 1) * bytes ≤ 140737488355328) (hlen : xs.length < 4611686018427387904) (hbw : Bw w0 W)
    (h : ∀ v' w' F', fSl e sz R w' (xs ++ [y]) [v'] F' → Fresh w0.heap.size F' → Bw w0 w' → Only F W w' → (∀ b ∈ F', b ∈ F ∨ b ∈ f ∨ W.heap.size ≤ b) → K (a.put o.dst v') w') : o.wp P a W K Q := by
  obtain ⟨v', w', F', hrun, h1, h2, h3, h4, h5⟩ := push_run2 (P := P) W w0 t o.type e i z sz bytes ht hi hz hsize hby hzs hsz hR v xs F hv hF ad c y u f hu hy hul m hFm hf hm hbytes hlen hbw
  unfold Oper.wp execOp
  simp only [ho, resolve, invoke, builtin, Sem.run_bind, Sem.run_pure, Result.andThen_ok, List.map_toArray, List.map_cons, List.map_nil, hs, hx, hrun]
  exact h v' w' F' h1 h2 h3 h4 h5
theorem wpList_push2 {ops : Array Oper} {rest : List Oper} {o : Oper} {a : Act} {Q : Exit → Act → World → Prop} (W : World) (hgd : o.guard = none) (s x : Operand) (t : TypeId)
    (ho : o.op = .call { callee := .builtin .append, args := #[s, x], argTypes := #[t, t] })
    (w0 : World) (e : TypeId) (i : TypeInfo) (z : Value) (sz bytes : Nat) (ht : P.underlying t = some (.slice e)) (hi : P.info? e = some i) (hz : i.zero = some z)
    (hsize : i.size = sz) (hby : i.bytes = bytes) (hzs : z.cells.size = sz) (hsz : 0 < sz)
    {R : Fp α} (hR : GoodF w0.heap.size R) (v : Value) (xs : List α) (F : List Nat) (hs : a.eval s = v) (hv : fSl e sz R W xs [v] F) (hF : Fresh w0.heap.size F)
    (ad : Addr) (c : Nat) (hx : a.eval x = .slice (some ad) 1 c) (y : α) (u : List Value) (f : List Nat) (hu : ∀ j t, u[j]? = some t → W.cell? (ad.add j) = some t)
    (hy : R W y u f) (hul : u.length = sz) (m : Nat) (hFm : ∀ b ∈ F, b < m) (hf : Fresh m f) (hm : w0.heap.size ≤ m) (hbytes : (xs.length + 1) * bytes ≤ 140737488355328) (hlen : xs.length < 4611686018427387904) (hbw : Bw w0 W)
    (h : ∀ v' w' F', fSl e sz R w' (xs ++ [y]) [v'] F' → Fresh w0.heap.size F' → Bw w0 w' → Only F W w' → (∀ b ∈ F', b ∈ F ∨ b ∈ f ∨ W.heap.size ≤ b) → wpList P ops Q rest (a.put o.dst v') w') : wpList P ops Q (o :: rest) a W := by
  exact wpList_plain hgd fun _ hK => wp_push2 W s x t ho w0 e i z sz bytes ht hi hz hsize hby hzs hsz hR v xs F hs hv hF ad c hx y u f hu hy hul m hFm hf hm hbytes hlen hbw fun v' w' F' h1 h2 h3 h4 h5 => hK _ _ (h v' w' F' h1 h2 h3 h4 h5)
/-- in a region that draws its order -/
theorem step_push2 {ops : Array Oper} {o : Oper} {a : Act} {K : Act → World → Prop} {Q : Exit → Act → World → Prop} {E : Prop} (W : World) (hgd : o.guard = none) (s x : Operand) (t : TypeId)
    (ho : o.op = .call { callee := .builtin .append, args := #[s, x], argTypes := #[t, t] })
    (w0 : World) (e : TypeId) (i : TypeInfo) (z : Value) (sz bytes : Nat) (ht : P.underlying t = some (.slice e)) (hi : P.info? e = some i) (hz : i.zero = some z)
    (hsize : i.size = sz) (hby : i.bytes = bytes) (hzs : z.cells.size = sz) (hsz : 0 < sz)
    {R : Fp α} (hR : GoodF w0.heap.size R) (v : Value) (xs : List α) (F : List Nat) (hs : a.eval s = v) (hv : fSl e sz R W xs [v] F) (hF : Fresh w0.heap.size F)
    (ad : Addr) (c : Nat) (hx : a.eval x = .slice (some ad) 1 c) (y : α) (u : List Value) (f : List Nat) (hu : ∀ j t, u[j]? = some t → W.cell? (ad.add j) = some t)
    (hy : R W y u f) (hul : u.length = sz) (m : Nat) (hFm : ∀ b ∈ F, b < m) (hf : Fresh m f) (hm : w0.heap.size ≤ m) (hbytes : (xs.length + 1) * bytes ≤ 140737488355328) (hlen : xs.length < 4611686018427387904) (hbw : Bw w0 W)
    (h : ∀ v' w' F', fSl e sz R w' (xs ++ [y]) [v'] F' → Fresh w0.heap.size F' → Bw w0 w' → Only F W w' → (∀ b ∈ F', b ∈ F ∨ b ∈ f ∨ W.heap.size ≤ b) → K (a.put o.dst v') w') : if Region.wanted o (yielded ops a.tmps) = true then Oper.wp P o a W K Q else E := by
  have hw : Region.wanted o (yielded ops a.tmps) = true := by simp [Region.wanted, hgd]
  rw [if_pos hw]
  exact wp_push2 W s x t ho w0 e i z sz bytes ht hi hz hsize hby hzs hsz hR v xs F hs hv hF ad c hx y u f hu hy hul m hFm hf hm hbytes hlen hbw h
end
end Go.Proofs.YtpihighajaeabaaGreat
