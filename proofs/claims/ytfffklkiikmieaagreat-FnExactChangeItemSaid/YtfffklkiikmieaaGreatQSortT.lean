/- Sorted numbers and items: what the library's sorts leave, and the reference's insertion. -/
import Derived.Test.YtfffklkiikmieaaGreatProg
import Derived.Shelf.SortM.Plain
import Derived.Shelf.SlSortCmp.WholeK
import Derived.Test.YtfffklkiikmieaaGreatQOwn3
import Derived.Test.YtfffklkiikmieaaGreatQItems
import Derived.Sort.OwnSortedInts
namespace Go.Proofs.YtfffklkiikmieaaGreat
open Go.Shelf
set_option linter.unusedVariables false
def layInts_ren : Go.Shelf.Ren := ⟨fun | 5 => 69 | 8 => 110 | 7 => 109 | 19 => 143 | 20 => 144 | 10 => 134 | 11 => 135 | 12 => 136 | 13 => 137 | 14 => 138 | 15 => 139 | 16 => 140 | 17 => 141 | 18 => 142 | 30 => 167 | 31 => 168 | 32 => 169 | 33 => 170 | 34 => 171 | 35 => 172 | 40 => 182 | n => n, fun | 23 => 41 | 25 => 3 | 3 => 3 | 32 => 116 | 22 => 41 | 0 => 0 | 44 => 144 | 46 => 146 | 4 => 4 | 36 => 136 | 35 => 135 | 41 => 141 | 5 => 5 | 9 => 9 | 53 => 159 | 57 => 163 | 63 => 175 | 64 => 176 | n => n, fun | n => n⟩
set_option maxRecDepth 100000 in
theorem layInts : Go.Proofs.SlLaysM.n5 Tryz.prog layInts_ren := {
  mixed := by kernel_rfl
  f5 := ⟨Tryz.f69.name, by decide, Tryz.func69.trans (congrArg some (by kernel_rfl))⟩
  f7 := ⟨Tryz.f109.name, by decide, Tryz.func109.trans (congrArg some (by kernel_rfl))⟩
  f8 := Tryz.func110.trans (congrArg some (by kernel_rfl))
  f10 := ⟨Tryz.f134.name, by decide, Tryz.func134.trans (congrArg some (by kernel_rfl))⟩
  f11 := ⟨Tryz.f135.name, by decide, Tryz.func135.trans (congrArg some (by kernel_rfl))⟩
  f12 := ⟨Tryz.f136.name, by decide, Tryz.func136.trans (congrArg some (by kernel_rfl))⟩
  f13 := ⟨Tryz.f137.name, by decide, Tryz.func137.trans (congrArg some (by kernel_rfl))⟩
  f14 := ⟨Tryz.f138.name, by decide, Tryz.func138.trans (congrArg some (by kernel_rfl))⟩
  f15 := ⟨Tryz.f139.name, by decide, Tryz.func139.trans (congrArg some (by kernel_rfl))⟩
  f16 := ⟨Tryz.f140.name, by decide, Tryz.func140.trans (congrArg some (by kernel_rfl))⟩
  f17 := ⟨Tryz.f141.name, by decide, Tryz.func141.trans (congrArg some (by kernel_rfl))⟩
  f18 := ⟨Tryz.f142.name, by decide, Tryz.func142.trans (congrArg some (by kernel_rfl))⟩
  f19 := Tryz.func143.trans (congrArg some (by kernel_rfl))
  f20 := Tryz.func144.trans (congrArg some (by kernel_rfl))
  f30 := ⟨Tryz.f167.name, by decide, Tryz.func167.trans (congrArg some (by kernel_rfl))⟩
  f31 := Tryz.func168.trans (congrArg some (by kernel_rfl))
  f32 := Tryz.func169.trans (congrArg some (by kernel_rfl))
  f33 := ⟨Tryz.f170.name, by decide, Tryz.func170.trans (congrArg some (by kernel_rfl))⟩
  f34 := ⟨Tryz.f171.name, by decide, Tryz.func171.trans (congrArg some (by kernel_rfl))⟩
  f35 := ⟨Tryz.f172.name, by decide, Tryz.func172.trans (congrArg some (by kernel_rfl))⟩
  f40 := ⟨Tryz.f182.name, by decide, Tryz.func182.trans (congrArg some (by kernel_rfl))⟩
  t0 := Tryz.underlying0
  a0 := Tryz.isAgg0
  z0 := Tryz.sizeOf0
  v0 := Tryz.zeroValue0
  t3 := Tryz.underlying3
  a3 := Tryz.isAgg3
  z3 := Tryz.sizeOf3
  v3 := Tryz.zeroValue3
  t4 := Tryz.underlying4
  a4 := Tryz.isAgg4
  z4 := Tryz.sizeOf4
  v4 := Tryz.zeroValue4
  t5 := Tryz.underlying5
  a5 := Tryz.isAgg5
  z5 := Tryz.sizeOf5
  v5 := Tryz.zeroValue5
  t9 := Tryz.underlying9
  a9 := Tryz.isAgg9
  z9 := Tryz.sizeOf9
  v9 := Tryz.zeroValue9
  t22 := Tryz.underlying41
  a22 := Tryz.isAgg41
  z22 := Tryz.sizeOf41
  v22 := Tryz.zeroValue41
  t23 := Tryz.underlying41
  a23 := Tryz.isAgg41
  z23 := Tryz.sizeOf41
  v23 := Tryz.zeroValue41
  t25 := Tryz.underlying3
  a25 := Tryz.isAgg3
  z25 := Tryz.sizeOf3
  v25 := Tryz.zeroValue3
  t32 := Tryz.underlying116
  a32 := Tryz.isAgg116
  z32 := Tryz.sizeOf116
  v32 := Tryz.zeroValue116
  t35 := Tryz.underlying135
  a35 := Tryz.isAgg135
  z35 := Tryz.sizeOf135
  v35 := Tryz.zeroValue135
  t36 := Tryz.underlying136
  a36 := Tryz.isAgg136
  z36 := Tryz.sizeOf136
  v36 := Tryz.zeroValue136
  t41 := Tryz.underlying141
  a41 := Tryz.isAgg141
  z41 := Tryz.sizeOf141
  v41 := Tryz.zeroValue141
  t44 := Tryz.underlying144
  a44 := Tryz.isAgg144
  z44 := Tryz.sizeOf144
  v44 := Tryz.zeroValue144
  t46 := Tryz.underlying146
  a46 := Tryz.isAgg146
  z46 := Tryz.sizeOf146
  v46 := Tryz.zeroValue146
  t53 := Tryz.underlying159
  a53 := Tryz.isAgg159
  z53 := Tryz.sizeOf159
  v53 := Tryz.zeroValue159
  t57 := Tryz.underlying163
  a57 := Tryz.isAgg163
  z57 := Tryz.sizeOf163
  v57 := Tryz.zeroValue163
  t63 := Tryz.underlying175
  a63 := Tryz.isAgg175
  z63 := Tryz.sizeOf175
  v63 := Tryz.zeroValue175
  t64 := Tryz.underlying176
  a64 := Tryz.isAgg176
  z64 := Tryz.sizeOf176
  v64 := Tryz.zeroValue176 }
def layItems_ren : Go.Shelf.Ren := ⟨fun | 6 => 78 | 15 => 110 | 14 => 117 | 28 => 143 | 29 => 144 | 20 => 150 | 21 => 151 | 22 => 152 | 23 => 153 | 24 => 154 | 25 => 155 | 26 => 156 | 27 => 157 | 46 => 175 | 47 => 168 | 48 => 169 | 49 => 176 | 50 => 177 | 57 => 183 | n => n, fun | 22 => 29 | 24 => 58 | 25 => 87 | 3 => 3 | 39 => 116 | 0 => 0 | 53 => 144 | 55 => 146 | 4 => 4 | 46 => 136 | 45 => 135 | 50 => 141 | 5 => 5 | 9 => 9 | 66 => 159 | 70 => 163 | 76 => 175 | 77 => 176 | n => n, fun | n => n⟩
set_option maxRecDepth 100000 in
theorem layItems : Go.Proofs.SlLaysF0.n6 Tryz.prog layItems_ren := {
  mixed := by kernel_rfl
  f6 := ⟨Tryz.f78.name, by decide, Tryz.func78.trans (congrArg some (by kernel_rfl))⟩
  f14 := ⟨Tryz.f117.name, by decide, Tryz.func117.trans (congrArg some (by kernel_rfl))⟩
  f15 := Tryz.func110.trans (congrArg some (by kernel_rfl))
  f20 := ⟨Tryz.f150.name, by decide, Tryz.func150.trans (congrArg some (by kernel_rfl))⟩
  f21 := ⟨Tryz.f151.name, by decide, Tryz.func151.trans (congrArg some (by kernel_rfl))⟩
  f22 := ⟨Tryz.f152.name, by decide, Tryz.func152.trans (congrArg some (by kernel_rfl))⟩
  f23 := ⟨Tryz.f153.name, by decide, Tryz.func153.trans (congrArg some (by kernel_rfl))⟩
  f24 := ⟨Tryz.f154.name, by decide, Tryz.func154.trans (congrArg some (by kernel_rfl))⟩
  f25 := ⟨Tryz.f155.name, by decide, Tryz.func155.trans (congrArg some (by kernel_rfl))⟩
  f26 := ⟨Tryz.f156.name, by decide, Tryz.func156.trans (congrArg some (by kernel_rfl))⟩
  f27 := ⟨Tryz.f157.name, by decide, Tryz.func157.trans (congrArg some (by kernel_rfl))⟩
  f28 := Tryz.func143.trans (congrArg some (by kernel_rfl))
  f29 := Tryz.func144.trans (congrArg some (by kernel_rfl))
  f46 := ⟨Tryz.f175.name, by decide, Tryz.func175.trans (congrArg some (by kernel_rfl))⟩
  f47 := Tryz.func168.trans (congrArg some (by kernel_rfl))
  f48 := Tryz.func169.trans (congrArg some (by kernel_rfl))
  f49 := ⟨Tryz.f176.name, by decide, Tryz.func176.trans (congrArg some (by kernel_rfl))⟩
  f50 := ⟨Tryz.f177.name, by decide, Tryz.func177.trans (congrArg some (by kernel_rfl))⟩
  f57 := ⟨Tryz.f183.name, by decide, Tryz.func183.trans (congrArg some (by kernel_rfl))⟩
  t0 := Tryz.underlying0
  a0 := Tryz.isAgg0
  z0 := Tryz.sizeOf0
  v0 := Tryz.zeroValue0
  t3 := Tryz.underlying3
  a3 := Tryz.isAgg3
  z3 := Tryz.sizeOf3
  v3 := Tryz.zeroValue3
  t4 := Tryz.underlying4
  a4 := Tryz.isAgg4
  z4 := Tryz.sizeOf4
  v4 := Tryz.zeroValue4
  t5 := Tryz.underlying5
  a5 := Tryz.isAgg5
  z5 := Tryz.sizeOf5
  v5 := Tryz.zeroValue5
  t9 := Tryz.underlying9
  a9 := Tryz.isAgg9
  z9 := Tryz.sizeOf9
  v9 := Tryz.zeroValue9
  t22 := Tryz.underlying29
  a22 := Tryz.isAgg29
  z22 := Tryz.sizeOf29
  v22 := Tryz.zeroValue29
  t25 := Tryz.underlying87
  a25 := Tryz.isAgg87
  z25 := Tryz.sizeOf87
  v25 := Tryz.zeroValue87
  t39 := Tryz.underlying116
  a39 := Tryz.isAgg116
  z39 := Tryz.sizeOf116
  v39 := Tryz.zeroValue116
  t45 := Tryz.underlying135
  a45 := Tryz.isAgg135
  z45 := Tryz.sizeOf135
  v45 := Tryz.zeroValue135
  t46 := Tryz.underlying136
  a46 := Tryz.isAgg136
  z46 := Tryz.sizeOf136
  v46 := Tryz.zeroValue136
  t50 := Tryz.underlying141
  a50 := Tryz.isAgg141
  z50 := Tryz.sizeOf141
  v50 := Tryz.zeroValue141
  t53 := Tryz.underlying144
  a53 := Tryz.isAgg144
  z53 := Tryz.sizeOf144
  v53 := Tryz.zeroValue144
  t55 := Tryz.underlying146
  a55 := Tryz.isAgg146
  z55 := Tryz.sizeOf146
  v55 := Tryz.zeroValue146
  t66 := Tryz.underlying159
  a66 := Tryz.isAgg159
  z66 := Tryz.sizeOf159
  v66 := Tryz.zeroValue159
  t70 := Tryz.underlying163
  a70 := Tryz.isAgg163
  z70 := Tryz.sizeOf163
  v70 := Tryz.zeroValue163
  t76 := Tryz.underlying175
  a76 := Tryz.isAgg175
  z76 := Tryz.sizeOf175
  v76 := Tryz.zeroValue175
  t77 := Tryz.underlying176
  a77 := Tryz.isAgg176
  z77 := Tryz.sizeOf176
  v77 := Tryz.zeroValue176 }
end Go.Proofs.YtfffklkiikmieaaGreat

namespace Go.Proofs.YtfffklkiikmieaaGreat
open Go.RowKit
set_option linter.unusedVariables false
theorem Bw.only {a b : World} (F : List Nat) (h : Bw a b) : Only F a b := ⟨h.size, fun x hx _ => Below.block h x hx⟩
theorem Only.push {g : Nat} {F : List Nat} {a b c : World} (h : Only [g] a b) (k : Only F b c) (hF : ∀ x ∈ F, x = g ∨ a.heap.size ≤ x) : Only [g] a c := ⟨Nat.le_trans h.1 k.1, fun x hx hn => (k.2 x (Nat.lt_of_lt_of_le hx h.1) (fun e => (hF x e).elim (fun e => hn (by simp [e])) (fun e => by omega))).trans (h.2 x hx hn)⟩
/-- a result in memory and one more -/
def Two {α : Type} (f : Fp α) (B : Nat) (x : α) (z : Value) (w : World) (u : Value) : Prop := ∃ v, u = .tuple #[v, z] ∧ Made f B x w v
theorem RetV.two {α : Type} {f : Fp α} {w w' : World} {x : α} {v z z' : Value} {F : List Nat} (h : f w' x [v] F) (hF : Fresh w.heap.size F) (hz : z = z') (hb : Bw w w') : RetV w (Two f w.heap.size x z') (.returned (.tuple #[v, z])) w' := ⟨_, rfl, ⟨v, by rw [hz], F, h, hF⟩, hb⟩
end Go.Proofs.YtfffklkiikmieaaGreat

namespace Go.Proofs.YtfffklkiikmieaaGreat
open Go.RowKit
set_option linter.unusedVariables false
set_option linter.unusedSimpArgs false
theorem only_setCell (p o : Nat) (w : World) (u : Value) : Only [p] w (w.setCell ⟨p, o, none⟩ u) := ⟨by simp, fun b _ hn => Below.heap_setCell _ _ _ _ (by simpa using hn)⟩
theorem Only.bwNext {F : List Nat} {a b c : World} (h : Only F a b) (k : Bw b c) : Only F a c := h.then (k.only F) (fun _ h => h)
theorem Only.two {p : Nat} {a b c : World} (h : Only [p] a b) (k : Only [p] b c) : Only [p] a c := h.then k (fun _ h => h)
theorem Only.frozen {F : List Nat} {w w' : World} (h : Only F w w') {b : Nat} (hb : b < w.heap.size) (hd : b ∉ F) (o : Nat) : w'.frozen? ⟨b, o, none⟩ = w.frozen? ⟨b, o, none⟩ := World.frozen?_of_block (h.2 _ hb hd)
theorem Fresh.raise {a B m : Nat} {F f F' : List Nat} (h : Fresh a F') (h5 : ∀ b ∈ F', b ∈ F ∨ b ∈ f ∨ m ≤ b) (hF : ∀ b ∈ F, B ≤ b) (hf : ∀ b ∈ f, B ≤ b) (hm : B ≤ m) : Fresh B F' :=
  ⟨h.nodup, fun b hb => (h5 b hb).elim (hF b) (fun h => h.elim (hf b) (fun h => Nat.le_trans hm h))⟩
/-- a block of two cells -/
structure Box2 (W : World) (b : Nat) (x y : Value) : Prop where
  c0 : W.cell? ⟨b, 0, none⟩ = some x
  c1 : W.cell? ⟨b, 1, none⟩ = some y
  fr : ∀ o, W.frozen? ⟨b, o, none⟩ = false
theorem Box2.lt {W : World} {b : Nat} {x y : Value} (h : Box2 W b x y) : b < W.heap.size := World.block_lt_of_cell? _ _ h.c0
theorem Box2.only {F : List Nat} {w w' : World} {b : Nat} {x y : Value} (h : Box2 w b x y) (hO : Only F w w') (hd : b ∉ F) : Box2 w' b x y := ⟨hO.cell h.c0 hd, hO.cell h.c1 hd, fun o => (hO.frozen h.lt hd o).trans (h.fr o)⟩
theorem Box2.bw {w w' : World} {b : Nat} {x y : Value} (h : Box2 w b x y) (hb : Bw w w') : Box2 w' b x y := ⟨hb.cell h.c0, hb.cell h.c1, fun o => (bw_frozen hb b o h.lt).trans (h.fr o)⟩
theorem Box2.new (w : World) (x y : Value) (t : TypeId) : Box2 (w.alloc (.cells #[x, y] t)) w.heap.size x y := ⟨by go_simp, by go_simp, fun o => by go_simp⟩
theorem keepBw {W W' : World} (hb : Bw W W') {α : Type} {R : Fp α} (hR : GoodF 0 R) {x : α} {cs : List Value} {F : List Nat} (hx : R W x cs F) : R W' x cs F := hR.bw hb (Nat.zero_le _) hx
theorem keepSet {W : World} {b o : Nat} {u : Value} {α : Type} {R : Fp α} (hR : GoodF 0 R) {x : α} {cs : List Value} {F : List Nat} (hx : R W x cs F) (hF : b ∉ F) : R (W.setCell ⟨b, o, none⟩ u) x cs F :=
  (only_setCell b o W u).keeps hR hx fun c hc e => by simp at e; exact hF (e ▸ hc)
/-- a block of cells -/
structure Box (W : World) (b : Nat) (vs : List Value) : Prop where
  lt : b < W.heap.size
  c : ∀ j v, vs[j]? = some v → W.cell? ⟨b, j, none⟩ = some v
  fr : ∀ o, W.frozen? ⟨b, o, none⟩ = false
theorem Box.only {F : List Nat} {w w' : World} {b : Nat} {vs : List Value} (h : Box w b vs) (hO : Only F w w') (hd : b ∉ F) : Box w' b vs := ⟨Nat.lt_of_lt_of_le h.lt hO.1, fun j v hv => hO.cell (h.c j v hv) hd, fun o => (hO.frozen h.lt hd o).trans (h.fr o)⟩
theorem Box.bw {w w' : World} {b : Nat} {vs : List Value} (h : Box w b vs) (hb : Bw w w') : Box w' b vs := h.only (hb.only []) (by simp)
theorem Box.new (w : World) (cs : Array Value) (t : TypeId) : Box (w.alloc (.cells cs t)) w.heap.size cs.toList := ⟨by simp, fun j v hv => by
  have := World.news_of_block (cs := cs) (t := t) (fr := (0, 0)) (heap_alloc_new w (.cells cs t)) j v hv
  have hadd : (⟨w.heap.size, 0, none⟩ : Addr).add j = ⟨w.heap.size, j, none⟩ := by unfold Addr.add; split <;> simp_all
  rwa [hadd] at this, fun o => by go_simp⟩
theorem cell_set_same {W : World} {b o : Nat} {x u : Value} (h : W.cell? ⟨b, o, none⟩ = some x) : (W.setCell ⟨b, o, none⟩ u).cell? ⟨b, o, none⟩ = some u := by go_simp
theorem cell_set_other {W : World} {b o k : Nat} {x u : Value} (h : W.cell? ⟨b, k, none⟩ = some x) (hk : k ≠ o) : (W.setCell ⟨b, o, none⟩ u).cell? ⟨b, k, none⟩ = some x := by go_simp
theorem Box.set {W : World} {b j : Nat} {vs : List Value} (h : Box W b vs) (hj : j < vs.length) (u : Value) : Box (W.setCell ⟨b, j, none⟩ u) b (vs.set j u) := by
  refine ⟨by have := h.lt; simpa using this, fun k v hv => ?_, fun o => ?_⟩
  · rw [List.getElem?_set] at hv
    by_cases hk : j = k
    · rw [if_pos hk, if_pos (by omega)] at hv
      injection hv with hv
      subst hv hk
      exact cell_set_same (h.c j _ (List.getElem?_eq_getElem hj))
    · rw [if_neg hk] at hv
      exact cell_set_other (h.c k v hv) (fun e => hk e.symm)
  · have h0 := h.fr o; go_simp
/-- four stores into a block -/
def set4 (W : World) (b : Nat) (a0 a1 a2 a3 : Value) : World := (((W.setCell ⟨b, 0, none⟩ a0).setCell ⟨b, 1, none⟩ a1).setCell ⟨b, 2, none⟩ a2).setCell ⟨b, 3, none⟩ a3
theorem keepSet4 {W : World} {b : Nat} {a0 a1 a2 a3 : Value} {α : Type} {R : Fp α} (hR : GoodF 0 R) {x : α} {cs : List Value} {F : List Nat} (hx : R W x cs F) (hF : b ∉ F) : R (set4 W b a0 a1 a2 a3) x cs F := keepSet hR (keepSet hR (keepSet hR (keepSet hR hx hF) hF) hF) hF
theorem Bw.set4 {w W : World} {b : Nat} {a0 a1 a2 a3 : Value} (h : Bw w W) (hb : w.heap.size ≤ b) : Bw w (set4 W b a0 a1 a2 a3) := (((h.set (p := ⟨b, 0, none⟩) hb _).set (p := ⟨b, 1, none⟩) hb _).set (p := ⟨b, 2, none⟩) hb _).set (p := ⟨b, 3, none⟩) hb _
end Go.Proofs.YtfffklkiikmieaaGreat

namespace Go.Proofs.YtfffklkiikmieaaGreat
open Go.RowKit
set_option linter.unusedVariables false
set_option linter.unusedSimpArgs false
def sortI (l : List Int) : List Int := l.mergeSort fun x y => decide (x ≤ y)
theorem sortI_perm (l : List Int) : (sortI l).Perm l := List.mergeSort_perm l _
theorem sortI_sorted (l : List Int) : (sortI l).Pairwise (· ≤ ·) := by
  have h := List.pairwise_mergeSort (le := fun x y : Int => decide (x ≤ y)) (fun a b c h1 h2 => by simp at *; omega) (fun a b => by simp; omega) l
  exact h.imp (fun h => by simpa using h)
theorem sortI_len (l : List Int) : (sortI l).length = l.length := (sortI_perm l).length_eq
theorem sortI_uniq {l m : List Int} (hp : m.Perm l) (hs : m.Pairwise (· ≤ ·)) : m = sortI l :=
  List.Perm.eq_of_pairwise (fun a b _ _ h1 h2 => by omega) hs (sortI_sorted l) (hp.trans (sortI_perm l).symm)
theorem sortI_nil : sortI [] = [] := List.eq_nil_of_length_eq_zero (sortI_len [])
theorem all3_intsQ : ∀ {xs : List Int} {us : List (List Value)} {fs : List (List Nat)} {w : World}, all3 (fun x u f => fInt w x u f ∧ u.length = 1) xs us fs → us.flatten = xs.map (Value.int .i64) ∧ fs.flatten = []
  | [], [], [], _, _ => ⟨rfl, rfl⟩
  | x :: xs, u :: us, f :: fs, w, h => by
    have ih := all3_intsQ (xs := xs) (w := w) h.2
    obtain ⟨⟨hu, hf⟩, _⟩ := h.1
    rw [List.flatten_cons, List.flatten_cons, ih.1, ih.2, hu, hf]
    exact ⟨rfl, rfl⟩
  | [], _ :: _, _, _, h | [], [], _ :: _, _, h | _ :: _, [], _, _, h | _ :: _, _ :: _, [], _, h => h.elim
theorem fInts_own {w : World} {xs : List Int} {v : Value} {F : List Nat} (h : fInts w xs [v] F) : w.ownsRow 0 3 1 v xs.length (xs.map (Value.int .i64)) ∧ F = v.ownBlock.toList := by
  obtain ⟨v', us, Fs, e, hown, hall, hF⟩ := h
  injection e with e
  subst e
  obtain ⟨h1, h2⟩ := all3_intsQ hall
  rw [h1] at hown
  rw [h2, List.append_nil] at hF
  exact ⟨hown, hF⟩
theorem own_fInts {w : World} {xs : List Int} {v : Value} (h : w.ownsRow 0 3 1 v xs.length (xs.map (Value.int .i64))) : fInts w xs [v] v.ownBlock.toList := by
  refine ⟨v, xs.map (fun x => [Value.int .i64 x]), List.replicate xs.length [], rfl, ?_, ?_, ?_⟩
  · have : (xs.map (fun x => [Value.int .i64 x])).flatten = xs.map (Value.int .i64) := by
      clear h
      induction xs with
      | nil => rfl
      | cons x xs ih => rw [List.map_cons, List.flatten_cons, List.map_cons]; simp_all
    rw [this]; exact h
  · clear h
    induction xs with
    | nil => trivial
    | cons x xs ih => exact ⟨⟨⟨rfl, rfl⟩, rfl⟩, ih⟩
  · rw [flatten_replicate_nil, List.append_nil]
/-- what a sort leaves -/
def RetSort (w : World) (xs : List Int) (v : Value) (F : List Nat) (e : Ending) (w' : World) : Prop := e = .returned (.tuple #[]) ∧ fInts w' (sortI xs) [v] F ∧ Only F w w' ∧ ∀ w0 : World, Bw w0 w → (∀ b ∈ F, w0.heap.size ≤ b) → Bw w0 w'
set_option maxRecDepth 100000 in
theorem I_Sort (w : World) (xs : List Int) (g c : Nat) (F : List Nat) (h : fInts w xs [.slice (some ⟨g, 0, none⟩) xs.length c] F) (hn : xs.length ≤ 1048576) :
    Calls Tryz.prog 69 #[.slice (some ⟨g, 0, none⟩) xs.length c] w (RetSort w xs (.slice (some ⟨g, 0, none⟩) xs.length c) F) := by
  obtain ⟨hown, rfl⟩ := fInts_own h
  rcases hown.2 with ⟨h0, _⟩ | ⟨g', cap, cur, hv, hbase, hb, h1, h2, h3, h4⟩
  · cases h0
  injection hv with hv1 hv2 hv3
  injection hv1 with hv1
  injection hv1 with hv1
  subst hv1 hv3
  have hcon := AnyM.slices_Sort_int layInts g 0 c xs w (Go.holds_of_blockI hb (by simpa using h4)) (Array.getElem?_eq_some_iff.1 hb).1 (by omega)
  change Calls Tryz.prog 69 _ _ _ at hcon
  refine hcon.mono ?_
  rintro e w' ⟨rfl, n, os, rfl⟩
  have hlen : (xs.mergeSort fun x y => decide (x ≤ y)).length = xs.length := by simp
  have ho := Go.ownsRow_sortedI (base := 0) (n := n) (os := os) hlen hbase hb h1 h2 h3
  have hg := Go.grownBy_sortedI (w := w) (g := g) (n := n) (os := os) (xs.mergeSort fun x y => decide (x ≤ y)).toArray
  refine ⟨rfl, ?_, Only.of_grown hg hg.size (by simp [Value.ownBlock]), fun w0 hbw hF => hbw.grown hg (fun k hk => hF k (by simpa [Value.ownBlock] using hk.symm))⟩
  have := own_fInts (w := Go.Sort.grow (Go.Sort.putRow (Value.int .i64) (Go.Sort.ahead w n) g 0 (xs.mergeSort fun x y => decide (x ≤ y)).toArray) os) (xs := sortI xs) (v := .slice (some ⟨g, 0, none⟩) xs.length c) (by rw [sortI_len]; exact ho)
  exact this
end Go.Proofs.YtfffklkiikmieaaGreat
