/- Standing answers that change: plain model. No program in sight. -/
import Derived.Test.YtpihighajaeabaaGreatProg
import Derived.Shelf.SortM.Plain
import Derived.Shelf.SlSortCmp.WholeK
import Derived.Test.YtpihighajaeabaaGreatQBoxT
import Derived.Sort.OwnSortedInts
import Derived.Test.YtpihighajaeabaaGreatQExclS
import Derived.Test.YtpihighajaeabaaGreatQNewSt
namespace Go.Proofs.YtpihighajaeabaaGreat
open Go.Shelf
set_option linter.unusedVariables false
def layInts_ren : Go.Shelf.Ren := ⟨fun | 5 => 79 | 8 => 163 | 7 => 162 | 19 => 216 | 20 => 217 | 10 => 207 | 11 => 208 | 12 => 209 | 13 => 210 | 14 => 211 | 15 => 212 | 16 => 213 | 17 => 214 | 18 => 215 | 30 => 261 | 31 => 262 | 32 => 263 | 33 => 264 | 34 => 265 | 35 => 266 | 40 => 283 | n => n, fun | 23 => 26 | 25 => 3 | 3 => 3 | 32 => 159 | 22 => 26 | 0 => 0 | 44 => 199 | 46 => 201 | 4 => 4 | 36 => 191 | 35 => 190 | 41 => 196 | 5 => 5 | 9 => 9 | 53 => 231 | 57 => 235 | 63 => 247 | 64 => 248 | n => n, fun | n => n⟩
set_option maxRecDepth 100000 in
theorem layInts : Go.Proofs.SlLaysM.n5 Tryz.prog layInts_ren := {
  mixed := by kernel_rfl
  f5 := ⟨Tryz.f79.name, by decide, Tryz.func79.trans (congrArg some (by kernel_rfl))⟩
  f7 := ⟨Tryz.f162.name, by decide, Tryz.func162.trans (congrArg some (by kernel_rfl))⟩
  f8 := Tryz.func163.trans (congrArg some (by kernel_rfl))
  f10 := ⟨Tryz.f207.name, by decide, Tryz.func207.trans (congrArg some (by kernel_rfl))⟩
  f11 := ⟨Tryz.f208.name, by decide, Tryz.func208.trans (congrArg some (by kernel_rfl))⟩
  f12 := ⟨Tryz.f209.name, by decide, Tryz.func209.trans (congrArg some (by kernel_rfl))⟩
  f13 := ⟨Tryz.f210.name, by decide, Tryz.func210.trans (congrArg some (by kernel_rfl))⟩
  f14 := ⟨Tryz.f211.name, by decide, Tryz.func211.trans (congrArg some (by kernel_rfl))⟩
  f15 := ⟨Tryz.f212.name, by decide, Tryz.func212.trans (congrArg some (by kernel_rfl))⟩
  f16 := ⟨Tryz.f213.name, by decide, Tryz.func213.trans (congrArg some (by kernel_rfl))⟩
  f17 := ⟨Tryz.f214.name, by decide, Tryz.func214.trans (congrArg some (by kernel_rfl))⟩
  f18 := ⟨Tryz.f215.name, by decide, Tryz.func215.trans (congrArg some (by kernel_rfl))⟩
  f19 := Tryz.func216.trans (congrArg some (by kernel_rfl))
  f20 := Tryz.func217.trans (congrArg some (by kernel_rfl))
  f30 := ⟨Tryz.f261.name, by decide, Tryz.func261.trans (congrArg some (by kernel_rfl))⟩
  f31 := Tryz.func262.trans (congrArg some (by kernel_rfl))
  f32 := Tryz.func263.trans (congrArg some (by kernel_rfl))
  f33 := ⟨Tryz.f264.name, by decide, Tryz.func264.trans (congrArg some (by kernel_rfl))⟩
  f34 := ⟨Tryz.f265.name, by decide, Tryz.func265.trans (congrArg some (by kernel_rfl))⟩
  f35 := ⟨Tryz.f266.name, by decide, Tryz.func266.trans (congrArg some (by kernel_rfl))⟩
  f40 := ⟨Tryz.f283.name, by decide, Tryz.func283.trans (congrArg some (by kernel_rfl))⟩
  t0 := Tryz.underlying0
  a0 := Tryz.isAgg0
  z0 := Tryz.sizeOf0
  v0 := Tryz.zeroValue0
  t3 := Tryz.underlying3
  a3 := Tryz.isAgg3
  z3 := Tryz.sizeOf3
  v3 := Tryz.zeroValue3
  t4 := Tryz.underlying4
  a4 := Tryz.isAgg4
  z4 := Tryz.sizeOf4
  v4 := Tryz.zeroValue4
  t5 := Tryz.underlying5
  a5 := Tryz.isAgg5
  z5 := Tryz.sizeOf5
  v5 := Tryz.zeroValue5
  t9 := Tryz.underlying9
  a9 := Tryz.isAgg9
  z9 := Tryz.sizeOf9
  v9 := Tryz.zeroValue9
  t22 := Tryz.underlying26
  a22 := Tryz.isAgg26
  z22 := Tryz.sizeOf26
  v22 := Tryz.zeroValue26
  t23 := Tryz.underlying26
  a23 := Tryz.isAgg26
  z23 := Tryz.sizeOf26
  v23 := Tryz.zeroValue26
  t25 := Tryz.underlying3
  a25 := Tryz.isAgg3
  z25 := Tryz.sizeOf3
  v25 := Tryz.zeroValue3
  t32 := Tryz.underlying159
  a32 := Tryz.isAgg159
  z32 := Tryz.sizeOf159
  v32 := Tryz.zeroValue159
  t35 := Tryz.underlying190
  a35 := Tryz.isAgg190
  z35 := Tryz.sizeOf190
  v35 := Tryz.zeroValue190
  t36 := Tryz.underlying191
  a36 := Tryz.isAgg191
  z36 := Tryz.sizeOf191
  v36 := Tryz.zeroValue191
  t41 := Tryz.underlying196
  a41 := Tryz.isAgg196
  z41 := Tryz.sizeOf196
  v41 := Tryz.zeroValue196
  t44 := Tryz.underlying199
  a44 := Tryz.isAgg199
  z44 := Tryz.sizeOf199
  v44 := Tryz.zeroValue199
  t46 := Tryz.underlying201
  a46 := Tryz.isAgg201
  z46 := Tryz.sizeOf201
  v46 := Tryz.zeroValue201
  t53 := Tryz.underlying231
  a53 := Tryz.isAgg231
  z53 := Tryz.sizeOf231
  v53 := Tryz.zeroValue231
  t57 := Tryz.underlying235
  a57 := Tryz.isAgg235
  z57 := Tryz.sizeOf235
  v57 := Tryz.zeroValue235
  t63 := Tryz.underlying247
  a63 := Tryz.isAgg247
  z63 := Tryz.sizeOf247
  v63 := Tryz.zeroValue247
  t64 := Tryz.underlying248
  a64 := Tryz.isAgg248
  z64 := Tryz.sizeOf248
  v64 := Tryz.zeroValue248 }
def layItems_ren : Go.Shelf.Ren := ⟨fun | 6 => 81 | 15 => 163 | 14 => 164 | 28 => 216 | 29 => 217 | 20 => 218 | 21 => 219 | 22 => 220 | 23 => 221 | 24 => 222 | 25 => 223 | 26 => 224 | 27 => 225 | 46 => 267 | 47 => 262 | 48 => 263 | 49 => 268 | 50 => 269 | 57 => 284 | n => n, fun | 22 => 24 | 24 => 30 | 25 => 95 | 3 => 3 | 39 => 159 | 0 => 0 | 53 => 199 | 55 => 201 | 4 => 4 | 46 => 191 | 45 => 190 | 50 => 196 | 5 => 5 | 9 => 9 | 66 => 231 | 70 => 235 | 76 => 247 | 77 => 248 | n => n, fun | n => n⟩
set_option maxRecDepth 100000 in
theorem layItems : Go.Proofs.SlLaysF0.n6 Tryz.prog layItems_ren := {
  mixed := by kernel_rfl
  f6 := ⟨Tryz.f81.name, by decide, Tryz.func81.trans (congrArg some (by kernel_rfl))⟩
  f14 := ⟨Tryz.f164.name, by decide, Tryz.func164.trans (congrArg some (by kernel_rfl))⟩
  f15 := Tryz.func163.trans (congrArg some (by kernel_rfl))
  f20 := ⟨Tryz.f218.name, by decide, Tryz.func218.trans (congrArg some (by kernel_rfl))⟩
  f21 := ⟨Tryz.f219.name, by decide, Tryz.func219.trans (congrArg some (by kernel_rfl))⟩
  f22 := ⟨Tryz.f220.name, by decide, Tryz.func220.trans (congrArg some (by kernel_rfl))⟩
  f23 := ⟨Tryz.f221.name, by decide, Tryz.func221.trans (congrArg some (by kernel_rfl))⟩
  f24 := ⟨Tryz.f222.name, by decide, Tryz.func222.trans (congrArg some (by kernel_rfl))⟩
  f25 := ⟨Tryz.f223.name, by decide, Tryz.func223.trans (congrArg some (by kernel_rfl))⟩
  f26 := ⟨Tryz.f224.name, by decide, Tryz.func224.trans (congrArg some (by kernel_rfl))⟩
  f27 := ⟨Tryz.f225.name, by decide, Tryz.func225.trans (congrArg some (by kernel_rfl))⟩
  f28 := Tryz.func216.trans (congrArg some (by kernel_rfl))
  f29 := Tryz.func217.trans (congrArg some (by kernel_rfl))
  f46 := ⟨Tryz.f267.name, by decide, Tryz.func267.trans (congrArg some (by kernel_rfl))⟩
  f47 := Tryz.func262.trans (congrArg some (by kernel_rfl))
  f48 := Tryz.func263.trans (congrArg some (by kernel_rfl))
  f49 := ⟨Tryz.f268.name, by decide, Tryz.func268.trans (congrArg some (by kernel_rfl))⟩
  f50 := ⟨Tryz.f269.name, by decide, Tryz.func269.trans (congrArg some (by kernel_rfl))⟩
  f57 := ⟨Tryz.f284.name, by decide, Tryz.func284.trans (congrArg some (by kernel_rfl))⟩
  t0 := Tryz.underlying0
  a0 := Tryz.isAgg0
  z0 := Tryz.sizeOf0
  v0 := Tryz.zeroValue0
  t3 := Tryz.underlying3
  a3 := Tryz.isAgg3
  z3 := Tryz.sizeOf3
  v3 := Tryz.zeroValue3
  t4 := Tryz.underlying4
  a4 := Tryz.isAgg4
  z4 := Tryz.sizeOf4
  v4 := Tryz.zeroValue4
  t5 := Tryz.underlying5
  a5 := Tryz.isAgg5
  z5 := Tryz.sizeOf5
  v5 := Tryz.zeroValue5
  t9 := Tryz.underlying9
  a9 := Tryz.isAgg9
  z9 := Tryz.sizeOf9
  v9 := Tryz.zeroValue9
  t22 := Tryz.underlying24
  a22 := Tryz.isAgg24
  z22 := Tryz.sizeOf24
  v22 := Tryz.zeroValue24
  t25 := Tryz.underlying95
  a25 := Tryz.isAgg95
  z25 := Tryz.sizeOf95
  v25 := Tryz.zeroValue95
  t39 := Tryz.underlying159
  a39 := Tryz.isAgg159
  z39 := Tryz.sizeOf159
  v39 := Tryz.zeroValue159
  t45 := Tryz.underlying190
  a45 := Tryz.isAgg190
  z45 := Tryz.sizeOf190
  v45 := Tryz.zeroValue190
  t46 := Tryz.underlying191
  a46 := Tryz.isAgg191
  z46 := Tryz.sizeOf191
  v46 := Tryz.zeroValue191
  t50 := Tryz.underlying196
  a50 := Tryz.isAgg196
  z50 := Tryz.sizeOf196
  v50 := Tryz.zeroValue196
  t53 := Tryz.underlying199
  a53 := Tryz.isAgg199
  z53 := Tryz.sizeOf199
  v53 := Tryz.zeroValue199
  t55 := Tryz.underlying201
  a55 := Tryz.isAgg201
  z55 := Tryz.sizeOf201
  v55 := Tryz.zeroValue201
  t66 := Tryz.underlying231
  a66 := Tryz.isAgg231
  z66 := Tryz.sizeOf231
  v66 := Tryz.zeroValue231
  t70 := Tryz.underlying235
  a70 := Tryz.isAgg235
  z70 := Tryz.sizeOf235
  v70 := Tryz.zeroValue235
  t76 := Tryz.underlying247
  a76 := Tryz.isAgg247
  z76 := Tryz.sizeOf247
  v76 := Tryz.zeroValue247
  t77 := Tryz.underlying248
  a77 := Tryz.isAgg248
  z77 := Tryz.sizeOf248
  v77 := Tryz.zeroValue248 }
end Go.Proofs.YtpihighajaeabaaGreat

namespace Go.Proofs.YtpihighajaeabaaGreat
open Go.RowKit
set_option linter.unusedVariables false
set_option linter.unusedSimpArgs false
def sortI (l : List Int) : List Int := l.mergeSort fun x y => decide (x ≤ y)
theorem sortI_perm (l : List Int) : (sortI l).Perm l := List.mergeSort_perm l _
theorem sortI_sorted (l : List Int) : (sortI l).Pairwise (· ≤ ·) := by
  have h := List.pairwise_mergeSort (le := fun x y : Int => decide (x ≤ y)) (fun a b c h1 h2 => by simp at *; omega) (fun a b => by simp; omega) l
  exact h.imp (fun h => by simpa using h)
theorem sortI_len (l : List Int) : (sortI l).length = l.length := (sortI_perm l).length_eq
theorem sortI_uniq {l m : List Int} (hp : m.Perm l) (hs : m.Pairwise (· ≤ ·)) : m = sortI l :=
  List.Perm.eq_of_pairwise (fun a b _ _ h1 h2 => by omega) hs (sortI_sorted l) (hp.trans (sortI_perm l).symm)
theorem sortI_nil : sortI [] = [] := List.eq_nil_of_length_eq_zero (sortI_len [])
theorem all3_intsQ : ∀ {xs : List Int} {us : List (List Value)} {fs : List (List Nat)} {w : World}, all3 (fun x u f => fInt w x u f ∧ u.length = 1) xs us fs → us.flatten = xs.map (Value.int .i64) ∧ fs.flatten = []
  | [], [], [], _, _ => ⟨rfl, rfl⟩
  | x :: xs, u :: us, f :: fs, w, h => by
    have ih := all3_intsQ (xs := xs) (w := w) h.2
    obtain ⟨⟨hu, hf⟩, _⟩ := h.1
    rw [List.flatten_cons, List.flatten_cons, ih.1, ih.2, hu, hf]
    exact ⟨rfl, rfl⟩
  | [], _ :: _, _, _, h | [], [], _ :: _, _, h | _ :: _, [], _, _, h | _ :: _, _ :: _, [], _, h => h.elim
theorem fInts_own {w : World} {xs : List Int} {v : Value} {F : List Nat} (h : fInts w xs [v] F) : w.ownsRow 0 3 1 v xs.length (xs.map (Value.int .i64)) ∧ F = v.ownBlock.toList := by
  obtain ⟨v', us, Fs, e, hown, hall, hF⟩ := h
  injection e with e
  subst e
  obtain ⟨h1, h2⟩ := all3_intsQ hall
  rw [h1] at hown
  rw [h2, List.append_nil] at hF
  exact ⟨hown, hF⟩
theorem own_fInts {w : World} {xs : List Int} {v : Value} (h : w.ownsRow 0 3 1 v xs.length (xs.map (Value.int .i64))) : fInts w xs [v] v.ownBlock.toList := by
  refine ⟨v, xs.map (fun x => [Value.int .i64 x]), List.replicate xs.length [], rfl, ?_, ?_, ?_⟩
  · have : (xs.map (fun x => [Value.int .i64 x])).flatten = xs.map (Value.int .i64) := by
      clear h
      induction xs with
      | nil => rfl
      | cons x xs ih => rw [List.map_cons, List.flatten_cons, List.map_cons]; simp_all
    rw [this]; exact h
  · clear h
    induction xs with
    | nil => trivial
    | cons x xs ih => exact ⟨⟨⟨rfl, rfl⟩, rfl⟩, ih⟩
  · rw [flatten_replicate_nil, List.append_nil]
/-- what a sort leaves -/
def RetSort (w : World) (xs : List Int) (v : Value) (F : List Nat) (e : Ending) (w' : World) : Prop := e = .returned (.tuple #[]) ∧ fInts w' (sortI xs) [v] F ∧ Only F w w' ∧ ∀ w0 : World, Bw w0 w → (∀ b ∈ F, w0.heap.size ≤ b) → Bw w0 w'
set_option maxRecDepth 100000 in
theorem I_Sort (w : World) (xs : List Int) (g c : Nat) (F : List Nat) (h : fInts w xs [.slice (some ⟨g, 0, none⟩) xs.length c] F) (hn : xs.length ≤ 1048576) :
    Calls Tryz.prog 79 #[.slice (some ⟨g, 0, none⟩) xs.length c] w (RetSort w xs (.slice (some ⟨g, 0, none⟩) xs.length c) F) := by
  obtain ⟨hown, rfl⟩ := fInts_own h
  rcases hown.2 with ⟨h0, _⟩ | ⟨g', cap, cur, hv, hbase, hb, h1, h2, h3, h4⟩
  · cases h0
  injection hv with hv1 hv2 hv3
  injection hv1 with hv1
  injection hv1 with hv1
  subst hv1 hv3
  have hcon := AnyM.slices_Sort_int layInts g 0 c xs w (Go.holds_of_blockI hb (by simpa using h4)) (Array.getElem?_eq_some_iff.1 hb).1 (by omega)
  change Calls Tryz.prog 79 _ _ _ at hcon
  refine hcon.mono ?_
  rintro e w' ⟨rfl, n, os, rfl⟩
  have hlen : (xs.mergeSort fun x y => decide (x ≤ y)).length = xs.length := by simp
  have ho := Go.ownsRow_sortedI (base := 0) (n := n) (os := os) hlen hbase hb h1 h2 h3
  have hg := Go.grownBy_sortedI (w := w) (g := g) (n := n) (os := os) (xs.mergeSort fun x y => decide (x ≤ y)).toArray
  refine ⟨rfl, ?_, Only.of_grown hg hg.size (by simp [Value.ownBlock]), fun w0 hbw hF => hbw.grown hg (fun k hk => hF k (by simpa [Value.ownBlock] using hk.symm))⟩
  have := own_fInts (w := Go.Sort.grow (Go.Sort.putRow (Value.int .i64) (Go.Sort.ahead w n) g 0 (xs.mergeSort fun x y => decide (x ≤ y)).toArray) os) (xs := sortI xs) (v := .slice (some ⟨g, 0, none⟩) xs.length c) (by rw [sortI_len]; exact ho)
  exact this
end Go.Proofs.YtpihighajaeabaaGreat

namespace Go.Proofs.YtpihighajaeabaaGreat
open Go.RowKit
set_option linter.unusedVariables false
set_option linter.unusedSimpArgs false
/-- an item is put in its place -/
def putM : List GItem → GItem → List GItem
  | [], x => [x]
  | y :: l, x => if x.id < y.id then x :: y :: l else y :: putM l x
theorem putM_len : ∀ (l : List GItem) (x : GItem), (putM l x).length = l.length + 1
  | [], x => rfl
  | y :: l, x => by
    rw [putM]; split
    · simp
    · rw [List.length_cons, putM_len l x, List.length_cons]
theorem putM_perm : ∀ (l : List GItem) (x : GItem), (putM l x).Perm (l ++ [x])
  | [], x => List.Perm.refl _
  | y :: l, x => by
    rw [putM]; split
    · exact (List.perm_append_comm (l₁ := [x]) (l₂ := y :: l))
    · exact (putM_perm l x).cons y
theorem putM_mem {l : List GItem} {x z : GItem} (h : z ∈ putM l x) : z ∈ l ∨ z = x := by
  have := (putM_perm l x).mem_iff.1 h
  simpa using this
theorem from_le {l : List GItem} {o : Option Int} (h : areItemsFrom o l = true) : l.Pairwise (fun a b => a.id < b.id) := by
  induction l generalizing o with
  | nil => exact List.Pairwise.nil
  | cons z l ih =>
    have h2 : areItemsFrom (some z.id) l = true := by
      cases o <;> simp only [areItemsFrom, Bool.and_eq_true] at h <;> exact h.2
    exact List.Pairwise.cons (fun y hy => from_gt h2 y hy) (ih h2)
theorem items_sorted {l : List GItem} (h : areItems l = true) : l.Pairwise (fun a b => a.id < b.id) := by
  unfold areItems at h; rw [Bool.and_eq_true] at h; exact from_le h.1
theorem from_of : ∀ {l : List GItem} (o : Option Int), (∀ x ∈ l, isItem x = true) → l.Pairwise (fun a b => a.id < b.id) → (∀ n, o = some n → ∀ x ∈ l, n < x.id) → areItemsFrom o l = true
  | [], o, _, _, _ => by cases o <;> rfl
  | z :: l, o, h1, h2, h3 => by
    have ih := from_of (l := l) (some z.id) (fun x hx => h1 x (by simp [hx])) (List.pairwise_cons.1 h2).2 (fun n hn x hx => by injection hn with hn; rw [← hn]; exact (List.pairwise_cons.1 h2).1 x hx)
    cases o with
    | none => rw [areItemsFrom, h1 z (by simp), ih]; rfl
    | some n => rw [areItemsFrom, h1 z (by simp), ih, decide_eq_true (h3 n rfl z (by simp))]; rfl
theorem areItems_of {l : List GItem} (h1 : ∀ x ∈ l, isItem x = true) (h2 : l.Pairwise (fun a b => a.id < b.id)) (h3 : l.length ≤ 16) : areItems l = true := by
  unfold areItems; rw [from_of none h1 h2 (fun n hn => by cases hn)]; simpa using h3
theorem putM_sorted {x : GItem} : ∀ {l : List GItem}, l.Pairwise (fun a b => a.id < b.id) → (∀ y ∈ l, y.id ≠ x.id) → (putM l x).Pairwise (fun a b => a.id < b.id)
  | [], _, _ => List.pairwise_singleton _ _
  | y :: l, h, hn => by
    rw [List.pairwise_cons] at h
    rw [putM]; split
    · rename_i hlt
      refine List.Pairwise.cons (fun z hz => ?_) (List.Pairwise.cons h.1 h.2)
      rcases List.mem_cons.1 hz with rfl | hz
      · exact hlt
      · have := h.1 z hz; omega
    · rename_i hlt
      refine List.Pairwise.cons (fun z hz => ?_) (putM_sorted h.2 (fun z hz => hn z (by simp [hz])))
      rcases putM_mem hz with hz | rfl
      · exact h.1 z hz
      · have := hn y (by simp); omega
theorem find_none {l : List GItem} {id : Int} (h : findIdx l id < 0) : ∀ y ∈ l, y.id ≠ id := by
  rcases findIdx_cases l id with ⟨_, hn⟩ | ⟨j, y, hf, _, _⟩
  · exact hn
  · omega
/-- what the library's sort leaves is that -/
theorem put_uniq {l ys : List GItem} {x : GItem} (hp : ys.Perm (l ++ [x])) (hs : ys.Pairwise (fun a b => a.id ≤ b.id)) (hl : l.Pairwise (fun a b => a.id < b.id)) (hn : ∀ y ∈ l, y.id ≠ x.id) : ys = putM l x := by
  have hps := putM_sorted hl hn
  refine List.Perm.eq_of_pairwise (le := fun a b : GItem => a.id ≤ b.id) (fun a b ha hb h1 h2 => ?_) hs (hps.imp (fun h => Int.le_of_lt h)) (hp.trans (putM_perm l x).symm)
  have ha' := hp.mem_iff.1 ha
  have hb' := (putM_perm l x).mem_iff.1 hb
  have e : a.id = b.id := by omega
  have key : ∀ {l : List GItem}, l.Pairwise (fun a b => a.id < b.id) → ∀ a ∈ l, ∀ b ∈ l, a.id = b.id → a = b := by
    intro l hl
    induction hl with
    | nil => intro a ha; simp at ha
    | cons h1 _ ih =>
      intro a ha b hb e
      rcases List.mem_cons.1 ha with ea | ka
      · rcases List.mem_cons.1 hb with eb | kb
        · rw [ea, eb]
        · have := h1 b kb; rw [ea] at e; omega
      · rcases List.mem_cons.1 hb with eb | kb
        · have := h1 a ka; rw [eb] at e; omega
        · exact ih a ka b kb e
  exact key hps a ((putM_perm l x).mem_iff.2 ha') b ((putM_perm l x).mem_iff.2 hb') e
theorem putM_app {x y : GItem} : ∀ {a : List GItem}, a.any (fun z => decide (x.id < z.id)) = true → putM (a ++ [y]) x = putM a x ++ [y]
  | [], h => by simp at h
  | z :: a, h => by
    rw [List.cons_append, putM, putM]
    split
    · rfl
    · rename_i hlt
      rw [List.any_cons, decide_eq_false hlt, Bool.false_or] at h
      rw [putM_app h]; rfl
theorem putM_here {x y : GItem} (hy : x.id < y.id) : ∀ {a : List GItem}, a.any (fun z => decide (x.id < z.id)) = false → putM (a ++ [y]) x = a ++ [x, y]
  | [], _ => by rw [List.nil_append, putM, if_pos hy]; rfl
  | z :: a, h => by
    rw [List.any_cons, Bool.or_eq_false_iff, decide_eq_false_iff_not] at h
    rw [List.cons_append, putM, if_neg h.1, putM_here hy h.2]; rfl
theorem putM_last {x : GItem} : ∀ {a : List GItem}, a.any (fun z => decide (x.id < z.id)) = false → putM a x = a ++ [x]
  | [], _ => rfl
  | z :: a, h => by
    rw [List.any_cons, Bool.or_eq_false_iff, decide_eq_false_iff_not] at h
    rw [putM, if_neg h.1, putM_last h.2]; rfl
def putAny (l : List GItem) (x : GItem) (k : Nat) : Bool := (l.take k).any fun z => decide (x.id < z.id)
def putTo (l : List GItem) (x : GItem) (k : Nat) : List GItem := if putAny l x k then putM (l.take k) x else l.take k
theorem putAny_succ {l : List GItem} {x y : GItem} {k : Nat} (hy : l[k]? = some y) : putAny l x (k + 1) = (putAny l x k || decide (x.id < y.id)) := by
  unfold putAny; rw [List.take_add_one, hy, List.any_append]; simp
theorem putTo_yes {l : List GItem} {x y : GItem} {k : Nat} (hy : l[k]? = some y) (h : putAny l x k = true) : putTo l x (k + 1) = putTo l x k ++ [y] := by
  unfold putTo; rw [putAny_succ hy, h, Bool.true_or, if_pos rfl, if_pos rfl, List.take_add_one, hy]; exact putM_app h
theorem putTo_here {l : List GItem} {x y : GItem} {k : Nat} (hy : l[k]? = some y) (h : putAny l x k = false) (hlt : x.id < y.id) : putTo l x (k + 1) = putTo l x k ++ [x] ++ [y] := by
  unfold putTo; rw [putAny_succ hy, h, decide_eq_true hlt, Bool.false_or, if_pos rfl, if_neg (by simp), List.take_add_one, hy, List.append_assoc]; exact putM_here hlt h
theorem putTo_no {l : List GItem} {x y : GItem} {k : Nat} (hy : l[k]? = some y) (h : putAny l x k = false) (hlt : ¬ x.id < y.id) : putTo l x (k + 1) = putTo l x k ++ [y] := by
  unfold putTo; rw [putAny_succ hy, h, decide_eq_false hlt, Bool.false_or, if_neg (by simp), if_neg (by simp), List.take_add_one, hy]; rfl
theorem putTo_end {l : List GItem} {x : GItem} {k : Nat} (hk : l.length ≤ k) : putM l x = if putAny l x k then putTo l x k else putTo l x k ++ [x] := by
  unfold putTo putAny
  rw [List.take_of_length_le hk]
  cases h : l.any (fun z => decide (x.id < z.id)) with
  | true => rfl
  | false => exact putM_last h
theorem putTo_len (l : List GItem) (x : GItem) (k : Nat) : (putTo l x k).length ≤ k + 1 := by
  unfold putTo; split
  · rw [putM_len, List.length_take]; omega
  · rw [List.length_take]; omega
/-- insert -/
def insOk (s : GStanding) (x : GItem) : Bool := isStand s && (isItem x && (decide (findIdx s.items x.id < 0) && (decide (s.items.length < 16) && decide (s.tests ≤ 999900))))
def beatTo (s : GStanding) (x : GItem) (k : Nat) : Bool := (s.best.take k).any fun id => decide (cmpBy s.wanted (itemAt s.items id) x = 1)
def keptTo (s : GStanding) (x : GItem) (k : Nat) : List Int := (s.best.take k).filter fun id => !decide (cmpBy s.wanted (itemAt s.items id) x = -1)
def insertS (s : GStanding) (x : GItem) : GStanding := ⟨putM s.items x, s.wanted, if beatTo s x s.best.length then s.best else sortI (keptTo s x s.best.length ++ [x.id]), s.tests + s.best.length⟩
def insM (s : GStanding) (x : GItem) : GStanding := if insOk s x then insertS s x else s
theorem beatTo_succ {s : GStanding} {x : GItem} {k : Nat} {id : Int} (h : s.best[k]? = some id) : beatTo s x (k + 1) = (beatTo s x k || decide (cmpBy s.wanted (itemAt s.items id) x = 1)) := by
  unfold beatTo; rw [List.take_add_one, h, List.any_append]; simp
theorem keptTo_yes {s : GStanding} {x : GItem} {k : Nat} {id : Int} (h : s.best[k]? = some id) (hc : ¬ cmpBy s.wanted (itemAt s.items id) x = -1) : keptTo s x (k + 1) = keptTo s x k ++ [id] := by
  unfold keptTo; rw [List.take_add_one, h, List.filter_append]; simp [hc]
theorem keptTo_no {s : GStanding} {x : GItem} {k : Nat} {id : Int} (h : s.best[k]? = some id) (hc : cmpBy s.wanted (itemAt s.items id) x = -1) : keptTo s x (k + 1) = keptTo s x k := by
  unfold keptTo; rw [List.take_add_one, h, List.filter_append]; simp [hc]
theorem keptTo_len (s : GStanding) (x : GItem) (k : Nat) : (keptTo s x k).length ≤ s.best.length := by
  unfold keptTo
  exact Nat.le_trans (List.length_filter_le _ _) (by rw [List.length_take]; omega)
theorem stand_best_len {s : GStanding} (h : isStand s = true) : s.best.length ≤ 16 := by
  obtain ⟨h1, h2⟩ := stand_both h
  rw [h2]
  exact Nat.le_trans (bestM_len _ _) (areItems_len (areBoth_items h1))
theorem stand_tests {s : GStanding} (h : isStand s = true) : 0 ≤ s.tests ∧ s.tests ≤ 1000000 := by
  unfold isStand at h
  simp only [Bool.and_eq_true, decide_eq_true_iff, inB] at h
  exact h.2.2
theorem insOk_parts {s : GStanding} {x : GItem} (h : insOk s x = true) : isStand s = true ∧ isItem x = true ∧ findIdx s.items x.id < 0 ∧ s.items.length < 16 ∧ s.tests ≤ 999900 := by
  unfold insOk at h
  simp only [Bool.and_eq_true, decide_eq_true_iff] at h
  exact ⟨h.1, h.2.1, h.2.2.1, h.2.2.2.1, h.2.2.2.2⟩
end Go.Proofs.YtpihighajaeabaaGreat
