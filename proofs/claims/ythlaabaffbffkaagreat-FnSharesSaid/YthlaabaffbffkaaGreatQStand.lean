/- Standings: the laws' conversions, counts and comparisons; EqualStandings in both programs. -/
import Derived.Test.YthlaabaffbffkaaGreatProg
import Derived.Shelf.SortM.Plain
import Derived.Shelf.SlSortCmp.WholeK
import Derived.Test.YthlaabaffbffkaaGreatQBoxT
import Derived.Sort.OwnSortedInts
import Derived.Test.YthlaabaffbffkaaGreatQWishes3
import Derived.Test.YthlaabaffbffkaaGreatQEqLists
namespace Go.Proofs.YthlaabaffbffkaaGreat
open Go.Shelf
set_option linter.unusedVariables false
def layInts_ren : Go.Shelf.Ren := ⟨fun | 5 => 95 | 8 => 161 | 7 => 160 | 19 => 199 | 20 => 200 | 10 => 190 | 11 => 191 | 12 => 192 | 13 => 193 | 14 => 194 | 15 => 195 | 16 => 196 | 17 => 197 | 18 => 198 | 30 => 223 | 31 => 224 | 32 => 225 | 33 => 226 | 34 => 227 | 35 => 228 | 40 => 232 | n => n, fun | 23 => 33 | 25 => 3 | 3 => 3 | 32 => 150 | 22 => 33 | 0 => 0 | 44 => 177 | 46 => 179 | 4 => 4 | 36 => 169 | 35 => 168 | 41 => 174 | 5 => 5 | 9 => 9 | 53 => 192 | 57 => 196 | 63 => 201 | 64 => 202 | n => n, fun | n => n⟩
set_option maxRecDepth 100000 in
theorem layInts : Go.Proofs.SlLaysM.n5 Tryz.prog layInts_ren := {
  mixed := by kernel_rfl
  f5 := ⟨Tryz.f95.name, by decide, Tryz.func95.trans (congrArg some (by kernel_rfl))⟩
  f7 := ⟨Tryz.f160.name, by decide, Tryz.func160.trans (congrArg some (by kernel_rfl))⟩
  f8 := Tryz.func161.trans (congrArg some (by kernel_rfl))
  f10 := ⟨Tryz.f190.name, by decide, Tryz.func190.trans (congrArg some (by kernel_rfl))⟩
  f11 := ⟨Tryz.f191.name, by decide, Tryz.func191.trans (congrArg some (by kernel_rfl))⟩
  f12 := ⟨Tryz.f192.name, by decide, Tryz.func192.trans (congrArg some (by kernel_rfl))⟩
  f13 := ⟨Tryz.f193.name, by decide, Tryz.func193.trans (congrArg some (by kernel_rfl))⟩
  f14 := ⟨Tryz.f194.name, by decide, Tryz.func194.trans (congrArg some (by kernel_rfl))⟩
  f15 := ⟨Tryz.f195.name, by decide, Tryz.func195.trans (congrArg some (by kernel_rfl))⟩
  f16 := ⟨Tryz.f196.name, by decide, Tryz.func196.trans (congrArg some (by kernel_rfl))⟩
  f17 := ⟨Tryz.f197.name, by decide, Tryz.func197.trans (congrArg some (by kernel_rfl))⟩
  f18 := ⟨Tryz.f198.name, by decide, Tryz.func198.trans (congrArg some (by kernel_rfl))⟩
  f19 := Tryz.func199.trans (congrArg some (by kernel_rfl))
  f20 := Tryz.func200.trans (congrArg some (by kernel_rfl))
  f30 := ⟨Tryz.f223.name, by decide, Tryz.func223.trans (congrArg some (by kernel_rfl))⟩
  f31 := Tryz.func224.trans (congrArg some (by kernel_rfl))
  f32 := Tryz.func225.trans (congrArg some (by kernel_rfl))
  f33 := ⟨Tryz.f226.name, by decide, Tryz.func226.trans (congrArg some (by kernel_rfl))⟩
  f34 := ⟨Tryz.f227.name, by decide, Tryz.func227.trans (congrArg some (by kernel_rfl))⟩
  f35 := ⟨Tryz.f228.name, by decide, Tryz.func228.trans (congrArg some (by kernel_rfl))⟩
  f40 := ⟨Tryz.f232.name, by decide, Tryz.func232.trans (congrArg some (by kernel_rfl))⟩
  t0 := Tryz.underlying0
  a0 := Tryz.isAgg0
  z0 := Tryz.sizeOf0
  v0 := Tryz.zeroValue0
  t3 := Tryz.underlying3
  a3 := Tryz.isAgg3
  z3 := Tryz.sizeOf3
  v3 := Tryz.zeroValue3
  t4 := Tryz.underlying4
  a4 := Tryz.isAgg4
  z4 := Tryz.sizeOf4
  v4 := Tryz.zeroValue4
  t5 := Tryz.underlying5
  a5 := Tryz.isAgg5
  z5 := Tryz.sizeOf5
  v5 := Tryz.zeroValue5
  t9 := Tryz.underlying9
  a9 := Tryz.isAgg9
  z9 := Tryz.sizeOf9
  v9 := Tryz.zeroValue9
  t22 := Tryz.underlying33
  a22 := Tryz.isAgg33
  z22 := Tryz.sizeOf33
  v22 := Tryz.zeroValue33
  t23 := Tryz.underlying33
  a23 := Tryz.isAgg33
  z23 := Tryz.sizeOf33
  v23 := Tryz.zeroValue33
  t25 := Tryz.underlying3
  a25 := Tryz.isAgg3
  z25 := Tryz.sizeOf3
  v25 := Tryz.zeroValue3
  t32 := Tryz.underlying150
  a32 := Tryz.isAgg150
  z32 := Tryz.sizeOf150
  v32 := Tryz.zeroValue150
  t35 := Tryz.underlying168
  a35 := Tryz.isAgg168
  z35 := Tryz.sizeOf168
  v35 := Tryz.zeroValue168
  t36 := Tryz.underlying169
  a36 := Tryz.isAgg169
  z36 := Tryz.sizeOf169
  v36 := Tryz.zeroValue169
  t41 := Tryz.underlying174
  a41 := Tryz.isAgg174
  z41 := Tryz.sizeOf174
  v41 := Tryz.zeroValue174
  t44 := Tryz.underlying177
  a44 := Tryz.isAgg177
  z44 := Tryz.sizeOf177
  v44 := Tryz.zeroValue177
  t46 := Tryz.underlying179
  a46 := Tryz.isAgg179
  z46 := Tryz.sizeOf179
  v46 := Tryz.zeroValue179
  t53 := Tryz.underlying192
  a53 := Tryz.isAgg192
  z53 := Tryz.sizeOf192
  v53 := Tryz.zeroValue192
  t57 := Tryz.underlying196
  a57 := Tryz.isAgg196
  z57 := Tryz.sizeOf196
  v57 := Tryz.zeroValue196
  t63 := Tryz.underlying201
  a63 := Tryz.isAgg201
  z63 := Tryz.sizeOf201
  v63 := Tryz.zeroValue201
  t64 := Tryz.underlying202
  a64 := Tryz.isAgg202
  z64 := Tryz.sizeOf202
  v64 := Tryz.zeroValue202 }
def layItems_ren : Go.Shelf.Ren := ⟨fun | 6 => 97 | 15 => 161 | 14 => 162 | 28 => 199 | 29 => 200 | 20 => 201 | 21 => 202 | 22 => 203 | 23 => 204 | 24 => 205 | 25 => 206 | 26 => 207 | 27 => 208 | 46 => 229 | 47 => 224 | 48 => 225 | 49 => 230 | 50 => 231 | 57 => 233 | n => n, fun | 22 => 24 | 24 => 42 | 25 => 104 | 3 => 3 | 39 => 150 | 0 => 0 | 53 => 177 | 55 => 179 | 4 => 4 | 46 => 169 | 45 => 168 | 50 => 174 | 5 => 5 | 9 => 9 | 66 => 192 | 70 => 196 | 76 => 201 | 77 => 202 | n => n, fun | n => n⟩
set_option maxRecDepth 100000 in
theorem layItems : Go.Proofs.SlLaysF0.n6 Tryz.prog layItems_ren := {
  mixed := by kernel_rfl
  f6 := ⟨Tryz.f97.name, by decide, Tryz.func97.trans (congrArg some (by kernel_rfl))⟩
  f14 := ⟨Tryz.f162.name, by decide, Tryz.func162.trans (congrArg some (by kernel_rfl))⟩
  f15 := Tryz.func161.trans (congrArg some (by kernel_rfl))
  f20 := ⟨Tryz.f201.name, by decide, Tryz.func201.trans (congrArg some (by kernel_rfl))⟩
  f21 := ⟨Tryz.f202.name, by decide, Tryz.func202.trans (congrArg some (by kernel_rfl))⟩
  f22 := ⟨Tryz.f203.name, by decide, Tryz.func203.trans (congrArg some (by kernel_rfl))⟩
  f23 := ⟨Tryz.f204.name, by decide, Tryz.func204.trans (congrArg some (by kernel_rfl))⟩
  f24 := ⟨Tryz.f205.name, by decide, Tryz.func205.trans (congrArg some (by kernel_rfl))⟩
  f25 := ⟨Tryz.f206.name, by decide, Tryz.func206.trans (congrArg some (by kernel_rfl))⟩
  f26 := ⟨Tryz.f207.name, by decide, Tryz.func207.trans (congrArg some (by kernel_rfl))⟩
  f27 := ⟨Tryz.f208.name, by decide, Tryz.func208.trans (congrArg some (by kernel_rfl))⟩
  f28 := Tryz.func199.trans (congrArg some (by kernel_rfl))
  f29 := Tryz.func200.trans (congrArg some (by kernel_rfl))
  f46 := ⟨Tryz.f229.name, by decide, Tryz.func229.trans (congrArg some (by kernel_rfl))⟩
  f47 := Tryz.func224.trans (congrArg some (by kernel_rfl))
  f48 := Tryz.func225.trans (congrArg some (by kernel_rfl))
  f49 := ⟨Tryz.f230.name, by decide, Tryz.func230.trans (congrArg some (by kernel_rfl))⟩
  f50 := ⟨Tryz.f231.name, by decide, Tryz.func231.trans (congrArg some (by kernel_rfl))⟩
  f57 := ⟨Tryz.f233.name, by decide, Tryz.func233.trans (congrArg some (by kernel_rfl))⟩
  t0 := Tryz.underlying0
  a0 := Tryz.isAgg0
  z0 := Tryz.sizeOf0
  v0 := Tryz.zeroValue0
  t3 := Tryz.underlying3
  a3 := Tryz.isAgg3
  z3 := Tryz.sizeOf3
  v3 := Tryz.zeroValue3
  t4 := Tryz.underlying4
  a4 := Tryz.isAgg4
  z4 := Tryz.sizeOf4
  v4 := Tryz.zeroValue4
  t5 := Tryz.underlying5
  a5 := Tryz.isAgg5
  z5 := Tryz.sizeOf5
  v5 := Tryz.zeroValue5
  t9 := Tryz.underlying9
  a9 := Tryz.isAgg9
  z9 := Tryz.sizeOf9
  v9 := Tryz.zeroValue9
  t22 := Tryz.underlying24
  a22 := Tryz.isAgg24
  z22 := Tryz.sizeOf24
  v22 := Tryz.zeroValue24
  t25 := Tryz.underlying104
  a25 := Tryz.isAgg104
  z25 := Tryz.sizeOf104
  v25 := Tryz.zeroValue104
  t39 := Tryz.underlying150
  a39 := Tryz.isAgg150
  z39 := Tryz.sizeOf150
  v39 := Tryz.zeroValue150
  t45 := Tryz.underlying168
  a45 := Tryz.isAgg168
  z45 := Tryz.sizeOf168
  v45 := Tryz.zeroValue168
  t46 := Tryz.underlying169
  a46 := Tryz.isAgg169
  z46 := Tryz.sizeOf169
  v46 := Tryz.zeroValue169
  t50 := Tryz.underlying174
  a50 := Tryz.isAgg174
  z50 := Tryz.sizeOf174
  v50 := Tryz.zeroValue174
  t53 := Tryz.underlying177
  a53 := Tryz.isAgg177
  z53 := Tryz.sizeOf177
  v53 := Tryz.zeroValue177
  t55 := Tryz.underlying179
  a55 := Tryz.isAgg179
  z55 := Tryz.sizeOf179
  v55 := Tryz.zeroValue179
  t66 := Tryz.underlying192
  a66 := Tryz.isAgg192
  z66 := Tryz.sizeOf192
  v66 := Tryz.zeroValue192
  t70 := Tryz.underlying196
  a70 := Tryz.isAgg196
  z70 := Tryz.sizeOf196
  v70 := Tryz.zeroValue196
  t76 := Tryz.underlying201
  a76 := Tryz.isAgg201
  z76 := Tryz.sizeOf201
  v76 := Tryz.zeroValue201
  t77 := Tryz.underlying202
  a77 := Tryz.isAgg202
  z77 := Tryz.sizeOf202
  v77 := Tryz.zeroValue202 }
end Go.Proofs.YthlaabaffbffkaaGreat

namespace Go.Proofs.YthlaabaffbffkaaGreat
open Go.RowKit
set_option linter.unusedVariables false
set_option linter.unusedSimpArgs false
def sortI (l : List Int) : List Int := l.mergeSort fun x y => decide (x ≤ y)
theorem sortI_perm (l : List Int) : (sortI l).Perm l := List.mergeSort_perm l _
theorem sortI_sorted (l : List Int) : (sortI l).Pairwise (· ≤ ·) := by
  have h := List.pairwise_mergeSort (le := fun x y : Int => decide (x ≤ y)) (fun a b c h1 h2 => by simp at *; omega) (fun a b => by simp; omega) l
  exact h.imp (fun h => by simpa using h)
theorem sortI_len (l : List Int) : (sortI l).length = l.length := (sortI_perm l).length_eq
theorem sortI_uniq {l m : List Int} (hp : m.Perm l) (hs : m.Pairwise (· ≤ ·)) : m = sortI l :=
  List.Perm.eq_of_pairwise (fun a b _ _ h1 h2 => by omega) hs (sortI_sorted l) (hp.trans (sortI_perm l).symm)
theorem sortI_nil : sortI [] = [] := List.eq_nil_of_length_eq_zero (sortI_len [])
theorem all3_intsQ : ∀ {xs : List Int} {us : List (List Value)} {fs : List (List Nat)} {w : World}, all3 (fun x u f => fInt w x u f ∧ u.length = 1) xs us fs → us.flatten = xs.map (Value.int .i64) ∧ fs.flatten = []
  | [], [], [], _, _ => ⟨rfl, rfl⟩
  | x :: xs, u :: us, f :: fs, w, h => by
    have ih := all3_intsQ (xs := xs) (w := w) h.2
    obtain ⟨⟨hu, hf⟩, _⟩ := h.1
    rw [List.flatten_cons, List.flatten_cons, ih.1, ih.2, hu, hf]
    exact ⟨rfl, rfl⟩
  | [], _ :: _, _, _, h | [], [], _ :: _, _, h | _ :: _, [], _, _, h | _ :: _, _ :: _, [], _, h => h.elim
theorem fInts_own {w : World} {xs : List Int} {v : Value} {F : List Nat} (h : fInts w xs [v] F) : w.ownsRow 0 3 1 v xs.length (xs.map (Value.int .i64)) ∧ F = v.ownBlock.toList := by
  obtain ⟨v', us, Fs, e, hown, hall, hF⟩ := h
  injection e with e
  subst e
  obtain ⟨h1, h2⟩ := all3_intsQ hall
  rw [h1] at hown
  rw [h2, List.append_nil] at hF
  exact ⟨hown, hF⟩
theorem own_fInts {w : World} {xs : List Int} {v : Value} (h : w.ownsRow 0 3 1 v xs.length (xs.map (Value.int .i64))) : fInts w xs [v] v.ownBlock.toList := by
  refine ⟨v, xs.map (fun x => [Value.int .i64 x]), List.replicate xs.length [], rfl, ?_, ?_, ?_⟩
  · have : (xs.map (fun x => [Value.int .i64 x])).flatten = xs.map (Value.int .i64) := by
      clear h
      induction xs with
      | nil => rfl
      | cons x xs ih => rw [List.map_cons, List.flatten_cons, List.map_cons]; simp_all
    rw [this]; exact h
  · clear h
    induction xs with
    | nil => trivial
    | cons x xs ih => exact ⟨⟨⟨rfl, rfl⟩, rfl⟩, ih⟩
  · rw [flatten_replicate_nil, List.append_nil]
/-- what a sort leaves -/
def RetSort (w : World) (xs : List Int) (v : Value) (F : List Nat) (e : Ending) (w' : World) : Prop := e = .returned (.tuple #[]) ∧ fInts w' (sortI xs) [v] F ∧ Only F w w' ∧ ∀ w0 : World, Bw w0 w → (∀ b ∈ F, w0.heap.size ≤ b) → Bw w0 w'
set_option maxRecDepth 100000 in
theorem I_Sort (w : World) (xs : List Int) (g c : Nat) (F : List Nat) (h : fInts w xs [.slice (some ⟨g, 0, none⟩) xs.length c] F) (hn : xs.length ≤ 1048576) :
    Calls Tryz.prog 95 #[.slice (some ⟨g, 0, none⟩) xs.length c] w (RetSort w xs (.slice (some ⟨g, 0, none⟩) xs.length c) F) := by
  obtain ⟨hown, rfl⟩ := fInts_own h
  rcases hown.2 with ⟨h0, _⟩ | ⟨g', cap, cur, hv, hbase, hb, h1, h2, h3, h4⟩
  · cases h0
  injection hv with hv1 hv2 hv3
  injection hv1 with hv1
  injection hv1 with hv1
  subst hv1 hv3
  have hcon := AnyM.slices_Sort_int layInts g 0 c xs w (Go.holds_of_blockI hb (by simpa using h4)) (Array.getElem?_eq_some_iff.1 hb).1 (by omega)
  change Calls Tryz.prog 95 _ _ _ at hcon
  refine hcon.mono ?_
  rintro e w' ⟨rfl, n, os, rfl⟩
  have hlen : (xs.mergeSort fun x y => decide (x ≤ y)).length = xs.length := by simp
  have ho := Go.ownsRow_sortedI (base := 0) (n := n) (os := os) hlen hbase hb h1 h2 h3
  have hg := Go.grownBy_sortedI (w := w) (g := g) (n := n) (os := os) (xs.mergeSort fun x y => decide (x ≤ y)).toArray
  refine ⟨rfl, ?_, Only.of_grown hg hg.size (by simp [Value.ownBlock]), fun w0 hbw hF => hbw.grown hg (fun k hk => hF k (by simpa [Value.ownBlock] using hk.symm))⟩
  have := own_fInts (w := Go.Sort.grow (Go.Sort.putRow (Value.int .i64) (Go.Sort.ahead w n) g 0 (xs.mergeSort fun x y => decide (x ≤ y)).toArray) os) (xs := sortI xs) (v := .slice (some ⟨g, 0, none⟩) xs.length c) (by rw [sortI_len]; exact ho)
  exact this
end Go.Proofs.YthlaabaffbffkaaGreat

namespace Go.Proofs.YthlaabaffbffkaaGreat
open Go.RowKit
set_option linter.unusedVariables false
set_option linter.unusedSimpArgs false
def fStanding : Fp GStanding := fun w x cs F => ∃ va vb vc Fa Fb Fc, cs = [va, vb, vc, .int .i64 x.tests] ∧ fItems w x.items [va] Fa ∧ fNodes w x.wanted [vb] Fb ∧ fInts w x.best [vc] Fc ∧ F = Fa ++ (Fb ++ Fc)
theorem eqStanding_dec (x y : GStanding) : decide (x = y) = (decide (x.items = y.items) && (decide (x.wanted = y.wanted) && (decide (x.best = y.best) && decide (x.tests = y.tests)))) := by rw [Bool.eq_iff_iff]; simp [GStanding.eq_iff]


set_option maxRecDepth 100000 in
set_option maxHeartbeats 1600000 in
theorem S_EqualStandings (w : World) (x y : GStanding) (va vb vc ua ub uc : Value) (ha : Rd rItems w x.items [va]) (hb : Rd rNodes w x.wanted [vb]) (hc : Rd rInts w x.best [vc]) (ka : Rd rItems w y.items [ua]) (kb : Rd rNodes w y.wanted [ub]) (kc : Rd rInts w y.best [uc]) :
    Calls Tryz.prog 29 #[.agg #[va, vb, vc, .int .i64 x.tests], .agg #[ua, ub, uc, .int .i64 y.tests]] w (Ret w (.bool (decide (x = y)))) := by
  have B0 : Bw w ((w.alloc (.cells #[va, vb, vc, .int .i64 x.tests] 49)).alloc (.cells #[ua, ub, uc, .int .i64 y.tests] 49)) := ((Bw.refl w).alloc _).alloc _
  rw [eqStanding_dec]
  have H1 := Lib.hid (show x.items = y.items ∨ x.items ≠ y.items from Decidable.em _)
  go_enter Tryz.func29, Tryz.ntmps29
  go_wp2_with fail
  refine (S_EqualItems _ x.items y.items _ _ (ha.bw rItems_good B0) (ka.bw rItems_good B0)).mono ?_
  rintro e w1 ⟨rfl, hb1⟩
  have p0 : w1.cell? ⟨w.heap.size, 0, none⟩ = some (va) := hb1.cell (by go_simp)
  have p1 : w1.cell? ⟨w.heap.size, 1, none⟩ = some (vb) := hb1.cell (by go_simp)
  have p2 : w1.cell? ⟨w.heap.size, 2, none⟩ = some (vc) := hb1.cell (by go_simp)
  have p3 : w1.cell? ⟨w.heap.size, 3, none⟩ = some (.int .i64 x.tests) := hb1.cell (by go_simp)
  have q0 : w1.cell? ⟨w.heap.size + 1, 0, none⟩ = some (ua) := hb1.cell (by go_simp)
  have q1 : w1.cell? ⟨w.heap.size + 1, 1, none⟩ = some (ub) := hb1.cell (by go_simp)
  have q2 : w1.cell? ⟨w.heap.size + 1, 2, none⟩ = some (uc) := hb1.cell (by go_simp)
  have q3 : w1.cell? ⟨w.heap.size + 1, 3, none⟩ = some (.int .i64 y.tests) := hb1.cell (by go_simp)
  have B1 := B0.then hb1
  rcases Bool.eq_false_or_eq_true (decide (x.items = y.items)) with e1 | e1
  · have E1 := Lib.hid e1
    rw [show decide (x.items = y.items) = true from E1.out]
    clear e1
    go_wp2_with fail
    refine (S_EqualExpressions _ x.wanted y.wanted _ _ (hb.bw rNodes_good B1) (kb.bw rNodes_good B1)).mono ?_
    rintro e w2 ⟨rfl, hb2⟩
    replace p2 := hb2.cell p2
    replace p3 := hb2.cell p3
    replace q2 := hb2.cell q2
    replace q3 := hb2.cell q3
    replace B1 := B1.then hb2
    rcases Bool.eq_false_or_eq_true (decide (x.wanted = y.wanted)) with e2 | e2
    · have E2 := Lib.hid e2
      rw [show decide (x.wanted = y.wanted) = true from E2.out]
      clear e2
      go_wp2_with fail
      refine (S_l2Ints _ x.best y.best _ _ (hc.bw rInts_good B1) (kc.bw rInts_good B1)).mono ?_
      rintro e w3 ⟨rfl, hb3⟩
      replace p3 := hb3.cell p3
      replace q3 := hb3.cell q3
      replace B1 := B1.then hb3
      rcases Bool.eq_false_or_eq_true (decide (x.best = y.best)) with e3 | e3
      · have E3 := Lib.hid e3
        rw [show decide (x.best = y.best) = true from E3.out]
        clear e3
        by_cases e4 : x.tests = y.tests
        · have a4 : (x.tests == y.tests) = true := by simpa using e4
          have b4 : (x.tests != y.tests) = false := by simpa using e4
          have E4 := Lib.hid e4
          clear e4
          go_wp2
          go_ret
          exact Ret.bool (by simp [E1.out, E2.out, E3.out, E4.out]) (B1)
        · have a4 : (x.tests == y.tests) = false := by simpa using e4
          have b4 : (x.tests != y.tests) = true := by simpa using e4
          have E4 := Lib.hid e4
          clear e4
          go_wp2
          go_ret
          exact Ret.bool (by simp [E4.out]) (B1)
      · have E3 := Lib.hid e3
        rw [show decide (x.best = y.best) = false from E3.out]
        clear e3
        go_wp2
        go_ret
        exact Ret.bool (by simp [E3.out]) (B1)
    · have E2 := Lib.hid e2
      rw [show decide (x.wanted = y.wanted) = false from E2.out]
      clear e2
      go_wp2
      go_ret
      exact Ret.bool (by simp [E2.out]) (B1)
  · have E1 := Lib.hid e1
    rw [show decide (x.items = y.items) = false from E1.out]
    clear e1
    go_wp2
    go_ret
    exact Ret.bool (by simp [E1.out]) (B1)
theorem szM_pos {m : Int} {a : Nat} (h : ¬ m < a) : szM m a = m - a := if_neg h
theorem szM_min {m : Int} {a : Nat} (h : m < a) : szM m a = -1 := if_pos h

end Go.Proofs.YthlaabaffbffkaaGreat
