/- The library's sorts, laid at this program. -/
import Derived.Test.YtpihighajaeabaaGreatQItems
import Derived.Test.YtpihighajaeabaaGreatQOwn3
import Derived.Test.YtpihighajaeabaaGreatQModel3
import Derived.Test.YtpihighajaeabaaGreatQTree
import Derived.Test.YtpihighajaeabaaGreatQBestS
import Derived.Test.YtpihighajaeabaaGreatQBand
import Derived.Test.YtpihighajaeabaaGreatQStanding
import Derived.Test.YtpihighajaeabaaGreatProg
import Derived.Shelf.SortM.Plain
import Derived.Shelf.SlSortCmp.WholeK
namespace Go.Proofs.YtpihighajaeabaaGreat
open Go.RowKit
set_option linter.unusedVariables false


end Go.Proofs.YtpihighajaeabaaGreat

namespace Go.Proofs.YtpihighajaeabaaGreat
open Go.RowKit
set_option linter.unusedVariables false
end Go.Proofs.YtpihighajaeabaaGreat

namespace Go.Proofs.YtpihighajaeabaaGreat
open Go.RowKit
set_option linter.unusedVariables false
end Go.Proofs.YtpihighajaeabaaGreat

namespace Go.Proofs.YtpihighajaeabaaGreat
open Go.RowKit
set_option linter.unusedVariables false
end Go.Proofs.YtpihighajaeabaaGreat

namespace Go.Proofs.YtpihighajaeabaaGreat
open Go.RowKit
set_option linter.unusedVariables false
set_option linter.unusedSimpArgs false
end Go.Proofs.YtpihighajaeabaaGreat

namespace Go.Proofs.YtpihighajaeabaaGreat
open Go.RowKit
set_option linter.unusedVariables false
set_option linter.unusedSimpArgs false
def exIn (s : GStanding) (id : Int) (x : GItem) : Bool := beats s.wanted (itemAt s.items id) x && s.best.all fun b => b == id || !(beats s.wanted (itemAt s.items b) x)
def exclM (s : GStanding) (id : Int) : List Int := if isStand s && s.best.contains id then idsOf (exIn s id) s.items else []
def byL (s : GStanding) (x : GItem) : List Int := (relM s.items s.wanted x.id 1).filter fun d => s.best.contains d
def byTo (s : GStanding) (D : List Int) (k : Nat) : List Int := (D.take k).filter fun d => s.best.contains d
theorem byTo_yes {s : GStanding} {D : List Int} {k : Nat} {d : Int} (hx : D[k]? = some d) (h : s.best.contains d = true) : byTo s D (k + 1) = byTo s D k ++ [d] := by
  unfold byTo; rw [List.take_add_one, hx, List.filter_append]
  simp only [Option.toList_some, List.filter_cons, List.filter_nil, h, if_true]
theorem byTo_no {s : GStanding} {D : List Int} {k : Nat} {d : Int} (hx : D[k]? = some d) (h : s.best.contains d = false) : byTo s D (k + 1) = byTo s D k := by
  unfold byTo; rw [List.take_add_one, hx, List.filter_append]
  simp only [Option.toList_some, List.filter_cons, List.filter_nil, h, List.append_nil, Bool.false_eq_true, if_false]
theorem byTo_end {s : GStanding} {x : GItem} {k : Nat} (h : (relM s.items s.wanted x.id 1).length ≤ k) : byTo s (relM s.items s.wanted x.id 1) k = byL s x := by unfold byTo byL; rw [List.take_of_length_le h]
theorem byTo_len {s : GStanding} {D : List Int} {k : Nat} : (byTo s D k).length ≤ k := by
  unfold byTo
  exact Nat.le_trans (List.length_filter_le _ _) (by rw [List.length_take]; omega)
theorem stand_both {s : GStanding} (h : isStand s = true) : areBoth s.items s.wanted = true ∧ s.best = bestM s.items s.wanted := by
  unfold isStand at h
  simp only [Bool.and_eq_true, decide_eq_true_iff] at h
  exact ⟨h.1, h.2.1⟩
theorem itemAt_mem {l : List GItem} (h : areItems l = true) {y : GItem} (hy : y ∈ l) : itemAt l y.id = y := by
  rcases findIdx_cases l y.id with ⟨_, hn⟩ | ⟨j, x, hf, hx, hid⟩
  · exact absurd rfl (hn y hy)
  · rw [itemAt_of hf hx]; exact areItems_uniq h (List.mem_of_getElem? hx) hy hid
theorem from_nodup : ∀ {l : List GItem} {o : Option Int}, areItemsFrom o l = true → (l.map (·.id)).Nodup
  | [], _, _ => List.nodup_nil
  | z :: l, o, h => by
    have h2 : areItemsFrom (some z.id) l = true := by
      cases o <;> simp only [areItemsFrom, Bool.and_eq_true] at h <;> exact h.2
    rw [List.map_cons, List.nodup_cons]
    refine ⟨fun hm => ?_, from_nodup h2⟩
    obtain ⟨y, hy, e⟩ := List.mem_map.1 hm
    have := from_gt h2 y hy
    omega
theorem only_one {L : List Int} {id : Int} (hn : L.Nodup) (hm : id ∈ L) (ha : ∀ d ∈ L, d = id) : L = [id] := by
  match L, hn, hm, ha with
  | [a], _, _, ha => rw [ha a (by simp)]
  | a :: b :: T, hn, _, ha =>
    have h1 := ha a (by simp)
    have h2 := ha b (by simp)
    rw [h1, h2] at hn
    simp at hn
theorem best_item {s : GStanding} (h : isStand s = true) {b : Int} (hb : b ∈ s.best) : ∃ y ∈ s.items, y.id = b := by
  obtain ⟨h1, h2⟩ := stand_both h
  rw [h2] at hb
  unfold bestM at hb
  obtain ⟨y, hy, e⟩ := List.mem_map.1 hb
  exact ⟨y, (List.mem_filter.1 hy).1, e⟩
theorem by_mem {s : GStanding} (h : isStand s = true) {x : GItem} (hx : x ∈ s.items) {d : Int} : d ∈ byL s x ↔ ∃ y ∈ s.items, y.id = d ∧ beats s.wanted y x = true ∧ d ∈ s.best := by
  obtain ⟨h1, _⟩ := stand_both h
  have hI := areBoth_items h1
  have hok : changeOk s.items s.wanted x.id = true := by
    unfold changeOk
    rcases findIdx_cases s.items x.id with ⟨_, hn⟩ | ⟨j, y, hf, _, _⟩
    · exact absurd rfl (hn x hx)
    · rw [h1, hf]; simp
  unfold byL relM
  rw [if_pos hok, itemAt_mem hI hx, List.mem_filter]
  unfold idsOf
  rw [List.mem_map]
  constructor
  · rintro ⟨⟨y, hy, e⟩, hb⟩
    exact ⟨y, (List.mem_filter.1 hy).1, e, (List.mem_filter.1 hy).2, by simpa using hb⟩
  · rintro ⟨y, hy, e, hb, hd⟩
    exact ⟨⟨y, List.mem_filter.2 ⟨hy, hb⟩, e⟩, by simpa using hd⟩
theorem by_iff {s : GStanding} (h : isStand s = true) {id : Int} (hid : id ∈ s.best) {x : GItem} (hx : x ∈ s.items) : decide (byL s x = [id]) = exIn s id x := by
  obtain ⟨h1, _⟩ := stand_both h
  have hI := areBoth_items h1
  rw [Bool.eq_iff_iff, decide_eq_true_eq]
  unfold exIn
  rw [Bool.and_eq_true, List.all_eq_true]
  constructor
  · intro hL
    refine ⟨?_, fun b hb => ?_⟩
    · obtain ⟨y, hy, e, hbt, _⟩ := (by_mem h hx).1 (show id ∈ byL s x by rw [hL]; simp)
      rw [← e, itemAt_mem hI hy]; exact hbt
    · by_cases hbi : b = id
      · simp [hbi]
      · rcases Bool.eq_false_or_eq_true (beats s.wanted (itemAt s.items b) x) with hq | hq
        · obtain ⟨y, hy, e⟩ := best_item h hb
          rw [← e, itemAt_mem hI hy] at hq
          have : b ∈ byL s x := (by_mem h hx).2 ⟨y, hy, e, hq, hb⟩
          rw [hL] at this
          exact absurd (by simpa using this) hbi
        · rw [hq]; simp
  · rintro ⟨hb, ha⟩
    refine only_one ?_ ?_ ?_
    · unfold byL
      refine List.Nodup.sublist (List.filter_sublist) ?_
      unfold relM
      split
      · unfold idsOf
        refine List.Nodup.sublist (List.Sublist.map _ List.filter_sublist) ?_
        unfold areItems at hI
        rw [Bool.and_eq_true] at hI
        exact from_nodup hI.1
      · exact List.nodup_nil
    · obtain ⟨y, hy, e⟩ := best_item h hid
      rw [← e, itemAt_mem hI hy] at hb
      exact (by_mem h hx).2 ⟨y, hy, e, hb, hid⟩
    · intro d hd
      obtain ⟨y, hy, e, hbt, hdb⟩ := (by_mem h hx).1 hd
      have := ha d hdb
      rw [← e, itemAt_mem hI hy, hbt] at this
      simp at this
      rw [← e]; exact this
theorem excl_yes {s : GStanding} {id : Int} (h : isStand s = true) (hc : s.best.contains id = true) : exclM s id = idsOf (exIn s id) s.items := by unfold exclM; rw [h, hc]; rfl
theorem excl_no {s : GStanding} {id : Int} (h : (isStand s && s.best.contains id) = false) : exclM s id = [] := by unfold exclM; rw [h]; rfl
theorem exclM_len (s : GStanding) (id : Int) (h : True) : (exclM s id).length ≤ s.items.length := by
  unfold exclM; split
  · exact idsOf_len _ _
  · exact Nat.zero_le _
/-- where an item of a given id lies -/
theorem item_cells {w : World} {l : List GItem} {b o n c : Nat} (h : Rd rItems w l [.slice (some ⟨b, o, none⟩) n c]) (hn : n = l.length) (hI : areItems l = true) {id : Int} (hid : ∃ y ∈ l, y.id = id) :
    ∃ (k : Nat) (A : Option Addr) (cc : Nat), findIdx l id = (k : Int) ∧ k < n ∧ isItem (itemAt l id) = true ∧ w.cell? ⟨b, o + k * 2, none⟩ = some (.int .i64 (itemAt l id).id) ∧ w.cell? ⟨b, o + k * 2 + 1, none⟩ = some (.slice A 3 cc) ∧ Rd rInts w (itemAt l id).vals [.slice A 3 cc] := by
  obtain ⟨y, hy, e⟩ := hid
  rcases findIdx_cases l id with ⟨_, hno⟩ | ⟨k, x, hf, hx, hxi⟩
  · exact absurd e (hno y hy)
  · have hP := areItems_mem hI (List.mem_of_getElem? hx)
    obtain ⟨b', o', A, cc, eA, _, h0, h1, h2⟩ := rItems_at h hx
    injection eA with eA
    injection eA with e1 e2
    subst e1 e2
    rw [isItem_len hP] at h1 h2
    refine ⟨k, A, cc, hf, ?_, ?_, ?_, h1, ?_⟩
    · rw [hn]; exact (List.getElem?_eq_some_iff.1 hx).1
    · rw [itemAt_of hf hx]; exact hP
    · rw [itemAt_of hf hx]; exact h0
    · rw [itemAt_of hf hx]; exact h2
end Go.Proofs.YtpihighajaeabaaGreat

namespace Go.Proofs.YtpihighajaeabaaGreat
open Go.Shelf
set_option linter.unusedVariables false
def layInts_ren : Go.Shelf.Ren := ⟨fun | 5 => 79 | 8 => 163 | 7 => 162 | 19 => 216 | 20 => 217 | 10 => 207 | 11 => 208 | 12 => 209 | 13 => 210 | 14 => 211 | 15 => 212 | 16 => 213 | 17 => 214 | 18 => 215 | 30 => 261 | 31 => 262 | 32 => 263 | 33 => 264 | 34 => 265 | 35 => 266 | 40 => 283 | n => n, fun | 23 => 26 | 25 => 3 | 3 => 3 | 32 => 159 | 22 => 26 | 0 => 0 | 44 => 199 | 46 => 201 | 4 => 4 | 36 => 191 | 35 => 190 | 41 => 196 | 5 => 5 | 9 => 9 | 53 => 231 | 57 => 235 | 63 => 247 | 64 => 248 | n => n, fun | n => n⟩
set_option maxRecDepth 100000 in
theorem layInts : Go.Proofs.SlLaysM.n5 Tryz.prog layInts_ren := {
  mixed := by kernel_rfl
  f5 := ⟨Tryz.f79.name, by decide, Tryz.func79.trans (congrArg some (by kernel_rfl))⟩
  f7 := ⟨Tryz.f162.name, by decide, Tryz.func162.trans (congrArg some (by kernel_rfl))⟩
  f8 := Tryz.func163.trans (congrArg some (by kernel_rfl))
  f10 := ⟨Tryz.f207.name, by decide, Tryz.func207.trans (congrArg some (by kernel_rfl))⟩
  f11 := ⟨Tryz.f208.name, by decide, Tryz.func208.trans (congrArg some (by kernel_rfl))⟩
  f12 := ⟨Tryz.f209.name, by decide, Tryz.func209.trans (congrArg some (by kernel_rfl))⟩
  f13 := ⟨Tryz.f210.name, by decide, Tryz.func210.trans (congrArg some (by kernel_rfl))⟩
  f14 := ⟨Tryz.f211.name, by decide, Tryz.func211.trans (congrArg some (by kernel_rfl))⟩
  f15 := ⟨Tryz.f212.name, by decide, Tryz.func212.trans (congrArg some (by kernel_rfl))⟩
  f16 := ⟨Tryz.f213.name, by decide, Tryz.func213.trans (congrArg some (by kernel_rfl))⟩
  f17 := ⟨Tryz.f214.name, by decide, Tryz.func214.trans (congrArg some (by kernel_rfl))⟩
  f18 := ⟨Tryz.f215.name, by decide, Tryz.func215.trans (congrArg some (by kernel_rfl))⟩
  f19 := Tryz.func216.trans (congrArg some (by kernel_rfl))
  f20 := Tryz.func217.trans (congrArg some (by kernel_rfl))
  f30 := ⟨Tryz.f261.name, by decide, Tryz.func261.trans (congrArg some (by kernel_rfl))⟩
  f31 := Tryz.func262.trans (congrArg some (by kernel_rfl))
  f32 := Tryz.func263.trans (congrArg some (by kernel_rfl))
  f33 := ⟨Tryz.f264.name, by decide, Tryz.func264.trans (congrArg some (by kernel_rfl))⟩
  f34 := ⟨Tryz.f265.name, by decide, Tryz.func265.trans (congrArg some (by kernel_rfl))⟩
  f35 := ⟨Tryz.f266.name, by decide, Tryz.func266.trans (congrArg some (by kernel_rfl))⟩
  f40 := ⟨Tryz.f283.name, by decide, Tryz.func283.trans (congrArg some (by kernel_rfl))⟩
  t0 := Tryz.underlying0
  a0 := Tryz.isAgg0
  z0 := Tryz.sizeOf0
  v0 := Tryz.zeroValue0
  t3 := Tryz.underlying3
  a3 := Tryz.isAgg3
  z3 := Tryz.sizeOf3
  v3 := Tryz.zeroValue3
  t4 := Tryz.underlying4
  a4 := Tryz.isAgg4
  z4 := Tryz.sizeOf4
  v4 := Tryz.zeroValue4
  t5 := Tryz.underlying5
  a5 := Tryz.isAgg5
  z5 := Tryz.sizeOf5
  v5 := Tryz.zeroValue5
  t9 := Tryz.underlying9
  a9 := Tryz.isAgg9
  z9 := Tryz.sizeOf9
  v9 := Tryz.zeroValue9
  t22 := Tryz.underlying26
  a22 := Tryz.isAgg26
  z22 := Tryz.sizeOf26
  v22 := Tryz.zeroValue26
  t23 := Tryz.underlying26
  a23 := Tryz.isAgg26
  z23 := Tryz.sizeOf26
  v23 := Tryz.zeroValue26
  t25 := Tryz.underlying3
  a25 := Tryz.isAgg3
  z25 := Tryz.sizeOf3
  v25 := Tryz.zeroValue3
  t32 := Tryz.underlying159
  a32 := Tryz.isAgg159
  z32 := Tryz.sizeOf159
  v32 := Tryz.zeroValue159
  t35 := Tryz.underlying190
  a35 := Tryz.isAgg190
  z35 := Tryz.sizeOf190
  v35 := Tryz.zeroValue190
  t36 := Tryz.underlying191
  a36 := Tryz.isAgg191
  z36 := Tryz.sizeOf191
  v36 := Tryz.zeroValue191
  t41 := Tryz.underlying196
  a41 := Tryz.isAgg196
  z41 := Tryz.sizeOf196
  v41 := Tryz.zeroValue196
  t44 := Tryz.underlying199
  a44 := Tryz.isAgg199
  z44 := Tryz.sizeOf199
  v44 := Tryz.zeroValue199
  t46 := Tryz.underlying201
  a46 := Tryz.isAgg201
  z46 := Tryz.sizeOf201
  v46 := Tryz.zeroValue201
  t53 := Tryz.underlying231
  a53 := Tryz.isAgg231
  z53 := Tryz.sizeOf231
  v53 := Tryz.zeroValue231
  t57 := Tryz.underlying235
  a57 := Tryz.isAgg235
  z57 := Tryz.sizeOf235
  v57 := Tryz.zeroValue235
  t63 := Tryz.underlying247
  a63 := Tryz.isAgg247
  z63 := Tryz.sizeOf247
  v63 := Tryz.zeroValue247
  t64 := Tryz.underlying248
  a64 := Tryz.isAgg248
  z64 := Tryz.sizeOf248
  v64 := Tryz.zeroValue248 }
def layItems_ren : Go.Shelf.Ren := ⟨fun | 6 => 81 | 15 => 163 | 14 => 164 | 28 => 216 | 29 => 217 | 20 => 218 | 21 => 219 | 22 => 220 | 23 => 221 | 24 => 222 | 25 => 223 | 26 => 224 | 27 => 225 | 46 => 267 | 47 => 262 | 48 => 263 | 49 => 268 | 50 => 269 | 57 => 284 | n => n, fun | 22 => 24 | 24 => 30 | 25 => 95 | 3 => 3 | 39 => 159 | 0 => 0 | 53 => 199 | 55 => 201 | 4 => 4 | 46 => 191 | 45 => 190 | 50 => 196 | 5 => 5 | 9 => 9 | 66 => 231 | 70 => 235 | 76 => 247 | 77 => 248 | n => n, fun | n => n⟩
set_option maxRecDepth 100000 in
theorem layItems : Go.Proofs.SlLaysF0.n6 Tryz.prog layItems_ren := {
  mixed := by kernel_rfl
  f6 := ⟨Tryz.f81.name, by decide, Tryz.func81.trans (congrArg some (by kernel_rfl))⟩
  f14 := ⟨Tryz.f164.name, by decide, Tryz.func164.trans (congrArg some (by kernel_rfl))⟩
  f15 := Tryz.func163.trans (congrArg some (by kernel_rfl))
  f20 := ⟨Tryz.f218.name, by decide, Tryz.func218.trans (congrArg some (by kernel_rfl))⟩
  f21 := ⟨Tryz.f219.name, by decide, Tryz.func219.trans (congrArg some (by kernel_rfl))⟩
  f22 := ⟨Tryz.f220.name, by decide, Tryz.func220.trans (congrArg some (by kernel_rfl))⟩
  f23 := ⟨Tryz.f221.name, by decide, Tryz.func221.trans (congrArg some (by kernel_rfl))⟩
  f24 := ⟨Tryz.f222.name, by decide, Tryz.func222.trans (congrArg some (by kernel_rfl))⟩
  f25 := ⟨Tryz.f223.name, by decide, Tryz.func223.trans (congrArg some (by kernel_rfl))⟩
  f26 := ⟨Tryz.f224.name, by decide, Tryz.func224.trans (congrArg some (by kernel_rfl))⟩
  f27 := ⟨Tryz.f225.name, by decide, Tryz.func225.trans (congrArg some (by kernel_rfl))⟩
  f28 := Tryz.func216.trans (congrArg some (by kernel_rfl))
  f29 := Tryz.func217.trans (congrArg some (by kernel_rfl))
  f46 := ⟨Tryz.f267.name, by decide, Tryz.func267.trans (congrArg some (by kernel_rfl))⟩
  f47 := Tryz.func262.trans (congrArg some (by kernel_rfl))
  f48 := Tryz.func263.trans (congrArg some (by kernel_rfl))
  f49 := ⟨Tryz.f268.name, by decide, Tryz.func268.trans (congrArg some (by kernel_rfl))⟩
  f50 := ⟨Tryz.f269.name, by decide, Tryz.func269.trans (congrArg some (by kernel_rfl))⟩
  f57 := ⟨Tryz.f284.name, by decide, Tryz.func284.trans (congrArg some (by kernel_rfl))⟩
  t0 := Tryz.underlying0
  a0 := Tryz.isAgg0
  z0 := Tryz.sizeOf0
  v0 := Tryz.zeroValue0
  t3 := Tryz.underlying3
  a3 := Tryz.isAgg3
  z3 := Tryz.sizeOf3
  v3 := Tryz.zeroValue3
  t4 := Tryz.underlying4
  a4 := Tryz.isAgg4
  z4 := Tryz.sizeOf4
  v4 := Tryz.zeroValue4
  t5 := Tryz.underlying5
  a5 := Tryz.isAgg5
  z5 := Tryz.sizeOf5
  v5 := Tryz.zeroValue5
  t9 := Tryz.underlying9
  a9 := Tryz.isAgg9
  z9 := Tryz.sizeOf9
  v9 := Tryz.zeroValue9
  t22 := Tryz.underlying24
  a22 := Tryz.isAgg24
  z22 := Tryz.sizeOf24
  v22 := Tryz.zeroValue24
  t25 := Tryz.underlying95
  a25 := Tryz.isAgg95
  z25 := Tryz.sizeOf95
  v25 := Tryz.zeroValue95
  t39 := Tryz.underlying159
  a39 := Tryz.isAgg159
  z39 := Tryz.sizeOf159
  v39 := Tryz.zeroValue159
  t45 := Tryz.underlying190
  a45 := Tryz.isAgg190
  z45 := Tryz.sizeOf190
  v45 := Tryz.zeroValue190
  t46 := Tryz.underlying191
  a46 := Tryz.isAgg191
  z46 := Tryz.sizeOf191
  v46 := Tryz.zeroValue191
  t50 := Tryz.underlying196
  a50 := Tryz.isAgg196
  z50 := Tryz.sizeOf196
  v50 := Tryz.zeroValue196
  t53 := Tryz.underlying199
  a53 := Tryz.isAgg199
  z53 := Tryz.sizeOf199
  v53 := Tryz.zeroValue199
  t55 := Tryz.underlying201
  a55 := Tryz.isAgg201
  z55 := Tryz.sizeOf201
  v55 := Tryz.zeroValue201
  t66 := Tryz.underlying231
  a66 := Tryz.isAgg231
  z66 := Tryz.sizeOf231
  v66 := Tryz.zeroValue231
  t70 := Tryz.underlying235
  a70 := Tryz.isAgg235
  z70 := Tryz.sizeOf235
  v70 := Tryz.zeroValue235
  t76 := Tryz.underlying247
  a76 := Tryz.isAgg247
  z76 := Tryz.sizeOf247
  v76 := Tryz.zeroValue247
  t77 := Tryz.underlying248
  a77 := Tryz.isAgg248
  z77 := Tryz.sizeOf248
  v77 := Tryz.zeroValue248 }
end Go.Proofs.YtpihighajaeabaaGreat
