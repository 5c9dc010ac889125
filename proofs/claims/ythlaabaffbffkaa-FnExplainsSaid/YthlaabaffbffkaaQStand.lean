/- Standings: the laws' conversions, counts and comparisons; EqualStandings in both programs. -/
import Derived.Test.YthlaabaffbffkaaQDom
import Derived.Test.YthlaabaffbffkaaQLines3
import Derived.Test.YthlaabaffbffkaaQCoupS
import Derived.Test.YthlaabaffbffkaaProg
import Derived.Shelf.SortM.Plain
import Derived.Shelf.SlSortCmp.WholeK
import Derived.Test.YthlaabaffbffkaaQBoxT
import Derived.Sort.OwnSortedInts
import Derived.Test.YthlaabaffbffkaaQCopyW
namespace Go.Proofs.Ythlaabaffbffkaa
open Go.RowKit
set_option linter.unusedVariables false
set_option linter.unusedSimpArgs false
def exIn (s : GStanding) (id : Int) (x : GItem) : Bool := beats s.wanted (itemAt s.items id) x && s.best.all fun b => b == id || !(beats s.wanted (itemAt s.items b) x)
def exclM (s : GStanding) (id : Int) : List Int := if isStand s && s.best.contains id then idsOf (exIn s id) s.items else []
def byL (s : GStanding) (x : GItem) : List Int := (relM s.items s.wanted x.id 1).filter fun d => s.best.contains d
def byTo (s : GStanding) (D : List Int) (k : Nat) : List Int := (D.take k).filter fun d => s.best.contains d
theorem byTo_yes {s : GStanding} {D : List Int} {k : Nat} {d : Int} (hx : D[k]? = some d) (h : s.best.contains d = true) : byTo s D (k + 1) = byTo s D k ++ [d] := by
  unfold byTo; rw [List.take_add_one, hx, List.filter_append]
  simp only [Option.toList_some, List.filter_cons, List.filter_nil, h, if_true]
theorem byTo_no {s : GStanding} {D : List Int} {k : Nat} {d : Int} (hx : D[k]? = some d) (h : s.best.contains d = false) : byTo s D (k + 1) = byTo s D k := by
  unfold byTo; rw [List.take_add_one, hx, List.filter_append]
  simp only [Option.toList_some, List.filter_cons, List.filter_nil, h, List.append_nil, Bool.false_eq_true, if_false]
theorem byTo_end {s : GStanding} {x : GItem} {k : Nat} (h : (relM s.items s.wanted x.id 1).length ≤ k) : byTo s (relM s.items s.wanted x.id 1) k = byL s x := by unfold byTo byL; rw [List.take_of_length_le h]
theorem byTo_len {s : GStanding} {D : List Int} {k : Nat} : (byTo s D k).length ≤ k := by
  unfold byTo
  exact Nat.le_trans (List.length_filter_le _ _) (by rw [List.length_take]; omega)
theorem stand_both {s : GStanding} (h : isStand s = true) : areBoth s.items s.wanted = true ∧ s.best = bestM s.items s.wanted := by
  unfold isStand at h
  simp only [Bool.and_eq_true, decide_eq_true_iff] at h
  exact ⟨h.1, h.2.1⟩
theorem itemAt_mem {l : List GItem} (h : areItems l = true) {y : GItem} (hy : y ∈ l) : itemAt l y.id = y := by
  rcases findIdx_cases l y.id with ⟨_, hn⟩ | ⟨j, x, hf, hx, hid⟩
  · exact absurd rfl (hn y hy)
  · rw [itemAt_of hf hx]; exact areItems_uniq h (List.mem_of_getElem? hx) hy hid
theorem from_nodup : ∀ {l : List GItem} {o : Option Int}, areItemsFrom o l = true → (l.map (·.id)).Nodup
  | [], _, _ => List.nodup_nil
  | z :: l, o, h => by
    have h2 : areItemsFrom (some z.id) l = true := by
      cases o <;> simp only [areItemsFrom, Bool.and_eq_true] at h <;> exact h.2
    rw [List.map_cons, List.nodup_cons]
    refine ⟨fun hm => ?_, from_nodup h2⟩
    obtain ⟨y, hy, e⟩ := List.mem_map.1 hm
    have := from_gt h2 y hy
    omega
theorem only_one {L : List Int} {id : Int} (hn : L.Nodup) (hm : id ∈ L) (ha : ∀ d ∈ L, d = id) : L = [id] := by
  match L, hn, hm, ha with
  | [a], _, _, ha => rw [ha a (by simp)]
  | a :: b :: T, hn, _, ha =>
    have h1 := ha a (by simp)
    have h2 := ha b (by simp)
    rw [h1, h2] at hn
    simp at hn
theorem best_item {s : GStanding} (h : isStand s = true) {b : Int} (hb : b ∈ s.best) : ∃ y ∈ s.items, y.id = b := by
  obtain ⟨h1, h2⟩ := stand_both h
  rw [h2] at hb
  unfold bestM at hb
  obtain ⟨y, hy, e⟩ := List.mem_map.1 hb
  exact ⟨y, (List.mem_filter.1 hy).1, e⟩
theorem by_mem {s : GStanding} (h : isStand s = true) {x : GItem} (hx : x ∈ s.items) {d : Int} : d ∈ byL s x ↔ ∃ y ∈ s.items, y.id = d ∧ beats s.wanted y x = true ∧ d ∈ s.best := by
  obtain ⟨h1, _⟩ := stand_both h
  have hI := areBoth_items h1
  have hok : changeOk s.items s.wanted x.id = true := by
    unfold changeOk
    rcases findIdx_cases s.items x.id with ⟨_, hn⟩ | ⟨j, y, hf, _, _⟩
    · exact absurd rfl (hn x hx)
    · rw [h1, hf]; simp
  unfold byL relM
  rw [if_pos hok, itemAt_mem hI hx, List.mem_filter]
  unfold idsOf
  rw [List.mem_map]
  constructor
  · rintro ⟨⟨y, hy, e⟩, hb⟩
    exact ⟨y, (List.mem_filter.1 hy).1, e, (List.mem_filter.1 hy).2, by simpa using hb⟩
  · rintro ⟨y, hy, e, hb, hd⟩
    exact ⟨⟨y, List.mem_filter.2 ⟨hy, hb⟩, e⟩, by simpa using hd⟩
theorem by_iff {s : GStanding} (h : isStand s = true) {id : Int} (hid : id ∈ s.best) {x : GItem} (hx : x ∈ s.items) : decide (byL s x = [id]) = exIn s id x := by
  obtain ⟨h1, _⟩ := stand_both h
  have hI := areBoth_items h1
  rw [Bool.eq_iff_iff, decide_eq_true_eq]
  unfold exIn
  rw [Bool.and_eq_true, List.all_eq_true]
  constructor
  · intro hL
    refine ⟨?_, fun b hb => ?_⟩
    · obtain ⟨y, hy, e, hbt, _⟩ := (by_mem h hx).1 (show id ∈ byL s x by rw [hL]; simp)
      rw [← e, itemAt_mem hI hy]; exact hbt
    · by_cases hbi : b = id
      · simp [hbi]
      · rcases Bool.eq_false_or_eq_true (beats s.wanted (itemAt s.items b) x) with hq | hq
        · obtain ⟨y, hy, e⟩ := best_item h hb
          rw [← e, itemAt_mem hI hy] at hq
          have : b ∈ byL s x := (by_mem h hx).2 ⟨y, hy, e, hq, hb⟩
          rw [hL] at this
          exact absurd (by simpa using this) hbi
        · rw [hq]; simp
  · rintro ⟨hb, ha⟩
    refine only_one ?_ ?_ ?_
    · unfold byL
      refine List.Nodup.sublist (List.filter_sublist) ?_
      unfold relM
      split
      · unfold idsOf
        refine List.Nodup.sublist (List.Sublist.map _ List.filter_sublist) ?_
        unfold areItems at hI
        rw [Bool.and_eq_true] at hI
        exact from_nodup hI.1
      · exact List.nodup_nil
    · obtain ⟨y, hy, e⟩ := best_item h hid
      rw [← e, itemAt_mem hI hy] at hb
      exact (by_mem h hx).2 ⟨y, hy, e, hb, hid⟩
    · intro d hd
      obtain ⟨y, hy, e, hbt, hdb⟩ := (by_mem h hx).1 hd
      have := ha d hdb
      rw [← e, itemAt_mem hI hy, hbt] at this
      simp at this
      rw [← e]; exact this
theorem excl_yes {s : GStanding} {id : Int} (h : isStand s = true) (hc : s.best.contains id = true) : exclM s id = idsOf (exIn s id) s.items := by unfold exclM; rw [h, hc]; rfl
theorem excl_no {s : GStanding} {id : Int} (h : (isStand s && s.best.contains id) = false) : exclM s id = [] := by unfold exclM; rw [h]; rfl
theorem exclM_len (s : GStanding) (id : Int) (h : True) : (exclM s id).length ≤ s.items.length := by
  unfold exclM; split
  · exact idsOf_len _ _
  · exact Nat.zero_le _
/-- where an item of a given id lies -/
theorem item_cells {w : World} {l : List GItem} {b o n c : Nat} (h : Rd rItems w l [.slice (some ⟨b, o, none⟩) n c]) (hn : n = l.length) (hI : areItems l = true) {id : Int} (hid : ∃ y ∈ l, y.id = id) :
    ∃ (k : Nat) (A : Option Addr) (cc : Nat), findIdx l id = (k : Int) ∧ k < n ∧ isItem (itemAt l id) = true ∧ w.cell? ⟨b, o + k * 2, none⟩ = some (.int .i64 (itemAt l id).id) ∧ w.cell? ⟨b, o + k * 2 + 1, none⟩ = some (.slice A 3 cc) ∧ Rd rInts w (itemAt l id).vals [.slice A 3 cc] := by
  obtain ⟨y, hy, e⟩ := hid
  rcases findIdx_cases l id with ⟨_, hno⟩ | ⟨k, x, hf, hx, hxi⟩
  · exact absurd e (hno y hy)
  · have hP := areItems_mem hI (List.mem_of_getElem? hx)
    obtain ⟨b', o', A, cc, eA, _, h0, h1, h2⟩ := rItems_at h hx
    injection eA with eA
    injection eA with e1 e2
    subst e1 e2
    rw [isItem_len hP] at h1 h2
    refine ⟨k, A, cc, hf, ?_, ?_, ?_, h1, ?_⟩
    · rw [hn]; exact (List.getElem?_eq_some_iff.1 hx).1
    · rw [itemAt_of hf hx]; exact hP
    · rw [itemAt_of hf hx]; exact h0
    · rw [itemAt_of hf hx]; exact h2

end Go.Proofs.Ythlaabaffbffkaa

namespace Go.Proofs.Ythlaabaffbffkaa
open Go.Shelf
set_option linter.unusedVariables false
end Go.Proofs.Ythlaabaffbffkaa

namespace Go.Proofs.Ythlaabaffbffkaa
open Go.RowKit
set_option linter.unusedVariables false
set_option linter.unusedSimpArgs false
def sortI (l : List Int) : List Int := l.mergeSort fun x y => decide (x ≤ y)
theorem sortI_perm (l : List Int) : (sortI l).Perm l := List.mergeSort_perm l _
theorem sortI_sorted (l : List Int) : (sortI l).Pairwise (· ≤ ·) := by
  have h := List.pairwise_mergeSort (le := fun x y : Int => decide (x ≤ y)) (fun a b c h1 h2 => by simp at *; omega) (fun a b => by simp; omega) l
  exact h.imp (fun h => by simpa using h)
theorem sortI_len (l : List Int) : (sortI l).length = l.length := (sortI_perm l).length_eq
theorem sortI_uniq {l m : List Int} (hp : m.Perm l) (hs : m.Pairwise (· ≤ ·)) : m = sortI l :=
  List.Perm.eq_of_pairwise (fun a b _ _ h1 h2 => by omega) hs (sortI_sorted l) (hp.trans (sortI_perm l).symm)
theorem sortI_nil : sortI [] = [] := List.eq_nil_of_length_eq_zero (sortI_len [])
theorem all3_intsQ : ∀ {xs : List Int} {us : List (List Value)} {fs : List (List Nat)} {w : World}, all3 (fun x u f => fInt w x u f ∧ u.length = 1) xs us fs → us.flatten = xs.map (Value.int .i64) ∧ fs.flatten = []
  | [], [], [], _, _ => ⟨rfl, rfl⟩
  | x :: xs, u :: us, f :: fs, w, h => by
    have ih := all3_intsQ (xs := xs) (w := w) h.2
    obtain ⟨⟨hu, hf⟩, _⟩ := h.1
    rw [List.flatten_cons, List.flatten_cons, ih.1, ih.2, hu, hf]
    exact ⟨rfl, rfl⟩
  | [], _ :: _, _, _, h | [], [], _ :: _, _, h | _ :: _, [], _, _, h | _ :: _, _ :: _, [], _, h => h.elim
theorem fInts_own {w : World} {xs : List Int} {v : Value} {F : List Nat} (h : fInts w xs [v] F) : w.ownsRow 0 3 1 v xs.length (xs.map (Value.int .i64)) ∧ F = v.ownBlock.toList := by
  obtain ⟨v', us, Fs, e, hown, hall, hF⟩ := h
  injection e with e
  subst e
  obtain ⟨h1, h2⟩ := all3_intsQ hall
  rw [h1] at hown
  rw [h2, List.append_nil] at hF
  exact ⟨hown, hF⟩
theorem own_fInts {w : World} {xs : List Int} {v : Value} (h : w.ownsRow 0 3 1 v xs.length (xs.map (Value.int .i64))) : fInts w xs [v] v.ownBlock.toList := by
  refine ⟨v, xs.map (fun x => [Value.int .i64 x]), List.replicate xs.length [], rfl, ?_, ?_, ?_⟩
  · have : (xs.map (fun x => [Value.int .i64 x])).flatten = xs.map (Value.int .i64) := by
      clear h
      induction xs with
      | nil => rfl
      | cons x xs ih => rw [List.map_cons, List.flatten_cons, List.map_cons]; simp_all
    rw [this]; exact h
  · clear h
    induction xs with
    | nil => trivial
    | cons x xs ih => exact ⟨⟨⟨rfl, rfl⟩, rfl⟩, ih⟩
  · rw [flatten_replicate_nil, List.append_nil]
/-- what a sort leaves -/
def RetSort (w : World) (xs : List Int) (v : Value) (F : List Nat) (e : Ending) (w' : World) : Prop := e = .returned (.tuple #[]) ∧ fInts w' (sortI xs) [v] F ∧ Only F w w' ∧ ∀ w0 : World, Bw w0 w → (∀ b ∈ F, w0.heap.size ≤ b) → Bw w0 w'

end Go.Proofs.Ythlaabaffbffkaa

namespace Go.Proofs.Ythlaabaffbffkaa
open Go.RowKit
set_option linter.unusedVariables false




set_option maxRecDepth 100000 in
set_option maxHeartbeats 3200000 in
theorem S_EqualItems (w : World) (xs ys : List GItem) (v1 v2 : Value) (h1 : Rd rItems w xs [v1]) (h2 : Rd rItems w ys [v2]) :
    Calls Try.prog 8 #[v1, v2] w (Ret w (.bool (decide (xs = ys)))) := by
  obtain ⟨A1, n1, c1, rfl, a1, a2, a3⟩ := rSl_open h1
  obtain ⟨A2, n2, c2, rfl, b1, b2, b3⟩ := rSl_open h2
  unfold maxLen at a3 b3
  have L1 := Lib.hid a1
  have L2 := Lib.hid b1
  clear a1 b1
  by_cases hl : n1 = n2
  · subst hl
    go_enter Try.func8, Try.ntmps8
    go_wp2
    go_loopw [5] (fun i w' => ∃ k : Nat, k ≤ n1 ∧ i = .int .i64 k ∧ xs.take k = ys.take k ∧ Bw w w') (fun i _ => n1 - (intOf i).toNat)
    case atStart => exact ⟨0, by omega, rfl, by simp, Bw.refl _⟩
    case round =>
      obtain ⟨k, hk, rfl, he, hb⟩ := hrel
      have HE := Lib.hid he
      clear he
      by_cases hlt : k < n1
      · obtain ⟨x, hx⟩ := get_of_lt (xs := xs) (k := k) (by rw [← L1.out]; exact hlt)
        obtain ⟨y, hy⟩ := get_of_lt (xs := ys) (k := k) (by rw [← L2.out]; exact hlt)
        obtain ⟨ba, oa, Ax, cx, rfl, _, p0, p1, hix⟩ := rItems_at (h1.bw rItems_good hb) hx
        obtain ⟨bb, ob, Ay, cy, rfl, _, q0, q1, hiy⟩ := rItems_at (h2.bw rItems_good hb) hy
        have HX := Lib.hid hx
        have HY := Lib.hid hy
        have i1 : (0 : Int) ≤ (k : Int) := by omega
        have i2 : (k : Int) < (n1 : Int) := by omega
        have hbA := hb
        have hix' : Rd rInts wr _ _ := hix; have hiy' : Rd rInts wr _ _ := hiy; have s0 := since_cell p0; have s1 := since_cell p1; have s2 := since_cell q0; have s3 := since_cell q1; clear p0 p1 q0 q1
        clear hx hy h1 h2
        by_cases e1 : x.id = y.id
        · have a1 : (x.id == y.id) = true := by simpa using e1
          have b1 : (x.id != y.id) = false := by simpa using e1
          have E1 := Lib.hid e1
          clear e1
          rcases Bool.eq_false_or_eq_true (decide (x.vals = y.vals)) with hd | hd
          · have HD := Lib.hid hd
            have HXY := Lib.hid (show x = y by have := E1.out; have h2 := HD.out; cases x; cases y; simp_all)
            clear HD
            go_wp2
            refine wp_region_since (by kernel_rfl) (by kernel_rfl) ?_
            repeat (first | go_big_quiet_skip | (go_big_quiet_want; go_big_quiet_op; first | go_big_quiet_on | (apply Exists.intro; refine ⟨fun _ => ?_, ?_⟩; (· (((first | (go_at_call 26; exact Calls_since (Calls_weak (S_l2Ints _ x.vals y.vals _ _ (Rd.bw rInts_good hix' (Since.bw _)) (Rd.bw rInts_good hiy' (Since.bw _))) (congrArg Value.bool hd))))))); go_big_quiet_on)))
            refine wpQuiet_nil ?_
            rintro ⟨wq, hbq⟩
            dsimp only at *
            go_wp2
            go_roundw
            case rel => exact ⟨k + 1, by omega, by go_num, take_step HE.out HX.out HY.out HXY.out, hbA.then hbq⟩
            case measure => simp [intOf]; omega
          · have HD := Lib.hid hd
            have HXY := Lib.hid (show x ≠ y by rintro rfl; have h2 := HD.out; simp at h2)
            clear HD
            go_wp2
            refine wp_region_since (by kernel_rfl) (by kernel_rfl) ?_
            repeat (first | go_big_quiet_skip | (go_big_quiet_want; go_big_quiet_op; first | go_big_quiet_on | (apply Exists.intro; refine ⟨fun _ => ?_, ?_⟩; (· (((first | (go_at_call 26; exact Calls_since (Calls_weak (S_l2Ints _ x.vals y.vals _ _ (Rd.bw rInts_good hix' (Since.bw _)) (Rd.bw rInts_good hiy' (Since.bw _))) (congrArg Value.bool hd))))))); go_big_quiet_on)))
            refine wpQuiet_nil ?_
            rintro ⟨wq, hbq⟩
            dsimp only at *
            go_wp2
            go_ret
            exact Ret.bool (by simpa using ne_of_at HX.out HY.out HXY.out) (hbA.then hbq)
        · have a1 : (x.id == y.id) = false := by simpa using e1
          have b1 : (x.id != y.id) = true := by simpa using e1
          have HXY := Lib.hid (show x ≠ y by rintro rfl; exact e1 rfl)
          clear e1
          go_wp2
          refine wp_region_since (by kernel_rfl) (by kernel_rfl) ?_
          repeat (first | go_big_quiet_skip | (go_big_quiet_want; go_big_quiet_op; first | go_big_quiet_on | (apply Exists.intro; refine ⟨fun _ => ?_, ?_⟩; (· (((first | (go_at_call 26; exact Calls_since (S_l2Ints _ x.vals y.vals _ _ (Rd.bw rInts_good hix' (Since.bw _)) (Rd.bw rInts_good hiy' (Since.bw _)))))))); go_big_quiet_on)))
          refine wpQuiet_nil ?_
          rintro ⟨wq, hbq⟩
          dsimp only at *
          go_wp2
          go_ret
          exact Ret.bool (by simpa using ne_of_at HX.out HY.out HXY.out) (hbA.then hbq)
      · go_wp2
        go_ret
        exact Ret.bool (by simpa using eq_of_take HE.out (by rw [← L1.out]; omega) (by rw [← L2.out]; omega)) hb
  · go_enter Try.func8, Try.ntmps8
    go_wp2
    go_ret
    exact Ret.bool (by simp; intro e; exact hl (by rw [L1.out, L2.out, e])) (Bw.refl _)

end Go.Proofs.Ythlaabaffbffkaa

namespace Go.Proofs.Ythlaabaffbffkaa
open Go.RowKit
set_option linter.unusedVariables false
set_option linter.unusedSimpArgs false
def fStanding : Fp GStanding := fun w x cs F => ∃ va vb vc Fa Fb Fc, cs = [va, vb, vc, .int .i64 x.tests] ∧ fItems w x.items [va] Fa ∧ fNodes w x.wanted [vb] Fb ∧ fInts w x.best [vc] Fc ∧ F = Fa ++ (Fb ++ Fc)
theorem eqStanding_dec (x y : GStanding) : decide (x = y) = (decide (x.items = y.items) && (decide (x.wanted = y.wanted) && (decide (x.best = y.best) && decide (x.tests = y.tests)))) := by rw [Bool.eq_iff_iff]; simp [GStanding.eq_iff]



theorem szM_pos {m : Int} {a : Nat} (h : ¬ m < a) : szM m a = m - a := if_neg h
theorem szM_min {m : Int} {a : Nat} (h : m < a) : szM m a = -1 := if_pos h

end Go.Proofs.Ythlaabaffbffkaa
