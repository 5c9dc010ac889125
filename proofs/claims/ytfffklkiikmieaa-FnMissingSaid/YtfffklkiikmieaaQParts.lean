/- The two parts of an expression, in both programs. -/
import Derived.Test.YtfffklkiikmieaaQCopies
import Derived.Test.YtfffklkiikmieaaQIntss
import Derived.Deep.LoopGhost
import Derived.Test.YtfffklkiikmieaaQStack
import Derived.Test.YtfffklkiikmieaaQExprI
import Derived.Test.YtfffklkiikmieaaQCopyW
import Derived.Test.YtfffklkiikmieaaQPareto
namespace Go.Proofs.Ytfffklkiikmieaa
open Go.RowKit
set_option linter.unusedVariables false
def holesV (i : Nat) : Nat → List Int → List (List Int)
  | _, [] => []
  | k, v :: vs => if v = -1 then [(i : Int), (k : Int)] :: holesV i (k + 1) vs else holesV i (k + 1) vs
def holesL : Nat → List GItem → List (List Int)
  | _, [] => []
  | i, x :: xs => holesV i 0 x.vals ++ holesL (i + 1) xs
def holes (xs : List GItem) : List (List Int) := holesL 0 xs
theorem holesV_len (i : Nat) : ∀ (k : Nat) (vs : List Int), (holesV i k vs).length ≤ vs.length
  | _, [] => Nat.le_refl _
  | k, v :: vs => by
    have := holesV_len i (k + 1) vs
    unfold holesV
    split <;> simp <;> omega
theorem holesL_len : ∀ (i : Nat) (xs : List GItem), (holesL i xs).length ≤ sumL (fun x => x.vals.length) xs
  | _, [] => Nat.le_refl _
  | i, x :: xs => by
    have := holesL_len (i + 1) xs
    have := holesV_len i 0 x.vals
    simp only [holesL, sumL, List.length_append]; omega
theorem holes_len {xs : List GItem} (h : totItems xs ≤ 1048576) : (holes xs).length ≤ 1048576 := by
  have := holesL_len 0 xs
  unfold totItems at h; unfold holes; omega
theorem holesL_drop {xs : List GItem} {i : Nat} {x : GItem} (h : xs[i]? = some x) : holesL i (xs.drop i) = holesV i 0 x.vals ++ holesL (i + 1) (xs.drop (i + 1)) := by rw [drop_cons h, holesL]
theorem holesV_yes {vs : List Int} {i k : Nat} {y : Int} (h : vs[k]? = some y) (hy : y = -1) : holesV i k (vs.drop k) = [(i : Int), (k : Int)] :: holesV i (k + 1) (vs.drop (k + 1)) := by rw [drop_cons h, holesV, if_pos hy]
theorem holesV_no {vs : List Int} {i k : Nat} {y : Int} (h : vs[k]? = some y) (hy : y ≠ -1) : holesV i k (vs.drop k) = holesV i (k + 1) (vs.drop (k + 1)) := by rw [drop_cons h, holesV, if_neg hy]
theorem fInts_two (w : World) (i k : Int) : fInts (w.alloc (.cells #[.int .i64 i, .int .i64 k] 3)) [i, k] [.slice (some ⟨w.heap.size, 0, none⟩) 2 2] [w.heap.size] := by
  refine ⟨_, [[.int .i64 i], [.int .i64 k]], [[], []], rfl, ?_, ⟨⟨⟨rfl, rfl⟩, rfl⟩, ⟨⟨rfl, rfl⟩, rfl⟩, trivial⟩, by simp [Value.ownBlock]⟩
  exact World.ownsRow_lit w #[.int .i64 i, .int .i64 k] 2 (Nat.zero_le _) (by simp [maxLen]) rfl
theorem info_Ints2 : (Try.prog.info? 42).map (fun i => (i.zero, i.size, i.bytes)) = some (some (.slice none 0 0), 1, 24) := by kernel_rfl
set_option maxRecDepth 100000 in
set_option maxHeartbeats 3200000 in
theorem S_HolesOf (w : World) (xs : List GItem) (v : Value) (h : Rd rItems w xs [v]) (ht : totItems xs ≤ 1048576) : Calls Try.prog 81 #[v] w (RetV w (Made fIntss w.heap.size (holes xs))) := by
  have HT := Lib.hid (holes_len ht)
  have hn : xs.length ≤ 1048576 := by unfold totItems at ht; omega
  have hnn : ∀ x ∈ xs, x.vals.length ≤ 1048576 := fun x hx => by have := le_sum (fun x : GItem => x.vals.length) hx; unfold totItems at ht; omega
  clear ht
  obtain ⟨i0, hi, hz0, hz1, hz2⟩ := info_parts info_Ints2
  obtain ⟨A, n, c, rfl, a1, a2, a3⟩ := rSl_open h
  rw [← a1] at hn
  have L1 := Lib.hid a1
  clear a1
  have hv0 := fSl_empty (e := 42) (sz := 1) (R := fInts) w
  go_enter Try.func81, Try.ntmps81
  go_wp2
  go_loopg [3, 4] n (fun g s i w' => ∃ (k : Nat) (acc : List (List Int)) (F : List Nat), k ≤ n ∧ g = n - k ∧ i = .int .i64 k ∧ fIntss w' acc [s] F ∧ Fresh w.heap.size F ∧ Hid (acc ++ holesL k (xs.drop k) = holes xs) ∧ Bw w w')
  case atStart => exact ⟨0, [], _, by omega, rfl, rfl, hv0, ⟨by simp, by simp⟩, Lib.hid (by simp [holes]), (Bw.refl _).alloc _⟩
  case round =>
    obtain ⟨i, acc, F, hk, rfl, rfl, hv, hF, HE, hb⟩ := hrel
    by_cases hlt : i < n
    · obtain ⟨x, hx⟩ := get_of_lt (xs := xs) (k := i) (by rw [← L1.out]; exact hlt)
      have hxm := hnn x (List.mem_of_getElem? hx)
      obtain ⟨ba, oa, A', c', rfl, _, hc0, hc1, hin⟩ := rItems_at h hx
      have HD := Lib.hid (holesL_drop hx)
      have HE2 := Lib.hid (show acc ++ (holesV i 0 (x.vals.drop 0) ++ holesL (i + 1) (xs.drop (i + 1))) = holes xs by rw [← HE.out, HD.out]; rfl)
      obtain ⟨m, hm⟩ : ∃ m, m = x.vals.length := ⟨_, rfl⟩
      rw [← hm] at hc1 hin hxm
      have L2 := Lib.hid hm
      have Hr := Lib.hid hv0
      clear hx hnn hv0 HE HD hm
      go_wp2
      go_loopg [3, 5] m (fun g s i2 w' => ∃ (k : Nat) (acc : List (List Int)) (F : List Nat), k ≤ m ∧ g = m - k ∧ i2 = .int .i64 k ∧ fIntss w' acc [s] F ∧ Fresh w.heap.size F ∧ Hid (acc ++ (holesV i k (x.vals.drop k) ++ holesL (i + 1) (xs.drop (i + 1))) = holes xs) ∧ Bw w w')
      case atStart => exact ⟨0, acc, F, by omega, rfl, rfl, hv, hF, HE2, hb⟩
      case round =>
        clear hv hF HE2 hb
        obtain ⟨k, acc, F, hk2, rfl, rfl, hv, hF, HE, hb⟩ := hrel
        have hcx1 := hb.cell hc1
        by_cases hlt2 : k < m
        · obtain ⟨y, hy⟩ := get_of_lt (xs := x.vals) (k := k) (by rw [← L2.out]; exact hlt2)
          obtain ⟨b2, o2, rfl, _, hcy0⟩ := rInts_at hin hy
          have hcy := hb.cell hcy0
          by_cases hye : y = -1
          · subst hye
            have hla : acc.length + 1 ≤ 1048576 := by have h1 := HT.out; rw [← HE.out, holesV_yes hy rfl] at h1; simp at h1; omega
            have HA := Lib.hid hla
            have HE3 := Lib.hid (show (acc ++ [[(i : Int), (k : Int)]]) ++ (holesV i (k + 1) (x.vals.drop (k + 1)) ++ holesL (i + 1) (xs.drop (i + 1))) = holes xs by rw [← HE.out, holesV_yes hy rfl]; simp)
            have A1 : Bw wr (wr.alloc (.cells #[.int .i64 i, .int .i64 k] 3)) := (Bw.refl wr).alloc _
            have A2 : Bw (wr.alloc (.cells #[.int .i64 i, .int .i64 k] 3)) ((wr.alloc (.cells #[.int .i64 i, .int .i64 k] 3)).alloc (.cells #[.slice (some ⟨wr.heap.size, 0, none⟩) 2 2] 42)) := (Bw.refl _).alloc _
            have hvW := (fIntss_good (B := w.heap.size)).bw (A1.then A2) hb.size hv
            have oW := (fInts_good (B := w.heap.size)).bw A2 (hb.then A1).size (fInts_two wr i k)
            have hbW := hb.then (A1.then A2)
            have hFm := (fIntss_good (B := 0)).lt hv
            have f1 : Fresh wr.heap.size [wr.heap.size] := ⟨by simp, by simp⟩
            have hcl : ∀ j t, [Value.slice (some ⟨wr.heap.size, 0, none⟩) 2 2][j]? = some t → ((wr.alloc (.cells #[.int .i64 i, .int .i64 k] 3)).alloc (.cells #[.slice (some ⟨wr.heap.size, 0, none⟩) 2 2] 42)).cell? ((⟨(wr.alloc (.cells #[.int .i64 i, .int .i64 k] 3)).heap.size, 0, none⟩ : Addr).add j) = some t := World.news_of_block (cs := #[.slice (some ⟨wr.heap.size, 0, none⟩) 2 2]) (t := 42) (fr := (0, 0)) (heap_alloc_new _ _)
            rw [show (wr.alloc (.cells #[.int .i64 i, .int .i64 k] 3)).heap.size = wr.heap.size + 1 from by simp] at hcl
            clear hy HE hv hla A1 A2
            go_wp2_with (at_builtin; refine wpList_push _ rfl (.tmp 32) (.tmp 36) 98 rfl w 42 i0 _ 1 24 Try.underlying98 hi hz0 hz1 hz2 rfl (by omega) fInts_good _ acc F rfl hvW hF ⟨wr.heap.size + 1, 0, none⟩ 1 rfl [(i : Int), (k : Int)] [.slice (some ⟨wr.heap.size, 0, none⟩) 2 2] [wr.heap.size] hcl oW rfl wr.heap.size hFm f1 hb.size (by have := HA.out; omega) (by have := HA.out; omega) hbW ?_; intro v' w' F' hv' hF' hb')
            go_roundg (m - (k + 1))
            case measure => omega
            case rel => exact ⟨k + 1, _, F', by omega, rfl, by go_num, hv', hF', HE3, hb'⟩
          · have y1 : (y == -1) = false := by simpa using hye
            have y2 : (y != -1) = true := by simpa using hye
            have HE3 := Lib.hid (show acc ++ (holesV i (k + 1) (x.vals.drop (k + 1)) ++ holesL (i + 1) (xs.drop (i + 1))) = holes xs by rw [← HE.out, holesV_no hy hye])
            clear hy HE hye
            go_wp2
            go_roundg (m - (k + 1))
            case measure => omega
            case rel => exact ⟨k + 1, acc, F, by omega, rfl, by go_num, hv, hF, HE3, hb⟩
        · obtain rfl : k = m := by omega
          have HE3 := Lib.hid (show acc ++ holesL (i + 1) (xs.drop (i + 1)) = holes xs by rw [← HE.out, show x.vals.drop k = [] from List.drop_of_length_le (by rw [← L2.out]; exact Nat.le_refl _), holesV]; simp)
          clear HE
          go_wp2
          go_roundg (n - (i + 1))
          case measure => omega
          case rel => exact ⟨i + 1, acc, F, by omega, rfl, by go_num, hv, hF, HE3, hb⟩
    · obtain rfl : i = n := by omega
      have HF := Lib.hid (show acc = holes xs by rw [← HE.out, List.drop_of_length_le (by rw [← L1.out]; exact Nat.le_refl _)]; simp [holesL])
      go_wp2
      go_ret
      exact ⟨_, rfl, ⟨F, by rw [← HF.out]; exact hv, hF⟩, hb⟩
set_option maxRecDepth 100000 in
set_option maxHeartbeats 3200000 in
theorem I_HolesOf (w : World) (xs : List GItem) (v : Value) (h : Rd rItems w xs [v]) (ht : totItems xs ≤ 1048576) : Calls Try.prog 80 #[v] w (RetV w (Made fIntss w.heap.size (holes xs))) := by
  have HT := Lib.hid (holes_len ht)
  have hn : xs.length ≤ 1048576 := by unfold totItems at ht; omega
  have hnn : ∀ x ∈ xs, x.vals.length ≤ 1048576 := fun x hx => by have := le_sum (fun x : GItem => x.vals.length) hx; unfold totItems at ht; omega
  clear ht
  obtain ⟨i0, hi, hz0, hz1, hz2⟩ := info_parts info_Ints2
  obtain ⟨A, n, c, rfl, a1, a2, a3⟩ := rSl_open h
  rw [← a1] at hn
  have L1 := Lib.hid a1
  clear a1
  have hv0 := fSl_empty (e := 42) (sz := 1) (R := fInts) w
  go_enter Try.func80, Try.ntmps80
  go_wp2
  go_loopg [3, 11] n (fun g s i w' => ∃ (k : Nat) (acc : List (List Int)) (F : List Nat), k ≤ n ∧ g = n - k ∧ i = .int .i64 k ∧ fIntss w' acc [s] F ∧ Fresh w.heap.size F ∧ Hid (acc ++ holesL k (xs.drop k) = holes xs) ∧ Bw w w')
  case atStart => exact ⟨0, [], _, by omega, rfl, rfl, hv0, ⟨by simp, by simp⟩, Lib.hid (by simp [holes]), (Bw.refl _).alloc _⟩
  case round =>
    obtain ⟨i, acc, F, hk, rfl, rfl, hv, hF, HE, hb⟩ := hrel
    by_cases hlt : i < n
    · obtain ⟨x, hx⟩ := get_of_lt (xs := xs) (k := i) (by rw [← L1.out]; exact hlt)
      have hxm := hnn x (List.mem_of_getElem? hx)
      obtain ⟨ba, oa, A', c', rfl, _, hc0, hc1, hin⟩ := rItems_at h hx
      have hcx0 := hb.cell hc0
      have hcx1 := hb.cell hc1
      have HD := Lib.hid (holesL_drop hx)
      have HE2 := Lib.hid (show acc ++ (holesV i 0 (x.vals.drop 0) ++ holesL (i + 1) (xs.drop (i + 1))) = holes xs by rw [← HE.out, HD.out]; rfl)
      obtain ⟨m, hm⟩ : ∃ m, m = x.vals.length := ⟨_, rfl⟩
      rw [← hm] at hc1 hcx1 hin hxm
      have L2 := Lib.hid hm
      have hb1 := hb.alloc (.cells #[.int .i64 x.id, .slice A' m c'] 110)
      have hv1 := (fIntss_good (B := w.heap.size)).bw ((Bw.refl wr).alloc (.cells #[.int .i64 x.id, .slice A' m c'] 110)) hb.size hv
      obtain ⟨w1, hw1⟩ : ∃ w1, w1 = wr.alloc (.cells #[.int .i64 x.id, .slice A' m c'] 110) := ⟨_, rfl⟩
      clear hx hnn hv0 HE HD hm
      go_wp2
      rw [← hw1] at hb1 hv1 ⊢
      clear hw1
      go_loopg [3, 19] m (fun g s i2 w' => ∃ (k : Nat) (acc : List (List Int)) (F : List Nat), k ≤ m ∧ g = m - k ∧ i2 = .int .i64 k ∧ fIntss w' acc [s] F ∧ Fresh w.heap.size F ∧ Hid (acc ++ (holesV i k (x.vals.drop k) ++ holesL (i + 1) (xs.drop (i + 1))) = holes xs) ∧ Bw w w')
      case atStart => exact ⟨0, acc, F, by omega, rfl, rfl, hv1, hF, HE2, hb1⟩
      case round =>
        clear hv hv1 hF HE2 hb hb1
        obtain ⟨k, acc, F, hk2, rfl, rfl, hv, hF, HE, hb⟩ := hrel
        by_cases hlt2 : k < m
        · obtain ⟨y, hy⟩ := get_of_lt (xs := x.vals) (k := k) (by rw [← L2.out]; exact hlt2)
          obtain ⟨b2, o2, rfl, _, hcy0⟩ := rInts_at hin hy
          have hcy := hb.cell hcy0
          by_cases hye : y = -1
          · subst hye
            have hla : acc.length + 1 ≤ 1048576 := by have h1 := HT.out; rw [← HE.out, holesV_yes hy rfl] at h1; simp at h1; omega
            have HA := Lib.hid hla
            have HE3 := Lib.hid (show (acc ++ [[(i : Int), (k : Int)]]) ++ (holesV i (k + 1) (x.vals.drop (k + 1)) ++ holesL (i + 1) (xs.drop (i + 1))) = holes xs by rw [← HE.out, holesV_yes hy rfl]; simp)
            have A1 : Bw wr (wr.alloc (.cells #[.int .i64 i, .int .i64 k] 3)) := (Bw.refl wr).alloc _
            have A2 : Bw (wr.alloc (.cells #[.int .i64 i, .int .i64 k] 3)) ((wr.alloc (.cells #[.int .i64 i, .int .i64 k] 3)).alloc (.cells #[.slice (some ⟨wr.heap.size, 0, none⟩) 2 2] 42)) := (Bw.refl _).alloc _
            have hvW := (fIntss_good (B := w.heap.size)).bw (A1.then A2) hb.size hv
            have oW := (fInts_good (B := w.heap.size)).bw A2 (hb.then A1).size (fInts_two wr i k)
            have hbW := hb.then (A1.then A2)
            have hFm := (fIntss_good (B := 0)).lt hv
            have f1 : Fresh wr.heap.size [wr.heap.size] := ⟨by simp, by simp⟩
            have hcl : ∀ j t, [Value.slice (some ⟨wr.heap.size, 0, none⟩) 2 2][j]? = some t → ((wr.alloc (.cells #[.int .i64 i, .int .i64 k] 3)).alloc (.cells #[.slice (some ⟨wr.heap.size, 0, none⟩) 2 2] 42)).cell? ((⟨(wr.alloc (.cells #[.int .i64 i, .int .i64 k] 3)).heap.size, 0, none⟩ : Addr).add j) = some t := World.news_of_block (cs := #[.slice (some ⟨wr.heap.size, 0, none⟩) 2 2]) (t := 42) (fr := (0, 0)) (heap_alloc_new _ _)
            rw [show (wr.alloc (.cells #[.int .i64 i, .int .i64 k] 3)).heap.size = wr.heap.size + 1 from by simp] at hcl
            clear hy HE hv hla A1 A2
            go_wp2_with (at_builtin; refine wpList_push _ rfl (.tmp 26) (.tmp 30) 98 rfl w 42 i0 _ 1 24 Try.underlying98 hi hz0 hz1 hz2 rfl (by omega) fInts_good _ acc F rfl hvW hF ⟨wr.heap.size + 1, 0, none⟩ 1 rfl [(i : Int), (k : Int)] [.slice (some ⟨wr.heap.size, 0, none⟩) 2 2] [wr.heap.size] hcl oW rfl wr.heap.size hFm f1 hb.size (by have := HA.out; omega) (by have := HA.out; omega) hbW ?_; intro v' w' F' hv' hF' hb')
            go_roundg (m - (k + 1))
            case measure => omega
            case rel => exact ⟨k + 1, _, F', by omega, rfl, by go_num, hv', hF', HE3, hb'⟩
          · have y1 : (y == -1) = false := by simpa using hye
            have y2 : (y != -1) = true := by simpa using hye
            have HE3 := Lib.hid (show acc ++ (holesV i (k + 1) (x.vals.drop (k + 1)) ++ holesL (i + 1) (xs.drop (i + 1))) = holes xs by rw [← HE.out, holesV_no hy hye])
            clear hy HE hye
            go_wp2
            go_roundg (m - (k + 1))
            case measure => omega
            case rel => exact ⟨k + 1, acc, F, by omega, rfl, by go_num, hv, hF, HE3, hb⟩
        · obtain rfl : k = m := by omega
          have HE3 := Lib.hid (show acc ++ holesL (i + 1) (xs.drop (i + 1)) = holes xs by rw [← HE.out, show x.vals.drop k = [] from List.drop_of_length_le (by rw [← L2.out]; exact Nat.le_refl _), holesV]; simp)
          clear HE
          go_wp2
          go_roundg (n - (i + 1))
          case measure => omega
          case rel => exact ⟨i + 1, acc, F, by omega, rfl, by go_num, hv, hF, HE3, hb⟩
    · obtain rfl : i = n := by omega
      have HF := Lib.hid (show acc = holes xs by rw [← HE.out, List.drop_of_length_le (by rw [← L1.out]; exact Nat.le_refl _)]; simp [holesL])
      go_wp2
      go_ret
      exact ⟨_, rfl, ⟨F, by rw [← HF.out]; exact hv, hF⟩, hb⟩
end Go.Proofs.Ytfffklkiikmieaa

namespace Go.Proofs.Ytfffklkiikmieaa
open Go.RowKit
set_option linter.unusedVariables false

inductive XT where
  | base (w : GWish)
  | dual (t : XT)
  | two (op : Int) (a b : XT)
def flat : XT → List GNode
  | .base w => [⟨0, w⟩]
  | .dual t => flat t ++ [⟨3, noWish⟩]
  | .two op a b => flat a ++ (flat b ++ [⟨op, noWish⟩])
def isTwo (op : Int) : Prop := op = 1 ∨ op = 2 ∨ op = 4
def okT : XT → Prop
  | .base w => isWish w = true
  | .dual t => okT t
  | .two op a b => isTwo op ∧ okT a ∧ okT b
def flats (ts : List XT) : List GNode := (ts.map flat).flatten
theorem flats_snoc (ts : List XT) (t : XT) : flats (ts ++ [t]) = flats ts ++ flat t := by simp [flats]
theorem flats_nil : flats [] = [] := rfl
theorem flat_pos : ∀ t : XT, 0 < (flat t).length
  | .base w => by simp [flat]
  | .dual t => by simp [flat]
  | .two op a b => by simp [flat]; omega
theorem flats_pos {ts : List XT} (h : 0 < ts.length) : 0 < (flats ts).length := by
  cases ts with
  | nil => simp at h
  | cons t ts => have := flat_pos t; simp [flats]; omega
theorem opnds_two {op : Int} (h : isTwo op) : opnds op = 2 := by unfold isTwo at h; unfold opnds; rw [if_neg (by omega), if_neg (by omega)]
theorem snocT {l : List XT} (h : 0 < l.length) : ∃ T a, l = T ++ [a] := ⟨l.dropLast, l.getLast (fun e => by rw [e] at h; simp at h), (List.dropLast_concat_getLast _).symm⟩
theorem nodeOk_iff {n : GNode} {d : Int} : nodeOk n d = true ↔ (0 ≤ n.op ∧ n.op ≤ 4) ∧ opnds n.op ≤ d ∧ (if n.op = 0 then isWish n.wish = true else n.wish = noWish) := by
  unfold nodeOk; simp only [Bool.and_eq_true, inB_iff, decide_eq_true_iff]
  by_cases h : n.op = 0
  · rw [if_pos h, if_pos h]
  · rw [if_neg h, if_neg h, decide_eq_true_iff]
theorem flat_depth : ∀ {t : XT}, okT t → ∀ (rest : List GNode) (d : Int), 0 ≤ d → depthOf (flat t ++ rest) d = depthOf rest (d + 1)
  | .base w, h, rest, d, hd => by
    have hk : nodeOk ⟨0, w⟩ d = true := nodeOk_iff.2 ⟨by simp, by simp [opnds]; exact hd, by simpa [okT] using h⟩
    simp [flat, depthOf, hk, opnds]
  | .dual t, h, rest, d, hd => by
    have hk : nodeOk ⟨3, noWish⟩ (d + 1) = true := nodeOk_iff.2 ⟨by simp, by simp [opnds]; omega, by simp⟩
    rw [flat, List.append_assoc, flat_depth (t := t) h _ d hd]
    simp [depthOf, hk, opnds]
  | .two op a b, h, rest, d, hd => by
    have h2 := opnds_two h.1
    have hk : nodeOk ⟨op, noWish⟩ (d + 1 + 1) = true := nodeOk_iff.2 ⟨by have := h.1; unfold isTwo at this; dsimp only; omega, by dsimp only; omega, by rw [if_neg (by have := h.1; unfold isTwo at this; dsimp only; omega)]⟩
    rw [flat, List.append_assoc, flat_depth (t := a) h.2.1 _ d hd, List.append_assoc, flat_depth (t := b) h.2.2 _ (d + 1) (by omega)]
    simp only [List.singleton_append, depthOf, hk, if_pos, h2]
    congr 1; omega
theorem tree_stack : ∀ (e : List GNode) (ts : List XT), (∀ t ∈ ts, okT t) → depthOf e ts.length = some 1 → ∃ t, okT t ∧ flats ts ++ e = flat t
  | [], ts, hk, h => by
    simp only [depthOf] at h
    have h1 : ts.length = 1 := by injection h with h; omega
    match ts, h1 with
    | [t], _ => exact ⟨t, hk t (by simp), by simp [flats]⟩
  | n :: e, ts, hk, h => by
    unfold depthOf at h
    split at h
    · rename_i hn
      obtain ⟨ho, hd, hw⟩ := nodeOk_iff.1 hn
      by_cases h0 : n.op = 0
      · rw [if_pos h0] at hw
        have hn' : n = ⟨0, n.wish⟩ := by cases n; simp_all
        obtain ⟨t, ht, he⟩ := tree_stack e (ts ++ [.base n.wish]) (by intro t ht; rcases List.mem_append.1 ht with ht | ht; exact hk t ht; simp at ht; rw [ht]; exact hw) (by
          rw [← h]; congr 1; simp [h0, opnds])
        refine ⟨t, ht, ?_⟩
        rw [← he, flats_snoc, flat, List.append_assoc, ← hn']; rfl
      rw [if_neg h0] at hw
      by_cases h3 : n.op = 3
      · have hn' : n = ⟨3, noWish⟩ := by cases n; simp_all
        have ho3 : opnds n.op = 1 := by rw [h3]; rfl
        obtain ⟨T, a, rfl⟩ := snocT (l := ts) (by omega)
        obtain ⟨t, ht, he⟩ := tree_stack e (T ++ [.dual a]) (by intro t ht; rcases List.mem_append.1 ht with ht | ht; exact hk t (by simp [ht]); simp at ht; rw [ht]; exact hk a (by simp)) (by
          rw [← h]; congr 1; simp [ho3])
        refine ⟨t, ht, ?_⟩
        rw [← he, flats_snoc, flats_snoc, flat, hn']; simp
      · have ho2 : isTwo n.op := by unfold isTwo; omega
        have hn' : n = ⟨n.op, noWish⟩ := by cases n; simp_all
        have hd2 := opnds_two ho2
        obtain ⟨T', b, rfl⟩ := snocT (l := ts) (by omega)
        obtain ⟨T, a, rfl⟩ := snocT (l := T') (by simp at hd; omega)
        obtain ⟨t, ht, he⟩ := tree_stack e (T ++ [.two n.op a b]) (by
            intro t ht
            rcases List.mem_append.1 ht with ht | ht
            · exact hk t (by simp [ht])
            · simp at ht; rw [ht]; exact ⟨ho2, hk a (by simp), hk b (by simp)⟩) (by
          rw [← h]; congr 1; simp [hd2])
        refine ⟨t, ht, ?_⟩
        rw [← he, flats_snoc, flats_snoc, flats_snoc, flat, ← hn']; simp
    · cases h
theorem tree_of {e : List GNode} (h : isExpr e = true) : ∃ t, okT t ∧ e = flat t := by
  obtain ⟨t, ht, he⟩ := tree_stack e [] (by simp) (by simpa using isExpr_depth h)
  exact ⟨t, ht, by simpa [flats] using he⟩
theorem isExpr_flat {t : XT} (h : okT t) (hl : (flat t).length ≤ 9) : isExpr (flat t) = true := by
  have := flat_depth h [] 0 (by omega)
  rw [List.append_nil] at this
  unfold isExpr
  rw [this]
  simp [depthOf, hl]
/-- one step back through an expression: the trees still to pass -/
theorem back_step {e pre : List GNode} {ts : List XT} {i : Nat} (hok : ∀ t ∈ ts, okT t) (h0 : 0 < ts.length) (h : e.take (i + 1) = pre ++ flats ts) (hi : i < e.length) :
    ∃ n ts2, e[i]? = some n ∧ (∀ t ∈ ts2, okT t) ∧ (ts2.length : Int) = (ts.length : Int) - 1 + opnds n.op ∧ e.take i = pre ++ flats ts2 ∧ (n.op = 0 ∨ n.op = 3 ∨ isTwo n.op) := by
  obtain ⟨T, u, rfl⟩ := snocT h0
  have key : ∀ (l : List GNode) (n : GNode), e.take (i + 1) = l ++ [n] → e[i]? = some n ∧ e.take i = l := fun l n hh => by
    have hl : l.length = i := by have := congrArg List.length hh; simp at this; omega
    refine ⟨?_, ?_⟩
    · have := congrArg (fun l => l[i]?) hh
      simp only [List.getElem?_take] at this
      rw [if_pos (by omega)] at this
      rw [this, List.getElem?_append_right (by omega), hl]; simp
    · have := congrArg (List.take i) hh
      rw [List.take_take, Nat.min_eq_left (by omega)] at this
      rw [this, ← hl]; exact List.take_left' rfl
  have hT : ∀ t ∈ T, okT t := fun t ht => hok t (by simp [ht])
  have hu := hok u (by simp)
  rw [flats_snoc] at h
  cases u with
  | base w =>
    obtain ⟨h1, h2⟩ := key (pre ++ flats T) ⟨0, w⟩ (by rw [h, flat]; simp)
    exact ⟨_, T, h1, hT, by simp [opnds], h2, .inl rfl⟩
  | dual t =>
    obtain ⟨h1, h2⟩ := key (pre ++ flats (T ++ [t])) ⟨3, noWish⟩ (by rw [h, flat, flats_snoc]; simp)
    exact ⟨_, T ++ [t], h1, by intro s hs; rcases List.mem_append.1 hs with hs | hs; exact hT s hs; simp at hs; rw [hs]; exact hu, by simp [opnds], h2, .inr (.inl rfl)⟩
  | two op a b =>
    obtain ⟨h1, h2⟩ := key (pre ++ flats (T ++ [a] ++ [b])) ⟨op, noWish⟩ (by rw [h, flat, flats_snoc, flats_snoc]; simp)
    refine ⟨_, T ++ [a] ++ [b], h1, ?_, ?_, h2, .inr (.inr hu.1)⟩
    · intro s hs
      rcases List.mem_append.1 hs with hs | hs
      · rcases List.mem_append.1 hs with hs | hs
        · exact hT s hs
        · simp at hs; rw [hs]; exact hu.2.1
      · simp at hs; rw [hs]; exact hu.2.2
    · rw [opnds_two hu.1]; simp; try omega

/-! ### weaker -/
def swapT : XT → XT → Bool
  | .two o a0 a1, .two r b0 b1 => (decide (o = 1 ∧ r = 2) || decide (o = 4 ∧ r = 1)) && ((decide (flat a0 = flat b0) && decide (flat a1 = flat b1)) || (decide (flat a0 = flat b1) && decide (flat a1 = flat b0)))
  | _, _ => false
def weakT (p q : XT) : Bool :=
  decide (flat p = flat q) || ((match q with | .two r b0 _ => decide (r = 2) && weakT p b0 | _ => false) || ((match p with | .two o a0 a1 => decide (o = 4) && (weakT a0 q || weakT a1 q) | _ => false) || swapT p q))
termination_by SizeOf.sizeOf p + SizeOf.sizeOf q
end Go.Proofs.Ytfffklkiikmieaa

namespace Go.Proofs.Ytfffklkiikmieaa
open Go.RowKit
set_option linter.unusedVariables false
set_option linter.unusedSimpArgs false
theorem flats_ge : ∀ ts : List XT, ts.length ≤ (flats ts).length
  | [] => Nat.le_refl _
  | t :: ts => by
    have h1 := flat_pos t
    have h2 := flats_ge ts
    have e : flats (t :: ts) = flat t ++ flats ts := by simp [flats]
    rw [e, List.length_append, List.length_cons]; omega
theorem flats_one (t : XT) : flats [t] = flat t := by simp [flats]
end Go.Proofs.Ytfffklkiikmieaa

namespace Go.Proofs.Ytfffklkiikmieaa
open Go.RowKit
set_option linter.unusedVariables false
set_option linter.unusedSimpArgs false
theorem rSl_sub {α : Type} {sz : Nat} {R : Rep α} {w : World} {S : Blocks} {xs : List α} {b o n c : Nat} (h : rSl sz R w S xs [.slice (some ⟨b, o, none⟩) n c]) (i k : Nat) (hik : i ≤ k) (hk : k ≤ n) (hn : n = xs.length) :
    rSl sz R w S ((xs.drop i).take (k - i)) [.slice (some ⟨b, o + i * sz, none⟩) (k - i) (c - i)] := by
  obtain ⟨A, c', e, h1, h2, h3⟩ := h
  injection e with e _
  injection e with e1 e2 e3
  subst e1 e3
  have hl : ((xs.drop i).take (k - i)).length = k - i := by rw [List.length_take, List.length_drop]; omega
  refine ⟨_, c - i, by rw [hl], by rw [hl]; omega, Nat.le_trans (Nat.sub_le _ _) h2, fun j x hx => ?_⟩
  have hj : j < k - i := by rw [← hl]; exact (List.getElem?_eq_some_iff.1 hx).1
  rw [List.getElem?_take, if_pos hj, List.getElem?_drop] at hx
  obtain ⟨b', o', us, eA, hS, hul, hc, hr⟩ := h3 (i + j) x hx
  injection eA with eA
  injection eA with e4 e5 _
  subst e4 e5
  refine ⟨b, o + i * sz, us, rfl, hS, hul, fun t u hu => ?_, hr⟩
  have := hc t u hu
  rw [show o + i * sz + j * sz + t = o + (i + j) * sz + t by rw [Nat.add_mul]; omega]
  exact this
def opOf : XT → Int
  | .base _ => 0
  | .dual _ => 3
  | .two op _ _ => op
def PartsPost (t : XT) (w : World) (e : Ending) (w' : World) : Prop := ∃ sv, e = .returned (.tuple #[.int .i64 (opOf t), sv]) ∧ Bw w w' ∧ (match t with
  | .two _ a b => ∃ g va vb, sv = .slice (some ⟨g, 0, none⟩) 2 2 ∧ w'.cell? ⟨g, 0, none⟩ = some va ∧ w'.cell? ⟨g, 1, none⟩ = some vb ∧ Rd rNodes w (flat a) [va] ∧ Rd rNodes w (flat b) [vb]
  | _ => True)
theorem flat_last : ∀ t : XT, ∃ n, (flat t)[(flat t).length - 1]? = some n ∧ n.op = opOf t
  | .base w => ⟨⟨0, w⟩, by simp [flat], rfl⟩
  | .dual t => ⟨⟨3, noWish⟩, by simp [flat], rfl⟩
  | .two op a b => ⟨⟨op, noWish⟩, by
      have : flat (.two op a b) = (flat a ++ flat b) ++ [⟨op, noWish⟩] := by simp [flat]
      rw [this]; simp, rfl⟩
theorem flat_two_take (op : Int) (a b : XT) : (flat (.two op a b)).take ((flat (.two op a b)).length - 1) = flat a ++ flat b := by
  have h : flat (.two op a b) = (flat a ++ flat b) ++ [⟨op, noWish⟩] := by simp [flat]
  rw [h]
  exact List.take_left' (by simp)
theorem flat_two_len (op : Int) (a b : XT) : (flat (.two op a b)).length = (flat a).length + (flat b).length + 1 := by simp [flat]; omega
theorem flat_two_a (op : Int) (a b : XT) : ((flat (.two op a b)).drop 0).take ((flat a).length - 0) = flat a := by simp [flat]
theorem flat_two_b (op : Int) (a b : XT) : ((flat (.two op a b)).drop (flat a).length).take ((flat a).length + (flat b).length - (flat a).length) = flat b := by simp [flat]
end Go.Proofs.Ytfffklkiikmieaa
