/- The places of the missing values, in both programs. -/
import Derived.Test.YtfffklkiikmieaaQCopies
import Derived.Test.YtfffklkiikmieaaQIntss
import Derived.Deep.LoopGhost
namespace Go.Proofs.Ytfffklkiikmieaa
open Go.RowKit
set_option linter.unusedVariables false
def holesV (i : Nat) : Nat → List Int → List (List Int)
  | _, [] => []
  | k, v :: vs => if v = -1 then [(i : Int), (k : Int)] :: holesV i (k + 1) vs else holesV i (k + 1) vs
def holesL : Nat → List GItem → List (List Int)
  | _, [] => []
  | i, x :: xs => holesV i 0 x.vals ++ holesL (i + 1) xs
def holes (xs : List GItem) : List (List Int) := holesL 0 xs
theorem holesV_len (i : Nat) : ∀ (k : Nat) (vs : List Int), (holesV i k vs).length ≤ vs.length
  | _, [] => Nat.le_refl _
  | k, v :: vs => by
    have := holesV_len i (k + 1) vs
    unfold holesV
    split <;> simp <;> omega
theorem holesL_len : ∀ (i : Nat) (xs : List GItem), (holesL i xs).length ≤ sumL (fun x => x.vals.length) xs
  | _, [] => Nat.le_refl _
  | i, x :: xs => by
    have := holesL_len (i + 1) xs
    have := holesV_len i 0 x.vals
    simp only [holesL, sumL, List.length_append]; omega
theorem holes_len {xs : List GItem} (h : totItems xs ≤ 1048576) : (holes xs).length ≤ 1048576 := by
  have := holesL_len 0 xs
  unfold totItems at h; unfold holes; omega
theorem holesL_drop {xs : List GItem} {i : Nat} {x : GItem} (h : xs[i]? = some x) : holesL i (xs.drop i) = holesV i 0 x.vals ++ holesL (i + 1) (xs.drop (i + 1)) := by rw [drop_cons h, holesL]
theorem holesV_yes {vs : List Int} {i k : Nat} {y : Int} (h : vs[k]? = some y) (hy : y = -1) : holesV i k (vs.drop k) = [(i : Int), (k : Int)] :: holesV i (k + 1) (vs.drop (k + 1)) := by rw [drop_cons h, holesV, if_pos hy]
theorem holesV_no {vs : List Int} {i k : Nat} {y : Int} (h : vs[k]? = some y) (hy : y ≠ -1) : holesV i k (vs.drop k) = holesV i (k + 1) (vs.drop (k + 1)) := by rw [drop_cons h, holesV, if_neg hy]
theorem fInts_two (w : World) (i k : Int) : fInts (w.alloc (.cells #[.int .i64 i, .int .i64 k] 3)) [i, k] [.slice (some ⟨w.heap.size, 0, none⟩) 2 2] [w.heap.size] := by
  refine ⟨_, [[.int .i64 i], [.int .i64 k]], [[], []], rfl, ?_, ⟨⟨⟨rfl, rfl⟩, rfl⟩, ⟨⟨rfl, rfl⟩, rfl⟩, trivial⟩, by simp [Value.ownBlock]⟩
  exact World.ownsRow_lit w #[.int .i64 i, .int .i64 k] 2 (Nat.zero_le _) (by simp [maxLen]) rfl
theorem info_Ints2 : (Try.prog.info? 42).map (fun i => (i.zero, i.size, i.bytes)) = some (some (.slice none 0 0), 1, 24) := by kernel_rfl
set_option maxRecDepth 100000 in
set_option maxHeartbeats 3200000 in
theorem S_HolesOf (w : World) (xs : List GItem) (v : Value) (h : Rd rItems w xs [v]) (ht : totItems xs ≤ 1048576) : Calls Try.prog 81 #[v] w (RetV w (Made fIntss w.heap.size (holes xs))) := by
  have HT := Lib.hid (holes_len ht)
  have hn : xs.length ≤ 1048576 := by unfold totItems at ht; omega
  have hnn : ∀ x ∈ xs, x.vals.length ≤ 1048576 := fun x hx => by have := le_sum (fun x : GItem => x.vals.length) hx; unfold totItems at ht; omega
  clear ht
  obtain ⟨i0, hi, hz0, hz1, hz2⟩ := info_parts info_Ints2
  obtain ⟨A, n, c, rfl, a1, a2, a3⟩ := rSl_open h
  rw [← a1] at hn
  have L1 := Lib.hid a1
  clear a1
  have hv0 := fSl_empty (e := 42) (sz := 1) (R := fInts) w
  go_enter Try.func81, Try.ntmps81
  go_wp2
  go_loopg [3, 4] n (fun g s i w' => ∃ (k : Nat) (acc : List (List Int)) (F : List Nat), k ≤ n ∧ g = n - k ∧ i = .int .i64 k ∧ fIntss w' acc [s] F ∧ Fresh w.heap.size F ∧ Hid (acc ++ holesL k (xs.drop k) = holes xs) ∧ Bw w w')
  case atStart => exact ⟨0, [], _, by omega, rfl, rfl, hv0, ⟨by simp, by simp⟩, Lib.hid (by simp [holes]), (Bw.refl _).alloc _⟩
  case round =>
    obtain ⟨i, acc, F, hk, rfl, rfl, hv, hF, HE, hb⟩ := hrel
    by_cases hlt : i < n
    · obtain ⟨x, hx⟩ := get_of_lt (xs := xs) (k := i) (by rw [← L1.out]; exact hlt)
      have hxm := hnn x (List.mem_of_getElem? hx)
      obtain ⟨ba, oa, A', c', rfl, _, hc0, hc1, hin⟩ := rItems_at h hx
      have HD := Lib.hid (holesL_drop hx)
      have HE2 := Lib.hid (show acc ++ (holesV i 0 (x.vals.drop 0) ++ holesL (i + 1) (xs.drop (i + 1))) = holes xs by rw [← HE.out, HD.out]; rfl)
      obtain ⟨m, hm⟩ : ∃ m, m = x.vals.length := ⟨_, rfl⟩
      rw [← hm] at hc1 hin hxm
      have L2 := Lib.hid hm
      have Hr := Lib.hid hv0
      clear hx hnn hv0 HE HD hm
      go_wp2
      go_loopg [3, 5] m (fun g s i2 w' => ∃ (k : Nat) (acc : List (List Int)) (F : List Nat), k ≤ m ∧ g = m - k ∧ i2 = .int .i64 k ∧ fIntss w' acc [s] F ∧ Fresh w.heap.size F ∧ Hid (acc ++ (holesV i k (x.vals.drop k) ++ holesL (i + 1) (xs.drop (i + 1))) = holes xs) ∧ Bw w w')
      case atStart => exact ⟨0, acc, F, by omega, rfl, rfl, hv, hF, HE2, hb⟩
      case round =>
        clear hv hF HE2 hb
        obtain ⟨k, acc, F, hk2, rfl, rfl, hv, hF, HE, hb⟩ := hrel
        have hcx1 := hb.cell hc1
        by_cases hlt2 : k < m
        · obtain ⟨y, hy⟩ := get_of_lt (xs := x.vals) (k := k) (by rw [← L2.out]; exact hlt2)
          obtain ⟨b2, o2, rfl, _, hcy0⟩ := rInts_at hin hy
          have hcy := hb.cell hcy0
          by_cases hye : y = -1
          · subst hye
            have hla : acc.length + 1 ≤ 1048576 := by have h1 := HT.out; rw [← HE.out, holesV_yes hy rfl] at h1; simp at h1; omega
            have HA := Lib.hid hla
            have HE3 := Lib.hid (show (acc ++ [[(i : Int), (k : Int)]]) ++ (holesV i (k + 1) (x.vals.drop (k + 1)) ++ holesL (i + 1) (xs.drop (i + 1))) = holes xs by rw [← HE.out, holesV_yes hy rfl]; simp)
            have A1 : Bw wr (wr.alloc (.cells #[.int .i64 i, .int .i64 k] 3)) := (Bw.refl wr).alloc _
            have A2 : Bw (wr.alloc (.cells #[.int .i64 i, .int .i64 k] 3)) ((wr.alloc (.cells #[.int .i64 i, .int .i64 k] 3)).alloc (.cells #[.slice (some ⟨wr.heap.size, 0, none⟩) 2 2] 42)) := (Bw.refl _).alloc _
            have hvW := (fIntss_good (B := w.heap.size)).bw (A1.then A2) hb.size hv
            have oW := (fInts_good (B := w.heap.size)).bw A2 (hb.then A1).size (fInts_two wr i k)
            have hbW := hb.then (A1.then A2)
            have hFm := (fIntss_good (B := 0)).lt hv
            have f1 : Fresh wr.heap.size [wr.heap.size] := ⟨by simp, by simp⟩
            have hcl : ∀ j t, [Value.slice (some ⟨wr.heap.size, 0, none⟩) 2 2][j]? = some t → ((wr.alloc (.cells #[.int .i64 i, .int .i64 k] 3)).alloc (.cells #[.slice (some ⟨wr.heap.size, 0, none⟩) 2 2] 42)).cell? ((⟨(wr.alloc (.cells #[.int .i64 i, .int .i64 k] 3)).heap.size, 0, none⟩ : Addr).add j) = some t := World.news_of_block (cs := #[.slice (some ⟨wr.heap.size, 0, none⟩) 2 2]) (t := 42) (fr := (0, 0)) (heap_alloc_new _ _)
            rw [show (wr.alloc (.cells #[.int .i64 i, .int .i64 k] 3)).heap.size = wr.heap.size + 1 from by simp] at hcl
            clear hy HE hv hla A1 A2
            go_wp2_with (at_builtin; refine wpList_push _ rfl (.tmp 32) (.tmp 36) 98 rfl w 42 i0 _ 1 24 Try.underlying98 hi hz0 hz1 hz2 rfl (by omega) fInts_good _ acc F rfl hvW hF ⟨wr.heap.size + 1, 0, none⟩ 1 rfl [(i : Int), (k : Int)] [.slice (some ⟨wr.heap.size, 0, none⟩) 2 2] [wr.heap.size] hcl oW rfl wr.heap.size hFm f1 hb.size (by have := HA.out; omega) (by have := HA.out; omega) hbW ?_; intro v' w' F' hv' hF' hb')
            go_roundg (m - (k + 1))
            case measure => omega
            case rel => exact ⟨k + 1, _, F', by omega, rfl, by go_num, hv', hF', HE3, hb'⟩
          · have y1 : (y == -1) = false := by simpa using hye
            have y2 : (y != -1) = true := by simpa using hye
            have HE3 := Lib.hid (show acc ++ (holesV i (k + 1) (x.vals.drop (k + 1)) ++ holesL (i + 1) (xs.drop (i + 1))) = holes xs by rw [← HE.out, holesV_no hy hye])
            clear hy HE hye
            go_wp2
            go_roundg (m - (k + 1))
            case measure => omega
            case rel => exact ⟨k + 1, acc, F, by omega, rfl, by go_num, hv, hF, HE3, hb⟩
        · obtain rfl : k = m := by omega
          have HE3 := Lib.hid (show acc ++ holesL (i + 1) (xs.drop (i + 1)) = holes xs by rw [← HE.out, show x.vals.drop k = [] from List.drop_of_length_le (by rw [← L2.out]; exact Nat.le_refl _), holesV]; simp)
          clear HE
          go_wp2
          go_roundg (n - (i + 1))
          case measure => omega
          case rel => exact ⟨i + 1, acc, F, by omega, rfl, by go_num, hv, hF, HE3, hb⟩
    · obtain rfl : i = n := by omega
      have HF := Lib.hid (show acc = holes xs by rw [← HE.out, List.drop_of_length_le (by rw [← L1.out]; exact Nat.le_refl _)]; simp [holesL])
      go_wp2
      go_ret
      exact ⟨_, rfl, ⟨F, by rw [← HF.out]; exact hv, hF⟩, hb⟩
set_option maxRecDepth 100000 in
set_option maxHeartbeats 3200000 in
theorem I_HolesOf (w : World) (xs : List GItem) (v : Value) (h : Rd rItems w xs [v]) (ht : totItems xs ≤ 1048576) : Calls Try.prog 80 #[v] w (RetV w (Made fIntss w.heap.size (holes xs))) := by
  have HT := Lib.hid (holes_len ht)
  have hn : xs.length ≤ 1048576 := by unfold totItems at ht; omega
  have hnn : ∀ x ∈ xs, x.vals.length ≤ 1048576 := fun x hx => by have := le_sum (fun x : GItem => x.vals.length) hx; unfold totItems at ht; omega
  clear ht
  obtain ⟨i0, hi, hz0, hz1, hz2⟩ := info_parts info_Ints2
  obtain ⟨A, n, c, rfl, a1, a2, a3⟩ := rSl_open h
  rw [← a1] at hn
  have L1 := Lib.hid a1
  clear a1
  have hv0 := fSl_empty (e := 42) (sz := 1) (R := fInts) w
  go_enter Try.func80, Try.ntmps80
  go_wp2
  go_loopg [3, 11] n (fun g s i w' => ∃ (k : Nat) (acc : List (List Int)) (F : List Nat), k ≤ n ∧ g = n - k ∧ i = .int .i64 k ∧ fIntss w' acc [s] F ∧ Fresh w.heap.size F ∧ Hid (acc ++ holesL k (xs.drop k) = holes xs) ∧ Bw w w')
  case atStart => exact ⟨0, [], _, by omega, rfl, rfl, hv0, ⟨by simp, by simp⟩, Lib.hid (by simp [holes]), (Bw.refl _).alloc _⟩
  case round =>
    obtain ⟨i, acc, F, hk, rfl, rfl, hv, hF, HE, hb⟩ := hrel
    by_cases hlt : i < n
    · obtain ⟨x, hx⟩ := get_of_lt (xs := xs) (k := i) (by rw [← L1.out]; exact hlt)
      have hxm := hnn x (List.mem_of_getElem? hx)
      obtain ⟨ba, oa, A', c', rfl, _, hc0, hc1, hin⟩ := rItems_at h hx
      have hcx0 := hb.cell hc0
      have hcx1 := hb.cell hc1
      have HD := Lib.hid (holesL_drop hx)
      have HE2 := Lib.hid (show acc ++ (holesV i 0 (x.vals.drop 0) ++ holesL (i + 1) (xs.drop (i + 1))) = holes xs by rw [← HE.out, HD.out]; rfl)
      obtain ⟨m, hm⟩ : ∃ m, m = x.vals.length := ⟨_, rfl⟩
      rw [← hm] at hc1 hcx1 hin hxm
      have L2 := Lib.hid hm
      have hb1 := hb.alloc (.cells #[.int .i64 x.id, .slice A' m c'] 110)
      have hv1 := (fIntss_good (B := w.heap.size)).bw ((Bw.refl wr).alloc (.cells #[.int .i64 x.id, .slice A' m c'] 110)) hb.size hv
      obtain ⟨w1, hw1⟩ : ∃ w1, w1 = wr.alloc (.cells #[.int .i64 x.id, .slice A' m c'] 110) := ⟨_, rfl⟩
      clear hx hnn hv0 HE HD hm
      go_wp2
      rw [← hw1] at hb1 hv1 ⊢
      clear hw1
      go_loopg [3, 19] m (fun g s i2 w' => ∃ (k : Nat) (acc : List (List Int)) (F : List Nat), k ≤ m ∧ g = m - k ∧ i2 = .int .i64 k ∧ fIntss w' acc [s] F ∧ Fresh w.heap.size F ∧ Hid (acc ++ (holesV i k (x.vals.drop k) ++ holesL (i + 1) (xs.drop (i + 1))) = holes xs) ∧ Bw w w')
      case atStart => exact ⟨0, acc, F, by omega, rfl, rfl, hv1, hF, HE2, hb1⟩
      case round =>
        clear hv hv1 hF HE2 hb hb1
        obtain ⟨k, acc, F, hk2, rfl, rfl, hv, hF, HE, hb⟩ := hrel
        by_cases hlt2 : k < m
        · obtain ⟨y, hy⟩ := get_of_lt (xs := x.vals) (k := k) (by rw [← L2.out]; exact hlt2)
          obtain ⟨b2, o2, rfl, _, hcy0⟩ := rInts_at hin hy
          have hcy := hb.cell hcy0
          by_cases hye : y = -1
          · subst hye
            have hla : acc.length + 1 ≤ 1048576 := by have h1 := HT.out; rw [← HE.out, holesV_yes hy rfl] at h1; simp at h1; omega
            have HA := Lib.hid hla
            have HE3 := Lib.hid (show (acc ++ [[(i : Int), (k : Int)]]) ++ (holesV i (k + 1) (x.vals.drop (k + 1)) ++ holesL (i + 1) (xs.drop (i + 1))) = holes xs by rw [← HE.out, holesV_yes hy rfl]; simp)
            have A1 : Bw wr (wr.alloc (.cells #[.int .i64 i, .int .i64 k] 3)) := (Bw.refl wr).alloc _
            have A2 : Bw (wr.alloc (.cells #[.int .i64 i, .int .i64 k] 3)) ((wr.alloc (.cells #[.int .i64 i, .int .i64 k] 3)).alloc (.cells #[.slice (some ⟨wr.heap.size, 0, none⟩) 2 2] 42)) := (Bw.refl _).alloc _
            have hvW := (fIntss_good (B := w.heap.size)).bw (A1.then A2) hb.size hv
            have oW := (fInts_good (B := w.heap.size)).bw A2 (hb.then A1).size (fInts_two wr i k)
            have hbW := hb.then (A1.then A2)
            have hFm := (fIntss_good (B := 0)).lt hv
            have f1 : Fresh wr.heap.size [wr.heap.size] := ⟨by simp, by simp⟩
            have hcl : ∀ j t, [Value.slice (some ⟨wr.heap.size, 0, none⟩) 2 2][j]? = some t → ((wr.alloc (.cells #[.int .i64 i, .int .i64 k] 3)).alloc (.cells #[.slice (some ⟨wr.heap.size, 0, none⟩) 2 2] 42)).cell? ((⟨(wr.alloc (.cells #[.int .i64 i, .int .i64 k] 3)).heap.size, 0, none⟩ : Addr).add j) = some t := World.news_of_block (cs := #[.slice (some ⟨wr.heap.size, 0, none⟩) 2 2]) (t := 42) (fr := (0, 0)) (heap_alloc_new _ _)
            rw [show (wr.alloc (.cells #[.int .i64 i, .int .i64 k] 3)).heap.size = wr.heap.size + 1 from by simp] at hcl
            clear hy HE hv hla A1 A2
            go_wp2_with (at_builtin; refine wpList_push _ rfl (.tmp 26) (.tmp 30) 98 rfl w 42 i0 _ 1 24 Try.underlying98 hi hz0 hz1 hz2 rfl (by omega) fInts_good _ acc F rfl hvW hF ⟨wr.heap.size + 1, 0, none⟩ 1 rfl [(i : Int), (k : Int)] [.slice (some ⟨wr.heap.size, 0, none⟩) 2 2] [wr.heap.size] hcl oW rfl wr.heap.size hFm f1 hb.size (by have := HA.out; omega) (by have := HA.out; omega) hbW ?_; intro v' w' F' hv' hF' hb')
            go_roundg (m - (k + 1))
            case measure => omega
            case rel => exact ⟨k + 1, _, F', by omega, rfl, by go_num, hv', hF', HE3, hb'⟩
          · have y1 : (y == -1) = false := by simpa using hye
            have y2 : (y != -1) = true := by simpa using hye
            have HE3 := Lib.hid (show acc ++ (holesV i (k + 1) (x.vals.drop (k + 1)) ++ holesL (i + 1) (xs.drop (i + 1))) = holes xs by rw [← HE.out, holesV_no hy hye])
            clear hy HE hye
            go_wp2
            go_roundg (m - (k + 1))
            case measure => omega
            case rel => exact ⟨k + 1, acc, F, by omega, rfl, by go_num, hv, hF, HE3, hb⟩
        · obtain rfl : k = m := by omega
          have HE3 := Lib.hid (show acc ++ holesL (i + 1) (xs.drop (i + 1)) = holes xs by rw [← HE.out, show x.vals.drop k = [] from List.drop_of_length_le (by rw [← L2.out]; exact Nat.le_refl _), holesV]; simp)
          clear HE
          go_wp2
          go_roundg (n - (i + 1))
          case measure => omega
          case rel => exact ⟨i + 1, acc, F, by omega, rfl, by go_num, hv, hF, HE3, hb⟩
    · obtain rfl : i = n := by omega
      have HF := Lib.hid (show acc = holes xs by rw [← HE.out, List.drop_of_length_le (by rw [← L1.out]; exact Nat.le_refl _)]; simp [holesL])
      go_wp2
      go_ret
      exact ⟨_, rfl, ⟨F, by rw [← HF.out]; exact hv, hF⟩, hb⟩
end Go.Proofs.Ytfffklkiikmieaa
