/- Valid expressions in the reference. -/
import Derived.Test.YtpihighajaeabaaGreatQModel2
import Derived.Test.YtpihighajaeabaaGreatQWishS
import Derived.Test.YtpihighajaeabaaGreatQOwn3
import Derived.WalkSmall
namespace Go.Proofs.YtpihighajaeabaaGreat
open Go.RowKit
set_option linter.unusedVariables false
set_option linter.unusedSimpArgs false
set_option maxRecDepth 100000 in
set_option maxHeartbeats 3200000 in
theorem I_IsWish (w : World) (x : GWish) (v u : Value) (h : Rd rInts w x.list [v]) (h' : Rd rPairs w x.pairs [u]) :
    Calls Tryz.prog 185 #[.agg #[.int .i64 x.kind, .int .i64 x.field, .int .i64 x.value, v, u]] w (Ret w (.bool (isWish x))) := by
  obtain ⟨A, n, c, rfl, L0, Lc, Lm⟩ := rSl_open h
  unfold maxLen at Lm
  have L := Lib.hid L0
  clear L0
  obtain ⟨B, m, c', rfl, M0, Mc, Mm⟩ := rSl_open h'
  unfold maxLen at Mm
  have M := Lib.hid M0
  clear M0
  have B0 : Bw w (w.alloc (.cells #[.int .i64 x.kind, .int .i64 x.field, .int .i64 x.value, .slice A n c, .slice B m c'] 109)) := (Bw.refl w).alloc _
  go_enter Tryz.func185, Tryz.ntmps185
  go_wp2_with fail
  refine (I_within _ _ _ _).mono ?_
  rintro e w1 ⟨rfl, hb1⟩
  have p0 : w1.cell? ⟨w.heap.size, 0, none⟩ = some (.int .i64 x.kind) := hb1.cell (by go_simp)
  have p1 : w1.cell? ⟨w.heap.size, 1, none⟩ = some (.int .i64 x.field) := hb1.cell (by go_simp)
  have p2 : w1.cell? ⟨w.heap.size, 2, none⟩ = some (.int .i64 x.value) := hb1.cell (by go_simp)
  have p3 : w1.cell? ⟨w.heap.size, 3, none⟩ = some (.slice A n c) := hb1.cell (by go_simp)
  have p4 : w1.cell? ⟨w.heap.size, 4, none⟩ = some (.slice B m c') := hb1.cell (by go_simp)
  have B1 := B0.then hb1
  rcases Bool.eq_false_or_eq_true (inB x.field 0 2) with e1 | e1
  · have E1 := Lib.hid e1
    rw [e1]
    clear e1
    go_wp2_with fail
    refine (I_within _ _ _ _).mono ?_
    rintro e w2 ⟨rfl, hb2⟩
    replace p0 := hb2.cell p0
    replace p1 := hb2.cell p1
    replace p2 := hb2.cell p2
    replace p3 := hb2.cell p3
    replace p4 := hb2.cell p4
    replace B1 := B1.then hb2
    rcases Bool.eq_false_or_eq_true (inB x.kind 0 4) with e2 | e2
    · have E2 := Lib.hid e2
      rw [e2]
      clear e2
      go_wp2_with fail
      refine (I_within _ _ _ _).mono ?_
      rintro e w3 ⟨rfl, hb3⟩
      replace p0 := hb3.cell p0
      replace p1 := hb3.cell p1
      replace p2 := hb3.cell p2
      replace p3 := hb3.cell p3
      replace p4 := hb3.cell p4
      replace B1 := B1.then hb3
      rcases Bool.eq_false_or_eq_true (inB x.value 0 9) with e3 | e3
      · have E3 := Lib.hid e3
        rw [e3]
        clear e3
        go_wp2
        go_loopg [24] n (fun g i w' => ∃ k : Nat, k ≤ n ∧ g = n - k ∧ i = .int .i64 k ∧ Hid (ascFrom none x.list = ascFrom (prevI x.list k) (x.list.drop k)) ∧ Bw w3 w')
        case atStart => exact ⟨0, by omega, rfl, rfl, Lib.hid rfl, Bw.refl _⟩
        case round =>
          obtain ⟨k, hk, rfl, rfl, HE, hb⟩ := hrel
          replace p0 := hb.cell p0
          replace p1 := hb.cell p1
          replace p2 := hb.cell p2
          replace p3 := hb.cell p3
          replace p4 := hb.cell p4
          by_cases hlt : k < n
          · obtain ⟨y, hy⟩ := get_of_lt (xs := x.list) (k := k) (by have := L.out; omega)
            obtain ⟨ba, oa, rfl, _, hc0⟩ := rInts_at h hy
            have hcx := (B1.then hb).cell hc0
            have i1 : (0 : Int) ≤ (k : Int) := by omega
            have i2 : (k : Int) < (n : Int) := by omega
            by_cases hk0 : 0 < k
            · obtain ⟨z, hz⟩ := get_of_lt (xs := x.list) (k := k - 1) (by have := L.out; omega)
              obtain ⟨_, _, e, _, hz0⟩ := rInts_at h hz
              injection e with e
              injection e with e1 e2
              subst e1 e2
              have hcz := (B1.then hb).cell hz0
              have HP := Lib.hid (asc_next' hk0 hz hy)
              clear hy hz h hc0 hz0
              go_wp2_with fail
              refine (I_within _ _ _ _).mono ?_
              rintro e w4 ⟨rfl, hb4⟩
              replace p3 := hb4.cell p3
              replace hcz := hb4.cell hcz
              have hbb := hb.then hb4
              rcases Bool.eq_false_or_eq_true (inB y 0 9) with e4 | e4
              · have E4 := Lib.hid e4
                rw [e4]
                clear e4
                by_cases hle : z < y
                · have ht : decide (y ≤ z) = false := by simp; omega
                  have HD := Lib.hid hle
                  go_wp2
                  go_roundg (n - (k + 1))
                  case measure => omega
                  case rel => exact ⟨k + 1, by omega, rfl, by go_num, Lib.hid (by rw [HE.out, HP.out]; simp [E4.out, HD.out]), hbb⟩
                · have ht : decide (y ≤ z) = true := by simp; omega
                  have HD : Hid (decide (z < y) = false) := by show _ = _; simp; omega
                  go_wp2
                  go_ret
                  exact Ret.bool (by rw [isWish, HE.out, HP.out, HD.out]; simp) (B1.then hbb)
              · have E4 := Lib.hid e4
                rw [e4]
                clear e4
                go_wp2
                go_ret
                exact Ret.bool (by rw [isWish, HE.out, HP.out]; simp [E4.out]) (B1.then hbb)
            · have HP := Lib.hid (show ascFrom (prevI x.list k) (x.list.drop k) = (inB y 0 9 && ascFrom (prevI x.list (k + 1)) (x.list.drop (k + 1))) by
                obtain rfl : k = 0 := by omega
                exact asc_first hy)
              clear hy h hc0
              go_wp2_with fail
              refine (I_within _ _ _ _).mono ?_
              rintro e w4 ⟨rfl, hb4⟩
              have hbb := hb.then hb4
              rcases Bool.eq_false_or_eq_true (inB y 0 9) with e4 | e4
              · have E4 := Lib.hid e4
                rw [e4]
                clear e4
                go_wp2
                go_roundg (n - (k + 1))
                case measure => omega
                case rel => exact ⟨k + 1, by omega, rfl, by go_num, Lib.hid (by rw [HE.out, HP.out]; simp [E4.out]), hbb⟩
              · have E4 := Lib.hid e4
                rw [e4]
                clear e4
                go_wp2
                go_ret
                exact Ret.bool (by rw [isWish, HE.out, HP.out]; simp [E4.out]) (B1.then hbb)
          · obtain rfl : k = n := by omega
            have HT := Lib.hid (show ascFrom none x.list = true by rw [HE.out, List.drop_of_length_le (by rw [← L.out]; exact Nat.le_refl _)]; cases prevI x.list k <;> rfl)
            have HW := Lib.hid (show isWish x = ((decide (x.kind = 2) || decide (x.value = 0)) && ((decide (x.kind = 3) == decide (0 < k)) && (if x.kind = 4 then arePairs x.pairs else decide (m = 0)))) by
              rw [isWish, E1.out, E2.out, E3.out, HT.out, ← L.out, ← M.out]; simp)
            have B2 := B1.then hb
            clear HE hlt
            by_cases k2 : x.kind = 2 ∨ x.value = 0
            · have K2 := Lib.hid (show (decide (x.kind = 2) || decide (x.value = 0)) = true by simpa using k2)
              have c2 : (x.kind != 2 && x.value != 0) = false := by simp; omega
              by_cases k3 : x.kind = 3 ↔ 0 < k
              · have K3 := Lib.hid (show (decide (x.kind = 3) == decide (0 < k)) = true by simpa using k3)
                by_cases q2 : x.kind = 2
                · have r2 : (x.kind != 2) = false := by simpa using q2
                  by_cases q3 : x.kind = 3
                  · have r3 : (x.kind == 3) = true := by simpa using q3
                    omega
                  · have r3 : (x.kind == 3) = false := by simpa using q3
                    obtain rfl : k = 0 := by simp [q3] at k3; omega
                    by_cases q4 : x.kind = 4
                    · have r4 : (x.kind == 4) = true := by simpa using q4
                      omega
                    · have r4 : (x.kind == 4) = false := by simpa using q4
                      have Q4 := Lib.hid q4
                      clear k2 k3 q2 q3 q4 c2
                      by_cases m0 : m = 0
                      · subst m0
                        go_wp2
                        go_ret
                        exact Ret.bool (by rw [HW.out, K2.out, K3.out, if_neg Q4.out]; simp) (B2)
                      · have m1 : ((m : Int) == 0) = false := by simp; omega
                        have m2 : decide (m = 0) = false := by simpa using m0
                        go_wp2
                        go_ret
                        exact Ret.bool (by rw [HW.out, K2.out, K3.out, if_neg Q4.out]; simp [m0]) (B2)
                · have r2 : (x.kind != 2) = true := by simpa using q2
                  have rv : (x.value != 0) = false := by simp; omega
                  by_cases q3 : x.kind = 3
                  · have r3 : (x.kind == 3) = true := by simpa using q3
                    have hk0 : 0 < k := by simp [q3] at k3; omega
                    by_cases q4 : x.kind = 4
                    · have r4 : (x.kind == 4) = true := by simpa using q4
                      omega
                    · have r4 : (x.kind == 4) = false := by simpa using q4
                      have Q4 := Lib.hid q4
                      clear k2 k3 q2 q3 q4 c2
                      by_cases m0 : m = 0
                      · subst m0
                        go_wp2
                        go_ret
                        exact Ret.bool (by rw [HW.out, K2.out, K3.out, if_neg Q4.out]; simp) (B2)
                      · have m1 : ((m : Int) == 0) = false := by simp; omega
                        have m2 : decide (m = 0) = false := by simpa using m0
                        go_wp2
                        go_ret
                        exact Ret.bool (by rw [HW.out, K2.out, K3.out, if_neg Q4.out]; simp [m0]) (B2)
                  · have r3 : (x.kind == 3) = false := by simpa using q3
                    obtain rfl : k = 0 := by simp [q3] at k3; omega
                    by_cases q4 : x.kind = 4
                    · have r4 : (x.kind == 4) = true := by simpa using q4
                      have Q4 := Lib.hid q4
                      clear k2 k3 q2 q3 q4 c2
                      go_wp2_with fail
                      refine (I_ArePairs _ x.pairs _ (h'.bw rPairs_good B2)).mono ?_
                      rintro e w5 ⟨rfl, hb5⟩
                      go_wp2
                      go_ret
                      exact Ret.bool (by rw [HW.out, K2.out, K3.out, if_pos Q4.out]; simp) (B2.then hb5)
                    · have r4 : (x.kind == 4) = false := by simpa using q4
                      have Q4 := Lib.hid q4
                      clear k2 k3 q2 q3 q4 c2
                      by_cases m0 : m = 0
                      · subst m0
                        go_wp2
                        go_ret
                        exact Ret.bool (by rw [HW.out, K2.out, K3.out, if_neg Q4.out]; simp) (B2)
                      · have m1 : ((m : Int) == 0) = false := by simp; omega
                        have m2 : decide (m = 0) = false := by simpa using m0
                        go_wp2
                        go_ret
                        exact Ret.bool (by rw [HW.out, K2.out, K3.out, if_neg Q4.out]; simp [m0]) (B2)
              · have K3 := Lib.hid (show (decide (x.kind = 3) == decide (0 < k)) = false by simpa using k3)
                by_cases q2 : x.kind = 2
                · have r2 : (x.kind != 2) = false := by simpa using q2
                  by_cases q3 : x.kind = 3
                  · have r3 : (x.kind == 3) = true := by simpa using q3
                    obtain rfl : k = 0 := by simp [q3] at k3; omega
                    clear k2 k3 q2 q3 c2
                    go_wp2
                    go_ret
                    exact Ret.bool (by rw [HW.out, K3.out]; simp) (B2)
                  · have r3 : (x.kind == 3) = false := by simpa using q3
                    have hk0 : 0 < k := by simp [q3] at k3; omega
                    clear k2 k3 q2 q3 c2
                    go_wp2
                    go_ret
                    exact Ret.bool (by rw [HW.out, K3.out]; simp) (B2)
                · have r2 : (x.kind != 2) = true := by simpa using q2
                  have rv : (x.value != 0) = false := by simp; omega
                  by_cases q3 : x.kind = 3
                  · have r3 : (x.kind == 3) = true := by simpa using q3
                    obtain rfl : k = 0 := by simp [q3] at k3; omega
                    clear k2 k3 q2 q3 c2
                    go_wp2
                    go_ret
                    exact Ret.bool (by rw [HW.out, K3.out]; simp) (B2)
                  · have r3 : (x.kind == 3) = false := by simpa using q3
                    have hk0 : 0 < k := by simp [q3] at k3; omega
                    clear k2 k3 q2 q3 c2
                    go_wp2
                    go_ret
                    exact Ret.bool (by rw [HW.out, K3.out]; simp) (B2)
            · have K2 := Lib.hid (show (decide (x.kind = 2) || decide (x.value = 0)) = false by simpa using k2)
              have r2 : (x.kind != 2) = true := by simp; omega
              have rv : (x.value != 0) = true := by simp; omega
              clear k2
              go_wp2
              go_ret
              exact Ret.bool (by rw [HW.out, K2.out]; simp) (B2)
      · have E3 := Lib.hid e3
        rw [e3]
        clear e3
        go_wp2
        go_ret
        exact Ret.bool (by simp [isWish, E3.out]) (B1)
    · have E2 := Lib.hid e2
      rw [e2]
      clear e2
      go_wp2
      go_ret
      exact Ret.bool (by simp [isWish, E2.out]) (B1)
  · have E1 := Lib.hid e1
    rw [e1]
    clear e1
    go_wp2
    go_ret
    exact Ret.bool (by simp [isWish, E1.out]) (B1)
end Go.Proofs.YtpihighajaeabaaGreat

namespace Go.Proofs.YtpihighajaeabaaGreat
open Go.RowKit
set_option linter.unusedVariables false
theorem all3_ints {w : World} : ∀ {xs : List Int} {us : List (List Value)} {Fs : List (List Nat)}, all3 (fun x u f => fInt w x u f ∧ u.length = 1) xs us Fs → us.flatten = xs.map (Value.int .i64) ∧ Fs.flatten = []
  | [], [], [], _ => ⟨rfl, rfl⟩
  | x :: xs, u :: us, f :: Fs, h => by
    obtain ⟨h1, h2⟩ := h
    have ih := all3_ints h2
    obtain ⟨⟨rfl, rfl⟩, _⟩ := h1
    simp [ih.1, ih.2]
  | [], _ :: _, _, h => by cases h
  | [], [], _ :: _, h => by cases h
  | _ :: _, [], _, h => by cases h
  | _ :: _, _ :: _, [], h => by cases h
theorem all3_ints_mk {w : World} : ∀ xs : List Int, all3 (fun x u f => fInt w x u f ∧ u.length = 1) xs (xs.map fun x => [Value.int .i64 x]) (xs.map fun _ => [])
  | [] => trivial
  | x :: xs => ⟨⟨⟨rfl, rfl⟩, rfl⟩, all3_ints_mk xs⟩
theorem flatten_nils {α β : Type} : ∀ xs : List α, (xs.map fun _ => ([] : List β)).flatten = []
  | [] => rfl
  | _ :: xs => by simp
theorem flatten_ones : ∀ xs : List Int, (xs.map fun x => [Value.int .i64 x]).flatten = xs.map (Value.int .i64)
  | [] => rfl
  | x :: xs => by rw [List.map_cons, List.flatten_cons, flatten_ones xs]; rfl
theorem fInts_iff {w : World} {xs : List Int} {v : Value} {F : List Nat} : fInts w xs [v] F ↔ w.ownsRow 0 3 1 v xs.length (xs.map (Value.int .i64)) ∧ F = v.ownBlock.toList := by
  constructor
  · rintro ⟨v', us, Fs, e, hown, hall, rfl⟩
    injection e with e
    subst e
    have := all3_ints hall
    rw [this.1] at hown
    exact ⟨hown, by rw [this.2]; simp⟩
  · rintro ⟨h, rfl⟩
    exact ⟨v, _, _, rfl, by rw [flatten_ones]; exact h, all3_ints_mk xs, by rw [flatten_nils]; simp⟩
theorem fInts_pop {w : World} {xs : List Int} {x : Int} {g n c : Nat} {F : List Nat} (h : fInts w (xs ++ [x]) [.slice (some ⟨g, 0, none⟩) n c] F) : fInts w xs [.slice (some ⟨g, 0, none⟩) xs.length c] F := by
  rw [fInts_iff] at h ⊢
  obtain ⟨h1, h2⟩ := h
  refine ⟨?_, h2⟩
  have hn : n = xs.length + 1 := by
    rcases h1.2 with ⟨h, _⟩ | ⟨g', cap, cur, h, _⟩
    · cases h
    · injection h with _ h _; simpa using h
  subst hn
  refine ownsRow_pop (last := [.int .i64 x]) (by simp) ?_
  simpa using h1
theorem snoc1 {l : List Int} (h : 0 < l.length) : ∃ T a, l = T ++ [a] := ⟨l.dropLast, l.getLast (fun e => by rw [e] at h; simp at h), (List.dropLast_concat_getLast _).symm⟩
theorem snoc2 {l : List Int} (h : 2 ≤ l.length) : ∃ T a b, l = T ++ [a, b] := by
  obtain ⟨T, b, rfl⟩ := snoc1 (l := l) (by omega)
  obtain ⟨T', a, rfl⟩ := snoc1 (l := T) (by simp at h; omega)
  exact ⟨T', a, b, by simp⟩
theorem stack_base {x y : GItem} {st : List Int} {n : GNode} (h : n.op = 0) : stackStep x y st n = st ++ [cmpItem n.wish x y] := by unfold stackStep; rw [if_pos h]
theorem stack_dual {x y : GItem} {T : List Int} {a : Int} {n : GNode} (h : n.op = 3) : stackStep x y (T ++ [a]) n = T ++ [neg2 a] := by
  unfold stackStep; rw [if_neg (by omega), if_pos h]
  simp
theorem stack_two {x y : GItem} {T : List Int} {a b : Int} {n : GNode} (h : n.op ≠ 0) (h3 : n.op ≠ 3) : stackStep x y (T ++ [a, b]) n = T ++ [comb n.op a b] := by
  unfold stackStep; rw [if_neg h, if_neg h3]
  simp [List.getD_eq_getElem?_getD]
theorem depth_step {e : List GNode} {k : Nat} {d : Int} {n : GNode} (h : depthOf (e.drop k) d = some 1) (hn : e[k]? = some n) : nodeOk n d = true ∧ depthOf (e.drop (k + 1)) (d - opnds n.op + 1) = some 1 := by
  rw [drop_cons hn] at h
  unfold depthOf at h
  split at h
  · rename_i hk; exact ⟨hk, h⟩
  · cases h
theorem nodeOk_op {n : GNode} {d : Int} (h : nodeOk n d = true) : 0 ≤ n.op ∧ n.op ≤ 4 := by
  unfold nodeOk at h; simp only [Bool.and_eq_true] at h; exact inB_iff.1 h.1
theorem nodeOk_ge {n : GNode} {d : Int} (h : nodeOk n d = true) : opnds n.op ≤ d := by
  unfold nodeOk at h; simp only [Bool.and_eq_true, decide_eq_true_iff] at h; exact h.2.1
theorem nodeOk_wish {n : GNode} {d : Int} (h : nodeOk n d = true) (h0 : n.op = 0) : isWish n.wish = true := by
  unfold nodeOk at h; simp only [Bool.and_eq_true, decide_eq_true_iff] at h; have := h.2.2; rw [if_pos h0] at this; exact this
theorem isExpr_depth {e : List GNode} (h : isExpr e = true) : depthOf e 0 = some 1 := by
  unfold isExpr at h; simp only [Bool.and_eq_true, decide_eq_true_iff] at h; exact h.1
theorem isExpr_len {e : List GNode} (h : isExpr e = true) : e.length ≤ 9 := by
  unfold isExpr at h; simp only [Bool.and_eq_true, decide_eq_true_iff] at h; exact h.2
/-- the stack behind k nodes -/
def stackAt (e : List GNode) (x y : GItem) (k : Nat) : List Int := (e.take k).foldl (stackStep x y) []
theorem stackAt_next {e : List GNode} {x y : GItem} {k : Nat} {n : GNode} (hn : e[k]? = some n) : stackAt e x y (k + 1) = stackStep x y (stackAt e x y k) n := by
  unfold stackAt; rw [List.take_add_one, hn, List.foldl_append]; rfl
theorem stackAt_end {e : List GNode} {x y : GItem} {k : Nat} (hk : e.length ≤ k) : (stackAt e x y k).getD 0 0 = cmpBy e x y := by
  unfold stackAt cmpBy; rw [List.take_of_length_le hk]
def codes (st : List Int) : Prop := ∀ v ∈ st, -1 ≤ v ∧ v ≤ 2
theorem codes_snoc {st : List Int} {v : Int} (h : codes st) (hv : -1 ≤ v ∧ v ≤ 2) : codes (st ++ [v]) := fun u hu => by
  rcases List.mem_append.1 hu with hu | hu
  · exact h u hu
  · simp at hu; rw [hu]; exact hv
theorem codes_left {st l : List Int} (h : codes (st ++ l)) : codes st := fun u hu => h u (List.mem_append_left _ hu)
theorem cmpItem_code (w : GWish) (x y : GItem) : -1 ≤ cmpItem w x y ∧ cmpItem w x y ≤ 2 := cmpV_code _ _ _
theorem isWish_field {w : GWish} (h : isWish w = true) : 0 ≤ w.field ∧ w.field ≤ 2 := by
  unfold isWish at h; simp only [Bool.and_eq_true] at h; exact inB_iff.1 h.1
theorem isWish_kind {w : GWish} (h : isWish w = true) : 0 ≤ w.kind ∧ w.kind ≤ 4 := by
  unfold isWish at h; simp only [Bool.and_eq_true] at h; exact inB_iff.1 h.2.1
theorem isWish_value {w : GWish} (h : isWish w = true) : 0 ≤ w.value ∧ w.value ≤ 9 := by
  unfold isWish at h; simp only [Bool.and_eq_true] at h; exact inB_iff.1 h.2.2.1
theorem isWish_pairs {w : GWish} (h : isWish w = true) (h4 : w.kind = 4) : arePairs w.pairs = true := by
  unfold isWish at h; simp only [Bool.and_eq_true] at h; have := h.2.2.2.2.2.2; rw [if_pos h4] at this; exact this
theorem arePairs_in {l : List GPair} (h : arePairs l = true) : pairsIn l = true := by
  unfold arePairs at h; simp only [Bool.and_eq_true] at h; exact h.1
theorem arePairs_len {l : List GPair} (h : arePairs l = true) : l.length ≤ 8 := by
  unfold arePairs at h; simp only [Bool.and_eq_true, decide_eq_true_iff] at h; exact h.2.1
theorem rankV_bd {w : GWish} {v : Int} (hw : isWish w = true) (hv : 0 ≤ v ∧ v ≤ 9) : 0 ≤ rankV w v ∧ rankV w v ≤ 9 := by
  have := isWish_value hw
  unfold rankV; repeat' split
  all_goals omega
end Go.Proofs.YtpihighajaeabaaGreat

namespace Go.Proofs.YtpihighajaeabaaGreat
open Go.RowKit
set_option linter.unusedVariables false
set_option linter.unusedSimpArgs false
theorem noWish_dec (x : GWish) : decide (x = noWish) = (decide (x.kind = 0) && (decide (x.field = 0) && (decide (x.value = 0) && (decide (x.list.length = 0) && decide (x.pairs.length = 0))))) := by
  rw [Bool.eq_iff_iff]; simp [GWish.eq_iff, noWish]
set_option maxRecDepth 100000 in
set_option maxHeartbeats 1600000 in
theorem S_l5NoWish (w : World) (x : GWish) (v u : Value) (h : Rd rInts w x.list [v]) (h' : Rd rPairs w x.pairs [u]) :
    Calls Tryz.prog 112 #[.agg #[.int .i64 x.kind, .int .i64 x.field, .int .i64 x.value, v, u]] w (Ret w (.bool (decide (x = noWish)))) := by
  obtain ⟨A, n, c, rfl, L0, Lc, Lm⟩ := rSl_open h
  unfold maxLen at Lm
  have L := Lib.hid L0
  clear L0
  obtain ⟨B, m, c', rfl, M0, Mc, Mm⟩ := rSl_open h'
  unfold maxLen at Mm
  have M := Lib.hid M0
  clear M0
  have HD := Lib.hid (noWish_dec x)
  rw [← L.out, ← M.out] at HD
  have B0 : Bw w (w.alloc (.cells #[.int .i64 x.kind, .int .i64 x.field, .int .i64 x.value, .slice A n c, .slice B m c'] 109)) := (Bw.refl w).alloc _
  by_cases e1 : x.kind = 0
  · by_cases e2 : x.field = 0
    · by_cases e3 : x.value = 0
      · have a1 : (x.kind == 0) = true := by simpa using e1
        have a2 : (x.field == 0) = true := by simpa using e2
        have a3 : (x.value == 0) = true := by simpa using e3
        by_cases e4 : n = 0
        · by_cases e5 : m = 0
          · have E := Lib.hid (show decide (x = noWish) = true by rw [HD.out]; simp [e1, e2, e3, e4, e5])
            subst e4 e5
            clear e1 e2 e3 HD
            go_enter Tryz.func112, Tryz.ntmps112
            go_wp2
            go_ret
            exact Ret.bool (E.out.symm) (B0)
          · have E := Lib.hid (show decide (x = noWish) = false by rw [HD.out]; simp [e5])
            have a5 : ((m : Int) == 0) = false := by simp; omega
            subst e4
            clear e1 e2 e3 HD
            go_enter Tryz.func112, Tryz.ntmps112
            go_wp2
            go_ret
            exact Ret.bool (E.out.symm) (B0)
        · have E := Lib.hid (show decide (x = noWish) = false by rw [HD.out]; simp [e4])
          have a4 : ((n : Int) == 0) = false := by simp; omega
          clear e1 e2 e3 HD
          go_enter Tryz.func112, Tryz.ntmps112
          go_wp2
          go_ret
          exact Ret.bool (E.out.symm) (B0)
      · have E := Lib.hid (show decide (x = noWish) = false by rw [HD.out]; simp [e3])
        have a1 : (x.kind == 0) = true := by simpa using e1
        have a2 : (x.field == 0) = true := by simpa using e2
        have a3 : (x.value == 0) = false := by simpa using e3
        clear e1 e2 e3 HD
        go_enter Tryz.func112, Tryz.ntmps112
        go_wp2
        go_ret
        exact Ret.bool (E.out.symm) (B0)
    · have E := Lib.hid (show decide (x = noWish) = false by rw [HD.out]; simp [e2])
      have a1 : (x.kind == 0) = true := by simpa using e1
      have a2 : (x.field == 0) = false := by simpa using e2
      clear e1 e2 HD
      go_enter Tryz.func112, Tryz.ntmps112
      go_wp2
      go_ret
      exact Ret.bool (E.out.symm) (B0)
  · have E := Lib.hid (show decide (x = noWish) = false by rw [HD.out]; simp [e1])
    have a1 : (x.kind == 0) = false := by simpa using e1
    clear e1 HD
    go_enter Tryz.func112, Tryz.ntmps112
    go_wp2
    go_ret
    exact Ret.bool (E.out.symm) (B0)
theorem depth_bad {e : List GNode} {k : Nat} {d : Int} {n : GNode} (hn : e[k]? = some n) (h : nodeOk n d = false) : depthOf (e.drop k) d = none := by
  rw [drop_cons hn, depthOf, h]; rfl
theorem depth_good {e : List GNode} {k : Nat} {d : Int} {n : GNode} (hn : e[k]? = some n) (h : nodeOk n d = true) : depthOf (e.drop k) d = depthOf (e.drop (k + 1)) (d - opnds n.op + 1) := by
  rw [drop_cons hn, depthOf, if_pos h]
def exprAt (e : List GNode) (k : Nat) (d : Int) : Bool := decide (depthOf (e.drop k) d = some 1) && decide (e.length ≤ 9)
theorem exprAt_bad {e : List GNode} {k : Nat} {d : Int} {n : GNode} (hn : e[k]? = some n) (h : nodeOk n d = false) : exprAt e k d = false := by rw [exprAt, depth_bad hn h]; rfl
theorem exprAt_good {e : List GNode} {k : Nat} {d : Int} {n : GNode} (hn : e[k]? = some n) (h : nodeOk n d = true) : exprAt e k d = exprAt e (k + 1) (d - opnds n.op + 1) := by rw [exprAt, depth_good hn h]; rfl
theorem exprAt_end {e : List GNode} {k : Nat} {d : Int} (hk : e.length = k) : exprAt e k d = (decide (d = 1) && decide (k ≤ 9)) := by
  rw [exprAt, List.drop_of_length_le (by omega), depthOf, hk]; simp
theorem nodeOk_base {n : GNode} {d : Int} (h0 : n.op = 0) (hd : 0 ≤ d) : nodeOk n d = isWish n.wish := by
  unfold nodeOk; rw [h0]; simp [inB, opnds, hd]
theorem nodeOk_dual {n : GNode} {d : Int} (h0 : n.op = 3) : nodeOk n d = (decide (1 ≤ d) && decide (n.wish = noWish)) := by
  unfold nodeOk; rw [h0]; simp [inB, opnds]
theorem nodeOk_two {n : GNode} {d : Int} (h0 : n.op = 1 ∨ n.op = 2 ∨ n.op = 4) : nodeOk n d = (decide (2 ≤ d) && decide (n.wish = noWish)) := by
  unfold nodeOk
  rcases h0 with h0 | h0 | h0 <;> rw [h0] <;> simp [inB, opnds]
theorem nodeOk_none {n : GNode} {d : Int} (h0 : ¬ n.op = 0) (h1 : ¬ n.op = 1) (h2 : ¬ n.op = 2) (h3 : ¬ n.op = 3) (h4 : ¬ n.op = 4) : nodeOk n d = false := by
  unfold nodeOk
  have : inB n.op 0 4 = false := by simp [inB]; omega
  rw [this]; rfl
set_option maxRecDepth 100000 in
set_option maxHeartbeats 3200000 in
theorem S_IsExpression (w : World) (e : List GNode) (v : Value) (h : Rd rNodes w e [v]) : Calls Tryz.prog 31 #[v] w (Ret w (.bool (isExpr e))) := by
  obtain ⟨A, n, c, rfl, L0, Lc, Lm⟩ := rSl_open h
  unfold maxLen at Lm
  have L := Lib.hid L0
  clear L0
  go_enter Tryz.func31, Tryz.ntmps31
  go_wp2
  go_loopg [3, 4] n (fun g d i w' => ∃ (k : Nat) (m : Int), k ≤ n ∧ g = n - k ∧ d = .int .i64 m ∧ i = .int .i64 k ∧ 0 ≤ m ∧ m ≤ k ∧ Hid (isExpr e = exprAt e k m) ∧ Bw w w')
  case atStart => exact ⟨0, 0, by omega, rfl, rfl, rfl, by omega, by omega, Lib.hid rfl, Bw.refl _⟩
  case round =>
    obtain ⟨k, m, hk, rfl, rfl, rfl, m0, mk, HE, hb⟩ := hrel
    by_cases hlt : k < n
    · obtain ⟨x, hx⟩ := get_of_lt (xs := e) (k := k) (by have := L.out; omega)
      obtain ⟨ba, oa, Al, cl, Ap, cp, rfl, _, c0, c1, c2, c3, c4, c5, hl, hp⟩ := rNodes_at h hx
      have i1 : (0 : Int) ≤ (k : Int) := by omega
      have i2 : (k : Int) < (n : Int) := by omega
      have p0 := hb.cell c0
      have p1 := hb.cell c1
      have p2 := hb.cell c2
      have p3 := hb.cell c3
      have p4 := hb.cell c4
      have p5 := hb.cell c5
      have hl' := Rd.bw rInts_good hl hb
      have hp' := Rd.bw rPairs_good hp hb
      have HH := Lib.hid h
      have HGOOD := Lib.hid (show nodeOk x m = true → isExpr e = exprAt e (k + 1) (m - opnds x.op + 1) from fun hg => by rw [HE.out, exprAt_good hx hg])
      have HBAD := Lib.hid (show nodeOk x m = false → isExpr e = false from fun hg => by rw [HE.out, exprAt_bad hx hg])
      clear c0 c1 c2 c3 c4 c5 hx h hl hp HE
      by_cases o0 : x.op = 0
      · have q0 : (x.op == 0) = true := by simpa using o0
        have ho := nodeOk_base (n := x) o0 m0
        rw [ho, show opnds x.op = 0 by rw [o0]; rfl] at HGOOD
        rw [ho] at HBAD
        clear ho o0
        go_wp2_with fail
        refine (S_IsWish _ x.wish _ _ hl' hp').mono ?_
        rintro e w2 ⟨rfl, hb2⟩
        have hbb := hb.then hb2
        rcases Bool.eq_false_or_eq_true (isWish x.wish) with e1 | e1
        · have G := Lib.hid (HGOOD.out e1)
          rw [e1]
          rw [show m - 0 + 1 = m + 1 by omega] at G
          clear e1 HGOOD HBAD
          go_wp2
          go_roundg (n - (k + 1))
          case measure => omega
          case rel => exact ⟨k + 1, m + 1, by omega, rfl, rfl, by go_num, by omega, by omega, G, hbb⟩
        · have G := Lib.hid (HBAD.out e1)
          rw [e1]
          clear e1 HGOOD HBAD
          go_wp2
          go_ret
          exact Ret.bool (G.out.symm) (hbb)
      have q0 : (x.op == 0) = false := by simpa using o0
      by_cases o3 : x.op = 3
      · have q3 : (x.op == 3) = true := by simpa using o3
        have ho := nodeOk_dual (n := x) (d := m) o3
        rw [ho, show opnds x.op = 1 by rw [o3]; rfl, show m - 1 + 1 = m by omega] at HGOOD
        rw [ho] at HBAD
        clear ho o0 o3
        by_cases hd : m < 1
        · have G := Lib.hid (HBAD.out (by rw [show decide (1 ≤ m) = false by simp; omega]; rfl))
          clear HGOOD HBAD
          go_wp2
          go_ret
          exact Ret.bool (G.out.symm) (hb)
        · rw [show decide (1 ≤ m) = true by simp; omega, Bool.true_and] at HGOOD HBAD
          go_wp2_with fail
          refine (S_l5NoWish _ x.wish _ _ hl' hp').mono ?_
          rintro e w2 ⟨rfl, hb2⟩
          have hbb := hb.then hb2
          rcases Bool.eq_false_or_eq_true (decide (x.wish = noWish)) with e1 | e1
          · have G := Lib.hid (HGOOD.out e1)
            rw [e1]
            clear e1 HGOOD HBAD
            go_wp2
            go_roundg (n - (k + 1))
            case measure => omega
            case rel => exact ⟨k + 1, m, by omega, rfl, rfl, by go_num, by omega, by omega, G, hbb⟩
          · have G := Lib.hid (HBAD.out e1)
            rw [e1]
            clear e1 HGOOD HBAD
            go_wp2
            go_ret
            exact Ret.bool (G.out.symm) (hbb)
      have q3 : (x.op == 3) = false := by simpa using o3
      by_cases ot : x.op = 1 ∨ x.op = 2 ∨ x.op = 4
      · have ho := nodeOk_two (n := x) (d := m) ot
        rw [ho, show opnds x.op = 2 by rcases ot with h | h | h <;> rw [h] <;> rfl, show m - 2 + 1 = m - 1 by omega] at HGOOD
        rw [ho] at HBAD
        by_cases hd : m < 2
        · have G := Lib.hid (HBAD.out (by rw [show decide (2 ≤ m) = false by simp; omega]; rfl))
          clear HGOOD HBAD
          rcases ot with o1 | o1 | o1
          · have q1 : (x.op == 1) = true := by simpa using o1
            clear o0 o1 o3
            go_wp2
            go_ret
            exact Ret.bool (G.out.symm) (hb)
          · have q1 : (x.op == 1) = false := by simp; omega
            have q2 : (x.op == 2) = true := by simpa using o1
            clear o0 o1 o3
            go_wp2
            go_ret
            exact Ret.bool (G.out.symm) (hb)
          · have q1 : (x.op == 1) = false := by simp; omega
            have q2 : (x.op == 2) = false := by simp; omega
            have q4 : (x.op == 4) = true := by simpa using o1
            clear o0 o1 o3
            go_wp2
            go_ret
            exact Ret.bool (G.out.symm) (hb)
        · rw [show decide (2 ≤ m) = true by simp; omega, Bool.true_and] at HGOOD HBAD
          have key := S_l5NoWish wr x.wish _ _ hl' hp'
          rcases Bool.eq_false_or_eq_true (decide (x.wish = noWish)) with e1 | e1
          all_goals rw [e1] at key
          · have G := Lib.hid (HGOOD.out e1)
            clear e1 HGOOD HBAD
            rcases ot with o1 | o1 | o1
            · have q1 : (x.op == 1) = true := by simpa using o1
              clear o0 o1 o3
              go_wp2_with fail
              refine (key).mono ?_
              rintro e w2 ⟨rfl, hb2⟩
              have hbb := hb.then hb2
              go_wp2
              go_roundg (n - (k + 1))
              case measure => omega
              case rel => exact ⟨k + 1, m - 1, by omega, rfl, rfl, by go_num, by omega, by omega, G, hbb⟩
            · have q1 : (x.op == 1) = false := by simp; omega
              have q2 : (x.op == 2) = true := by simpa using o1
              clear o0 o1 o3
              go_wp2_with fail
              refine (key).mono ?_
              rintro e w2 ⟨rfl, hb2⟩
              have hbb := hb.then hb2
              go_wp2
              go_roundg (n - (k + 1))
              case measure => omega
              case rel => exact ⟨k + 1, m - 1, by omega, rfl, rfl, by go_num, by omega, by omega, G, hbb⟩
            · have q1 : (x.op == 1) = false := by simp; omega
              have q2 : (x.op == 2) = false := by simp; omega
              have q4 : (x.op == 4) = true := by simpa using o1
              clear o0 o1 o3
              go_wp2_with fail
              refine (key).mono ?_
              rintro e w2 ⟨rfl, hb2⟩
              have hbb := hb.then hb2
              go_wp2
              go_roundg (n - (k + 1))
              case measure => omega
              case rel => exact ⟨k + 1, m - 1, by omega, rfl, rfl, by go_num, by omega, by omega, G, hbb⟩
          · have G := Lib.hid (HBAD.out e1)
            clear e1 HGOOD HBAD
            rcases ot with o1 | o1 | o1
            · have q1 : (x.op == 1) = true := by simpa using o1
              clear o0 o1 o3
              go_wp2_with fail
              refine (key).mono ?_
              rintro e w2 ⟨rfl, hb2⟩
              go_wp2
              go_ret
              exact Ret.bool (G.out.symm) (hb.then hb2)
            · have q1 : (x.op == 1) = false := by simp; omega
              have q2 : (x.op == 2) = true := by simpa using o1
              clear o0 o1 o3
              go_wp2_with fail
              refine (key).mono ?_
              rintro e w2 ⟨rfl, hb2⟩
              go_wp2
              go_ret
              exact Ret.bool (G.out.symm) (hb.then hb2)
            · have q1 : (x.op == 1) = false := by simp; omega
              have q2 : (x.op == 2) = false := by simp; omega
              have q4 : (x.op == 4) = true := by simpa using o1
              clear o0 o1 o3
              go_wp2_with fail
              refine (key).mono ?_
              rintro e w2 ⟨rfl, hb2⟩
              go_wp2
              go_ret
              exact Ret.bool (G.out.symm) (hb.then hb2)
      have q1 : (x.op == 1) = false := by simp; omega
      have q2 : (x.op == 2) = false := by simp; omega
      have q4 : (x.op == 4) = false := by simp; omega
      have G := Lib.hid (HBAD.out (nodeOk_none o0 (by omega) (by omega) o3 (by omega)))
      clear HGOOD HBAD o0 o3 ot
      go_wp2
      go_ret
      exact Ret.bool (G.out.symm) (hb)
    · obtain rfl : k = n := by omega
      have HF := Lib.hid (show isExpr e = (decide (m = 1) && decide (k ≤ 9)) by rw [HE.out, exprAt_end L.out.symm])
      clear HE hlt
      by_cases hm : m = 1
      · have q1 : (m == 1) = true := by simpa using hm
        by_cases h9 : (k : Int) ≤ 9
        · have G := Lib.hid (show isExpr e = true by rw [HF.out]; simp [hm]; omega)
          clear hm HF
          go_wp2
          go_ret
          exact Ret.bool (G.out.symm) (hb)
        · have G := Lib.hid (show isExpr e = false by rw [HF.out]; simp; omega)
          clear hm HF
          go_wp2
          go_ret
          exact Ret.bool (G.out.symm) (hb)
      · have q1 : (m == 1) = false := by simpa using hm
        have G := Lib.hid (show isExpr e = false by rw [HF.out]; simp [hm])
        clear hm HF
        go_wp2
        go_ret
        exact Ret.bool (G.out.symm) (hb)
end Go.Proofs.YtpihighajaeabaaGreat
