/- Pairs in the program: the table of what is above what. -/
import Derived.Test.YtpihighajaeabaaGreatQReach
import Derived.Laws.Rows
import Derived.Laws.Tables
namespace Go.Proofs.YtpihighajaeabaaGreat
open Go.RowKit
set_option linter.unusedVariables false
theorem all_range_drop (f : Nat → Bool) {k n : Nat} (h : k < n) : (List.range' k (n - k)).all f = (f k && (List.range' (k + 1) (n - (k + 1))).all f) := by
  rw [show n - k = (n - (k + 1)) + 1 by omega, List.range'_succ, List.all_cons]
set_option maxHeartbeats 800000 in
theorem S_ArePairs (w : World) (l : List GPair) (v : Value) (h : Rd rPairs w l [v]) : Calls Tryz.prog 175 #[v] w (Ret w (.bool (arePairs l))) := by
  go_enter Tryz.func175, Tryz.ntmps175
  go_wp2_with fail
  refine (S_l3Valid _ l _ h).mono ?_
  rintro e w2 ⟨rfl, hb2⟩
  have h2 := h.bw rPairs_good hb2
  rcases Bool.eq_false_or_eq_true (pairsIn l && decide (l.length ≤ 8)) with e1 | e1
  · have E1 := Lib.hid e1
    rw [e1]
    have hl : pairsIn l = true := by simp at e1; exact e1.1
    have h8 : l.length ≤ 8 := by simp at e1; exact e1.2
    have HL := Lib.hid hl
    have H8 := Lib.hid h8
    have HM := Lib.hid (show arePairs l = (List.range' 0 (10 - 0)).all (fun v => !reachB l (v : Int) (v : Int)) by
      unfold arePairs; rw [hl, List.range_eq_range']; simp [h8])
    clear e1 hl h8
    go_wp2
    go_loopg [3] 10 (fun g i w' => ∃ k : Nat, k ≤ 10 ∧ g = 10 - k ∧ i = .int .i64 k ∧ Hid (arePairs l = (List.range' k (10 - k)).all (fun v => !reachB l (v : Int) (v : Int))) ∧ Bw w w')
    case atStart => exact ⟨0, by omega, rfl, rfl, HM, hb2⟩
    case round =>
      obtain ⟨k, hk, rfl, rfl, HE, hb⟩ := hrel
      by_cases hlt : k < 10
      · have HS := Lib.hid (all_range_drop (fun v => !reachB l (v : Int) (v : Int)) hlt)
        have k9 : (k : Int) ≤ 9 := by omega
        go_wp2_with fail
        refine (S_l3Reach _ l (k : Int) (k : Int) _ (h.bw rPairs_good hb) HL.out H8.out (by omega) (by omega)).mono ?_
        rintro e w3 ⟨rfl, hb3⟩
        rcases Bool.eq_false_or_eq_true (reachB l (k : Int) (k : Int)) with e2 | e2
        · have E2 := Lib.hid e2
          rw [show reachB l (k : Int) (k : Int) = true from E2.out]
          clear e2
          go_wp2
          go_ret
          exact Ret.bool (by rw [HE.out, HS.out, E2.out]; simp) (hb.then hb3)
        · have E2 := Lib.hid e2
          rw [show reachB l (k : Int) (k : Int) = false from E2.out]
          clear e2
          go_wp2
          go_roundg (10 - (k + 1))
          case measure => omega
          case rel => exact ⟨k + 1, by omega, rfl, by go_num, Lib.hid (by rw [HE.out, HS.out, E2.out]; simp), hb.then hb3⟩
      · obtain rfl : k = 10 := by omega
        go_wp2
        go_ret
        exact Ret.bool (by rw [HE.out]; simp) hb
  · have HM := Lib.hid (show arePairs l = false by
      unfold arePairs
      simp at e1
      by_cases hl : pairsIn l = true
      · have := e1 hl; simp; intro _ h; omega
      · simp at hl; simp [hl])
    rw [e1]
    clear e1
    go_wp2
    go_ret
    exact Ret.bool (by rw [HM.out]) (hb2)
end Go.Proofs.YtpihighajaeabaaGreat

namespace Go.Proofs.YtpihighajaeabaaGreat
open Go.RowKit
set_option linter.unusedVariables false
def matOf (M : Nat → Nat → Bool) : Array Value := Array.ofFn fun k : Fin 100 => .bool (M (k.1 / 10) (k.1 % 10))
theorem matOf_size (M : Nat → Nat → Bool) : (matOf M).size = 100 := by simp [matOf]
theorem matOf_at {M : Nat → Nat → Bool} {i j : Nat} (hi : i < 10) (hj : j < 10) : (matOf M)[i * 10 + j]? = some (.bool (M i j)) := by
  have hk : i * 10 + j < 100 := by omega
  have e1 : (i * 10 + j) / 10 = i := by omega
  have e2 : (i * 10 + j) % 10 = j := by omega
  simp [matOf, hk, e1, e2]
def updM (M : Nat → Nat → Bool) (i j : Nat) (b : Bool) : Nat → Nat → Bool := fun a c => if a = i ∧ c = j then b else M a c
theorem matOf_set {M : Nat → Nat → Bool} {i j : Nat} {b : Bool} (hi : i < 10) (hj : j < 10) : (matOf M).setIfInBounds (i * 10 + j) (.bool b) = matOf (updM M i j b) := by
  apply Array.ext_getElem?
  intro k
  rw [Array.getElem?_setIfInBounds]
  by_cases hk : i * 10 + j = k
  · subst hk
    rw [if_pos rfl, if_pos (by rw [matOf_size]; omega), matOf_at hi hj]
    simp [updM]
  · rw [if_neg hk]
    by_cases hk2 : k < 100
    · simp only [matOf, Array.getElem?_ofFn, hk2, dif_pos, updM]
      rw [if_neg (by omega)]
    · rw [Array.getElem?_eq_none (by rw [matOf_size]; omega), Array.getElem?_eq_none (by rw [matOf_size]; omega)]
theorem matOf_congr {M M' : Nat → Nat → Bool} (h : ∀ i j, i < 10 → j < 10 → M i j = M' i j) : matOf M = matOf M' := by
  apply Array.ext_getElem?
  intro k
  by_cases hk2 : k < 100
  · simp only [matOf, Array.getElem?_ofFn, hk2, dif_pos]
    rw [h _ _ (by omega) (by omega)]
  · rw [Array.getElem?_eq_none (by rw [matOf_size]; omega), Array.getElem?_eq_none (by rw [matOf_size]; omega)]
theorem matOf_one (M : Nat → Nat → Bool) : (matOf M).all (·.oneCell') = true := by
  rw [Array.all_eq_true]
  intro i hi
  simp [matOf, Value.oneCell']
/-- a block known whole -/
def Row (w : World) (g : Nat) (t : TypeId) (cs : Array Value) : Prop := w.heap[g]? = some (.cells cs t (0, 0))
section
variable {w w' : World} {g : Nat} {t : TypeId} {cs : Array Value}
theorem Row.lt (h : Row w g t cs) : g < w.heap.size := by
  rcases Nat.lt_or_ge g w.heap.size with hlt | hge
  · exact hlt
  · unfold Row at h; rw [Array.getElem?_eq_none hge] at h; cases h
theorem Row.cell (h : Row w g t cs) (i : Nat) : w.cell? ⟨g, i, none⟩ = cs[i]? := cell_of_row w g i cs t (0, 0) h
theorem Row.frozen (h : Row w g t cs) (i : Nat) : w.frozen? ⟨g, i, none⟩ = false := by
  unfold Row at h
  simp [World.frozen?, h]
theorem Row.bw (h : Row w g t cs) (hb : Bw w w') : Row w' g t cs := (Below.block hb g h.lt).trans h
theorem Row.put (h : Row w g t cs) (i : Nat) (u : Value) : Row (w.setCell ⟨g, i, none⟩ u) g t (cs.setIfInBounds i u) := by
  unfold Row at h ⊢
  simp [World.setCell, Array.getElem?_modify, h]
theorem Row.far (h : Row w g t cs) {p : Addr} (hp : g ≠ p.block) (u : Value) : Row (w.setCell p u) g t cs := (Below.heap_setCell w p u g hp).trans h
end
theorem baseB_snoc {l : List GPair} {k : Nat} {p : GPair} (h : l[k]? = some p) {a b : Nat} (ha : p.fst = a) (hb : p.snd = b) : baseB (l.take (k + 1)) = updM (baseB (l.take k)) a b true := by
  funext i j
  have e : l.take (k + 1) = l.take k ++ [p] := by rw [List.take_add_one, h]; rfl
  rw [e]
  unfold updM baseB
  rw [List.any_append]
  simp only [List.any_cons, List.any_nil, Bool.or_false, ha, hb]
  by_cases h1 : i = a ∧ j = b
  · rw [if_pos h1]; simp [h1.1, h1.2]
  · rw [if_neg h1]
    have : (decide ((a : Int) = (i : Int)) && decide ((b : Int) = (j : Int))) = false := by
      simp; intro h2 h3; exact h1 ⟨by omega, by omega⟩
    rw [this, Bool.or_false]
/-- within a phase: the entries ahead of (i, j) are done -/
def partM (B : Nat → Nat → Bool) (k i j : Nat) : Nat → Nat → Bool := fun a c => if a < i ∨ (a = i ∧ c < j) then warsh B (k + 1) a c else warsh B k a c
theorem partM_zero (B : Nat → Nat → Bool) (k : Nat) : partM B k 0 0 = warsh B k := by funext a c; unfold partM; rw [if_neg (by omega)]
theorem partM_row (B : Nat → Nat → Bool) (k i : Nat) : matOf (partM B k i 10) = matOf (partM B k (i + 1) 0) := matOf_congr fun a c ha hc => by
  unfold partM
  by_cases h : a < i + 1
  · rw [if_pos (by omega), if_pos (by omega)]
  · rw [if_neg (by omega), if_neg (by omega)]
theorem partM_end (B : Nat → Nat → Bool) (k : Nat) : matOf (partM B k 10 0) = matOf (warsh B (k + 1)) := matOf_congr fun a c ha hc => by unfold partM; rw [if_pos (by omega)]
theorem partM_ij (B : Nat → Nat → Bool) (k i j : Nat) : partM B k i j i j = warsh B k i j := by unfold partM; rw [if_neg (by omega)]
theorem partM_ik (B : Nat → Nat → Bool) (k i j : Nat) : partM B k i j i k = warsh B k i k := by unfold partM; split; exact warsh_row; rfl
theorem partM_kj (B : Nat → Nat → Bool) (k i j : Nat) : partM B k i j k j = warsh B k k j := by unfold partM; split; exact warsh_col; rfl
theorem partM_step (B : Nat → Nat → Bool) (k i j : Nat) : updM (partM B k i j) i j (warsh B k i j || (warsh B k i k && warsh B k k j)) = partM B k i (j + 1) := by
  funext a c
  unfold updM
  by_cases h : a = i ∧ c = j
  · obtain ⟨rfl, rfl⟩ := h
    rw [if_pos ⟨rfl, rfl⟩]
    unfold partM
    rw [if_pos (by omega)]; rfl
  · rw [if_neg h]
    unfold partM
    by_cases h2 : a < i ∨ (a = i ∧ c < j)
    · rw [if_pos h2, if_pos (by omega)]
    · rw [if_neg h2, if_neg (by omega)]
theorem mat_info : (Tryz.prog.info? 228).map (·.size) = some 100 := by kernel_rfl
theorem setRow_row {w : World} {g : Nat} {t : TypeId} {cs : Array Value} (h : Row w g t cs) (c : Array Value) : Row (w.setRow g c) g t c := by
  unfold Row at h ⊢
  simp [World.setRow, Array.getElem?_modify, h]
theorem Bw.setRow {a w : World} (h : Bw a w) {g : Nat} (hg : a.heap.size ≤ g) (c : Array Value) : Bw a (w.setRow g c) := by
  have k : Below a.heap.size a w := h
  refine ⟨k.os, k.tape, k.output, ?_, fun b hb => ?_⟩
  · have := k.size
    simp only [World.setRow, Array.size_modify]; exact this
  · rw [← k.block b hb]
    simp only [World.setRow, Array.getElem?_modify]
    rw [if_neg (by omega)]
theorem still_of_quiet {P : Program} {o : Oper} {a : Act} {w : World} {K K' : Act → Prop} (h : o.quiet P a (fun w' => w' = w) K) (hK : ∀ a, K a → K' a) : o.still P a w K' := by
  obtain ⟨v, hv, hn⟩ := h
  have := hv w rfl
  unfold Oper.still
  unfold Oper.quietAt at this
  revert this
  cases (execOp a.eval o).run P w with
  | ok r w' =>
    cases r with
    | value u => intro ⟨h1, h2⟩; subst h2; exact ⟨h1, hK _ hn⟩
    | skip => intro ⟨h1, h2⟩; subst h2; exact ⟨h1, hK _ hn⟩
    | enter f args => intro ⟨h1, h2⟩; exact ⟨h1, v, h2, hK _ hn⟩
    | _ => intro h; exact h.elim
  | _ => intro h; exact h.elim
theorem wpStill_of_quiet {P : Program} {ops : Array Oper} {w : World} {Q : Act → Prop} : ∀ {l : List Oper} {a : Act}, wpQuiet P ops (fun w' => w' = w) Q l a → wpStill P ops w Q l a
  | [], a, h => h
  | o :: l, a, h => by
    unfold wpQuiet at h
    unfold wpStill
    by_cases hw : Region.wanted o (yielded ops a.tmps) = true
    · rw [if_pos hw] at h ⊢
      exact still_of_quiet h fun _ h => wpStill_of_quiet h
    · rw [if_neg hw] at h ⊢
      exact wpStill_of_quiet h
end Go.Proofs.YtpihighajaeabaaGreat

namespace Go.Proofs.YtpihighajaeabaaGreat
open Go.RowKit
set_option linter.unusedVariables false
set_option maxRecDepth 100000 in
set_option maxHeartbeats 16000000 in
theorem I_above (w : World) (l : List GPair) (v : Value) (h : Rd rPairs w l [v]) (hl : pairsIn l = true) : Calls Tryz.prog 259 #[v] w (Ret w (.agg (matOf (warsh (baseB l) 10)))) := by
  obtain ⟨A, n, c, rfl, L0, Lc, Lm⟩ := rSl_open h
  unfold maxLen at Lm
  have L := Lib.hid L0
  clear L0
  have HL := Lib.hid hl
  clear hl
  go_enter Tryz.func259, Tryz.ntmps259
  go_wp2
  go_loopg [11] n (fun g i w' => ∃ k : Nat, k ≤ n ∧ g = n - k ∧ i = .int .i64 k ∧ Row w' (w.heap.size + 1) 228 (matOf (baseB (l.take k))) ∧ (∃ cs, Row w' w.heap.size 228 cs ∧ cs.size = 100) ∧ Bw w w')
  case atStart =>
    refine ⟨0, by omega, rfl, rfl, ?_, ⟨_, (Below.heap_alloc _ _ _ (by simp)).trans (heap_alloc_new w _), by kernel_rfl⟩, (((Bw.refl w).alloc _).alloc _)⟩
    have e := heap_alloc_new (w.alloc (.cells Tryz.zeroCells228 228)) (.cells Tryz.zeroCells228 228)
    rw [show (w.alloc (.cells Tryz.zeroCells228 228)).heap.size = w.heap.size + 1 by simp] at e
    refine e.trans ?_
    exact congrArg (fun c => some (Obj.cells c 228 (0, 0))) (show _ = matOf (baseB []) by kernel_rfl)
  case round =>
    obtain ⟨k, hk, rfl, rfl, R0, ⟨cs, R1, hcs⟩, hb⟩ := hrel
    by_cases hlt : k < n
    · obtain ⟨p, hp⟩ := get_of_lt (xs := l) (k := k) (by have := L.out; omega)
      obtain ⟨ba, oa, rfl, _, hc0, hc1⟩ := rPairs_at h hp
      obtain ⟨⟨p1, p2⟩, p3, p4⟩ := pairsIn_mem HL.out (List.mem_of_getElem? hp)
      obtain ⟨a, hae⟩ : ∃ a : Nat, p.fst = a := ⟨p.fst.toNat, by omega⟩
      obtain ⟨b, hbe⟩ : ∃ b : Nat, p.snd = b := ⟨p.snd.toNat, by omega⟩
      have ha : a < 10 := by omega
      have hbb : b < 10 := by omega
      have ha' : (a : Int) < 10 := by omega
      have hb' : (b : Int) < 10 := by omega
      have HS := Lib.hid (baseB_snoc hp hae hbe)
      rw [hae] at hc0
      rw [hbe] at hc1
      have hx0 := hb.cell hc0
      have hx1 := hb.cell hc1
      have kx0 : (wr.alloc (.cells #[.int .i64 a, .int .i64 b] 214)).cell? ⟨wr.heap.size, 0, none⟩ = some (.int .i64 a) := by go_simp
      have kx1 : (wr.alloc (.cells #[.int .i64 a, .int .i64 b] 214)).cell? ⟨wr.heap.size, 1, none⟩ = some (.int .i64 b) := by go_simp
      obtain ⟨W, hW⟩ : ∃ W, W = wr.alloc (.cells #[.int .i64 a, .int .i64 b] 214) := ⟨_, rfl⟩
      have hAl : Bw wr W := by rw [hW]; exact (Bw.refl wr).alloc _
      rw [← hW] at kx0 kx1
      have hz : w.heap.size + 1 < wr.heap.size := R0.lt
      have R0' := R0.bw hAl
      have R1' := R1.bw hAl
      have hcell := R0'.cell (a * 10 + b)
      rw [matOf_at ha hbb] at hcell
      have hfr := R0'.frozen (a * 10 + b)
      have R0d : Row W.drew (w.heap.size + 1) 228 (matOf (baseB (l.take k))) := R0'
      have R1d : Row W.drew w.heap.size 228 cs := R1'
      have R2 := R0d.put (a * 10 + b) (.bool true)
      rw [matOf_set ha hbb, ← HS.out] at R2
      have R3 := R1d.far (p := ⟨w.heap.size + 1, a * 10 + b, none⟩) (by dsimp only; omega) (.bool true)
      have hb2 := (hb.then hAl.drew).set (p := ⟨w.heap.size + 1, a * 10 + b, none⟩) (by dsimp only; omega) (.bool true)
      clear hp hae hbe R0 R1 R0' R1' R0d R1d
      go_wp2_with fail
      rw [← hW]
      obtain ⟨q, hq⟩ : ∃ q, q = wr.heap.size := ⟨_, rfl⟩
      rw [← hq] at kx0 kx1 ⊢
      clear hW hq
      refine wp_region_still_tail 6 (by kernel_rfl) (by kernel_rfl) ?_
      simp only [List.take_succ_cons, List.take_zero, List.drop_succ_cons, List.drop_zero]
      refine wpStill_of_quiet (w := W.drew) ?_
      repeat (first | go_big_quiet_skip | (go_big_quiet_want; go_big_quiet_op; go_big_quiet_on))
      refine wpQuiet_nil ?_
      change wpList _ _ _ _ _ W.drew
      go_wp2
      go_roundg (n - (k + 1))
      case measure => omega
      case rel => exact ⟨k + 1, by omega, rfl, by go_num, R2, ⟨cs, R3, hcs⟩, hb2⟩
    · obtain rfl : k = n := by omega
      rw [List.take_of_length_le (by rw [← L.out]; exact Nat.le_refl _)] at R0
      obtain ⟨B, hB⟩ : ∃ B, B = baseB l := ⟨_, rfl⟩
      rw [← hB] at R0
      have HB := Lib.hid hB
      have hgz : w.heap.size + 1 < wr.heap.size := R0.lt
      clear hB hgz
      go_wp2
      go_loopg [22] 10 (fun g i w' => ∃ k : Nat, k ≤ 10 ∧ g = 10 - k ∧ i = .int .i64 k ∧ Row w' (w.heap.size + 1) 228 (matOf (warsh B k)) ∧ (∃ cs, Row w' w.heap.size 228 cs ∧ cs.size = 100) ∧ Bw w w')
      case atStart => exact ⟨0, by omega, rfl, rfl, R0, ⟨cs, R1, hcs⟩, hb⟩
      case round =>
        clear R0 R1 hcs hb
        obtain ⟨k, hk, rfl, rfl, R0, ⟨cs, R1, hcs⟩, hb⟩ := hrel
        by_cases hlt1 : k < 10
        · have k1 : (k : Int) < 10 := by omega
          rw [← partM_zero] at R0
          go_wp2
          go_loopg [25] 10 (fun g i w' => ∃ i' : Nat, i' ≤ 10 ∧ g = 10 - i' ∧ i = .int .i64 i' ∧ Row w' (w.heap.size + 1) 228 (matOf (partM B k i' 0)) ∧ (∃ cs, Row w' w.heap.size 228 cs ∧ cs.size = 100) ∧ Bw w w')
          case atStart => exact ⟨0, by omega, rfl, rfl, R0, ⟨cs, R1, hcs⟩, hb⟩
          case round =>
            clear R0 R1 hcs hb
            obtain ⟨i, hi, rfl, rfl, R0, ⟨cs, R1, hcs⟩, hb⟩ := hrel
            by_cases hlt2 : i < 10
            · have i1 : (i : Int) < 10 := by omega
              go_wp2
              go_loopg [28] 10 (fun g i2 w' => ∃ j : Nat, j ≤ 10 ∧ g = 10 - j ∧ i2 = .int .i64 j ∧ Row w' (w.heap.size + 1) 228 (matOf (partM B k i j)) ∧ (∃ cs, Row w' w.heap.size 228 cs ∧ cs.size = 100) ∧ Bw w w')
              case atStart => exact ⟨0, by omega, rfl, rfl, R0, ⟨cs, R1, hcs⟩, hb⟩
              case round =>
                clear R0 R1 hcs hb
                obtain ⟨j, hj, rfl, rfl, R0, ⟨cs, R1, hcs⟩, hb⟩ := hrel
                by_cases hlt3 : j < 10
                · have j1 : (j : Int) < 10 := by omega
                  have hcij := R0.cell (i * 10 + j)
                  rw [matOf_at hlt2 hlt3, partM_ij] at hcij
                  have hcik := R0.cell (i * 10 + k)
                  rw [matOf_at hlt2 hlt1, partM_ik] at hcik
                  have hckj := R0.cell (k * 10 + j)
                  rw [matOf_at hlt1 hlt3, partM_kj] at hckj
                  have hfr := R0.frozen (i * 10 + j)
                  have R0d : Row wr.drew (w.heap.size + 1) 228 (matOf (partM B k i j)) := R0
                  have R1d : Row wr.drew w.heap.size 228 cs := R1
                  have R2 := R0d.put (i * 10 + j) (.bool (warsh B k i j || (warsh B k i k && warsh B k k j)))
                  rw [matOf_set hlt2 hlt3, partM_step] at R2
                  have R3 := fun u => R1d.far (p := ⟨w.heap.size + 1, i * 10 + j, none⟩) (by dsimp only; omega) u
                  have hb2 := fun u => hb.drew.set (p := ⟨w.heap.size + 1, i * 10 + j, none⟩) (by dsimp only; omega) u
                  clear R0 R1 R0d R1d
                  rcases Bool.eq_false_or_eq_true (warsh B k i j) with x | x <;> rcases Bool.eq_false_or_eq_true (warsh B k i k) with y | y <;> rcases Bool.eq_false_or_eq_true (warsh B k k j) with z | z
                  all_goals
                    rw [x] at hcij
                    rw [y] at hcik
                    rw [z] at hckj
                    rw [x, y, z] at R2
                    simp only [Bool.or_true, Bool.true_or, Bool.or_false, Bool.false_or, Bool.and_true, Bool.and_false, Bool.true_and, Bool.false_and, Bool.and_self, Bool.or_self] at R2
                    have R3' := R3 (.bool true)
                    have R3'' := R3 (.bool false)
                    have hb2' := hb2 (.bool true)
                    have hb2'' := hb2 (.bool false)
                    clear x y z R3 hb2
                    go_wp2_with fail
                    refine wp_region_still_tail 23 (by kernel_rfl) (by kernel_rfl) ?_
                    simp only [List.take_succ_cons, List.take_zero, List.drop_succ_cons, List.drop_zero]
                    refine wpStill_of_quiet (w := wr.drew) ?_
                    repeat (first | go_big_quiet_skip | (go_big_quiet_want; go_big_quiet_op; go_big_quiet_on))
                    refine wpQuiet_nil ?_
                    change wpList _ _ _ _ _ wr.drew
                    go_wp2
                    go_roundg (10 - (j + 1))
                    case measure => omega
                    case rel => first | exact ⟨j + 1, by omega, rfl, by go_num, R2, ⟨cs, R3', hcs⟩, hb2'⟩ | exact ⟨j + 1, by omega, rfl, by go_num, R2, ⟨cs, R3'', hcs⟩, hb2''⟩
                · obtain rfl : j = 10 := by omega
                  rw [partM_row] at R0
                  go_wp2
                  go_roundg (10 - (i + 1))
                  case measure => omega
                  case rel => exact ⟨i + 1, by omega, rfl, by go_num, R0, ⟨cs, R1, hcs⟩, hb⟩
            · obtain rfl : i = 10 := by omega
              rw [partM_end] at R0
              go_wp2
              go_roundg (10 - (k + 1))
              case measure => omega
              case rel => exact ⟨k + 1, by omega, rfl, by go_num, R0, ⟨cs, R1, hcs⟩, hb⟩
        · obtain rfl : k = 10 := by omega
          have RR := setRow_row R1 (matOf (warsh B 10))
          have hB2 := hb.setRow (g := w.heap.size) (Nat.le_refl _) (matOf (warsh B 10))
          have hcs2 : cs.size = (matOf (warsh B 10)).size := hcs.trans (matOf_size _).symm
          have hmi := mat_info
          rw [← matOf_size (warsh B 10)] at hmi
          clear hlt1
          go_wp2_with (first | (refine wpList_load_row rfl 228 (.tmp 3) rfl (w.heap.size + 1) rfl 228 (matOf (warsh B 10)) (0, 0) _ R0 Tryz.underlying228 rfl hmi ?_) | (refine wpList_store_row rfl 228 (.tmp 2) (.tmp 57) rfl w.heap.size (matOf (warsh B 10)) rfl rfl 228 cs R1 hmi hcs2 (matOf_one _) ?_))
          refine bodyPost_ret (v := .agg (matOf (warsh B 10))) (results_cell_row rfl _ _ w.heap.size 228 (matOf (warsh B 10)) (0, 0) _ rfl RR Tryz.underlying228 rfl hmi) rfl ⟨?_, hB2⟩
          rw [HB.out]
end Go.Proofs.YtpihighajaeabaaGreat
