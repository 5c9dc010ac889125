/- The best couples in the reference. -/
import Derived.Test.YthlaabaffbffkaaGreatQItems
import Derived.Test.YthlaabaffbffkaaGreatQOwn3
import Derived.Test.YthlaabaffbffkaaGreatQOrder
import Derived.Test.YthlaabaffbffkaaGreatQStack
import Derived.Test.YthlaabaffbffkaaGreatQBestS
namespace Go.Proofs.YthlaabaffbffkaaGreat
open Go.RowKit
set_option linter.unusedVariables false


end Go.Proofs.YthlaabaffbffkaaGreat

namespace Go.Proofs.YthlaabaffbffkaaGreat
open Go.RowKit
set_option linter.unusedVariables false
def coupL (x : GItem) (f g : Int) : List GItem → List GPair
  | [] => []
  | y :: ys => if valAt x f = valAt y g then ⟨x.id, y.id⟩ :: coupL x f g ys else coupL x f g ys
def coupA (f g : Int) (b : List GItem) : List GItem → List GPair
  | [] => []
  | x :: xs => coupL x f g b ++ coupA f g b xs
def coupOk (a b : List GItem) (f g : Int) : Bool := areItems a && (areItems b && (inB f 0 2 && inB g 0 2))
def couples (a b : List GItem) (f g : Int) : List GPair := if coupOk a b f g then coupA f g b a else []
theorem coupL_len (x : GItem) (f g : Int) : ∀ l : List GItem, (coupL x f g l).length ≤ l.length
  | [] => Nat.le_refl _
  | y :: l => by
    have := coupL_len x f g l
    unfold coupL; split <;> simp <;> omega
theorem coupA_len (f g : Int) (b : List GItem) (hb : b.length ≤ 16) : ∀ a : List GItem, (coupA f g b a).length ≤ 16 * a.length
  | [] => Nat.le_refl _
  | x :: a => by
    have := coupA_len f g b hb a
    have := coupL_len x f g b
    simp only [coupA, List.length_append, List.length_cons]; omega
theorem couples_len (a b : List GItem) (f g : Int) : (couples a b f g).length ≤ 256 := by
  unfold couples
  split
  · rename_i h
    simp only [coupOk, Bool.and_eq_true] at h
    have h1 := coupA_len f g b (areItems_len h.2.1) a
    have h2 := areItems_len h.1
    omega
  · simp
theorem coupL_yes {x y : GItem} {f g : Int} {b : List GItem} {k : Nat} (h : b[k]? = some y) (he : valAt x f = valAt y g) : coupL x f g (b.drop k) = ⟨x.id, y.id⟩ :: coupL x f g (b.drop (k + 1)) := by rw [drop_cons h, coupL, if_pos he]
theorem coupL_no {x y : GItem} {f g : Int} {b : List GItem} {k : Nat} (h : b[k]? = some y) (he : valAt x f ≠ valAt y g) : coupL x f g (b.drop k) = coupL x f g (b.drop (k + 1)) := by rw [drop_cons h, coupL, if_neg he]
theorem coupA_drop {f g : Int} {a b : List GItem} {i : Nat} {x : GItem} (h : a[i]? = some x) : coupA f g b (a.drop i) = coupL x f g b ++ coupA f g b (a.drop (i + 1)) := by rw [drop_cons h, coupA]
theorem natOf {x lo hi : Int} (h : inB x lo hi = true) (h0 : 0 ≤ lo) : ∃ n : Nat, x = n ∧ (n : Int) ≤ hi := by
  have := inB_iff.1 h
  exact ⟨x.toNat, by omega, by omega⟩
theorem fPairs_one {e : TypeId} (w : World) (p : GPair) : fSl e 2 fPair (w.alloc (.cells #[.int .i64 p.fst, .int .i64 p.snd] e)) [p] [.slice (some ⟨w.heap.size, 0, none⟩) 1 1] [w.heap.size] := by
  refine ⟨_, [[.int .i64 p.fst, .int .i64 p.snd]], [[]], rfl, ?_, ⟨⟨⟨rfl, rfl⟩, rfl⟩, trivial⟩, by simp [Value.ownBlock]⟩
  exact World.ownsRow_lit w #[.int .i64 p.fst, .int .i64 p.snd] 1 (Nat.zero_le _) (by simp [maxLen]) rfl







end Go.Proofs.YthlaabaffbffkaaGreat

namespace Go.Proofs.YthlaabaffbffkaaGreat
open Go.RowKit
set_option linter.unusedVariables false
def itemOf (l : List GItem) (id : Int) : GItem := (l[(findIdx l id).toNat]?).getD ⟨0, []⟩
theorem itemOf_at {l : List GItem} {id : Int} (h : ∃ x ∈ l, x.id = id) : ∃ (k : Nat) (x : GItem), findIdx l id = (k : Int) ∧ l[k]? = some x ∧ itemOf l id = x := by
  rcases findIdx_cases l id with ⟨_, h2⟩ | ⟨k, x, h1, h2, _⟩
  · obtain ⟨x, hx, e⟩ := h
    exact absurd e (h2 x hx)
  · exact ⟨k, x, h1, h2, by rw [itemOf, h1]; simp [h2]⟩
def beatsC (a b : List GItem) (p q : List GNode) (d c : GPair) : Bool := decide (comb 1 (cmpBy p (itemOf a d.fst) (itemOf a c.fst)) (cmpBy q (itemOf b d.snd) (itemOf b c.snd)) = 1)
def freeC (a b : List GItem) (p q : List GNode) (l : List GPair) (c : GPair) : Bool := !(l.any fun d => beatsC a b p q d c)
def bestC (a b : List GItem) (p q : List GNode) (l : List GPair) : List GPair := l.filter (freeC a b p q l)
def bestCTo (a b : List GItem) (p q : List GNode) (l : List GPair) (k : Nat) : List GPair := (l.take k).filter (freeC a b p q l)
theorem bestCTo_yes {a b : List GItem} {p q : List GNode} {l : List GPair} {k : Nat} {c : GPair} (hc : l[k]? = some c) (h : freeC a b p q l c = true) : bestCTo a b p q l (k + 1) = bestCTo a b p q l k ++ [c] := by
  unfold bestCTo; rw [List.take_add_one, hc, List.filter_append]; simp [h]
theorem bestCTo_no {a b : List GItem} {p q : List GNode} {l : List GPair} {k : Nat} {c : GPair} (hc : l[k]? = some c) (h : freeC a b p q l c = false) : bestCTo a b p q l (k + 1) = bestCTo a b p q l k := by
  unfold bestCTo; rw [List.take_add_one, hc, List.filter_append]; simp [h]
theorem bestCTo_end {a b : List GItem} {p q : List GNode} {l : List GPair} {k : Nat} (h : l.length ≤ k) : bestCTo a b p q l k = bestC a b p q l := by unfold bestCTo bestC; rw [List.take_of_length_le h]
theorem bestCTo_len {a b : List GItem} {p q : List GNode} {l : List GPair} {k : Nat} : (bestCTo a b p q l k).length ≤ k := by
  unfold bestCTo
  exact Nat.le_trans (List.length_filter_le _ _) (by rw [List.length_take]; omega)
def fitC (a b : List GItem) (c : GPair) : Prop := (areItems a = true ∧ areItems b = true) ∧ (∃ x ∈ a, x.id = c.fst) ∧ ∃ y ∈ b, y.id = c.snd
theorem coupL_mem {x : GItem} {f g : Int} : ∀ {b : List GItem} {c : GPair}, c ∈ coupL x f g b → c.fst = x.id ∧ ∃ y ∈ b, y.id = c.snd
  | y :: b, c, h => by
    unfold coupL at h
    split at h
    · rcases List.mem_cons.1 h with rfl | h
      · exact ⟨rfl, y, by simp, rfl⟩
      · obtain ⟨h1, z, hz, e⟩ := coupL_mem h; exact ⟨h1, z, by simp [hz], e⟩
    · obtain ⟨h1, z, hz, e⟩ := coupL_mem h; exact ⟨h1, z, by simp [hz], e⟩
  | [], c, h => by simp [coupL] at h
theorem coupA_mem {f g : Int} {b : List GItem} : ∀ {a : List GItem} {c : GPair}, c ∈ coupA f g b a → (∃ x ∈ a, x.id = c.fst) ∧ ∃ y ∈ b, y.id = c.snd
  | x :: a, c, h => by
    rcases List.mem_append.1 h with h | h
    · obtain ⟨h1, h2⟩ := coupL_mem h; exact ⟨⟨x, by simp, h1.symm⟩, h2⟩
    · obtain ⟨⟨z, hz, e⟩, h2⟩ := coupA_mem h; exact ⟨⟨z, by simp [hz], e⟩, h2⟩
  | [], c, h => by simp [coupA] at h
theorem couples_fit {a b : List GItem} {f g : Int} : ∀ c ∈ couples a b f g, fitC a b c := fun c hc => by
  unfold couples at hc
  split at hc
  · rename_i h
    simp only [coupOk, Bool.and_eq_true] at h
    obtain ⟨h1, h2⟩ := coupA_mem hc
    exact ⟨⟨h.1, h.2.1⟩, h1, h2⟩
  · simp at hc
def bestCoup (a b : List GItem) (f g : Int) (p q : List GNode) : List GPair := if isExpr p && isExpr q then bestC a b p q (couples a b f g) else []
theorem bestCoup_len (a b : List GItem) (f g : Int) (p q : List GNode) : (bestCoup a b f g p q).length ≤ 256 := by
  unfold bestCoup; split
  · exact Nat.le_trans (List.length_filter_le _ _) (couples_len _ _ _ _)
  · simp
end Go.Proofs.YthlaabaffbffkaaGreat

namespace Go.Proofs.YthlaabaffbffkaaGreat
open Go.RowKit
set_option linter.unusedVariables false
theorem cmpBy_codeC {e : List GNode} {p q : GItem} (h : isExpr e = true) : -1 ≤ cmpBy e p q ∧ cmpBy e p q ≤ 2 := by
  have key : ∀ (k : Nat), k ≤ e.length → codes (stackAt e p q k) ∧ depthOf (e.drop k) (stackAt e p q k).length = some 1 := fun k => by
    induction k with
    | zero => intro _; exact ⟨fun v hv => by simp [stackAt] at hv, by simpa [stackAt] using isExpr_depth h⟩
    | succ k ih =>
      intro hk
      obtain ⟨h1, h2⟩ := ih (by omega)
      obtain ⟨x, hx⟩ := get_of_lt (xs := e) (k := k) (by omega)
      obtain ⟨hok, hd⟩ := depth_step h2 hx
      have hge := nodeOk_ge hok
      have hop := nodeOk_op hok
      rw [stackAt_next hx]
      by_cases o0 : x.op = 0
      · rw [stack_base o0]
        refine ⟨codes_snoc h1 (cmpItem_code _ _ _), ?_⟩
        rw [← hd, o0]; congr 1; simp [opnds]
      · by_cases o3 : x.op = 3
        · rw [show opnds x.op = 1 by rw [o3]; rfl] at hge hd
          obtain ⟨T, a, hT⟩ := snoc1 (l := stackAt e p q k) (by omega)
          rw [hT] at h1 hd ⊢
          rw [stack_dual o3]
          refine ⟨codes_snoc (codes_left h1) (neg2_code (h1 a (by simp))), ?_⟩
          rw [← hd]; congr 1; simp; try omega
        · rw [show opnds x.op = 2 by unfold opnds; rw [if_neg o0, if_neg o3]] at hge hd
          obtain ⟨T, a, b, hT⟩ := snoc2 (l := stackAt e p q k) (by omega)
          rw [hT] at h1 hd ⊢
          rw [stack_two o0 o3]
          refine ⟨codes_snoc (codes_left h1) (comb_code (h1 a (by simp)) (h1 b (by simp))), ?_⟩
          rw [← hd]; congr 1; simp; try omega
  obtain ⟨h1, h2⟩ := key e.length (Nat.le_refl _)
  rw [← stackAt_end (k := e.length) (Nat.le_refl _)]
  rw [List.drop_of_length_le (Nat.le_refl _), depthOf] at h2
  injection h2 with h2
  obtain ⟨T, a, hT⟩ := snoc1 (l := stackAt e p q e.length) (by omega)
  have hT0 : T = [] := List.eq_nil_of_length_eq_zero (by rw [hT, List.length_append] at h2; simp only [List.length_singleton] at h2; omega)
  rw [hT, hT0]
  exact h1 a (by rw [hT]; simp)
end Go.Proofs.YthlaabaffbffkaaGreat

namespace Go.Proofs.YthlaabaffbffkaaGreat
open Go.RowKit
set_option linter.unusedVariables false
set_option linter.unusedSimpArgs false
set_option maxRecDepth 100000 in
set_option maxHeartbeats 1600000 in
theorem S_l8Item (w : World) (l : List GItem) (id : Int) (bA oA n c k : Nat) (x : GItem) (SA : Option Addr) (sn sc : Nat) (h : Rd rItems w l [.slice (some ⟨bA, oA, none⟩) n c]) (hk : findIdx l id = (k : Int)) (hkn : k < n) (h0 : w.cell? ⟨bA, oA + k * 2, none⟩ = some (.int .i64 x.id)) (h1 : w.cell? ⟨bA, oA + k * 2 + 1, none⟩ = some (.slice SA sn sc)) :
    Calls Tryz.prog 100 #[.slice (some ⟨bA, oA, none⟩) n c, .int .i64 id] w (Ret w (.agg #[.int .i64 x.id, .slice SA sn sc])) := by
  have B0 : Bw w (w.alloc (.cells #[.int .i64 0, .slice none 0 0] 42)) := (Bw.refl w).alloc _
  have i1 : (0 : Int) ≤ (k : Int) := by omega
  have i2 : (k : Int) < (n : Int) := by omega
  have hz := World.block_lt_of_cell? _ _ h0
  have hcall := S_FindItem _ l id _ (h.bw rItems_good B0)
  rw [hk] at hcall
  clear hk hkn
  go_enter Tryz.func100, Tryz.ntmps100
  go_wp2_with fail
  refine (hcall).mono ?_
  rintro e w2 ⟨rfl, hb2⟩
  have hf : ∀ o, w2.frozen? ⟨w.heap.size, o, none⟩ = false := fun o => by rw [bw_frozen hb2 _ _ (by first | (simp; done) | (simp; omega))]; go_simp
  have q0 : w2.cell? ⟨w.heap.size, 0, none⟩ = some (.int .i64 0) := hb2.cell (by go_simp)
  have q1 : w2.cell? ⟨w.heap.size, 1, none⟩ = some (.slice none 0 0) := hb2.cell (by go_simp)
  have B2 := B0.then hb2
  have p0 := B2.cell h0
  have p1 := B2.cell h1
  clear hcall h0 h1 h
  go_wp2
  refine bodyPost_ret (v := .agg #[.int .i64 x.id, .slice SA sn sc]) (by simp [results, Tryz.results100, go_sem, q0, q1]) rfl ⟨rfl, ?_⟩
  repeat (first | with_reducible exact B2 | with_reducible refine Bw.set ?_ ?_ _)
  all_goals (dsimp only; omega)

end Go.Proofs.YthlaabaffbffkaaGreat
