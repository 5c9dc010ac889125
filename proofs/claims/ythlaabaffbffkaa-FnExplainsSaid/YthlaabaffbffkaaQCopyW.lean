/- Copies of wishes and of expressions, in both programs. -/
import Derived.Test.YthlaabaffbffkaaQWishes
import Derived.Test.YthlaabaffbffkaaQMarks
import Derived.Test.YthlaabaffbffkaaQCopies
namespace Go.Proofs.Ythlaabaffbffkaa
open Go.RowKit
set_option linter.unusedVariables false











end Go.Proofs.Ythlaabaffbffkaa

namespace Go.Proofs.Ythlaabaffbffkaa
open Go.RowKit
set_option linter.unusedVariables false
set_option linter.unusedSimpArgs false
def fWish : Fp GWish := fun w x cs F => ∃ v u G H, cs = [.int .i64 x.kind, .int .i64 x.field, .int .i64 x.value, v, u] ∧ fInts w x.list [v] G ∧ fPairs w x.pairs [u] H ∧ F = G ++ H
theorem fWish_good {B : Nat} : GoodF B fWish :=
  ⟨fun hw ⟨v, u, G, H, e, h, k, hF⟩ => ⟨v, u, G, H, e, fInts_good.step (fun b hb => hw b (hb.imp (fun hb => by rw [hF]; exact List.mem_append_left _ hb) id)) h, fPairs_good.step (fun b hb => hw b (hb.imp (fun hb => by rw [hF]; exact List.mem_append_right _ hb) id)) k, hF⟩,
   fun ⟨v, u, G, H, e, h, k, hF⟩ b hb => by
    rw [hF] at hb
    exact (List.mem_append.1 hb).elim ((fInts_good (B := B)).lt h b) ((fPairs_good (B := B)).lt k b),
   fun ⟨v, u, G, H, e, h, k, hF⟩ t ht => by
    rw [e] at ht
    simp at ht
    rcases ht with rfl | rfl | rfl | rfl | rfl
    · rfl
    · rfl
    · rfl
    · exact (fInts_good (B := B)).one h _ (by simp)
    · exact (fPairs_good (B := B)).one k _ (by simp)⟩
theorem fWish_rd {B : Nat} {w : World} {x : GWish} {cs : List Value} {F : List Nat} (h : fWish w x cs F) : rWish w (fun b => b ∈ F ∨ b < B) x cs := by
  obtain ⟨v, u, G, H, e, h, k, hF⟩ := h
  refine ⟨v, u, e, rInts_good.step ⟨fun b hb => ?_, fun _ _ => rfl⟩ (fInts_rd (B := B) h), rPairs_good.step ⟨fun b hb => ?_, fun _ _ => rfl⟩ (fPairs_rd (B := B) k)⟩
  · exact hb.imp (fun hb => by rw [hF]; exact List.mem_append_left _ hb) id
  · exact hb.imp (fun hb => by rw [hF]; exact List.mem_append_right _ hb) id
theorem fWish_Rd {w : World} {x : GWish} {cs : List Value} {F : List Nat} (h : fWish w x cs F) : Rd rWish w x cs := Rd.of rWish_good (B := 0) (fWish_rd h) ((fWish_good (B := 0)).lt h) (Nat.zero_le _)
def fNode : Fp GNode := fun w x cs F => ∃ us, cs = .int .i64 x.op :: us ∧ fWish w x.wish us F
theorem fNode_good {B : Nat} : GoodF B fNode :=
  ⟨fun hw ⟨us, e, h⟩ => ⟨us, e, fWish_good.step hw h⟩, fun ⟨us, e, h⟩ => (fWish_good (B := B)).lt h, fun ⟨us, e, h⟩ t ht => by
    rw [e] at ht
    rcases List.mem_cons.1 ht with rfl | ht
    · rfl
    · exact (fWish_good (B := B)).one h _ ht⟩
theorem fNode_rd {B : Nat} {w : World} {x : GNode} {cs : List Value} {F : List Nat} (h : fNode w x cs F) : rNode w (fun b => b ∈ F ∨ b < B) x cs := by
  obtain ⟨us, e, h⟩ := h
  exact ⟨us, e, fWish_rd h⟩
abbrev fNodes : Fp (List GNode) := fSl 73 6 fNode
theorem fNodes_good {B : Nat} : GoodF B fNodes := fSl_good fNode_good
theorem fNodes_rd {B : Nat} {w : World} {xs : List GNode} {cs : List Value} {F : List Nat} (h : fNodes w xs cs F) : rNodes w (fun b => b ∈ F ∨ b < B) xs cs := fSl_rd rNode_good (fun _ _ _ h => fNode_rd h) h
theorem fNodes_Rd {w : World} {xs : List GNode} {cs : List Value} {F : List Nat} (h : fNodes w xs cs F) : Rd rNodes w xs cs := Rd.of rNodes_good (B := 0) (fNodes_rd h) ((fNodes_good (B := 0)).lt h) (Nat.zero_le _)
theorem info_Node : (Try.prog.info? 73).map (fun i => (i.zero, i.size, i.bytes)) = some (some (.agg #[.int .i64 0, .int .i64 0, .int .i64 0, .int .i64 0, .slice none 0 0, .slice none 0 0]), 6, 80) := by kernel_rfl
abbrev fWishes : Fp (List GWish) := fSl 71 5 fWish
theorem fWishes_good {B : Nat} : GoodF B fWishes := fSl_good fWish_good
theorem fWishes_rd {B : Nat} {w : World} {xs : List GWish} {cs : List Value} {F : List Nat} (h : fWishes w xs cs F) : rWishes w (fun b => b ∈ F ∨ b < B) xs cs := fSl_rd rWish_good (fun _ _ _ h => fWish_rd h) h
theorem fWishes_Rd {w : World} {xs : List GWish} {cs : List Value} {F : List Nat} (h : fWishes w xs cs F) : Rd rWishes w xs cs := Rd.of rWishes_good (B := 0) (fWishes_rd h) ((fWishes_good (B := 0)).lt h) (Nat.zero_le _)
theorem info_Wish : (Try.prog.info? 71).map (fun i => (i.zero, i.size, i.bytes)) = some (some (.agg #[.int .i64 0, .int .i64 0, .int .i64 0, .slice none 0 0, .slice none 0 0]), 5, 72) := by kernel_rfl
abbrev fNodess : Fp (List (List GNode)) := fSl 25 1 fNodes
theorem fNodess_good {B : Nat} : GoodF B fNodess := fSl_good fNodes_good
theorem fNodess_rd {B : Nat} {w : World} {xs : List (List GNode)} {cs : List Value} {F : List Nat} (h : fNodess w xs cs F) : rNodess w (fun b => b ∈ F ∨ b < B) xs cs := fSl_rd rNodes_good (fun _ _ _ h => fNodes_rd h) h
theorem fNodess_Rd {w : World} {xs : List (List GNode)} {cs : List Value} {F : List Nat} (h : fNodess w xs cs F) : Rd rNodess w xs cs := Rd.of rNodess_good (B := 0) (fNodess_rd h) ((fNodess_good (B := 0)).lt h) (Nat.zero_le _)
theorem info_Nodes : (Try.prog.info? 25).map (fun i => (i.zero, i.size, i.bytes)) = some (some (.slice none 0 0), 1, 24) := by kernel_rfl
/-- the call returned a struct in new memory -/
def RetA {α : Type} (f : Fp α) (w : World) (x : α) (e : Ending) (w' : World) : Prop := ∃ cs F, e = .returned (.agg cs.toArray) ∧ f w' x cs F ∧ Fresh w.heap.size F ∧ Bw w w'
theorem Fresh.append {B m : Nat} {F G : List Nat} (h : Fresh B F) (hlt : ∀ b ∈ F, b < m) (k : Fresh m G) (hm : B ≤ m) : Fresh B (F ++ G) :=
  ⟨nodup_push h.nodup k hlt, fun b hb => (List.mem_append.1 hb).elim (h.ge b) (fun hb => Nat.le_trans hm (k.ge b hb))⟩
theorem Fresh.left {B : Nat} {F G : List Nat} (h : Fresh B (F ++ G)) : Fresh B F := ⟨(List.nodup_append.1 h.nodup).1, fun b hb => h.ge b (List.mem_append_left _ hb)⟩
theorem Fresh.right {B : Nat} {F G : List Nat} (h : Fresh B (F ++ G)) : Fresh B G := ⟨(List.nodup_append.1 h.nodup).2.1, fun b hb => h.ge b (List.mem_append_right _ hb)⟩





end Go.Proofs.Ythlaabaffbffkaa

namespace Go.Proofs.Ythlaabaffbffkaa
open Go.RowKit
set_option linter.unusedVariables false
set_option linter.unusedSimpArgs false
theorem info_PairW : (Try.prog.info? 100).map (fun i => (i.zero, i.size, i.bytes)) = some (some (.agg #[.int .i64 0, .int .i64 0]), 2, 16) := by kernel_rfl
/-- two lists under way in one region -/
def St2 (W X : World) (l : List Int) (v : Value) (F : List Nat) (p : List GPair) (u : Value) (G : List Nat) : Prop :=
  fInts X l [v] F ∧ fPairs X p [u] G ∧ (∀ b ∈ F, b ∉ G) ∧ Fresh W.heap.size F ∧ Fresh W.heap.size G ∧ Bw W X
theorem St2.start (W : World) : St2 W W [] (.slice none 0 0) [] [] (.slice none 0 0) [] :=
  ⟨⟨_, [], [], rfl, World.ownsRow_nil _ _ _ _, trivial, by simp [Value.ownBlock]⟩, ⟨_, [], [], rfl, World.ownsRow_nil _ _ _ _, trivial, by simp [Value.ownBlock]⟩, by simp, ⟨by simp, by simp⟩, ⟨by simp, by simp⟩, Bw.refl W⟩
theorem St2.row1 {W X : World} {l v F p u G} (h : St2 W X l v F p u G) : St2 W (X.alloc (.cells #[] 3)) [] (.slice (some ⟨X.heap.size, 0, none⟩) 0 0) [X.heap.size] p u G := by
  obtain ⟨h1, h2, h3, h4, h5, h6⟩ := h
  have A : Bw X (X.alloc (.cells #[] 3)) := (Bw.refl X).alloc _
  have hs := h6.size
  refine ⟨fSl_empty X, (fPairs_good (B := 0)).bw A (Nat.zero_le _) h2, fun b hb hg => ?_, ⟨by simp, by simpa using hs⟩, h5, h6.then A⟩
  have := (fPairs_good (B := 0)).lt h2 b hg
  simp at hb; omega
theorem St2.row2 {W X : World} {l v F p u G} (h : St2 W X l v F p u G) : St2 W (X.alloc (.cells #[] 100)) l v F [] (.slice (some ⟨X.heap.size, 0, none⟩) 0 0) [X.heap.size] := by
  obtain ⟨h1, h2, h3, h4, h5, h6⟩ := h
  have A : Bw X (X.alloc (.cells #[] 100)) := (Bw.refl X).alloc _
  have hs := h6.size
  refine ⟨(fInts_good (B := 0)).bw A (Nat.zero_le _) h1, fSl_empty X, fun b hb hg => ?_, h4, ⟨by simp, by simpa using hs⟩, h6.then A⟩
  have := (fInts_good (B := 0)).lt h1 b hb
  simp at hg; omega
section
variable {ops : Array Oper} {o : Oper} {a : Act} {K : Act → World → Prop} {Q : Exit → Act → World → Prop} {E : Prop} {W X : World} {v : Value} {F : List Nat} {l : List Int} {pp : List GPair} {u : Value} {G : List Nat}
theorem St2.app1 (p : St2 W X [] v F pp u G) (s x : Operand) (hgd : o.guard = none) (ho : o.op = .call { callee := .builtin .append, args := #[s, x], argTypes := #[28, 28] })
    (hs : a.eval s = v) (sv : Value) (hx : a.eval x = sv) (ys : List Int) (hsrc : Rd rInts W ys [sv]) (hn : ys.length ≤ 1048576)
    (h : ∀ A c w' F', St2 W w' ys (.slice A ys.length c) F' pp u G → K (a.put o.dst (.slice A ys.length c)) w') : if Region.wanted o (yielded ops a.tmps) = true then Oper.wp Try.prog o a X K Q else E := by
  obtain ⟨i0, hi0, hx0, hx1, hx2⟩ := info_parts info_int
  obtain ⟨h1, h2, h3, h4, h5, h6⟩ := p
  refine step_append_all X hgd s x 28 ho W 3 i0 _ 1 8 Try.underlying28 hi0 hx0 hx1 hx2 rfl (by omega) fInt_good v [] F hs h1 h4 sv hx ys (hsrc.bw rInts_good h6) (fun y u h => ⟨h, rfl⟩) (by simp; omega) (by simp; omega) h6 ?_
  intro v' w' F' o1 f1 hb hO hF
  rw [List.nil_append] at o1
  obtain ⟨A, c, rfl, _⟩ := rSl_shape (fInts_Rd o1)
  refine h A c w' F' ⟨o1, hO.keeps fPairs_good h2 (fun b hb hf => h3 b hf hb), fun b hb hg => ?_, f1, h5, hb⟩
  rcases hF b hb with h | h
  · exact h3 b h hg
  · have := (fPairs_good (B := 0)).lt h2 b hg; omega
theorem St2.app2 (p : St2 W X l v F [] u G) (s x : Operand) (hgd : o.guard = none) (ho : o.op = .call { callee := .builtin .append, args := #[s, x], argTypes := #[69, 69] })
    (hs : a.eval s = u) (sv : Value) (hx : a.eval x = sv) (ys : List GPair) (hsrc : Rd rPairs W ys [sv]) (hn : ys.length ≤ 1048576)
    (h : ∀ A c w' G', St2 W w' l v F ys (.slice A ys.length c) G' → K (a.put o.dst (.slice A ys.length c)) w') : if Region.wanted o (yielded ops a.tmps) = true then Oper.wp Try.prog o a X K Q else E := by
  obtain ⟨i1, hi, hy0, hy1, hy2⟩ := info_parts info_PairW
  obtain ⟨h1, h2, h3, h4, h5, h6⟩ := p
  refine step_append_all X hgd s x 69 ho W 100 i1 _ 2 16 Try.underlying69 hi hy0 hy1 hy2 rfl (by omega) fPair_good u [] G hs h2 h5 sv hx ys (hsrc.bw rPairs_good h6) (fun y u h => ⟨h, rfl⟩) (by simp; omega) (by simp; omega) h6 ?_
  intro v' w' F' o1 f1 hb hO hF
  rw [List.nil_append] at o1
  obtain ⟨A, c, rfl, _⟩ := rSl_shape (fPairs_Rd o1)
  refine h A c w' F' ⟨hO.keeps fInts_good h1 (fun b hb hf => h3 b hb hf), o1, fun b hb hg => ?_, h4, f1, hb⟩
  rcases hF b hg with h | h
  · exact h3 b hb h
  · have := (fInts_good (B := 0)).lt h1 b hb; omega
end

theorem node_lens {xs : List GNode} (ht : totNodes xs ≤ 1048576) : xs.length ≤ 1048576 ∧ ∀ x ∈ xs, x.wish.list.length ≤ 1048576 ∧ x.wish.pairs.length ≤ 1048576 := by
  unfold totNodes at ht
  refine ⟨by omega, fun x hx => ?_⟩
  have h1 := le_sum totNode hx
  have h2 : totNode x = x.wish.list.length + x.wish.pairs.length := rfl
  omega


end Go.Proofs.Ythlaabaffbffkaa
