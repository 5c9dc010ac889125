/- Owned wishes, nodes, standings; the laws' conversions of them. -/
import Derived.Test.YtfffklkiikmieaaQWishes2
import Derived.Test.YtfffklkiikmieaaQOwn3
namespace Go.Proofs.Ytfffklkiikmieaa
open Go.RowKit
set_option linter.unusedVariables false
set_option linter.unusedSimpArgs false
def fWish : Fp GWish := fun w x cs F => ∃ v u G H, cs = [.int .i64 x.kind, .int .i64 x.field, .int .i64 x.value, v, u] ∧ fInts w x.list [v] G ∧ fPairs w x.pairs [u] H ∧ F = G ++ H
theorem fWish_good {B : Nat} : GoodF B fWish :=
  ⟨fun hw ⟨v, u, G, H, e, h, k, hF⟩ => ⟨v, u, G, H, e, fInts_good.step (fun b hb => hw b (hb.imp (fun hb => by rw [hF]; exact List.mem_append_left _ hb) id)) h, fPairs_good.step (fun b hb => hw b (hb.imp (fun hb => by rw [hF]; exact List.mem_append_right _ hb) id)) k, hF⟩,
   fun ⟨v, u, G, H, e, h, k, hF⟩ b hb => by
    rw [hF] at hb
    exact (List.mem_append.1 hb).elim ((fInts_good (B := B)).lt h b) ((fPairs_good (B := B)).lt k b),
   fun ⟨v, u, G, H, e, h, k, hF⟩ t ht => by
    rw [e] at ht
    simp at ht
    rcases ht with rfl | rfl | rfl | rfl | rfl
    · rfl
    · rfl
    · rfl
    · exact (fInts_good (B := B)).one h _ (by simp)
    · exact (fPairs_good (B := B)).one k _ (by simp)⟩
theorem fWish_rd {B : Nat} {w : World} {x : GWish} {cs : List Value} {F : List Nat} (h : fWish w x cs F) : rWish w (fun b => b ∈ F ∨ b < B) x cs := by
  obtain ⟨v, u, G, H, e, h, k, hF⟩ := h
  refine ⟨v, u, e, rInts_good.step ⟨fun b hb => ?_, fun _ _ => rfl⟩ (fInts_rd (B := B) h), rPairs_good.step ⟨fun b hb => ?_, fun _ _ => rfl⟩ (fPairs_rd (B := B) k)⟩
  · exact hb.imp (fun hb => by rw [hF]; exact List.mem_append_left _ hb) id
  · exact hb.imp (fun hb => by rw [hF]; exact List.mem_append_right _ hb) id
theorem fWish_Rd {w : World} {x : GWish} {cs : List Value} {F : List Nat} (h : fWish w x cs F) : Rd rWish w x cs := Rd.of rWish_good (B := 0) (fWish_rd h) ((fWish_good (B := 0)).lt h) (Nat.zero_le _)
def fNode : Fp GNode := fun w x cs F => ∃ us, cs = .int .i64 x.op :: us ∧ fWish w x.wish us F
theorem fNode_good {B : Nat} : GoodF B fNode :=
  ⟨fun hw ⟨us, e, h⟩ => ⟨us, e, fWish_good.step hw h⟩, fun ⟨us, e, h⟩ => (fWish_good (B := B)).lt h, fun ⟨us, e, h⟩ t ht => by
    rw [e] at ht
    rcases List.mem_cons.1 ht with rfl | ht
    · rfl
    · exact (fWish_good (B := B)).one h _ ht⟩
theorem fNode_rd {B : Nat} {w : World} {x : GNode} {cs : List Value} {F : List Nat} (h : fNode w x cs F) : rNode w (fun b => b ∈ F ∨ b < B) x cs := by
  obtain ⟨us, e, h⟩ := h
  exact ⟨us, e, fWish_rd h⟩
abbrev fNodes : Fp (List GNode) := fSl 113 6 fNode
theorem fNodes_good {B : Nat} : GoodF B fNodes := fSl_good fNode_good
theorem fNodes_rd {B : Nat} {w : World} {xs : List GNode} {cs : List Value} {F : List Nat} (h : fNodes w xs cs F) : rNodes w (fun b => b ∈ F ∨ b < B) xs cs := fSl_rd rNode_good (fun _ _ _ h => fNode_rd h) h
theorem fNodes_Rd {w : World} {xs : List GNode} {cs : List Value} {F : List Nat} (h : fNodes w xs cs F) : Rd rNodes w xs cs := Rd.of rNodes_good (B := 0) (fNodes_rd h) ((fNodes_good (B := 0)).lt h) (Nat.zero_le _)
theorem info_Node : (Try.prog.info? 113).map (fun i => (i.zero, i.size, i.bytes)) = some (some (.agg #[.int .i64 0, .int .i64 0, .int .i64 0, .int .i64 0, .slice none 0 0, .slice none 0 0]), 6, 80) := by kernel_rfl
abbrev fWishes : Fp (List GWish) := fSl 75 5 fWish
theorem fWishes_good {B : Nat} : GoodF B fWishes := fSl_good fWish_good
theorem fWishes_rd {B : Nat} {w : World} {xs : List GWish} {cs : List Value} {F : List Nat} (h : fWishes w xs cs F) : rWishes w (fun b => b ∈ F ∨ b < B) xs cs := fSl_rd rWish_good (fun _ _ _ h => fWish_rd h) h
theorem fWishes_Rd {w : World} {xs : List GWish} {cs : List Value} {F : List Nat} (h : fWishes w xs cs F) : Rd rWishes w xs cs := Rd.of rWishes_good (B := 0) (fWishes_rd h) ((fWishes_good (B := 0)).lt h) (Nat.zero_le _)
theorem info_Wish : (Try.prog.info? 75).map (fun i => (i.zero, i.size, i.bytes)) = some (some (.agg #[.int .i64 0, .int .i64 0, .int .i64 0, .slice none 0 0, .slice none 0 0]), 5, 72) := by kernel_rfl
abbrev fNodess : Fp (List (List GNode)) := fSl 31 1 fNodes
theorem fNodess_good {B : Nat} : GoodF B fNodess := fSl_good fNodes_good
theorem fNodess_rd {B : Nat} {w : World} {xs : List (List GNode)} {cs : List Value} {F : List Nat} (h : fNodess w xs cs F) : rNodess w (fun b => b ∈ F ∨ b < B) xs cs := fSl_rd rNodes_good (fun _ _ _ h => fNodes_rd h) h
theorem fNodess_Rd {w : World} {xs : List (List GNode)} {cs : List Value} {F : List Nat} (h : fNodess w xs cs F) : Rd rNodess w xs cs := Rd.of rNodess_good (B := 0) (fNodess_rd h) ((fNodess_good (B := 0)).lt h) (Nat.zero_le _)
theorem info_Nodes : (Try.prog.info? 31).map (fun i => (i.zero, i.size, i.bytes)) = some (some (.slice none 0 0), 1, 24) := by kernel_rfl
/-- the call returned a struct in new memory -/
def RetA {α : Type} (f : Fp α) (w : World) (x : α) (e : Ending) (w' : World) : Prop := ∃ cs F, e = .returned (.agg cs.toArray) ∧ f w' x cs F ∧ Fresh w.heap.size F ∧ Bw w w'
theorem Fresh.append {B m : Nat} {F G : List Nat} (h : Fresh B F) (hlt : ∀ b ∈ F, b < m) (k : Fresh m G) (hm : B ≤ m) : Fresh B (F ++ G) :=
  ⟨nodup_push h.nodup k hlt, fun b hb => (List.mem_append.1 hb).elim (h.ge b) (fun hb => Nat.le_trans hm (k.ge b hb))⟩
theorem Fresh.left {B : Nat} {F G : List Nat} (h : Fresh B (F ++ G)) : Fresh B F := ⟨(List.nodup_append.1 h.nodup).1, fun b hb => h.ge b (List.mem_append_left _ hb)⟩
theorem Fresh.right {B : Nat} {F G : List Nat} (h : Fresh B (F ++ G)) : Fresh B G := ⟨(List.nodup_append.1 h.nodup).2.1, fun b hb => h.ge b (List.mem_append_right _ hb)⟩
set_option maxRecDepth 100000 in
set_option maxHeartbeats 1600000 in
theorem L_toWish (w : World) (x : GWish) (v u : Value) (h : Rd rInts w x.list [v]) (h' : Rd rPairs w x.pairs [u]) (ht : totWish x ≤ 1048576) :
    Calls Try.prog 164 #[.agg #[.int .i64 x.kind, .int .i64 x.field, .int .i64 x.value, v, u]] w (RetA fWish w x) := by
  have hn1 : x.list.length ≤ 1048576 := by unfold totWish at ht; omega
  have hn2 : x.pairs.length ≤ 1048576 := by unfold totWish at ht; omega
  clear ht
  have A0 : Bw w (((w.alloc (.cells #[.int .i64 x.kind, .int .i64 x.field, .int .i64 x.value, v, u] 106)).alloc (.cells #[.int .i64 0, .int .i64 0, .int .i64 0, .slice none 0 0, .slice none 0 0] 75)).alloc (.cells #[.int .i64 x.kind, .int .i64 x.field, .int .i64 x.value, .slice none 0 0, .slice none 0 0] 75)) := (((Bw.refl w).alloc _).alloc _).alloc _
  go_enter Try.func164, Try.ntmps164
  go_wp2_with fail
  refine (L_toIntS _ x.list _ (h.bw rInts_good A0) hn1).mono ?_
  rintro e w2 ⟨v2, rfl, ⟨F, o2, f2⟩, hb2⟩
  have hf1 : ∀ o, w2.frozen? ⟨w.heap.size + 1 + 1, o, none⟩ = false := fun o => by rw [bw_frozen hb2 _ _ (by first | (simp; done) | (simp; omega))]; go_simp
  have hf2 : ∀ o, w2.frozen? ⟨w.heap.size + 1, o, none⟩ = false := fun o => by rw [bw_frozen hb2 _ _ (by first | (simp; done) | (simp; omega))]; go_simp
  have hz : w.heap.size + 3 ≤ w2.heap.size := by have := hb2.size; simp at this; omega
  obtain ⟨A, c, rfl, _⟩ := rSl_shape (fInts_Rd o2)
  have B2 : Bw w w2 := A0.then hb2
  have f2z : ∀ b ∈ F, w.heap.size + 3 ≤ b := fun b hb => by have := f2.ge b hb; simpa using this
  have q0 : w2.cell? ⟨w.heap.size + 1 + 1, 0, none⟩ = some (.int .i64 x.kind) := hb2.cell (by go_simp)
  have q1 : w2.cell? ⟨w.heap.size + 1 + 1, 1, none⟩ = some (.int .i64 x.field) := hb2.cell (by go_simp)
  have q2 : w2.cell? ⟨w.heap.size + 1 + 1, 2, none⟩ = some (.int .i64 x.value) := hb2.cell (by go_simp)
  have q3 : w2.cell? ⟨w.heap.size + 1 + 1, 3, none⟩ = some (.slice none 0 0) := hb2.cell (by go_simp)
  have q4 : w2.cell? ⟨w.heap.size + 1 + 1, 4, none⟩ = some (.slice none 0 0) := hb2.cell (by go_simp)
  have p4 : w2.cell? ⟨w.heap.size, 4, none⟩ = some u := hb2.cell (by go_simp)
  have r0 : w2.cell? ⟨w.heap.size + 1, 0, none⟩ = some (.int .i64 0) := hb2.cell (by go_simp)
  have r1 : w2.cell? ⟨w.heap.size + 1, 1, none⟩ = some (.int .i64 0) := hb2.cell (by go_simp)
  have r2 : w2.cell? ⟨w.heap.size + 1, 2, none⟩ = some (.int .i64 0) := hb2.cell (by go_simp)
  have r3 : w2.cell? ⟨w.heap.size + 1, 3, none⟩ = some (.slice none 0 0) := hb2.cell (by go_simp)
  have r4 : w2.cell? ⟨w.heap.size + 1, 4, none⟩ = some (.slice none 0 0) := hb2.cell (by go_simp)
  go_wp2_with fail
  have B3 := B2.set (p := ⟨w.heap.size + 1 + 1, 3, none⟩) (by dsimp only; omega) (.slice A x.list.length c)
  refine (L_toPairS _ x.pairs _ (h'.bw rPairs_good B3) hn2).mono ?_
  rintro e w3 ⟨v3, rfl, ⟨G, o3, f3⟩, hb3⟩
  obtain ⟨Ap, cp, rfl, _⟩ := rSl_shape (fPairs_Rd o3)
  have q'0 : w3.cell? ⟨w.heap.size + 1 + 1, 0, none⟩ = some (.int .i64 x.kind) := hb3.cell (by go_simp)
  have q'1 : w3.cell? ⟨w.heap.size + 1 + 1, 1, none⟩ = some (.int .i64 x.field) := hb3.cell (by go_simp)
  have q'2 : w3.cell? ⟨w.heap.size + 1 + 1, 2, none⟩ = some (.int .i64 x.value) := hb3.cell (by go_simp)
  have q'3 : w3.cell? ⟨w.heap.size + 1 + 1, 3, none⟩ = some (.slice A x.list.length c) := hb3.cell (by go_simp)
  have q'4 : w3.cell? ⟨w.heap.size + 1 + 1, 4, none⟩ = some (.slice none 0 0) := hb3.cell (by go_simp)
  have r'0 : w3.cell? ⟨w.heap.size + 1, 0, none⟩ = some (.int .i64 0) := hb3.cell (by go_simp)
  have r'1 : w3.cell? ⟨w.heap.size + 1, 1, none⟩ = some (.int .i64 0) := hb3.cell (by go_simp)
  have r'2 : w3.cell? ⟨w.heap.size + 1, 2, none⟩ = some (.int .i64 0) := hb3.cell (by go_simp)
  have r'3 : w3.cell? ⟨w.heap.size + 1, 3, none⟩ = some (.slice none 0 0) := hb3.cell (by go_simp)
  have r'4 : w3.cell? ⟨w.heap.size + 1, 4, none⟩ = some (.slice none 0 0) := hb3.cell (by go_simp)
  have hf3 : ∀ o, w3.frozen? ⟨w.heap.size + 1 + 1, o, none⟩ = false := fun o => by rw [bw_frozen hb3 _ _ (by first | (simp; done) | (simp; omega))]; go_simp
  have hf4 : ∀ o, w3.frozen? ⟨w.heap.size + 1, o, none⟩ = false := fun o => by rw [bw_frozen hb3 _ _ (by first | (simp; done) | (simp; omega))]; go_simp
  have hz3 : w.heap.size + 3 ≤ w3.heap.size := by have := hb3.size; simp at this; omega
  have B4 := B3.then hb3
  have o2' : fInts w3 x.list [.slice A x.list.length c] F := (fInts_good (B := 0)).step (fun b hb => by
    rcases hb with hb | hb
    · have h1 := f2z b hb
      have h2 := (fInts_good (B := 0)).lt o2 b hb
      rw [Below.block hb3 b (by simpa using h2)]
      repeat rw [Below.heap_setCell _ _ _ _ (by dsimp only; omega)]
    · omega) o2
  have hFm := (fInts_good (B := 0)).lt o2
  have f3z : ∀ b ∈ G, w.heap.size + 3 ≤ b := fun b hb => by have := f3.ge b hb; simp at this; omega
  have FF : Fresh w.heap.size (F ++ G) := Fresh.append (m := w2.heap.size) (f2.mono (by simp; omega)) hFm (f3.mono (by simp)) (by omega)
  go_wp2
  refine bodyPost_ret (v := .agg #[.int .i64 x.kind, .int .i64 x.field, .int .i64 x.value, .slice A x.list.length c, .slice Ap x.pairs.length cp]) (by simp [results, Try.results164, go_sem, q'0, q'1, q'2, q'3, q'4, r'0, r'1, r'2, r'3, r'4]) rfl ⟨_, F ++ G, rfl, ⟨_, _, F, G, rfl, ?_, ?_, rfl⟩, FF, ?_⟩
  · refine (fInts_good (B := 0)).step (fun b hb => ?_) o2'
    rcases hb with hb | hb
    · have := f2z b hb
      repeat rw [Below.heap_setCell _ _ _ _ (by dsimp only; omega)]
    · omega
  · refine (fPairs_good (B := 0)).step (fun b hb => ?_) o3
    rcases hb with hb | hb
    · have := f3z b hb
      repeat rw [Below.heap_setCell _ _ _ _ (by dsimp only; omega)]
    · omega
  · repeat (first | with_reducible exact B4 | with_reducible refine Bw.set ?_ ?_ _)
    all_goals (dsimp only; omega)
set_option maxRecDepth 100000 in
set_option maxHeartbeats 1600000 in
theorem L_toNode (w : World) (x : GNode) (v u : Value) (h : Rd rInts w x.wish.list [v]) (h' : Rd rPairs w x.wish.pairs [u]) (ht : totNode x ≤ 1048576) :
    Calls Try.prog 87 #[.agg #[.int .i64 x.op, .int .i64 x.wish.kind, .int .i64 x.wish.field, .int .i64 x.wish.value, v, u]] w (RetA fNode w x) := by
  have A0 : Bw w (((w.alloc (.cells #[.int .i64 x.op, .int .i64 x.wish.kind, .int .i64 x.wish.field, .int .i64 x.wish.value, v, u] 108)).alloc (.cells #[.int .i64 0, .int .i64 0, .int .i64 0, .int .i64 0, .slice none 0 0, .slice none 0 0] 113)).alloc (.cells #[.int .i64 x.op, .int .i64 0, .int .i64 0, .int .i64 0, .slice none 0 0, .slice none 0 0] 113)) := (((Bw.refl w).alloc _).alloc _).alloc _
  go_enter Try.func87, Try.ntmps87
  go_wp2_with fail
  refine (L_toWish _ x.wish _ _ (h.bw rInts_good A0) (h'.bw rPairs_good A0) ht).mono ?_
  rintro e w2 ⟨cs, F, rfl, ⟨v2, u2, G, H, rfl, o1, o2, rfl⟩, f2, hb2⟩
  have hf1 : ∀ o, w2.frozen? ⟨w.heap.size + 1 + 1, o, none⟩ = false := fun o => by rw [bw_frozen hb2 _ _ (by first | (simp; done) | (simp; omega))]; go_simp
  have hf2 : ∀ o, w2.frozen? ⟨w.heap.size + 1, o, none⟩ = false := fun o => by rw [bw_frozen hb2 _ _ (by first | (simp; done) | (simp; omega))]; go_simp
  have hz : w.heap.size + 3 ≤ w2.heap.size := by have := hb2.size; simp at this; omega
  obtain ⟨A, c, rfl, _⟩ := rSl_shape (fInts_Rd o1)
  obtain ⟨Ap, cp, rfl, _⟩ := rSl_shape (fPairs_Rd o2)
  have B2 : Bw w w2 := A0.then hb2
  have fz : ∀ b ∈ G ++ H, w.heap.size + 3 ≤ b := fun b hb => by have := f2.ge b hb; simpa using this
  have fzG : ∀ b ∈ G, w.heap.size + 3 ≤ b := fun b hb => fz b (List.mem_append_left _ hb)
  have fzH : ∀ b ∈ H, w.heap.size + 3 ≤ b := fun b hb => fz b (List.mem_append_right _ hb)
  have q0 : w2.cell? ⟨w.heap.size + 1 + 1, 0, none⟩ = some (.int .i64 x.op) := hb2.cell (by go_simp)
  have q1 : w2.cell? ⟨w.heap.size + 1 + 1, 1, none⟩ = some (.int .i64 0) := hb2.cell (by go_simp)
  have q2 : w2.cell? ⟨w.heap.size + 1 + 1, 2, none⟩ = some (.int .i64 0) := hb2.cell (by go_simp)
  have q3 : w2.cell? ⟨w.heap.size + 1 + 1, 3, none⟩ = some (.int .i64 0) := hb2.cell (by go_simp)
  have q4 : w2.cell? ⟨w.heap.size + 1 + 1, 4, none⟩ = some (.slice none 0 0) := hb2.cell (by go_simp)
  have q5 : w2.cell? ⟨w.heap.size + 1 + 1, 5, none⟩ = some (.slice none 0 0) := hb2.cell (by go_simp)
  have r0 : w2.cell? ⟨w.heap.size + 1, 0, none⟩ = some (.int .i64 0) := hb2.cell (by go_simp)
  have r1 : w2.cell? ⟨w.heap.size + 1, 1, none⟩ = some (.int .i64 0) := hb2.cell (by go_simp)
  have r2 : w2.cell? ⟨w.heap.size + 1, 2, none⟩ = some (.int .i64 0) := hb2.cell (by go_simp)
  have r3 : w2.cell? ⟨w.heap.size + 1, 3, none⟩ = some (.int .i64 0) := hb2.cell (by go_simp)
  have r4 : w2.cell? ⟨w.heap.size + 1, 4, none⟩ = some (.slice none 0 0) := hb2.cell (by go_simp)
  have r5 : w2.cell? ⟨w.heap.size + 1, 5, none⟩ = some (.slice none 0 0) := hb2.cell (by go_simp)
  go_wp2
  refine bodyPost_ret (v := .agg #[.int .i64 x.op, .int .i64 x.wish.kind, .int .i64 x.wish.field, .int .i64 x.wish.value, .slice A x.wish.list.length c, .slice Ap x.wish.pairs.length cp]) (by simp [results, Try.results87, go_sem, q0, q1, q2, q3, q4, q5, r0, r1, r2, r3, r4, r5]) rfl ⟨_, G ++ H, rfl, ⟨_, rfl, _, _, G, H, rfl, ?_, ?_, rfl⟩, f2.mono (by simp; omega), ?_⟩
  · refine (fInts_good (B := 0)).step (fun b hb => ?_) o1
    rcases hb with hb | hb
    · have := fzG b hb
      repeat rw [Below.heap_setCell _ _ _ _ (by dsimp only; omega)]
    · omega
  · refine (fPairs_good (B := 0)).step (fun b hb => ?_) o2
    rcases hb with hb | hb
    · have := fzH b hb
      repeat rw [Below.heap_setCell _ _ _ _ (by dsimp only; omega)]
    · omega
  · repeat (first | with_reducible exact B2 | with_reducible refine Bw.set ?_ ?_ _)
    all_goals (dsimp only; omega)
set_option maxRecDepth 100000 in
set_option maxHeartbeats 3200000 in
theorem L_toNodeS (w : World) (xs : List GNode) (v : Value) (h : Rd rNodes w xs [v]) (ht : xs.length + sumL totNode xs ≤ 1048576) :
    Calls Try.prog 15 #[v] w (RetV w (Made fNodes w.heap.size xs)) := by
  have hn : xs.length ≤ 1048576 := by omega
  have hnn : ∀ x ∈ xs, totNode x ≤ 1048576 := fun x hx => by have := le_sum totNode hx; omega
  clear ht
  obtain ⟨i0, hi, hz0, hz1, hz2⟩ := info_parts info_Node
  obtain ⟨A, n, c, rfl, a1, a2, a3⟩ := rSl_open h
  rw [← a1] at hn
  have L1 := Lib.hid a1
  clear a1
  go_enter Try.func15, Try.ntmps15
  go_wp2_with (at_make; refine wpList_make_full _ rfl _ _ 31 rfl w.heap.size 113 i0 _ 6 Try.underlying31 hi hz0 hz1 .i64 .i64 _ _ n rfl rfl rfl rfl (by rw [hz2]; omega) (by simp only [maxLen]; omega) (Nat.le_refl _) ?_; intro w1 hown hgrow)
  have hb1 : Bw w w1 := (Bw.refl w).grown hgrow (fun k hk => by cases hk)
  have hv1 := fSl_made (R := fNode) ((⟨0, ⟨0, 0, 0, [], []⟩⟩ : GNode)) hown rfl ⟨_, rfl, _, _, [], [], rfl, fSl_nil _, fSl_nil _, rfl⟩
  clear hown hgrow
  go_loopw [4] (fun i w' => ∃ k : Nat, k ≤ n ∧ i = .int .i64 k ∧ Bw w w' ∧ ∃ F, fNodes w' (xs.take k ++ List.replicate (n - k) (⟨0, ⟨0, 0, 0, [], []⟩⟩ : GNode)) [.slice (some ⟨w.heap.size, 0, none⟩) n n] F ∧ Fresh w.heap.size F) (fun i _ => n - (intOf i).toNat)
  case atStart => exact ⟨0, by omega, rfl, hb1, _, by simpa using hv1, by simp, by simp⟩
  case round =>
    obtain ⟨k, hk, rfl, hb, F, hv, hF⟩ := hrel
    by_cases hlt : k < n
    · obtain ⟨x, hx⟩ := get_of_lt (xs := xs) (k := k) (by rw [← L1.out]; exact hlt)
      have hxm := hnn x (List.mem_of_getElem? hx)
      obtain ⟨ba, oa, Al, cl, Ap, cp, rfl, _, c0, c1, c2, c3, c4, c5, hi1, hi2⟩ := rNodes_at (h.bw rNodes_good hb) hx
      go_wp2_with fail
      refine (L_toNode _ x _ _ hi1 hi2 hxm).mono ?_
      rintro e w2 ⟨cs, F2, rfl, ⟨_, rfl, v2, u2, G2, H2, rfl, o21, o22, rfl⟩, f2, hb2⟩; obtain ⟨Av, cv, rfl, _⟩ := rSl_shape (fInts_Rd o21); obtain ⟨Au, cu, rfl, _⟩ := rSl_shape (fPairs_Rd o22); have o2 : fNode w2 x [.int .i64 x.op, .int .i64 x.wish.kind, .int .i64 x.wish.field, .int .i64 x.wish.value, .slice Av x.wish.list.length cv, .slice Au x.wish.pairs.length cu] (G2 ++ H2) := ⟨_, rfl, _, _, G2, H2, rfl, o21, o22, rfl⟩
      have hv2 := (fNodes_good (B := w.heap.size)).bw hb2 hb.size hv
      have hFm := (fNodes_good (B := 0)).lt hv
      have hbb := hb.then hb2
      obtain ⟨F', hv', hF', hg, _, _⟩ := fSl_put (fNode_good (B := w.heap.size)) hv2 hF (k := k) (y := x) o2 rfl (m := wr.heap.size) hFm f2 hb.size (take_rep_len L1.out hlt)
      obtain ⟨y0, hy0⟩ := get_of_lt (take_rep_len (z := ((⟨0, ⟨0, 0, 0, [], []⟩⟩ : GNode))) L1.out hlt)
      obtain ⟨_, _, _, _, _, _, e, _, z0, z1, z2, z3, z4, z5, _⟩ := rNodes_at (fNodes_rd (B := 0) hv2) hy0; injection e with e; injection e with e1 e2; subst e1 e2; have hfr0 := fSl_frozen hv2 (k * 6); have hfr1 := fSl_frozen hv2 (k * 6 + 1); have hfr2 := fSl_frozen hv2 (k * 6 + 2); have hfr3 := fSl_frozen hv2 (k * 6 + 3); have hfr4 := fSl_frozen hv2 (k * 6 + 4); have hfr5 := fSl_frozen hv2 (k * 6 + 5)
      rw [take_rep_set L1.out hx] at hv'
      simp only [putCells, Nat.mul_one, Nat.add_assoc, Nat.reduceAdd] at hv' hg
      simp only [Nat.zero_add] at z0 z1 z2 z3 z4 z5
      have HX := Lib.hid hx
      clear hx h hv hF hy0 hv2 hb hb2 hFm o2 f2 hnn
      have hb' : Bw w ((((((w2.setCell ⟨w.heap.size, k * 6, none⟩ (.int .i64 x.op)).setCell ⟨w.heap.size, k * 6 + 1, none⟩ (.int .i64 x.wish.kind)).setCell ⟨w.heap.size, k * 6 + 2, none⟩ (.int .i64 x.wish.field)).setCell ⟨w.heap.size, k * 6 + 3, none⟩ (.int .i64 x.wish.value)).setCell ⟨w.heap.size, k * 6 + 4, none⟩ (.slice Av x.wish.list.length cv)).setCell ⟨w.heap.size, k * 6 + 5, none⟩ (.slice Au x.wish.pairs.length cu)) := (((((hbb.set (Nat.le_refl _) _).set (Nat.le_refl _) _).set (Nat.le_refl _) _).set (Nat.le_refl _) _).set (Nat.le_refl _) _).set (Nat.le_refl _) _
      go_wp2
      go_roundw
      case rel => exact ⟨k + 1, by omega, by go_num, hb', F', hv', hF'⟩
      case measure => simp [intOf]; omega
    · obtain rfl : k = n := by omega
      rw [Nat.sub_self, List.replicate_zero, List.append_nil, List.take_of_length_le (by rw [← L1.out]; exact Nat.le_refl _)] at hv
      go_wp2
      go_ret
      exact ⟨_, rfl, ⟨F, hv, hF⟩, hb⟩
set_option maxRecDepth 100000 in
set_option maxHeartbeats 3200000 in
theorem L_toNodeSS (w : World) (xs : List (List GNode)) (v : Value) (h : Rd rNodess w xs [v]) (ht : xs.length + sumL totNodes xs ≤ 1048576) :
    Calls Try.prog 38 #[v] w (RetV w (Made fNodess w.heap.size xs)) := by
  have hn : xs.length ≤ 1048576 := by omega
  have hnn : ∀ x ∈ xs, totNodes x ≤ 1048576 := fun x hx => by have := le_sum totNodes hx; omega
  clear ht
  obtain ⟨i0, hi, hz0, hz1, hz2⟩ := info_parts info_Nodes
  obtain ⟨A, n, c, rfl, a1, a2, a3⟩ := rSl_open h
  rw [← a1] at hn
  have L1 := Lib.hid a1
  clear a1
  go_enter Try.func38, Try.ntmps38
  go_wp2_with (at_make; refine wpList_make_full _ rfl _ _ 57 rfl w.heap.size 31 i0 _ 1 Try.underlying57 hi hz0 hz1 .i64 .i64 _ _ n rfl rfl rfl rfl (by rw [hz2]; omega) (by simp only [maxLen]; omega) (Nat.le_refl _) ?_; intro w1 hown hgrow)
  have hb1 : Bw w w1 := (Bw.refl w).grown hgrow (fun k hk => by cases hk)
  have hv1 := fSl_made (R := fNodes) (([] : List GNode)) hown rfl (fSl_nil _)
  clear hown hgrow
  go_loopw [4] (fun i w' => ∃ k : Nat, k ≤ n ∧ i = .int .i64 k ∧ Bw w w' ∧ ∃ F, fNodess w' (xs.take k ++ List.replicate (n - k) ([] : List GNode)) [.slice (some ⟨w.heap.size, 0, none⟩) n n] F ∧ Fresh w.heap.size F) (fun i _ => n - (intOf i).toNat)
  case atStart => exact ⟨0, by omega, rfl, hb1, _, by simpa using hv1, by simp, by simp⟩
  case round =>
    obtain ⟨k, hk, rfl, hb, F, hv, hF⟩ := hrel
    by_cases hlt : k < n
    · obtain ⟨x, hx⟩ := get_of_lt (xs := xs) (k := k) (by rw [← L1.out]; exact hlt)
      have hxm := hnn x (List.mem_of_getElem? hx)
      obtain ⟨ba, oa, A', c', rfl, _, c0, hi1⟩ := rNodess_at (h.bw rNodess_good hb) hx
      go_wp2_with fail
      refine (L_toNodeS _ x _ hi1 hxm).mono ?_
      rintro e w2 ⟨v2, rfl, ⟨F2, o2, f2⟩, hb2⟩; obtain ⟨A2, c2, rfl, _⟩ := rSl_shape (fNodes_Rd o2)
      have hv2 := (fNodess_good (B := w.heap.size)).bw hb2 hb.size hv
      have hFm := (fNodess_good (B := 0)).lt hv
      have hbb := hb.then hb2
      obtain ⟨F', hv', hF', hg, _, _⟩ := fSl_put (fNodes_good (B := w.heap.size)) hv2 hF (k := k) (y := x) o2 rfl (m := wr.heap.size) hFm f2 hb.size (take_rep_len L1.out hlt)
      obtain ⟨y0, hy0⟩ := get_of_lt (take_rep_len (z := (([] : List GNode))) L1.out hlt)
      obtain ⟨_, _, _, _, e, _, z0, _⟩ := rNodess_at (fNodess_rd (B := 0) hv2) hy0; injection e with e; injection e with e1 e2; subst e1 e2; have hfr0 := fSl_frozen hv2 k
      rw [take_rep_set L1.out hx] at hv'
      simp only [putCells, Nat.mul_one, Nat.add_assoc, Nat.reduceAdd] at hv' hg
      simp only [Nat.zero_add] at z0
      have HX := Lib.hid hx
      clear hx h hv hF hy0 hv2 hb hb2 hFm o2 f2 hnn
      have hb' : Bw w (w2.setCell ⟨w.heap.size, k, none⟩ (.slice A2 x.length c2)) := hbb.set (Nat.le_refl _) _
      go_wp2
      go_roundw
      case rel => exact ⟨k + 1, by omega, by go_num, hb', F', hv', hF'⟩
      case measure => simp [intOf]; omega
    · obtain rfl : k = n := by omega
      rw [Nat.sub_self, List.replicate_zero, List.append_nil, List.take_of_length_le (by rw [← L1.out]; exact Nat.le_refl _)] at hv
      go_wp2
      go_ret
      exact ⟨_, rfl, ⟨F, hv, hF⟩, hb⟩
end Go.Proofs.Ytfffklkiikmieaa
