/- Copies of wishes and of expressions, in both programs. -/
import Derived.Test.YtdfmgpmfalnffaaOwn4
import Derived.Test.YtdfmgpmfalnffaaCopies
import Derived.Test.YtdfmgpmfalnffaaWishes3
namespace Go.Proofs.Ytdfmgpmfalnffaa
open Go.RowKit
set_option linter.unusedVariables false
set_option linter.unusedSimpArgs false
theorem info_PairW : (Try.prog.info? 151).map (fun i => (i.zero, i.size, i.bytes)) = some (some (.agg #[.int .i64 0, .int .i64 0]), 2, 16) := by kernel_rfl
set_option maxRecDepth 100000 in
set_option maxHeartbeats 3200000 in
theorem I_copyWish (w : World) (x : GWish) (v u : Value) (h : Rd rInts w x.list [v]) (h' : Rd rPairs w x.pairs [u]) (hn1 : x.list.length ≤ 1048576) (hn2 : x.pairs.length ≤ 1048576) :
    Calls Try.prog 152 #[.agg #[.int .i64 x.kind, .int .i64 x.field, .int .i64 x.value, v, u]] w (RetA fWish w x) := by
  obtain ⟨i1, hi, hy0, hy1, hy2⟩ := info_parts info_PairW
  have A0 : Bw w ((w.alloc (.cells #[.int .i64 x.kind, .int .i64 x.field, .int .i64 x.value, v, u] 107)).alloc (.cells #[.int .i64 0, .int .i64 0, .int .i64 0, .slice none 0 0, .slice none 0 0] 107)) := ((Bw.refl w).alloc _).alloc _
  go_enter Try.func152, Try.ntmps152
  go_wp2_with fail
  refine (I_copyInts _ x.list _ (h.bw rInts_good A0) hn1).mono ?_
  rintro e w2 ⟨v2, rfl, ⟨F, o2, f2⟩, hb2⟩
  have hf1 : ∀ o, w2.frozen? ⟨w.heap.size, o, none⟩ = false := fun o => by rw [bw_frozen hb2 _ _ (by first | (simp; done) | (simp; omega))]; go_simp
  have hf2 : ∀ o, w2.frozen? ⟨w.heap.size + 1, o, none⟩ = false := fun o => by rw [bw_frozen hb2 _ _ (by first | (simp; done) | (simp; omega))]; go_simp
  have hz : w.heap.size + 2 ≤ w2.heap.size := by have := hb2.size; simp at this; omega
  obtain ⟨A, c, rfl, _⟩ := rSl_shape (fInts_Rd o2)
  have B2 : Bw w w2 := A0.then hb2
  have f2z : ∀ b ∈ F, w.heap.size + 2 ≤ b := fun b hb => by have := f2.ge b hb; simpa using this
  have q0 : w2.cell? ⟨w.heap.size, 0, none⟩ = some (.int .i64 x.kind) := hb2.cell (by go_simp)
  have q1 : w2.cell? ⟨w.heap.size, 1, none⟩ = some (.int .i64 x.field) := hb2.cell (by go_simp)
  have q2 : w2.cell? ⟨w.heap.size, 2, none⟩ = some (.int .i64 x.value) := hb2.cell (by go_simp)
  have q3 : w2.cell? ⟨w.heap.size, 3, none⟩ = some (v) := hb2.cell (by go_simp)
  have q4 : w2.cell? ⟨w.heap.size, 4, none⟩ = some (u) := hb2.cell (by go_simp)
  have r0 : w2.cell? ⟨w.heap.size + 1, 0, none⟩ = some (.int .i64 0) := hb2.cell (by go_simp)
  have r1 : w2.cell? ⟨w.heap.size + 1, 1, none⟩ = some (.int .i64 0) := hb2.cell (by go_simp)
  have r2 : w2.cell? ⟨w.heap.size + 1, 2, none⟩ = some (.int .i64 0) := hb2.cell (by go_simp)
  have r3 : w2.cell? ⟨w.heap.size + 1, 3, none⟩ = some (.slice none 0 0) := hb2.cell (by go_simp)
  have r4 : w2.cell? ⟨w.heap.size + 1, 4, none⟩ = some (.slice none 0 0) := hb2.cell (by go_simp)
  have B3 := B2.set (p := ⟨w.heap.size, 3, none⟩) (by dsimp only; omega) (.slice A x.list.length c)
  have hv0 := fSl_empty (e := 151) (sz := 2) (R := fPair) (w2.setCell ⟨w.heap.size, 3, none⟩ (.slice A x.list.length c))
  rw [show (w2.setCell ⟨w.heap.size, 3, none⟩ (.slice A x.list.length c)).heap.size = w2.heap.size from by simp] at hv0
  have A3 : Bw (w2.setCell ⟨w.heap.size, 3, none⟩ (.slice A x.list.length c)) ((w2.setCell ⟨w.heap.size, 3, none⟩ (.slice A x.list.length c)).alloc (.cells #[] 151)) := (Bw.refl _).alloc _
  have hs := h'.bw rPairs_good (B3.then A3)
  have z4 := A3.cell (show (w2.setCell ⟨w.heap.size, 3, none⟩ (.slice A x.list.length c)).cell? ⟨w.heap.size, 4, none⟩ = some u by go_simp)
  have hF0 : Fresh (w2.setCell ⟨w.heap.size, 3, none⟩ (.slice A x.list.length c)).heap.size [w2.heap.size] := ⟨by simp, by simp⟩
  have hFm := (fInts_good (B := 0)).lt o2
  go_wp2_with (at_builtin; refine wpList_append_all _ rfl (.tmp 7) (.tmp 9) 105 rfl (w2.setCell ⟨w.heap.size, 3, none⟩ (.slice A x.list.length c)) 151 i1 _ 2 16 Try.underlying105 hi hy0 hy1 hy2 rfl (by omega) fPair_good _ [] _ rfl hv0 hF0 _ rfl x.pairs hs (fun y u h => ⟨h, rfl⟩) (by simp; omega) (by simp; omega) A3 ?_; intro v' w3 G hv' hG hb3; rw [List.nil_append] at hv'; obtain ⟨Ap, cp, rfl, _⟩ := rSl_shape (fPairs_Rd hv'); have hc := bw_cell hb3; have hf3 : ∀ o, w3.frozen? ⟨w.heap.size, o, none⟩ = false := fun o => (bw_frozen hb3 w.heap.size o (by simp; omega)).trans (by go_simp); have hf4 : ∀ o, w3.frozen? ⟨w.heap.size + 1, o, none⟩ = false := fun o => (bw_frozen hb3 (w.heap.size + 1) o (by simp; omega)).trans (by go_simp); have p0 : w3.cell? ⟨w.heap.size, 0, none⟩ = some (.int .i64 x.kind) := hb3.cell (show (w2.setCell ⟨w.heap.size, 3, none⟩ (.slice A x.list.length c)).cell? ⟨w.heap.size, 0, none⟩ = some (.int .i64 x.kind) by go_simp); have p1 : w3.cell? ⟨w.heap.size, 1, none⟩ = some (.int .i64 x.field) := hb3.cell (show (w2.setCell ⟨w.heap.size, 3, none⟩ (.slice A x.list.length c)).cell? ⟨w.heap.size, 1, none⟩ = some (.int .i64 x.field) by go_simp); have p2 : w3.cell? ⟨w.heap.size, 2, none⟩ = some (.int .i64 x.value) := hb3.cell (show (w2.setCell ⟨w.heap.size, 3, none⟩ (.slice A x.list.length c)).cell? ⟨w.heap.size, 2, none⟩ = some (.int .i64 x.value) by go_simp); have p3 : w3.cell? ⟨w.heap.size, 3, none⟩ = some (.slice A x.list.length c) := hb3.cell (show (w2.setCell ⟨w.heap.size, 3, none⟩ (.slice A x.list.length c)).cell? ⟨w.heap.size, 3, none⟩ = some (.slice A x.list.length c) by go_simp); have p4 : w3.cell? ⟨w.heap.size, 4, none⟩ = some (u) := hb3.cell (show (w2.setCell ⟨w.heap.size, 3, none⟩ (.slice A x.list.length c)).cell? ⟨w.heap.size, 4, none⟩ = some (u) by go_simp); have s0 : w3.cell? ⟨w.heap.size + 1, 0, none⟩ = some (.int .i64 0) := hb3.cell (show (w2.setCell ⟨w.heap.size, 3, none⟩ (.slice A x.list.length c)).cell? ⟨w.heap.size + 1, 0, none⟩ = some (.int .i64 0) by go_simp); have s1 : w3.cell? ⟨w.heap.size + 1, 1, none⟩ = some (.int .i64 0) := hb3.cell (show (w2.setCell ⟨w.heap.size, 3, none⟩ (.slice A x.list.length c)).cell? ⟨w.heap.size + 1, 1, none⟩ = some (.int .i64 0) by go_simp); have s2 : w3.cell? ⟨w.heap.size + 1, 2, none⟩ = some (.int .i64 0) := hb3.cell (show (w2.setCell ⟨w.heap.size, 3, none⟩ (.slice A x.list.length c)).cell? ⟨w.heap.size + 1, 2, none⟩ = some (.int .i64 0) by go_simp); have s3 : w3.cell? ⟨w.heap.size + 1, 3, none⟩ = some (.slice none 0 0) := hb3.cell (show (w2.setCell ⟨w.heap.size, 3, none⟩ (.slice A x.list.length c)).cell? ⟨w.heap.size + 1, 3, none⟩ = some (.slice none 0 0) by go_simp); have s4 : w3.cell? ⟨w.heap.size + 1, 4, none⟩ = some (.slice none 0 0) := hb3.cell (show (w2.setCell ⟨w.heap.size, 3, none⟩ (.slice A x.list.length c)).cell? ⟨w.heap.size + 1, 4, none⟩ = some (.slice none 0 0) by go_simp))
  have B4 := B3.then hb3
  have o2' : fInts w3 x.list [.slice A x.list.length c] F := (fInts_good (B := 0)).step (fun b hb => by
    rcases hb with hb | hb
    · have h1 := f2z b hb
      have h2 := hFm b hb
      rw [Below.block hb3 b (by simpa using h2)]
      repeat rw [Below.heap_setCell _ _ _ _ (by dsimp only; omega)]
    · omega) o2
  have f3z : ∀ b ∈ G, w.heap.size + 2 ≤ b := fun b hb => by have := hG.ge b hb; simp at this; omega
  have FF : Fresh w.heap.size (F ++ G) := Fresh.append (m := w2.heap.size) (f2.mono (by simp; omega)) hFm (hG.mono (by simp)) (by omega)
  refine bodyPost_ret (v := .agg #[.int .i64 x.kind, .int .i64 x.field, .int .i64 x.value, .slice A x.list.length c, .slice Ap x.pairs.length cp]) (by simp [results, Try.results152, go_sem, p0, p1, p2, p3, p4, s0, s1, s2, s3, s4]) rfl ⟨_, F ++ G, rfl, ⟨_, _, F, G, rfl, ?_, ?_, rfl⟩, FF, ?_⟩
  · refine (fInts_good (B := 0)).step (fun b hb => ?_) o2'
    rcases hb with hb | hb
    · have := f2z b hb
      repeat rw [Below.heap_setCell _ _ _ _ (by dsimp only; omega)]
    · omega
  · refine (fPairs_good (B := 0)).step (fun b hb => ?_) hv'
    rcases hb with hb | hb
    · have := f3z b hb
      repeat rw [Below.heap_setCell _ _ _ _ (by dsimp only; omega)]
    · omega
  · repeat (first | with_reducible exact B4 | with_reducible refine Bw.set ?_ ?_ _)
    all_goals (dsimp only; omega)
/-- two lists under way in one region -/
def St2 (W X : World) (l : List Int) (v : Value) (F : List Nat) (p : List GPair) (u : Value) (G : List Nat) : Prop :=
  fInts X l [v] F ∧ fPairs X p [u] G ∧ (∀ b ∈ F, b ∉ G) ∧ Fresh W.heap.size F ∧ Fresh W.heap.size G ∧ Bw W X
theorem St2.start (W : World) : St2 W W [] (.slice none 0 0) [] [] (.slice none 0 0) [] :=
  ⟨⟨_, [], [], rfl, World.ownsRow_nil _ _ _ _, trivial, by simp [Value.ownBlock]⟩, ⟨_, [], [], rfl, World.ownsRow_nil _ _ _ _, trivial, by simp [Value.ownBlock]⟩, by simp, ⟨by simp, by simp⟩, ⟨by simp, by simp⟩, Bw.refl W⟩
theorem St2.row1 {W X : World} {l v F p u G} (h : St2 W X l v F p u G) : St2 W (X.alloc (.cells #[] 3)) [] (.slice (some ⟨X.heap.size, 0, none⟩) 0 0) [X.heap.size] p u G := by
  obtain ⟨h1, h2, h3, h4, h5, h6⟩ := h
  have A : Bw X (X.alloc (.cells #[] 3)) := (Bw.refl X).alloc _
  have hs := h6.size
  refine ⟨fSl_empty X, (fPairs_good (B := 0)).bw A (Nat.zero_le _) h2, fun b hb hg => ?_, ⟨by simp, by simpa using hs⟩, h5, h6.then A⟩
  have := (fPairs_good (B := 0)).lt h2 b hg
  simp at hb; omega
theorem St2.row2 {W X : World} {l v F p u G} (h : St2 W X l v F p u G) : St2 W (X.alloc (.cells #[] 151)) l v F [] (.slice (some ⟨X.heap.size, 0, none⟩) 0 0) [X.heap.size] := by
  obtain ⟨h1, h2, h3, h4, h5, h6⟩ := h
  have A : Bw X (X.alloc (.cells #[] 151)) := (Bw.refl X).alloc _
  have hs := h6.size
  refine ⟨(fInts_good (B := 0)).bw A (Nat.zero_le _) h1, fSl_empty X, fun b hb hg => ?_, h4, ⟨by simp, by simpa using hs⟩, h6.then A⟩
  have := (fInts_good (B := 0)).lt h1 b hb
  simp at hg; omega
section
variable {ops : Array Oper} {o : Oper} {a : Act} {K : Act → World → Prop} {Q : Exit → Act → World → Prop} {E : Prop} {W X : World} {v : Value} {F : List Nat} {l : List Int} {pp : List GPair} {u : Value} {G : List Nat}
theorem St2.app1 (p : St2 W X [] v F pp u G) (s x : Operand) (hgd : o.guard = none) (ho : o.op = .call { callee := .builtin .append, args := #[s, x], argTypes := #[33, 33] })
    (hs : a.eval s = v) (sv : Value) (hx : a.eval x = sv) (ys : List Int) (hsrc : Rd rInts W ys [sv]) (hn : ys.length ≤ 1048576)
    (h : ∀ A c w' F', St2 W w' ys (.slice A ys.length c) F' pp u G → K (a.put o.dst (.slice A ys.length c)) w') : if Region.wanted o (yielded ops a.tmps) = true then Oper.wp Try.prog o a X K Q else E := by
  obtain ⟨i0, hi0, hx0, hx1, hx2⟩ := info_parts info_int
  obtain ⟨h1, h2, h3, h4, h5, h6⟩ := p
  refine step_append_all X hgd s x 33 ho W 3 i0 _ 1 8 Try.underlying33 hi0 hx0 hx1 hx2 rfl (by omega) fInt_good v [] F hs h1 h4 sv hx ys (hsrc.bw rInts_good h6) (fun y u h => ⟨h, rfl⟩) (by simp; omega) (by simp; omega) h6 ?_
  intro v' w' F' o1 f1 hb hO hF
  rw [List.nil_append] at o1
  obtain ⟨A, c, rfl, _⟩ := rSl_shape (fInts_Rd o1)
  refine h A c w' F' ⟨o1, hO.keeps fPairs_good h2 (fun b hb hf => h3 b hf hb), fun b hb hg => ?_, f1, h5, hb⟩
  rcases hF b hb with h | h
  · exact h3 b h hg
  · have := (fPairs_good (B := 0)).lt h2 b hg; omega
theorem St2.app2 (p : St2 W X l v F [] u G) (s x : Operand) (hgd : o.guard = none) (ho : o.op = .call { callee := .builtin .append, args := #[s, x], argTypes := #[105, 105] })
    (hs : a.eval s = u) (sv : Value) (hx : a.eval x = sv) (ys : List GPair) (hsrc : Rd rPairs W ys [sv]) (hn : ys.length ≤ 1048576)
    (h : ∀ A c w' G', St2 W w' l v F ys (.slice A ys.length c) G' → K (a.put o.dst (.slice A ys.length c)) w') : if Region.wanted o (yielded ops a.tmps) = true then Oper.wp Try.prog o a X K Q else E := by
  obtain ⟨i1, hi, hy0, hy1, hy2⟩ := info_parts info_PairW
  obtain ⟨h1, h2, h3, h4, h5, h6⟩ := p
  refine step_append_all X hgd s x 105 ho W 151 i1 _ 2 16 Try.underlying105 hi hy0 hy1 hy2 rfl (by omega) fPair_good u [] G hs h2 h5 sv hx ys (hsrc.bw rPairs_good h6) (fun y u h => ⟨h, rfl⟩) (by simp; omega) (by simp; omega) h6 ?_
  intro v' w' F' o1 f1 hb hO hF
  rw [List.nil_append] at o1
  obtain ⟨A, c, rfl, _⟩ := rSl_shape (fPairs_Rd o1)
  refine h A c w' F' ⟨hO.keeps fInts_good h1 (fun b hb hf => h3 b hb hf), o1, fun b hb hg => ?_, h4, f1, hb⟩
  rcases hF b hg with h | h
  · exact h3 b hb h
  · have := (fInts_good (B := 0)).lt h1 b hb; omega
end
set_option maxRecDepth 100000 in
set_option maxHeartbeats 3200000 in
theorem S_l5Wish (w : World) (x : GWish) (v u : Value) (h : Rd rInts w x.list [v]) (h' : Rd rPairs w x.pairs [u]) (hn1 : x.list.length ≤ 1048576) (hn2 : x.pairs.length ≤ 1048576) :
    Calls Try.prog 150 #[.agg #[.int .i64 x.kind, .int .i64 x.field, .int .i64 x.value, v, u]] w (RetA fWish w x) := by
  obtain ⟨Z, hZ⟩ : ∃ Z, Z = (w.alloc (.cells #[.int .i64 x.kind, .int .i64 x.field, .int .i64 x.value, v, u] 107)).alloc (.cells #[.int .i64 0, .int .i64 0, .int .i64 0, .slice none 0 0, .slice none 0 0] 107) := ⟨_, rfl⟩
  have A0 : Bw w Z.drew := by rw [hZ]; exact (((Bw.refl w).alloc _).alloc _).drew
  have q0 : Z.drew.cell? ⟨w.heap.size, 0, none⟩ = some (.int .i64 x.kind) := by rw [hZ]; go_simp
  have q1 : Z.drew.cell? ⟨w.heap.size, 1, none⟩ = some (.int .i64 x.field) := by rw [hZ]; go_simp
  have q2 : Z.drew.cell? ⟨w.heap.size, 2, none⟩ = some (.int .i64 x.value) := by rw [hZ]; go_simp
  have q3 : Z.drew.cell? ⟨w.heap.size, 3, none⟩ = some (v) := by rw [hZ]; go_simp
  have q4 : Z.drew.cell? ⟨w.heap.size, 4, none⟩ = some (u) := by rw [hZ]; go_simp
  have r0 : Z.drew.cell? ⟨w.heap.size + 1, 0, none⟩ = some (.int .i64 0) := by rw [hZ]; go_simp
  have r1 : Z.drew.cell? ⟨w.heap.size + 1, 1, none⟩ = some (.int .i64 0) := by rw [hZ]; go_simp
  have r2 : Z.drew.cell? ⟨w.heap.size + 1, 2, none⟩ = some (.int .i64 0) := by rw [hZ]; go_simp
  have r3 : Z.drew.cell? ⟨w.heap.size + 1, 3, none⟩ = some (.slice none 0 0) := by rw [hZ]; go_simp
  have r4 : Z.drew.cell? ⟨w.heap.size + 1, 4, none⟩ = some (.slice none 0 0) := by rw [hZ]; go_simp
  have z0 : Z.cell? ⟨w.heap.size, 0, none⟩ = some (.int .i64 x.kind) := by rw [hZ]; go_simp
  have z1 : Z.cell? ⟨w.heap.size, 1, none⟩ = some (.int .i64 x.field) := by rw [hZ]; go_simp
  have z2 : Z.cell? ⟨w.heap.size, 2, none⟩ = some (.int .i64 x.value) := by rw [hZ]; go_simp
  have z3 : Z.cell? ⟨w.heap.size, 3, none⟩ = some (v) := by rw [hZ]; go_simp
  have z4 : Z.cell? ⟨w.heap.size, 4, none⟩ = some (u) := by rw [hZ]; go_simp
  have hsz : Z.drew.heap.size = w.heap.size + 2 := by rw [hZ]; simp
  have HSZ := Lib.hid hsz
  have hfW : ∀ o, Z.drew.frozen? ⟨w.heap.size + 1, o, none⟩ = false := fun o => by rw [hZ]; go_simp
  have hfr := Lib.hid (fun o (w2 : World) (hb : Bw Z.drew w2) => (bw_frozen hb (w.heap.size + 1) o (by rw [hsz]; omega)).trans (hfW o))
  have HZ := Lib.hid hZ
  have p := St2.start Z.drew
  have hs1 := h.bw rInts_good A0
  have hs2 := h'.bw rPairs_good A0
  clear hZ hsz hfW
  go_enter Try.func150, Try.ntmps150
  go_wp2
  rw [← HZ.out]
  go_region_held3 (fun w' => w'.cell? ⟨w.heap.size, 0, none⟩ = some (.int .i64 x.kind) ∧ w'.cell? ⟨w.heap.size, 1, none⟩ = some (.int .i64 x.field) ∧ w'.cell? ⟨w.heap.size, 2, none⟩ = some (.int .i64 x.value) ∧ w'.cell? ⟨w.heap.size, 3, none⟩ = some (v) ∧ w'.cell? ⟨w.heap.size, 4, none⟩ = some (u)) (first | go_keep | exact ⟨q0, q1, q2, q3, q4⟩ | (have HB := p.2.2.2.2.2; exact ⟨HB.cell q0, HB.cell q1, HB.cell q2, HB.cell q3, HB.cell q4⟩))
    (first
      | ((first
        | refine St2.app1 p (.tmp 9) (.tmp 11) (by rfl) (by rfl) (by first | rfl | (go_simp; done)) _ (by rfl) x.list hs1 hn1 ?_
        | refine St2.app1 p.row1 (.tmp 9) (.tmp 11) (by rfl) (by rfl) (by first | rfl | (go_simp; done)) _ (by rfl) x.list hs1 hn1 ?_
        | refine St2.app1 p.row1.row2 (.tmp 9) (.tmp 11) (by rfl) (by rfl) (by first | rfl | (go_simp; done)) _ (by rfl) x.list hs1 hn1 ?_
        | refine St2.app1 p.row2.row1 (.tmp 9) (.tmp 11) (by rfl) (by rfl) (by first | rfl | (go_simp; done)) _ (by rfl) x.list hs1 hn1 ?_); clear p; (try clear e0 e1 e2 e3 e4 g0 g1 g2 g3 g4 hf3); intro A c w2 F p; have HB := p.2.2.2.2.2; have e0 := HB.cell q0; have e1 := HB.cell q1; have e2 := HB.cell q2; have e3 := HB.cell q3; have e4 := HB.cell q4; have g0 := HB.cell r0; have g1 := HB.cell r1; have g2 := HB.cell r2; have g3 := HB.cell r3; have g4 := HB.cell r4; have hf3 := fun o => hfr.out o w2 HB; clear HB)
      | ((first
        | refine St2.app2 p (.tmp 13) (.tmp 15) (by rfl) (by rfl) (by first | rfl | (go_simp; done)) _ (by rfl) x.pairs hs2 hn2 ?_
        | refine St2.app2 p.row2 (.tmp 13) (.tmp 15) (by rfl) (by rfl) (by first | rfl | (go_simp; done)) _ (by rfl) x.pairs hs2 hn2 ?_
        | refine St2.app2 p.row2.row1 (.tmp 13) (.tmp 15) (by rfl) (by rfl) (by first | rfl | (go_simp; done)) _ (by rfl) x.pairs hs2 hn2 ?_
        | refine St2.app2 p.row1.row2 (.tmp 13) (.tmp 15) (by rfl) (by rfl) (by first | rfl | (go_simp; done)) _ (by rfl) x.pairs hs2 hn2 ?_); clear p; (try clear e0 e1 e2 e3 e4 g0 g1 g2 g3 g4 hf3); intro Ap cp w2 G p; have HB := p.2.2.2.2.2; have e0 := HB.cell q0; have e1 := HB.cell q1; have e2 := HB.cell q2; have e3 := HB.cell q3; have e4 := HB.cell q4; have g0 := HB.cell r0; have g1 := HB.cell r1; have g2 := HB.cell r2; have g3 := HB.cell r3; have g4 := HB.cell r4; have hf3 := fun o => hfr.out o w2 HB; clear HB))
  all_goals
    obtain ⟨o2, o3, hd, f2, f3, hB⟩ := p
    have hsz2 := hB.size
    have hS := HSZ.out
    go_wp2
    have f2z : ∀ b ∈ F, w.heap.size + 2 ≤ b := fun b hb => by have := f2.ge b hb; omega
    have f3z : ∀ b ∈ G, w.heap.size + 2 ≤ b := fun b hb => by have := f3.ge b hb; omega
    have FF : Fresh w.heap.size (F ++ G) := ⟨List.nodup_append.2 ⟨f2.nodup, f3.nodup, fun a ha b hb e => hd a ha (e ▸ hb)⟩, fun b hb => (List.mem_append.1 hb).elim (fun h => by have := f2z b h; omega) (fun h => by have := f3z b h; omega)⟩
    refine bodyPost_ret (v := .agg #[.int .i64 x.kind, .int .i64 x.field, .int .i64 x.value, .slice A x.list.length c, .slice Ap x.pairs.length cp]) (by simp [results, Try.results150, go_sem, g0, g1, g2, g3, g4]) rfl ⟨_, F ++ G, rfl, ⟨_, _, F, G, rfl, ?_, ?_, rfl⟩, FF, ?_⟩
    · refine (fInts_good (B := 0)).step (fun b hb => ?_) o2
      rcases hb with hb | hb
      · have := f2z b hb
        repeat rw [Below.heap_setCell _ _ _ _ (by dsimp only; omega)]
      · omega
    · refine (fPairs_good (B := 0)).step (fun b hb => ?_) o3
      rcases hb with hb | hb
      · have := f3z b hb
        repeat rw [Below.heap_setCell _ _ _ _ (by dsimp only; omega)]
      · omega
    · repeat (first | with_reducible exact (A0.then hB) | with_reducible refine Bw.set ?_ ?_ _)
      all_goals (dsimp only; omega)
theorem node_lens {xs : List GNode} (ht : totNodes xs ≤ 1048576) : xs.length ≤ 1048576 ∧ ∀ x ∈ xs, x.wish.list.length ≤ 1048576 ∧ x.wish.pairs.length ≤ 1048576 := by
  unfold totNodes at ht
  refine ⟨by omega, fun x hx => ?_⟩
  have h1 := le_sum totNode hx
  have h2 : totNode x = x.wish.list.length + x.wish.pairs.length := rfl
  omega
end Go.Proofs.Ytdfmgpmfalnffaa
