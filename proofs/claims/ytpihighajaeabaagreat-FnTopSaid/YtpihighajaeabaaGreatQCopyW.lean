/- Copies of wishes and of expressions, in both programs. -/
import Derived.Test.YtpihighajaeabaaGreatQWishes3
namespace Go.Proofs.YtpihighajaeabaaGreat
open Go.RowKit
set_option linter.unusedVariables false
set_option linter.unusedSimpArgs false
theorem info_PairW : (Tryz.prog.info? 214).map (fun i => (i.zero, i.size, i.bytes)) = some (some (.agg #[.int .i64 0, .int .i64 0]), 2, 16) := by kernel_rfl
set_option maxRecDepth 100000 in
set_option maxHeartbeats 3200000 in
theorem I_copyWish (w : World) (x : GWish) (v u : Value) (h : Rd rInts w x.list [v]) (h' : Rd rPairs w x.pairs [u]) (hn1 : x.list.length ≤ 1048576) (hn2 : x.pairs.length ≤ 1048576) :
    Calls Tryz.prog 172 #[.agg #[.int .i64 x.kind, .int .i64 x.field, .int .i64 x.value, v, u]] w (RetA fWish w x) := by
  obtain ⟨i1, hi, hy0, hy1, hy2⟩ := info_parts info_PairW
  have A0 : Bw w ((w.alloc (.cells #[.int .i64 x.kind, .int .i64 x.field, .int .i64 x.value, v, u] 109)).alloc (.cells #[.int .i64 0, .int .i64 0, .int .i64 0, .slice none 0 0, .slice none 0 0] 109)) := ((Bw.refl w).alloc _).alloc _
  go_enter Tryz.func172, Tryz.ntmps172
  go_wp2_with fail
  refine (I_copyInts _ x.list _ (h.bw rInts_good A0) hn1).mono ?_
  rintro e w2 ⟨v2, rfl, ⟨F, o2, f2⟩, hb2⟩
  have hf1 : ∀ o, w2.frozen? ⟨w.heap.size, o, none⟩ = false := fun o => by rw [bw_frozen hb2 _ _ (by first | (simp; done) | (simp; omega))]; go_simp
  have hf2 : ∀ o, w2.frozen? ⟨w.heap.size + 1, o, none⟩ = false := fun o => by rw [bw_frozen hb2 _ _ (by first | (simp; done) | (simp; omega))]; go_simp
  have hz : w.heap.size + 2 ≤ w2.heap.size := by have := hb2.size; simp at this; omega
  obtain ⟨A, c, rfl, _⟩ := rSl_shape (fInts_Rd o2)
  have B2 : Bw w w2 := A0.then hb2
  have f2z : ∀ b ∈ F, w.heap.size + 2 ≤ b := fun b hb => by have := f2.ge b hb; simpa using this
  have q0 : w2.cell? ⟨w.heap.size, 0, none⟩ = some (.int .i64 x.kind) := hb2.cell (by go_simp)
  have q1 : w2.cell? ⟨w.heap.size, 1, none⟩ = some (.int .i64 x.field) := hb2.cell (by go_simp)
  have q2 : w2.cell? ⟨w.heap.size, 2, none⟩ = some (.int .i64 x.value) := hb2.cell (by go_simp)
  have q3 : w2.cell? ⟨w.heap.size, 3, none⟩ = some (v) := hb2.cell (by go_simp)
  have q4 : w2.cell? ⟨w.heap.size, 4, none⟩ = some (u) := hb2.cell (by go_simp)
  have r0 : w2.cell? ⟨w.heap.size + 1, 0, none⟩ = some (.int .i64 0) := hb2.cell (by go_simp)
  have r1 : w2.cell? ⟨w.heap.size + 1, 1, none⟩ = some (.int .i64 0) := hb2.cell (by go_simp)
  have r2 : w2.cell? ⟨w.heap.size + 1, 2, none⟩ = some (.int .i64 0) := hb2.cell (by go_simp)
  have r3 : w2.cell? ⟨w.heap.size + 1, 3, none⟩ = some (.slice none 0 0) := hb2.cell (by go_simp)
  have r4 : w2.cell? ⟨w.heap.size + 1, 4, none⟩ = some (.slice none 0 0) := hb2.cell (by go_simp)
  have B3 := B2.set (p := ⟨w.heap.size, 3, none⟩) (by dsimp only; omega) (.slice A x.list.length c)
  have hv0 := fSl_empty (e := 214) (sz := 2) (R := fPair) (w2.setCell ⟨w.heap.size, 3, none⟩ (.slice A x.list.length c))
  rw [show (w2.setCell ⟨w.heap.size, 3, none⟩ (.slice A x.list.length c)).heap.size = w2.heap.size from by simp] at hv0
  have A3 : Bw (w2.setCell ⟨w.heap.size, 3, none⟩ (.slice A x.list.length c)) ((w2.setCell ⟨w.heap.size, 3, none⟩ (.slice A x.list.length c)).alloc (.cells #[] 214)) := (Bw.refl _).alloc _
  have hs := h'.bw rPairs_good (B3.then A3)
  have z4 := A3.cell (show (w2.setCell ⟨w.heap.size, 3, none⟩ (.slice A x.list.length c)).cell? ⟨w.heap.size, 4, none⟩ = some u by go_simp)
  have hF0 : Fresh (w2.setCell ⟨w.heap.size, 3, none⟩ (.slice A x.list.length c)).heap.size [w2.heap.size] := ⟨by simp, by simp⟩
  have hFm := (fInts_good (B := 0)).lt o2
  go_wp2_with (at_builtin; refine wpList_append_all _ rfl (.tmp 7) (.tmp 9) 107 rfl (w2.setCell ⟨w.heap.size, 3, none⟩ (.slice A x.list.length c)) 214 i1 _ 2 16 Tryz.underlying107 hi hy0 hy1 hy2 rfl (by omega) fPair_good _ [] _ rfl hv0 hF0 _ rfl x.pairs hs (fun y u h => ⟨h, rfl⟩) (by simp; omega) (by simp; omega) A3 ?_; intro v' w3 G hv' hG hb3; rw [List.nil_append] at hv'; obtain ⟨Ap, cp, rfl, _⟩ := rSl_shape (fPairs_Rd hv'); have hc := bw_cell hb3; have hf3 : ∀ o, w3.frozen? ⟨w.heap.size, o, none⟩ = false := fun o => (bw_frozen hb3 w.heap.size o (by simp; omega)).trans (by go_simp); have hf4 : ∀ o, w3.frozen? ⟨w.heap.size + 1, o, none⟩ = false := fun o => (bw_frozen hb3 (w.heap.size + 1) o (by simp; omega)).trans (by go_simp); have p0 : w3.cell? ⟨w.heap.size, 0, none⟩ = some (.int .i64 x.kind) := hb3.cell (show (w2.setCell ⟨w.heap.size, 3, none⟩ (.slice A x.list.length c)).cell? ⟨w.heap.size, 0, none⟩ = some (.int .i64 x.kind) by go_simp); have p1 : w3.cell? ⟨w.heap.size, 1, none⟩ = some (.int .i64 x.field) := hb3.cell (show (w2.setCell ⟨w.heap.size, 3, none⟩ (.slice A x.list.length c)).cell? ⟨w.heap.size, 1, none⟩ = some (.int .i64 x.field) by go_simp); have p2 : w3.cell? ⟨w.heap.size, 2, none⟩ = some (.int .i64 x.value) := hb3.cell (show (w2.setCell ⟨w.heap.size, 3, none⟩ (.slice A x.list.length c)).cell? ⟨w.heap.size, 2, none⟩ = some (.int .i64 x.value) by go_simp); have p3 : w3.cell? ⟨w.heap.size, 3, none⟩ = some (.slice A x.list.length c) := hb3.cell (show (w2.setCell ⟨w.heap.size, 3, none⟩ (.slice A x.list.length c)).cell? ⟨w.heap.size, 3, none⟩ = some (.slice A x.list.length c) by go_simp); have p4 : w3.cell? ⟨w.heap.size, 4, none⟩ = some (u) := hb3.cell (show (w2.setCell ⟨w.heap.size, 3, none⟩ (.slice A x.list.length c)).cell? ⟨w.heap.size, 4, none⟩ = some (u) by go_simp); have s0 : w3.cell? ⟨w.heap.size + 1, 0, none⟩ = some (.int .i64 0) := hb3.cell (show (w2.setCell ⟨w.heap.size, 3, none⟩ (.slice A x.list.length c)).cell? ⟨w.heap.size + 1, 0, none⟩ = some (.int .i64 0) by go_simp); have s1 : w3.cell? ⟨w.heap.size + 1, 1, none⟩ = some (.int .i64 0) := hb3.cell (show (w2.setCell ⟨w.heap.size, 3, none⟩ (.slice A x.list.length c)).cell? ⟨w.heap.size + 1, 1, none⟩ = some (.int .i64 0) by go_simp); have s2 : w3.cell? ⟨w.heap.size + 1, 2, none⟩ = some (.int .i64 0) := hb3.cell (show (w2.setCell ⟨w.heap.size, 3, none⟩ (.slice A x.list.length c)).cell? ⟨w.heap.size + 1, 2, none⟩ = some (.int .i64 0) by go_simp); have s3 : w3.cell? ⟨w.heap.size + 1, 3, none⟩ = some (.slice none 0 0) := hb3.cell (show (w2.setCell ⟨w.heap.size, 3, none⟩ (.slice A x.list.length c)).cell? ⟨w.heap.size + 1, 3, none⟩ = some (.slice none 0 0) by go_simp); have s4 : w3.cell? ⟨w.heap.size + 1, 4, none⟩ = some (.slice none 0 0) := hb3.cell (show (w2.setCell ⟨w.heap.size, 3, none⟩ (.slice A x.list.length c)).cell? ⟨w.heap.size + 1, 4, none⟩ = some (.slice none 0 0) by go_simp))
  have B4 := B3.then hb3
  have o2' : fInts w3 x.list [.slice A x.list.length c] F := (fInts_good (B := 0)).step (fun b hb => by
    rcases hb with hb | hb
    · have h1 := f2z b hb
      have h2 := hFm b hb
      rw [Below.block hb3 b (by simpa using h2)]
      repeat rw [Below.heap_setCell _ _ _ _ (by dsimp only; omega)]
    · omega) o2
  have f3z : ∀ b ∈ G, w.heap.size + 2 ≤ b := fun b hb => by have := hG.ge b hb; simp at this; omega
  have FF : Fresh w.heap.size (F ++ G) := Fresh.append (m := w2.heap.size) (f2.mono (by simp; omega)) hFm (hG.mono (by simp)) (by omega)
  refine bodyPost_ret (v := .agg #[.int .i64 x.kind, .int .i64 x.field, .int .i64 x.value, .slice A x.list.length c, .slice Ap x.pairs.length cp]) (by simp [results, Tryz.results172, go_sem, p0, p1, p2, p3, p4, s0, s1, s2, s3, s4]) rfl ⟨_, F ++ G, rfl, ⟨_, _, F, G, rfl, ?_, ?_, rfl⟩, FF, ?_⟩
  · refine (fInts_good (B := 0)).step (fun b hb => ?_) o2'
    rcases hb with hb | hb
    · have := f2z b hb
      repeat rw [Below.heap_setCell _ _ _ _ (by dsimp only; omega)]
    · omega
  · refine (fPairs_good (B := 0)).step (fun b hb => ?_) hv'
    rcases hb with hb | hb
    · have := f3z b hb
      repeat rw [Below.heap_setCell _ _ _ _ (by dsimp only; omega)]
    · omega
  · repeat (first | with_reducible exact B4 | with_reducible refine Bw.set ?_ ?_ _)
    all_goals (dsimp only; omega)
/-- two lists under way in one region -/
def St2 (W X : World) (l : List Int) (v : Value) (F : List Nat) (p : List GPair) (u : Value) (G : List Nat) : Prop :=
  fInts X l [v] F ∧ fPairs X p [u] G ∧ (∀ b ∈ F, b ∉ G) ∧ Fresh W.heap.size F ∧ Fresh W.heap.size G ∧ Bw W X
theorem St2.start (W : World) : St2 W W [] (.slice none 0 0) [] [] (.slice none 0 0) [] :=
  ⟨⟨_, [], [], rfl, World.ownsRow_nil _ _ _ _, trivial, by simp [Value.ownBlock]⟩, ⟨_, [], [], rfl, World.ownsRow_nil _ _ _ _, trivial, by simp [Value.ownBlock]⟩, by simp, ⟨by simp, by simp⟩, ⟨by simp, by simp⟩, Bw.refl W⟩
theorem St2.row1 {W X : World} {l v F p u G} (h : St2 W X l v F p u G) : St2 W (X.alloc (.cells #[] 3)) [] (.slice (some ⟨X.heap.size, 0, none⟩) 0 0) [X.heap.size] p u G := by
  obtain ⟨h1, h2, h3, h4, h5, h6⟩ := h
  have A : Bw X (X.alloc (.cells #[] 3)) := (Bw.refl X).alloc _
  have hs := h6.size
  refine ⟨fSl_empty X, (fPairs_good (B := 0)).bw A (Nat.zero_le _) h2, fun b hb hg => ?_, ⟨by simp, by simpa using hs⟩, h5, h6.then A⟩
  have := (fPairs_good (B := 0)).lt h2 b hg
  simp at hb; omega
theorem St2.row2 {W X : World} {l v F p u G} (h : St2 W X l v F p u G) : St2 W (X.alloc (.cells #[] 214)) l v F [] (.slice (some ⟨X.heap.size, 0, none⟩) 0 0) [X.heap.size] := by
  obtain ⟨h1, h2, h3, h4, h5, h6⟩ := h
  have A : Bw X (X.alloc (.cells #[] 214)) := (Bw.refl X).alloc _
  have hs := h6.size
  refine ⟨(fInts_good (B := 0)).bw A (Nat.zero_le _) h1, fSl_empty X, fun b hb hg => ?_, h4, ⟨by simp, by simpa using hs⟩, h6.then A⟩
  have := (fInts_good (B := 0)).lt h1 b hb
  simp at hg; omega
section
variable {ops : Array Oper} {o : Oper} {a : Act} {K : Act → World → Prop} {Q : Exit → Act → World → Prop} {E : Prop} {W X : World} {v : Value} {F : List Nat} {l : List Int} {pp : List GPair} {u : Value} {G : List Nat}
theorem St2.app1 (p : St2 W X [] v F pp u G) (s x : Operand) (hgd : o.guard = none) (ho : o.op = .call { callee := .builtin .append, args := #[s, x], argTypes := #[26, 26] })
    (hs : a.eval s = v) (sv : Value) (hx : a.eval x = sv) (ys : List Int) (hsrc : Rd rInts W ys [sv]) (hn : ys.length ≤ 1048576)
    (h : ∀ A c w' F', St2 W w' ys (.slice A ys.length c) F' pp u G → K (a.put o.dst (.slice A ys.length c)) w') : if Region.wanted o (yielded ops a.tmps) = true then Oper.wp Tryz.prog o a X K Q else E := by
  obtain ⟨i0, hi0, hx0, hx1, hx2⟩ := info_parts info_int
  obtain ⟨h1, h2, h3, h4, h5, h6⟩ := p
  refine step_append_all X hgd s x 26 ho W 3 i0 _ 1 8 Tryz.underlying26 hi0 hx0 hx1 hx2 rfl (by omega) fInt_good v [] F hs h1 h4 sv hx ys (hsrc.bw rInts_good h6) (fun y u h => ⟨h, rfl⟩) (by simp; omega) (by simp; omega) h6 ?_
  intro v' w' F' o1 f1 hb hO hF
  rw [List.nil_append] at o1
  obtain ⟨A, c, rfl, _⟩ := rSl_shape (fInts_Rd o1)
  refine h A c w' F' ⟨o1, hO.keeps fPairs_good h2 (fun b hb hf => h3 b hf hb), fun b hb hg => ?_, f1, h5, hb⟩
  rcases hF b hb with h | h
  · exact h3 b h hg
  · have := (fPairs_good (B := 0)).lt h2 b hg; omega
theorem St2.app2 (p : St2 W X l v F [] u G) (s x : Operand) (hgd : o.guard = none) (ho : o.op = .call { callee := .builtin .append, args := #[s, x], argTypes := #[107, 107] })
    (hs : a.eval s = u) (sv : Value) (hx : a.eval x = sv) (ys : List GPair) (hsrc : Rd rPairs W ys [sv]) (hn : ys.length ≤ 1048576)
    (h : ∀ A c w' G', St2 W w' l v F ys (.slice A ys.length c) G' → K (a.put o.dst (.slice A ys.length c)) w') : if Region.wanted o (yielded ops a.tmps) = true then Oper.wp Tryz.prog o a X K Q else E := by
  obtain ⟨i1, hi, hy0, hy1, hy2⟩ := info_parts info_PairW
  obtain ⟨h1, h2, h3, h4, h5, h6⟩ := p
  refine step_append_all X hgd s x 107 ho W 214 i1 _ 2 16 Tryz.underlying107 hi hy0 hy1 hy2 rfl (by omega) fPair_good u [] G hs h2 h5 sv hx ys (hsrc.bw rPairs_good h6) (fun y u h => ⟨h, rfl⟩) (by simp; omega) (by simp; omega) h6 ?_
  intro v' w' F' o1 f1 hb hO hF
  rw [List.nil_append] at o1
  obtain ⟨A, c, rfl, _⟩ := rSl_shape (fPairs_Rd o1)
  refine h A c w' F' ⟨hO.keeps fInts_good h1 (fun b hb hf => h3 b hb hf), o1, fun b hb hg => ?_, h4, f1, hb⟩
  rcases hF b hg with h | h
  · exact h3 b hb h
  · have := (fInts_good (B := 0)).lt h1 b hb; omega
end
set_option maxRecDepth 100000 in
set_option maxHeartbeats 3200000 in
theorem S_l5Wish (w : World) (x : GWish) (v u : Value) (h : Rd rInts w x.list [v]) (h' : Rd rPairs w x.pairs [u]) (hn1 : x.list.length ≤ 1048576) (hn2 : x.pairs.length ≤ 1048576) :
    Calls Tryz.prog 173 #[.agg #[.int .i64 x.kind, .int .i64 x.field, .int .i64 x.value, v, u]] w (RetA fWish w x) := by
  obtain ⟨Z, hZ⟩ : ∃ Z, Z = (w.alloc (.cells #[.int .i64 x.kind, .int .i64 x.field, .int .i64 x.value, v, u] 109)).alloc (.cells #[.int .i64 0, .int .i64 0, .int .i64 0, .slice none 0 0, .slice none 0 0] 109) := ⟨_, rfl⟩
  have A0 : Bw w Z.drew := by rw [hZ]; exact (((Bw.refl w).alloc _).alloc _).drew
  have q0 : Z.drew.cell? ⟨w.heap.size, 0, none⟩ = some (.int .i64 x.kind) := by rw [hZ]; go_simp
  have q1 : Z.drew.cell? ⟨w.heap.size, 1, none⟩ = some (.int .i64 x.field) := by rw [hZ]; go_simp
  have q2 : Z.drew.cell? ⟨w.heap.size, 2, none⟩ = some (.int .i64 x.value) := by rw [hZ]; go_simp
  have q3 : Z.drew.cell? ⟨w.heap.size, 3, none⟩ = some (v) := by rw [hZ]; go_simp
  have q4 : Z.drew.cell? ⟨w.heap.size, 4, none⟩ = some (u) := by rw [hZ]; go_simp
  have r0 : Z.drew.cell? ⟨w.heap.size + 1, 0, none⟩ = some (.int .i64 0) := by rw [hZ]; go_simp
  have r1 : Z.drew.cell? ⟨w.heap.size + 1, 1, none⟩ = some (.int .i64 0) := by rw [hZ]; go_simp
  have r2 : Z.drew.cell? ⟨w.heap.size + 1, 2, none⟩ = some (.int .i64 0) := by rw [hZ]; go_simp
  have r3 : Z.drew.cell? ⟨w.heap.size + 1, 3, none⟩ = some (.slice none 0 0) := by rw [hZ]; go_simp
  have r4 : Z.drew.cell? ⟨w.heap.size + 1, 4, none⟩ = some (.slice none 0 0) := by rw [hZ]; go_simp
  have z0 : Z.cell? ⟨w.heap.size, 0, none⟩ = some (.int .i64 x.kind) := by rw [hZ]; go_simp
  have z1 : Z.cell? ⟨w.heap.size, 1, none⟩ = some (.int .i64 x.field) := by rw [hZ]; go_simp
  have z2 : Z.cell? ⟨w.heap.size, 2, none⟩ = some (.int .i64 x.value) := by rw [hZ]; go_simp
  have z3 : Z.cell? ⟨w.heap.size, 3, none⟩ = some (v) := by rw [hZ]; go_simp
  have z4 : Z.cell? ⟨w.heap.size, 4, none⟩ = some (u) := by rw [hZ]; go_simp
  have hsz : Z.drew.heap.size = w.heap.size + 2 := by rw [hZ]; simp
  have HSZ := Lib.hid hsz
  have hfW : ∀ o, Z.drew.frozen? ⟨w.heap.size + 1, o, none⟩ = false := fun o => by rw [hZ]; go_simp
  have hfr := Lib.hid (fun o (w2 : World) (hb : Bw Z.drew w2) => (bw_frozen hb (w.heap.size + 1) o (by rw [hsz]; omega)).trans (hfW o))
  have HZ := Lib.hid hZ
  have p := St2.start Z.drew
  have hs1 := h.bw rInts_good A0
  have hs2 := h'.bw rPairs_good A0
  clear hZ hsz hfW
  go_enter Tryz.func173, Tryz.ntmps173
  go_wp2
  rw [← HZ.out]
  go_region_held3 (fun w' => w'.cell? ⟨w.heap.size, 0, none⟩ = some (.int .i64 x.kind) ∧ w'.cell? ⟨w.heap.size, 1, none⟩ = some (.int .i64 x.field) ∧ w'.cell? ⟨w.heap.size, 2, none⟩ = some (.int .i64 x.value) ∧ w'.cell? ⟨w.heap.size, 3, none⟩ = some (v) ∧ w'.cell? ⟨w.heap.size, 4, none⟩ = some (u)) (first | go_keep | exact ⟨q0, q1, q2, q3, q4⟩ | (have HB := p.2.2.2.2.2; exact ⟨HB.cell q0, HB.cell q1, HB.cell q2, HB.cell q3, HB.cell q4⟩))
    (first
      | ((first
        | refine St2.app1 p (.tmp 9) (.tmp 11) (by rfl) (by rfl) (by first | rfl | (go_simp; done)) _ (by rfl) x.list hs1 hn1 ?_
        | refine St2.app1 p.row1 (.tmp 9) (.tmp 11) (by rfl) (by rfl) (by first | rfl | (go_simp; done)) _ (by rfl) x.list hs1 hn1 ?_
        | refine St2.app1 p.row1.row2 (.tmp 9) (.tmp 11) (by rfl) (by rfl) (by first | rfl | (go_simp; done)) _ (by rfl) x.list hs1 hn1 ?_
        | refine St2.app1 p.row2.row1 (.tmp 9) (.tmp 11) (by rfl) (by rfl) (by first | rfl | (go_simp; done)) _ (by rfl) x.list hs1 hn1 ?_); clear p; (try clear e0 e1 e2 e3 e4 g0 g1 g2 g3 g4 hf3); intro A c w2 F p; have HB := p.2.2.2.2.2; have e0 := HB.cell q0; have e1 := HB.cell q1; have e2 := HB.cell q2; have e3 := HB.cell q3; have e4 := HB.cell q4; have g0 := HB.cell r0; have g1 := HB.cell r1; have g2 := HB.cell r2; have g3 := HB.cell r3; have g4 := HB.cell r4; have hf3 := fun o => hfr.out o w2 HB; clear HB)
      | ((first
        | refine St2.app2 p (.tmp 13) (.tmp 15) (by rfl) (by rfl) (by first | rfl | (go_simp; done)) _ (by rfl) x.pairs hs2 hn2 ?_
        | refine St2.app2 p.row2 (.tmp 13) (.tmp 15) (by rfl) (by rfl) (by first | rfl | (go_simp; done)) _ (by rfl) x.pairs hs2 hn2 ?_
        | refine St2.app2 p.row2.row1 (.tmp 13) (.tmp 15) (by rfl) (by rfl) (by first | rfl | (go_simp; done)) _ (by rfl) x.pairs hs2 hn2 ?_
        | refine St2.app2 p.row1.row2 (.tmp 13) (.tmp 15) (by rfl) (by rfl) (by first | rfl | (go_simp; done)) _ (by rfl) x.pairs hs2 hn2 ?_); clear p; (try clear e0 e1 e2 e3 e4 g0 g1 g2 g3 g4 hf3); intro Ap cp w2 G p; have HB := p.2.2.2.2.2; have e0 := HB.cell q0; have e1 := HB.cell q1; have e2 := HB.cell q2; have e3 := HB.cell q3; have e4 := HB.cell q4; have g0 := HB.cell r0; have g1 := HB.cell r1; have g2 := HB.cell r2; have g3 := HB.cell r3; have g4 := HB.cell r4; have hf3 := fun o => hfr.out o w2 HB; clear HB))
  all_goals
    obtain ⟨o2, o3, hd, f2, f3, hB⟩ := p
    have hsz2 := hB.size
    have hS := HSZ.out
    go_wp2
    have f2z : ∀ b ∈ F, w.heap.size + 2 ≤ b := fun b hb => by have := f2.ge b hb; omega
    have f3z : ∀ b ∈ G, w.heap.size + 2 ≤ b := fun b hb => by have := f3.ge b hb; omega
    have FF : Fresh w.heap.size (F ++ G) := ⟨List.nodup_append.2 ⟨f2.nodup, f3.nodup, fun a ha b hb e => hd a ha (e ▸ hb)⟩, fun b hb => (List.mem_append.1 hb).elim (fun h => by have := f2z b h; omega) (fun h => by have := f3z b h; omega)⟩
    refine bodyPost_ret (v := .agg #[.int .i64 x.kind, .int .i64 x.field, .int .i64 x.value, .slice A x.list.length c, .slice Ap x.pairs.length cp]) (by simp [results, Tryz.results173, go_sem, g0, g1, g2, g3, g4]) rfl ⟨_, F ++ G, rfl, ⟨_, _, F, G, rfl, ?_, ?_, rfl⟩, FF, ?_⟩
    · refine (fInts_good (B := 0)).step (fun b hb => ?_) o2
      rcases hb with hb | hb
      · have := f2z b hb
        repeat rw [Below.heap_setCell _ _ _ _ (by dsimp only; omega)]
      · omega
    · refine (fPairs_good (B := 0)).step (fun b hb => ?_) o3
      rcases hb with hb | hb
      · have := f3z b hb
        repeat rw [Below.heap_setCell _ _ _ _ (by dsimp only; omega)]
      · omega
    · repeat (first | with_reducible exact (A0.then hB) | with_reducible refine Bw.set ?_ ?_ _)
      all_goals (dsimp only; omega)
theorem node_lens {xs : List GNode} (ht : totNodes xs ≤ 1048576) : xs.length ≤ 1048576 ∧ ∀ x ∈ xs, x.wish.list.length ≤ 1048576 ∧ x.wish.pairs.length ≤ 1048576 := by
  unfold totNodes at ht
  refine ⟨by omega, fun x hx => ?_⟩
  have h1 := le_sum totNode hx
  have h2 : totNode x = x.wish.list.length + x.wish.pairs.length := rfl
  omega
set_option maxRecDepth 100000 in
set_option maxHeartbeats 3200000 in
theorem S_l5Copy (w : World) (xs : List GNode) (v : Value) (h : Rd rNodes w xs [v]) (ht : totNodes xs ≤ 1048576) : Calls Tryz.prog 110 #[v] w (RetV w (Made fNodes w.heap.size xs)) := by
  obtain ⟨hn, hnn⟩ := node_lens ht
  clear ht
  obtain ⟨i0, hi, hz0, hz1, hz2⟩ := info_parts info_Node
  obtain ⟨A, n, c, rfl, a1, a2, a3⟩ := rSl_open h
  rw [← a1] at hn
  have L1 := Lib.hid a1
  clear a1
  have hv0 := fSl_empty (e := 111) (sz := 6) (R := fNode) w
  go_enter Tryz.func110, Tryz.ntmps110
  go_wp2
  go_loopw [3, 4] (fun s i w' => ∃ (k : Nat) (F : List Nat), k ≤ n ∧ i = .int .i64 k ∧ fNodes w' (xs.take k) [s] F ∧ Fresh w.heap.size F ∧ Bw w w') (fun s i _ => n - (intOf i).toNat)
  case atStart => exact ⟨0, _, by omega, rfl, hv0, ⟨by simp, by simp⟩, (Bw.refl _).alloc _⟩
  case round =>
    obtain ⟨k, F, hk, rfl, hv, hF, hb⟩ := hrel
    by_cases hlt : k < n
    · obtain ⟨x, hx⟩ := get_of_lt (xs := xs) (k := k) (by rw [← L1.out]; exact hlt)
      have hxm := hnn x (List.mem_of_getElem? hx)
      obtain ⟨ba, oa, Al, cl, Ap, cp, rfl, _, d0, d1, d2, d3, d4, d5, hi1, hi2⟩ := rNodes_at h hx
      have c0 := hb.cell d0
      have c1 := hb.cell d1
      have c2 := hb.cell d2
      have c3 := hb.cell d3
      have c4 := hb.cell d4
      have c5 := hb.cell d5
      have HS := Lib.hid (take_snoc_at hx)
      have hkl : (xs.take k).length = k := by rw [List.length_take]; have := L1.out; omega
      have HK := Lib.hid hkl
      have i1 : (0 : Int) ≤ (k : Int) := by omega
      have i2 : (k : Int) < (n : Int) := by omega
      have hin1 : Rd rInts wr.drew x.wish.list [.slice Al x.wish.list.length cl] := Rd.bw rInts_good hi1 hb.drew
      have hin2 : Rd rPairs wr.drew x.wish.pairs [.slice Ap x.wish.pairs.length cp] := Rd.bw rPairs_good hi2 hb.drew
      have D1 : Bw wr wr.drew := (Bw.refl wr).drew
      clear hx h hnn hv0 hkl hi1 hi2
      have hFm := (fNodes_good (B := 0)).lt hv
      go_wp2_with fail
      go_region_held3 (fun w' => w'.cell? ⟨ba, oa + k * 6, none⟩ = some (.int .i64 x.op) ∧ w'.cell? ⟨ba, oa + k * 6 + 1, none⟩ = some (.int .i64 x.wish.kind) ∧ w'.cell? ⟨ba, oa + k * 6 + 2, none⟩ = some (.int .i64 x.wish.field) ∧ w'.cell? ⟨ba, oa + k * 6 + 3, none⟩ = some (.int .i64 x.wish.value) ∧ w'.cell? ⟨ba, oa + k * 6 + 4, none⟩ = some (.slice Al x.wish.list.length cl) ∧ w'.cell? ⟨ba, oa + k * 6 + 5, none⟩ = some (.slice Ap x.wish.pairs.length cp)) (first | go_keep | exact ⟨c0, c1, c2, c3, c4, c5⟩ | exact ⟨hAl.cell c0, hAl.cell c1, hAl.cell c2, hAl.cell c3, hAl.cell c4, hAl.cell c5⟩ | exact ⟨hb'.cell d0, hb'.cell d1, hb'.cell d2, hb'.cell d3, hb'.cell d4, hb'.cell d5⟩ | fail)
        (first
          | (go_at_call 173; refine (S_l5Wish _ x.wish _ _ hin1 hin2 hxm.1 hxm.2).mono ?_; rintro e w1 ⟨cs, F1, rfl, ⟨v2, u2, G2, H2, rfl, o21, o22, rfl⟩, f1, hb1⟩; obtain ⟨Al2, cl2, rfl, _⟩ := rSl_shape (fInts_Rd o21); obtain ⟨Ap2, cp2, rfl, _⟩ := rSl_shape (fPairs_Rd o22); have o1 : fWish w1 x.wish [.int .i64 x.wish.kind, .int .i64 x.wish.field, .int .i64 x.wish.value, .slice Al2 x.wish.list.length cl2, .slice Ap2 x.wish.pairs.length cp2] (G2 ++ H2) := ⟨_, _, G2, H2, rfl, o21, o22, rfl⟩; replace c0 := hb1.cell c0; replace c1 := hb1.cell c1; replace c2 := hb1.cell c2; replace c3 := hb1.cell c3; replace c4 := hb1.cell c4; replace c5 := hb1.cell c5; have hb1' := D1.then hb1; have hbb := hb.then hb1'; have hv1 := (fNodes_good (B := w.heap.size)).bw hb1' hb.size hv; have hAl := (Bw.refl w1).alloc (.cells #[.int .i64 x.op, .int .i64 x.wish.kind, .int .i64 x.wish.field, .int .i64 x.wish.value, .slice Al2 x.wish.list.length cl2, .slice Ap2 x.wish.pairs.length cp2] 111); have hvW := (fNodes_good (B := w.heap.size)).bw hAl hbb.size hv1; have oW := (fWish_good (B := w.heap.size)).bw hAl hbb.size o1; have hbW := hbb.then hAl; have f1' : Fresh wr.heap.size (G2 ++ H2) := f1.mono (by simp); have hcl : ∀ j t, [Value.int .i64 x.op, .int .i64 x.wish.kind, .int .i64 x.wish.field, .int .i64 x.wish.value, .slice Al2 x.wish.list.length cl2, .slice Ap2 x.wish.pairs.length cp2][j]? = some t → (w1.alloc (.cells #[.int .i64 x.op, .int .i64 x.wish.kind, .int .i64 x.wish.field, .int .i64 x.wish.value, .slice Al2 x.wish.list.length cl2, .slice Ap2 x.wish.pairs.length cp2] 111)).cell? ((⟨w1.heap.size, 0, none⟩ : Addr).add j) = some t := World.news_of_block (cs := #[.int .i64 x.op, .int .i64 x.wish.kind, .int .i64 x.wish.field, .int .i64 x.wish.value, .slice Al2 x.wish.list.length cl2, .slice Ap2 x.wish.pairs.length cp2]) (t := 111) (fr := (0, 0)) (heap_alloc_new w1 _))
          | (refine step_push _ (by rfl) (.tmp 12) (.tmp 25) 25 (by rfl) w 111 i0 _ 6 80 Tryz.underlying25 hi hz0 hz1 hz2 rfl (by omega) fNode_good _ (xs.take k) F (by rfl) hvW hF ⟨w1.heap.size, 0, none⟩ 1 (by rfl) x [.int .i64 x.op, .int .i64 x.wish.kind, .int .i64 x.wish.field, .int .i64 x.wish.value, .slice Al2 x.wish.list.length cl2, .slice Ap2 x.wish.pairs.length cp2] (G2 ++ H2) hcl ⟨_, rfl, oW⟩ rfl wr.heap.size hFm f1' hb.size (by rw [HK.out]; omega) (by rw [HK.out]; omega) hbW ?_; intro v' w' F' hv' hF' hb')
          | fail)
      go_wp2
      go_roundw
      case rel => exact ⟨k + 1, F', by omega, by go_num, by rw [HS.out]; exact hv', hF', hb'⟩
      case measure => simp [intOf]; omega
    · obtain rfl : k = n := by omega
      rw [List.take_of_length_le (by rw [← L1.out]; exact Nat.le_refl _)] at hv
      go_wp2
      go_ret
      exact ⟨_, rfl, ⟨F, hv, hF⟩, hb⟩
set_option maxRecDepth 100000 in
set_option maxHeartbeats 3200000 in
theorem I_copyNodes (w : World) (xs : List GNode) (v : Value) (h : Rd rNodes w xs [v]) (ht : totNodes xs ≤ 1048576) : Calls Tryz.prog 108 #[v] w (RetV w (Made fNodes w.heap.size xs)) := by
  obtain ⟨hn, hnn⟩ := node_lens ht
  clear ht
  obtain ⟨i0, hi, hz0, hz1, hz2⟩ := info_parts info_Node
  obtain ⟨A, n, c, rfl, a1, a2, a3⟩ := rSl_open h
  rw [← a1] at hn
  have L1 := Lib.hid a1
  clear a1
  have hv0 := fSl_empty (e := 111) (sz := 6) (R := fNode) w
  go_enter Tryz.func108, Tryz.ntmps108
  go_wp2
  go_loopw [3, 9] (fun s i w' => ∃ (k : Nat) (F : List Nat), k ≤ n ∧ i = .int .i64 k ∧ fNodes w' (xs.take k) [s] F ∧ Fresh w.heap.size F ∧ Bw w w') (fun s i _ => n - (intOf i).toNat)
  case atStart => exact ⟨0, _, by omega, rfl, hv0, ⟨by simp, by simp⟩, (Bw.refl _).alloc _⟩
  case round =>
    obtain ⟨k, F, hk, rfl, hv, hF, hb⟩ := hrel
    by_cases hlt : k < n
    · obtain ⟨x, hx⟩ := get_of_lt (xs := xs) (k := k) (by rw [← L1.out]; exact hlt)
      have hxm := hnn x (List.mem_of_getElem? hx)
      obtain ⟨ba, oa, Al, cl, Ap, cp, rfl, _, d0, d1, d2, d3, d4, d5, hi1, hi2⟩ := rNodes_at h hx
      replace d0 := hb.cell d0
      replace d1 := hb.cell d1
      replace d2 := hb.cell d2
      replace d3 := hb.cell d3
      replace d4 := hb.cell d4
      replace d5 := hb.cell d5
      have HS := Lib.hid (take_snoc_at hx)
      have hkl : (xs.take k).length = k := by rw [List.length_take]; have := L1.out; omega
      have HK := Lib.hid hkl
      have i1 : (0 : Int) ≤ (k : Int) := by omega
      have i2 : (k : Int) < (n : Int) := by omega
      obtain ⟨Y, hY⟩ : ∃ Y, Y = wr.alloc (.cells #[.int .i64 x.op, .int .i64 x.wish.kind, .int .i64 x.wish.field, .int .i64 x.wish.value, .slice Al x.wish.list.length cl, .slice Ap x.wish.pairs.length cp] 111) := ⟨_, rfl⟩
      have D1 : Bw wr Y.drew := by rw [hY]; exact ((Bw.refl wr).alloc _).drew
      have c0 : Y.drew.cell? ⟨wr.heap.size, 0, none⟩ = some (.int .i64 x.op) := by rw [hY]; go_simp
      have c1 : Y.drew.cell? ⟨wr.heap.size, 1, none⟩ = some (.int .i64 x.wish.kind) := by rw [hY]; go_simp
      have c2 : Y.drew.cell? ⟨wr.heap.size, 2, none⟩ = some (.int .i64 x.wish.field) := by rw [hY]; go_simp
      have c3 : Y.drew.cell? ⟨wr.heap.size, 3, none⟩ = some (.int .i64 x.wish.value) := by rw [hY]; go_simp
      have c4 : Y.drew.cell? ⟨wr.heap.size, 4, none⟩ = some (.slice Al x.wish.list.length cl) := by rw [hY]; go_simp
      have c5 : Y.drew.cell? ⟨wr.heap.size, 5, none⟩ = some (.slice Ap x.wish.pairs.length cp) := by rw [hY]; go_simp
      have HY := Lib.hid hY
      have hYs : Y.drew.heap.size = wr.heap.size + 1 := by rw [hY]; simp
      have HYS := Lib.hid hYs
      have hin1 : Rd rInts Y.drew x.wish.list [.slice Al x.wish.list.length cl] := Rd.bw rInts_good hi1 (hb.then D1)
      have hin2 : Rd rPairs Y.drew x.wish.pairs [.slice Ap x.wish.pairs.length cp] := Rd.bw rPairs_good hi2 (hb.then D1)
      have hFm := (fNodes_good (B := 0)).lt hv
      have hFn : wr.heap.size ∉ F := fun e => by have := hFm _ e; omega
      clear hx h hnn hv0 hkl hi1 hi2 hY hYs
      go_wp2_with fail
      rw [← HY.out]
      go_region_held3 (fun w' => w'.cell? ⟨wr.heap.size, 0, none⟩ = some (.int .i64 x.op) ∧ w'.cell? ⟨wr.heap.size, 1, none⟩ = some (.int .i64 x.wish.kind) ∧ w'.cell? ⟨wr.heap.size, 2, none⟩ = some (.int .i64 x.wish.field) ∧ w'.cell? ⟨wr.heap.size, 3, none⟩ = some (.int .i64 x.wish.value) ∧ w'.cell? ⟨wr.heap.size, 4, none⟩ = some (.slice Al x.wish.list.length cl) ∧ w'.cell? ⟨wr.heap.size, 5, none⟩ = some (.slice Ap x.wish.pairs.length cp)) (first | exact ⟨c0, c1, c2, c3, c4, c5⟩ | exact ⟨hAl.cell c0, hAl.cell c1, hAl.cell c2, hAl.cell c3, hAl.cell c4, hAl.cell c5⟩ | exact ⟨n0, n1, n2, n3, n4, n5⟩ | go_keep)
        (first
          | (go_at_call 172; refine (I_copyWish _ x.wish _ _ hin1 hin2 hxm.1 hxm.2).mono ?_; rintro e w1 ⟨cs, F1, rfl, ⟨v2, u2, G2, H2, rfl, o21, o22, rfl⟩, f1, hb1⟩; obtain ⟨Al2, cl2, rfl, _⟩ := rSl_shape (fInts_Rd o21); obtain ⟨Ap2, cp2, rfl, _⟩ := rSl_shape (fPairs_Rd o22); have o1 : fWish w1 x.wish [.int .i64 x.wish.kind, .int .i64 x.wish.field, .int .i64 x.wish.value, .slice Al2 x.wish.list.length cl2, .slice Ap2 x.wish.pairs.length cp2] (G2 ++ H2) := ⟨_, _, G2, H2, rfl, o21, o22, rfl⟩; replace c0 := hb1.cell c0; replace c1 := hb1.cell c1; replace c2 := hb1.cell c2; replace c3 := hb1.cell c3; replace c4 := hb1.cell c4; replace c5 := hb1.cell c5; have hb1' := D1.then hb1; have hbb := hb.then hb1'; have hv1 := (fNodes_good (B := w.heap.size)).bw hb1' hb.size hv; have hAl := (Bw.refl w1).alloc (.cells #[.int .i64 x.op, .int .i64 x.wish.kind, .int .i64 x.wish.field, .int .i64 x.wish.value, .slice Al2 x.wish.list.length cl2, .slice Ap2 x.wish.pairs.length cp2] 111); have hvW := (fNodes_good (B := w.heap.size)).bw hAl hbb.size hv1; have oW := (fWish_good (B := w.heap.size)).bw hAl hbb.size o1; have hbW := hbb.then hAl; have f1' : Fresh wr.heap.size (G2 ++ H2) := f1.mono (by have := HYS.out; omega); have hcl : ∀ j t, [Value.int .i64 x.op, .int .i64 x.wish.kind, .int .i64 x.wish.field, .int .i64 x.wish.value, .slice Al2 x.wish.list.length cl2, .slice Ap2 x.wish.pairs.length cp2][j]? = some t → (w1.alloc (.cells #[.int .i64 x.op, .int .i64 x.wish.kind, .int .i64 x.wish.field, .int .i64 x.wish.value, .slice Al2 x.wish.list.length cl2, .slice Ap2 x.wish.pairs.length cp2] 111)).cell? ((⟨w1.heap.size, 0, none⟩ : Addr).add j) = some t := World.news_of_block (cs := #[.int .i64 x.op, .int .i64 x.wish.kind, .int .i64 x.wish.field, .int .i64 x.wish.value, .slice Al2 x.wish.list.length cl2, .slice Ap2 x.wish.pairs.length cp2]) (t := 111) (fr := (0, 0)) (heap_alloc_new w1 _))
          | (refine step_push2 _ (by rfl) (.tmp 13) (.tmp 20) 25 (by rfl) w 111 i0 _ 6 80 Tryz.underlying25 hi hz0 hz1 hz2 rfl (by omega) fNode_good _ (xs.take k) F (by rfl) hvW hF ⟨w1.heap.size, 0, none⟩ 1 (by rfl) x [.int .i64 x.op, .int .i64 x.wish.kind, .int .i64 x.wish.field, .int .i64 x.wish.value, .slice Al2 x.wish.list.length cl2, .slice Ap2 x.wish.pairs.length cp2] (G2 ++ H2) hcl ⟨_, rfl, oW⟩ rfl wr.heap.size hFm f1' hb.size (by rw [HK.out]; omega) (by rw [HK.out]; omega) hbW ?_; intro v' w' F' hv' hF' hb' hO' _; have n0 := hO'.cell (hAl.cell c0) hFn; have n1 := hO'.cell (hAl.cell c1) hFn; have n2 := hO'.cell (hAl.cell c2) hFn; have n3 := hO'.cell (hAl.cell c3) hFn; have n4 := hO'.cell (hAl.cell c4) hFn; have n5 := hO'.cell (hAl.cell c5) hFn)
          | fail)
      go_wp2
      go_roundw
      case rel => exact ⟨k + 1, F', by omega, by go_num, by rw [HS.out]; exact hv', hF', hb'⟩
      case measure => simp [intOf]; omega
    · obtain rfl : k = n := by omega
      rw [List.take_of_length_le (by rw [← L1.out]; exact Nat.le_refl _)] at hv
      go_wp2
      go_ret
      exact ⟨_, rfl, ⟨F, hv, hF⟩, hb⟩
end Go.Proofs.YtpihighajaeabaaGreat
