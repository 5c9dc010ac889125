/- Copies of standing answers, in both programs. -/
import Derived.Test.YtfffklkiikmieaaGreatQDelM
import Derived.Test.YtfffklkiikmieaaGreatQCopies
import Derived.Test.YtfffklkiikmieaaGreatQSortT
namespace Go.Proofs.YtfffklkiikmieaaGreat
open Go.RowKit
set_option linter.unusedVariables false
set_option linter.unusedSimpArgs false
set_option maxRecDepth 100000 in
set_option maxHeartbeats 3200000 in
theorem I_copyStanding (w : World) (s : GStanding) (va vb vc : Value) (ha : Rd rItems w s.items [va]) (hb : Rd rNodes w s.wanted [vb]) (hc : Rd rInts w s.best [vc]) (t1 : totItems s.items ≤ 1048576) (t2 : totNodes s.wanted ≤ 1048576) (t3 : s.best.length ≤ 1048576) :
    Calls Tryz.prog 61 #[.agg #[va, vb, vc, .int .i64 s.tests]] w (RetA fStanding w s) := by
  obtain ⟨W, hW⟩ : ∃ W, W = ((w.alloc (.cells #[va, vb, vc, .int .i64 s.tests] 47)).alloc (.cells #[.slice none 0 0, .slice none 0 0, .slice none 0 0, .int .i64 0] 47)).drew := ⟨_, rfl⟩
  have A0 : Bw w W := by rw [hW]; exact (((Bw.refl w).alloc _).alloc _).drew
  have k0 : W.cell? ⟨w.heap.size, 0, none⟩ = some va := by rw [hW]; go_simp
  have k1 : W.cell? ⟨w.heap.size, 1, none⟩ = some vb := by rw [hW]; go_simp
  have k2 : W.cell? ⟨w.heap.size, 2, none⟩ = some vc := by rw [hW]; go_simp
  have k3 : W.cell? ⟨w.heap.size, 3, none⟩ = some (.int .i64 s.tests) := by rw [hW]; go_simp
  have bR : Box W (w.heap.size + 1) [.slice none 0 0, .slice none 0 0, .slice none 0 0, .int .i64 0] := by
    have := Box.new (w.alloc (.cells #[va, vb, vc, .int .i64 s.tests] 47)) #[.slice none 0 0, .slice none 0 0, .slice none 0 0, .int .i64 0] 47
    rw [show (w.alloc (.cells #[va, vb, vc, .int .i64 s.tests] 47)).heap.size = w.heap.size + 1 from by simp] at this
    rw [hW]; exact this.bw (Bw.refl _).drew
  have z0 : W.heap.size = w.heap.size + 2 := by rw [hW]; simp
  have c1 := I_copyItems W s.items va (ha.bw rItems_good A0) t1
  have c2 := Lib.hid (fun W' (B : Bw W W') => I_copyNodes W' s.wanted vb (hb.bw rNodes_good (A0.then B)) t2)
  have c3 := Lib.hid (fun W' (B : Bw W W') => I_copyInts W' s.best vc (hc.bw rInts_good (A0.then B)) t3)
  have HW := Lib.hid hW
  clear hW ha hb hc
  go_enter Tryz.func61, Tryz.ntmps61
  go_wp2
  go_region_held3 (fun w' => w'.cell? ⟨w.heap.size, 0, none⟩ = some va ∧ w'.cell? ⟨w.heap.size, 1, none⟩ = some vb ∧ w'.cell? ⟨w.heap.size, 2, none⟩ = some vc ∧ w'.cell? ⟨w.heap.size, 3, none⟩ = some (.int .i64 s.tests)) (first | go_keep | exact ⟨k0, k1, k2, k3⟩ | (rw [HW.out] at k0 k1 k2 k3; exact ⟨k0, k1, k2, k3⟩))
    (first
      | (go_at_call 101; rw [← HW.out]; refine c1.mono ?_; rintro e w1 ⟨v1, rfl, ⟨F1, o1, f1⟩, hb1⟩; obtain ⟨A1, d1, rfl, _⟩ := rSl_shape (fItems_Rd o1); replace k0 := hb1.cell k0; replace k1 := hb1.cell k1; replace k2 := hb1.cell k2; replace k3 := hb1.cell k3)
      | (go_at_call 102; refine (c2.out _ hb1).mono ?_; rintro e w2 ⟨v2, rfl, ⟨F2, o2, f2⟩, hb2⟩; obtain ⟨A2, d2, rfl, _⟩ := rSl_shape (fNodes_Rd o2); replace k0 := hb2.cell k0; replace k1 := hb2.cell k1; replace k2 := hb2.cell k2; replace k3 := hb2.cell k3; have hb12 := hb1.then hb2)
      | (go_at_call 66; refine (c3.out _ hb12).mono ?_; rintro e w3 ⟨v3, rfl, ⟨F3, o3, f3⟩, hb3⟩; obtain ⟨A3, d3, rfl, _⟩ := rSl_shape (fInts_Rd o3); replace k0 := hb3.cell k0; replace k1 := hb3.cell k1; replace k2 := hb3.cell k2; replace k3 := hb3.cell k3; have hbb := hb12.then hb3; have bR3 := bR.bw hbb; have r0 := bR3.c 0 _ rfl; have r1 := bR3.c 1 _ rfl; have r2 := bR3.c 2 _ rfl; have r3 := bR3.c 3 _ rfl; have rf := bR3.fr))
  have lt1 := (fItems_good (B := 0)).lt o1
  have lt2 := (fNodes_good (B := 0)).lt o2
  have z1 := hb1.size
  have z2 := hb2.size
  have o1' := keepBw (hb2.then hb3) fItems_good o1
  have o2' := keepBw hb3 fNodes_good o2
  have f1z : ∀ b ∈ F1, w.heap.size + 2 ≤ b := fun b hb => by have := f1.ge b hb; omega
  have f2z : ∀ b ∈ F2, w.heap.size + 2 ≤ b := fun b hb => by have := f2.ge b hb; omega
  have f3z : ∀ b ∈ F3, w.heap.size + 2 ≤ b := fun b hb => by have := f3.ge b hb; omega
  have FF : Fresh w.heap.size (F1 ++ (F2 ++ F3)) := Fresh.append (m := w1.heap.size) (f1.mono (by omega)) lt1 (Fresh.append (m := w2.heap.size) f2 lt2 f3 (by omega)) (by omega)
  have B4 := A0.then hbb
  clear bR bR3 c1 c2 c3 o1 o2 hbb hb12 hb1 hb2 hb3
  go_wp2
  refine bodyPost_ret (v := .agg #[.slice A1 s.items.length d1, .slice A2 s.wanted.length d2, .slice A3 s.best.length d3, .int .i64 s.tests]) (by simp [results, Tryz.results61, go_sem, r0, r1, r2, r3]) rfl ⟨_, F1 ++ (F2 ++ F3), rfl, ⟨_, _, _, F1, F2, F3, rfl, ?_, ?_, ?_, rfl⟩, FF, ?_⟩
  · refine (fItems_good (B := 0)).step (fun b hb => ?_) o1'
    rcases hb with hb | hb
    · have := f1z b hb
      repeat rw [Below.heap_setCell _ _ _ _ (by dsimp only; omega)]
    · omega
  · refine (fNodes_good (B := 0)).step (fun b hb => ?_) o2'
    rcases hb with hb | hb
    · have := f2z b hb
      repeat rw [Below.heap_setCell _ _ _ _ (by dsimp only; omega)]
    · omega
  · refine (fInts_good (B := 0)).step (fun b hb => ?_) o3
    rcases hb with hb | hb
    · have := f3z b hb
      repeat rw [Below.heap_setCell _ _ _ _ (by dsimp only; omega)]
    · omega
  · repeat (first | with_reducible exact B4 | with_reducible refine Bw.set ?_ ?_ _)
    all_goals (dsimp only; omega)
/-- three lists under way in one region -/
structure St3 (W X : World) (l : List GItem) (v : Value) (F : List Nat) (e : List GNode) (u : Value) (G : List Nat) (b : List Int) (t : Value) (H : List Nat) : Prop where
  h1 : fItems X l [v] F
  h2 : fNodes X e [u] G
  h3 : fInts X b [t] H
  d1 : ∀ b ∈ F, b ∉ G
  d2 : ∀ b ∈ F, b ∉ H
  d3 : ∀ b ∈ G, b ∉ H
  f1 : Fresh W.heap.size F
  f2 : Fresh W.heap.size G
  f3 : Fresh W.heap.size H
  B : Bw W X
theorem St3.start (W : World) : St3 W W [] (.slice none 0 0) [] [] (.slice none 0 0) [] [] (.slice none 0 0) [] := ⟨fSl_nil _, fSl_nil _, fSl_nil _, by simp, by simp, by simp, Fresh.nil, Fresh.nil, Fresh.nil, Bw.refl W⟩
theorem St3.call1 {W X X' : World} {l l' v v' F F' e u G b t H} (p : St3 W X l v F e u G b t H) (hb : Bw X X') (o : fItems X' l' [v'] F') (f : Fresh X.heap.size F') : St3 W X' l' v' F' e u G b t H :=
  ⟨o, keepBw hb fNodes_good p.h2, keepBw hb fInts_good p.h3, fun c h1 h2 => by have := f.ge c h1; have := (fNodes_good (B := 0)).lt p.h2 c h2; omega, fun c h1 h2 => by have := f.ge c h1; have := (fInts_good (B := 0)).lt p.h3 c h2; omega, p.d3, f.mono p.B.size, p.f2, p.f3, p.B.then hb⟩
theorem St3.call2 {W X X' : World} {l v F e e' u u' G G' b t H} (p : St3 W X l v F e u G b t H) (hb : Bw X X') (o : fNodes X' e' [u'] G') (f : Fresh X.heap.size G') : St3 W X' l v F e' u' G' b t H :=
  ⟨keepBw hb fItems_good p.h1, o, keepBw hb fInts_good p.h3, fun c h1 h2 => by have := f.ge c h2; have := (fItems_good (B := 0)).lt p.h1 c h1; omega, p.d2, fun c h1 h2 => by have := f.ge c h1; have := (fInts_good (B := 0)).lt p.h3 c h2; omega, p.f1, f.mono p.B.size, p.f3, p.B.then hb⟩
theorem St3.row3 {W X : World} {l v F e u G b t H} (p : St3 W X l v F e u G b t H) : St3 W (X.alloc (.cells #[] 3)) l v F e u G [] (.slice (some ⟨X.heap.size, 0, none⟩) 0 0) [X.heap.size] := by
  have A : Bw X (X.alloc (.cells #[] 3)) := (Bw.refl X).alloc _
  have hs := p.B.size
  exact ⟨keepBw A fItems_good p.h1, keepBw A fNodes_good p.h2, fSl_empty X, p.d1, fun c h1 h2 => by have := (fItems_good (B := 0)).lt p.h1 c h1; simp at h2; omega, fun c h1 h2 => by have := (fNodes_good (B := 0)).lt p.h2 c h1; simp at h2; omega, p.f1, p.f2, ⟨by simp, by simpa using hs⟩, p.B.then A⟩
theorem St3.ret {w W X : World} {s : GStanding} {A1 A2 A3 : Option Addr} {d1 d2 d3 : Nat} {F G H : List Nat} {a0 a1 a2 a3 : Value} (p : St3 W X s.items (.slice A1 s.items.length d1) F s.wanted (.slice A2 s.wanted.length d2) G s.best (.slice A3 s.best.length d3) H) (A0 : Bw w W) (hz : W.heap.size = w.heap.size + 2) :
    RetA fStanding w s (.returned (.agg #[.slice A1 s.items.length d1, .slice A2 s.wanted.length d2, .slice A3 s.best.length d3, .int .i64 s.tests])) (set4 X (w.heap.size + 1) a0 a1 a2 a3) := by
  obtain ⟨h1, h2, h3, e1, e2, e3, f1, f2, f3, B⟩ := p
  have nF : w.heap.size + 1 ∉ F := fun h => by have := f1.ge _ h; omega
  have nG : w.heap.size + 1 ∉ G := fun h => by have := f2.ge _ h; omega
  have nH : w.heap.size + 1 ∉ H := fun h => by have := f3.ge _ h; omega
  refine ⟨[.slice A1 s.items.length d1, .slice A2 s.wanted.length d2, .slice A3 s.best.length d3, .int .i64 s.tests], F ++ (G ++ H), rfl, ⟨_, _, _, F, G, H, rfl, keepSet4 fItems_good h1 nF, keepSet4 fNodes_good h2 nG, keepSet4 fInts_good h3 nH, rfl⟩, ⟨?_, ?_⟩, (A0.then B).set4 (by omega)⟩
  · rw [List.nodup_append, List.nodup_append]
    refine ⟨f1.nodup, ⟨f2.nodup, f3.nodup, fun a ha b hb e => e3 a ha (e ▸ hb)⟩, fun a ha b hb e => ?_⟩
    rcases List.mem_append.1 hb with hb | hb
    · exact e1 a ha (e ▸ hb)
    · exact e2 a ha (e ▸ hb)
  · intro b hb
    rcases List.mem_append.1 hb with hb | hb
    · have := f1.ge b hb; omega
    · rcases List.mem_append.1 hb with hb | hb
      · have := f2.ge b hb; omega
      · have := f3.ge b hb; omega
section
variable {ops : Array Oper} {o : Oper} {a : Act} {K : Act → World → Prop} {Q : Exit → Act → World → Prop} {E : Prop}
theorem St3.app3 {W X : World} {l v F e u G t H} (p : St3 W X l v F e u G [] t H) (s x : Operand) (hgd : o.guard = none) (ho : o.op = .call { callee := .builtin .append, args := #[s, x], argTypes := #[41, 41] })
    (hs : a.eval s = t) (sv : Value) (hx : a.eval x = sv) (ys : List Int) (hsrc : Rd rInts W ys [sv]) (hn : ys.length ≤ 1048576)
    (h : ∀ A c w' H', St3 W w' l v F e u G ys (.slice A ys.length c) H' → K (a.put o.dst (.slice A ys.length c)) w') : if Region.wanted o (yielded ops a.tmps) = true then Oper.wp Tryz.prog o a X K Q else E := by
  obtain ⟨i0, hi0, hx0, hx1, hx2⟩ := info_parts info_int
  refine step_append_all X hgd s x 41 ho W 3 i0 _ 1 8 Tryz.underlying41 hi0 hx0 hx1 hx2 rfl (by omega) fInt_good t [] H hs p.h3 p.f3 sv hx ys (hsrc.bw rInts_good p.B) (fun y u h => ⟨h, rfl⟩) (by simp; omega) (by simp; omega) p.B ?_
  intro v' w' F' o1 f1 hb hO hF
  rw [List.nil_append] at o1
  obtain ⟨A, c, rfl, _⟩ := rSl_shape (fInts_Rd o1)
  refine h A c w' F' ⟨hO.keeps fItems_good p.h1 p.d2, hO.keeps fNodes_good p.h2 p.d3, o1, p.d1, fun b hb hg => ?_, fun b hb hg => ?_, p.f1, p.f2, f1, hb⟩
  · rcases hF b hg with h | h
    · exact p.d2 b hb h
    · have := (fItems_good (B := 0)).lt p.h1 b hb; omega
  · rcases hF b hg with h | h
    · exact p.d3 b hb h
    · have := (fNodes_good (B := 0)).lt p.h2 b hb; omega
end
set_option maxRecDepth 100000 in
set_option maxHeartbeats 6400000 in
theorem S_l15Copy (w : World) (s : GStanding) (va vb vc : Value) (ha : Rd rItems w s.items [va]) (hb : Rd rNodes w s.wanted [vb]) (hc : Rd rInts w s.best [vc]) (t1 : totItems s.items ≤ 1048576) (t2 : totNodes s.wanted ≤ 1048576) (t3 : s.best.length ≤ 1048576) :
    Calls Tryz.prog 51 #[.agg #[va, vb, vc, .int .i64 s.tests]] w (RetA fStanding w s) := by
  obtain ⟨Z, hZ⟩ : ∃ Z, Z = ((w.alloc (.cells #[va, vb, vc, .int .i64 s.tests] 47)).alloc (.cells #[.slice none 0 0, .slice none 0 0, .slice none 0 0, .int .i64 0] 47)) := ⟨_, rfl⟩
  have A0 : Bw w Z.drew := by rw [hZ]; exact (((Bw.refl w).alloc _).alloc _).drew
  have y0 : Z.cell? ⟨w.heap.size, 0, none⟩ = some va := by rw [hZ]; go_simp
  have y1 : Z.cell? ⟨w.heap.size, 1, none⟩ = some vb := by rw [hZ]; go_simp
  have y2 : Z.cell? ⟨w.heap.size, 2, none⟩ = some vc := by rw [hZ]; go_simp
  have y3 : Z.cell? ⟨w.heap.size, 3, none⟩ = some (.int .i64 s.tests) := by rw [hZ]; go_simp
  have k0 : Z.drew.cell? ⟨w.heap.size, 0, none⟩ = some va := by rw [hZ]; go_simp
  have k1 : Z.drew.cell? ⟨w.heap.size, 1, none⟩ = some vb := by rw [hZ]; go_simp
  have k2 : Z.drew.cell? ⟨w.heap.size, 2, none⟩ = some vc := by rw [hZ]; go_simp
  have k3 : Z.drew.cell? ⟨w.heap.size, 3, none⟩ = some (.int .i64 s.tests) := by rw [hZ]; go_simp
  have bR : Box Z.drew (w.heap.size + 1) [.slice none 0 0, .slice none 0 0, .slice none 0 0, .int .i64 0] := by
    have := Box.new (w.alloc (.cells #[va, vb, vc, .int .i64 s.tests] 47)) #[.slice none 0 0, .slice none 0 0, .slice none 0 0, .int .i64 0] 47
    rw [show (w.alloc (.cells #[va, vb, vc, .int .i64 s.tests] 47)).heap.size = w.heap.size + 1 from by simp] at this
    rw [hZ]; exact this.bw (Bw.refl _).drew
  have z0 : Z.drew.heap.size = w.heap.size + 2 := by rw [hZ]; simp
  have c1 := fun W' (B : Bw Z.drew W') => S_l2Copy W' s.items va (ha.bw rItems_good (A0.then B)) t1
  have c2 := fun W' (B : Bw Z.drew W') => S_l5Copy W' s.wanted vb (hb.bw rNodes_good (A0.then B)) t2
  have hs3 : Rd rInts Z.drew s.best [vc] := hc.bw rInts_good A0
  have HW := Lib.hid hZ
  have HSZ := Lib.hid z0
  have p := St3.start Z.drew
  clear hZ ha hb hc z0
  go_enter Tryz.func51, Tryz.ntmps51
  go_wp2
  rw [← HW.out]
  go_region_held3 (fun w' => w'.cell? ⟨w.heap.size, 0, none⟩ = some va ∧ w'.cell? ⟨w.heap.size, 1, none⟩ = some vb ∧ w'.cell? ⟨w.heap.size, 2, none⟩ = some vc ∧ w'.cell? ⟨w.heap.size, 3, none⟩ = some (.int .i64 s.tests)) (first | go_keep | exact ⟨k0, k1, k2, k3⟩ | exact ⟨e0, e1, e2, e3⟩ | (have HB := p.B; exact ⟨HB.cell k0, HB.cell k1, HB.cell k2, HB.cell k3⟩))
    (first
      | (go_at_call 96; first
          | (refine (c1 _ p.B).mono ?_; rintro e' w2 ⟨v2, rfl, ⟨F2, o2, f2⟩, hb2⟩; obtain ⟨A1, d1, rfl, _⟩ := rSl_shape (fItems_Rd o2); replace p := p.call1 hb2 o2 f2; clear o2 f2 hb2; (try clear e0 e1 e2 e3 g0 g1 g2 g3 gf); have HB := p.B; have e0 := HB.cell k0; have e1 := HB.cell k1; have e2 := HB.cell k2; have e3 := HB.cell k3; have bX := bR.bw HB; have g0 := bX.c 0 _ rfl; have g1 := bX.c 1 _ rfl; have g2 := bX.c 2 _ rfl; have g3 := bX.c 3 _ rfl; have gf := bX.fr; clear HB bX)
          | (refine (c1 _ p.row3.B).mono ?_; rintro e' w2 ⟨v2, rfl, ⟨F2, o2, f2⟩, hb2⟩; obtain ⟨A1, d1, rfl, _⟩ := rSl_shape (fItems_Rd o2); replace p := p.row3.call1 hb2 o2 f2; clear o2 f2 hb2; (try clear e0 e1 e2 e3 g0 g1 g2 g3 gf); have HB := p.B; have e0 := HB.cell k0; have e1 := HB.cell k1; have e2 := HB.cell k2; have e3 := HB.cell k3; have bX := bR.bw HB; have g0 := bX.c 0 _ rfl; have g1 := bX.c 1 _ rfl; have g2 := bX.c 2 _ rfl; have g3 := bX.c 3 _ rfl; have gf := bX.fr; clear HB bX))
      | (go_at_call 97; first
          | (refine (c2 _ p.B).mono ?_; rintro e' w2 ⟨v2, rfl, ⟨F2, o2, f2⟩, hb2⟩; obtain ⟨A2, d2, rfl, _⟩ := rSl_shape (fNodes_Rd o2); replace p := p.call2 hb2 o2 f2; clear o2 f2 hb2; (try clear e0 e1 e2 e3 g0 g1 g2 g3 gf); have HB := p.B; have e0 := HB.cell k0; have e1 := HB.cell k1; have e2 := HB.cell k2; have e3 := HB.cell k3; have bX := bR.bw HB; have g0 := bX.c 0 _ rfl; have g1 := bX.c 1 _ rfl; have g2 := bX.c 2 _ rfl; have g3 := bX.c 3 _ rfl; have gf := bX.fr; clear HB bX)
          | (refine (c2 _ p.row3.B).mono ?_; rintro e' w2 ⟨v2, rfl, ⟨F2, o2, f2⟩, hb2⟩; obtain ⟨A2, d2, rfl, _⟩ := rSl_shape (fNodes_Rd o2); replace p := p.row3.call2 hb2 o2 f2; clear o2 f2 hb2; (try clear e0 e1 e2 e3 g0 g1 g2 g3 gf); have HB := p.B; have e0 := HB.cell k0; have e1 := HB.cell k1; have e2 := HB.cell k2; have e3 := HB.cell k3; have bX := bR.bw HB; have g0 := bX.c 0 _ rfl; have g1 := bX.c 1 _ rfl; have g2 := bX.c 2 _ rfl; have g3 := bX.c 3 _ rfl; have gf := bX.fr; clear HB bX))
      | ((first
        | refine St3.app3 p (.tmp 9) (.tmp 11) rfl rfl (by first | rfl | (go_simp; done)) _ (by rfl) s.best hs3 t3 ?_
        | refine St3.app3 p.row3 (.tmp 9) (.tmp 11) rfl rfl (by first | rfl | (go_simp; done)) _ (by rfl) s.best hs3 t3 ?_); clear p; intro A3 d3 w2 H2 p; (try clear e0 e1 e2 e3 g0 g1 g2 g3 gf); have HB := p.B; have e0 := HB.cell k0; have e1 := HB.cell k1; have e2 := HB.cell k2; have e3 := HB.cell k3; have bX := bR.bw HB; have g0 := bX.c 0 _ rfl; have g1 := bX.c 1 _ rfl; have g2 := bX.c 2 _ rfl; have g3 := bX.c 3 _ rfl; have gf := bX.fr; clear HB bX))
  all_goals
    go_wp2
    refine bodyPost_ret (v := .agg #[.slice A1 s.items.length d1, .slice A2 s.wanted.length d2, .slice A3 s.best.length d3, .int .i64 s.tests]) (by simp [results, Tryz.results51, go_sem, g0, g1, g2, g3]) rfl (p.ret A0 HSZ.out)
end Go.Proofs.YtfffklkiikmieaaGreat
