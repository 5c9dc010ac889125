/- An item is added to a standing answer, in the reference. -/
import Derived.Test.YtpihighajaeabaaGreatQChangeM
import Derived.Test.YtpihighajaeabaaGreatQDrawD
import Derived.Test.YtpihighajaeabaaGreatQBoxT
import Derived.Test.YtpihighajaeabaaGreatQStandS
import Derived.Test.YtpihighajaeabaaGreatQStandT
namespace Go.Proofs.YtpihighajaeabaaGreat
open Go.RowKit
set_option linter.unusedVariables false
set_option linter.unusedSimpArgs false
/-- three lists under way in one region -/
structure St3 (W X : World) (l : List GItem) (v : Value) (F : List Nat) (e : List GNode) (u : Value) (G : List Nat) (b : List Int) (t : Value) (H : List Nat) : Prop where
  h1 : fItems X l [v] F
  h2 : fNodes X e [u] G
  h3 : fInts X b [t] H
  d1 : ∀ b ∈ F, b ∉ G
  d2 : ∀ b ∈ F, b ∉ H
  d3 : ∀ b ∈ G, b ∉ H
  f1 : Fresh W.heap.size F
  f2 : Fresh W.heap.size G
  f3 : Fresh W.heap.size H
  B : Bw W X
theorem St3.start (W : World) : St3 W W [] (.slice none 0 0) [] [] (.slice none 0 0) [] [] (.slice none 0 0) [] := ⟨fSl_nil _, fSl_nil _, fSl_nil _, by simp, by simp, by simp, Fresh.nil, Fresh.nil, Fresh.nil, Bw.refl W⟩
theorem St3.call1 {W X X' : World} {l l' v v' F F' e u G b t H} (p : St3 W X l v F e u G b t H) (hb : Bw X X') (o : fItems X' l' [v'] F') (f : Fresh X.heap.size F') : St3 W X' l' v' F' e u G b t H :=
  ⟨o, keepBw hb fNodes_good p.h2, keepBw hb fInts_good p.h3, fun c h1 h2 => by have := f.ge c h1; have := (fNodes_good (B := 0)).lt p.h2 c h2; omega, fun c h1 h2 => by have := f.ge c h1; have := (fInts_good (B := 0)).lt p.h3 c h2; omega, p.d3, f.mono p.B.size, p.f2, p.f3, p.B.then hb⟩
theorem St3.call2 {W X X' : World} {l v F e e' u u' G G' b t H} (p : St3 W X l v F e u G b t H) (hb : Bw X X') (o : fNodes X' e' [u'] G') (f : Fresh X.heap.size G') : St3 W X' l v F e' u' G' b t H :=
  ⟨keepBw hb fItems_good p.h1, o, keepBw hb fInts_good p.h3, fun c h1 h2 => by have := f.ge c h2; have := (fItems_good (B := 0)).lt p.h1 c h1; omega, p.d2, fun c h1 h2 => by have := f.ge c h1; have := (fInts_good (B := 0)).lt p.h3 c h2; omega, p.f1, f.mono p.B.size, p.f3, p.B.then hb⟩
theorem St3.row3 {W X : World} {l v F e u G b t H} (p : St3 W X l v F e u G b t H) : St3 W (X.alloc (.cells #[] 3)) l v F e u G [] (.slice (some ⟨X.heap.size, 0, none⟩) 0 0) [X.heap.size] := by
  have A : Bw X (X.alloc (.cells #[] 3)) := (Bw.refl X).alloc _
  have hs := p.B.size
  exact ⟨keepBw A fItems_good p.h1, keepBw A fNodes_good p.h2, fSl_empty X, p.d1, fun c h1 h2 => by have := (fItems_good (B := 0)).lt p.h1 c h1; simp at h2; omega, fun c h1 h2 => by have := (fNodes_good (B := 0)).lt p.h2 c h1; simp at h2; omega, p.f1, p.f2, ⟨by simp, by simpa using hs⟩, p.B.then A⟩
theorem St3.ret {w W X : World} {s : GStanding} {A1 A2 A3 : Option Addr} {d1 d2 d3 : Nat} {F G H : List Nat} {a0 a1 a2 a3 : Value} (p : St3 W X s.items (.slice A1 s.items.length d1) F s.wanted (.slice A2 s.wanted.length d2) G s.best (.slice A3 s.best.length d3) H) (A0 : Bw w W) (hz : W.heap.size = w.heap.size + 2) :
    RetA fStanding w s (.returned (.agg #[.slice A1 s.items.length d1, .slice A2 s.wanted.length d2, .slice A3 s.best.length d3, .int .i64 s.tests])) (set4 X (w.heap.size + 1) a0 a1 a2 a3) := by
  obtain ⟨h1, h2, h3, e1, e2, e3, f1, f2, f3, B⟩ := p
  have nF : w.heap.size + 1 ∉ F := fun h => by have := f1.ge _ h; omega
  have nG : w.heap.size + 1 ∉ G := fun h => by have := f2.ge _ h; omega
  have nH : w.heap.size + 1 ∉ H := fun h => by have := f3.ge _ h; omega
  refine ⟨[.slice A1 s.items.length d1, .slice A2 s.wanted.length d2, .slice A3 s.best.length d3, .int .i64 s.tests], F ++ (G ++ H), rfl, ⟨_, _, _, F, G, H, rfl, keepSet4 fItems_good h1 nF, keepSet4 fNodes_good h2 nG, keepSet4 fInts_good h3 nH, rfl⟩, ⟨?_, ?_⟩, (A0.then B).set4 (by omega)⟩
  · rw [List.nodup_append, List.nodup_append]
    refine ⟨f1.nodup, ⟨f2.nodup, f3.nodup, fun a ha b hb e => e3 a ha (e ▸ hb)⟩, fun a ha b hb e => ?_⟩
    rcases List.mem_append.1 hb with hb | hb
    · exact e1 a ha (e ▸ hb)
    · exact e2 a ha (e ▸ hb)
  · intro b hb
    rcases List.mem_append.1 hb with hb | hb
    · have := f1.ge b hb; omega
    · rcases List.mem_append.1 hb with hb | hb
      · have := f2.ge b hb; omega
      · have := f3.ge b hb; omega
section
variable {ops : Array Oper} {o : Oper} {a : Act} {K : Act → World → Prop} {Q : Exit → Act → World → Prop} {E : Prop}
theorem St3.app3 {W X : World} {l v F e u G t H} (p : St3 W X l v F e u G [] t H) (s x : Operand) (hgd : o.guard = none) (ho : o.op = .call { callee := .builtin .append, args := #[s, x], argTypes := #[26, 26] })
    (hs : a.eval s = t) (sv : Value) (hx : a.eval x = sv) (ys : List Int) (hsrc : Rd rInts W ys [sv]) (hn : ys.length ≤ 1048576)
    (h : ∀ A c w' H', St3 W w' l v F e u G ys (.slice A ys.length c) H' → K (a.put o.dst (.slice A ys.length c)) w') : if Region.wanted o (yielded ops a.tmps) = true then Oper.wp Tryz.prog o a X K Q else E := by
  obtain ⟨i0, hi0, hx0, hx1, hx2⟩ := info_parts info_int
  refine step_append_all X hgd s x 26 ho W 3 i0 _ 1 8 Tryz.underlying26 hi0 hx0 hx1 hx2 rfl (by omega) fInt_good t [] H hs p.h3 p.f3 sv hx ys (hsrc.bw rInts_good p.B) (fun y u h => ⟨h, rfl⟩) (by simp; omega) (by simp; omega) p.B ?_
  intro v' w' F' o1 f1 hb hO hF
  rw [List.nil_append] at o1
  obtain ⟨A, c, rfl, _⟩ := rSl_shape (fInts_Rd o1)
  refine h A c w' F' ⟨hO.keeps fItems_good p.h1 p.d2, hO.keeps fNodes_good p.h2 p.d3, o1, p.d1, fun b hb hg => ?_, fun b hb hg => ?_, p.f1, p.f2, f1, hb⟩
  · rcases hF b hg with h | h
    · exact p.d2 b hb h
    · have := (fItems_good (B := 0)).lt p.h1 b hb; omega
  · rcases hF b hg with h | h
    · exact p.d3 b hb h
    · have := (fNodes_good (B := 0)).lt p.h2 b hb; omega
end
set_option maxRecDepth 100000 in
set_option maxHeartbeats 6400000 in
theorem S_l15Copy (w : World) (s : GStanding) (va vb vc : Value) (ha : Rd rItems w s.items [va]) (hb : Rd rNodes w s.wanted [vb]) (hc : Rd rInts w s.best [vc]) (t1 : totItems s.items ≤ 1048576) (t2 : totNodes s.wanted ≤ 1048576) (t3 : s.best.length ≤ 1048576) :
    Calls Tryz.prog 83 #[.agg #[va, vb, vc, .int .i64 s.tests]] w (RetA fStanding w s) := by
  obtain ⟨Z, hZ⟩ : ∃ Z, Z = ((w.alloc (.cells #[va, vb, vc, .int .i64 s.tests] 28)).alloc (.cells #[.slice none 0 0, .slice none 0 0, .slice none 0 0, .int .i64 0] 28)) := ⟨_, rfl⟩
  have A0 : Bw w Z.drew := by rw [hZ]; exact (((Bw.refl w).alloc _).alloc _).drew
  have y0 : Z.cell? ⟨w.heap.size, 0, none⟩ = some va := by rw [hZ]; go_simp
  have y1 : Z.cell? ⟨w.heap.size, 1, none⟩ = some vb := by rw [hZ]; go_simp
  have y2 : Z.cell? ⟨w.heap.size, 2, none⟩ = some vc := by rw [hZ]; go_simp
  have y3 : Z.cell? ⟨w.heap.size, 3, none⟩ = some (.int .i64 s.tests) := by rw [hZ]; go_simp
  have k0 : Z.drew.cell? ⟨w.heap.size, 0, none⟩ = some va := by rw [hZ]; go_simp
  have k1 : Z.drew.cell? ⟨w.heap.size, 1, none⟩ = some vb := by rw [hZ]; go_simp
  have k2 : Z.drew.cell? ⟨w.heap.size, 2, none⟩ = some vc := by rw [hZ]; go_simp
  have k3 : Z.drew.cell? ⟨w.heap.size, 3, none⟩ = some (.int .i64 s.tests) := by rw [hZ]; go_simp
  have bR : Box Z.drew (w.heap.size + 1) [.slice none 0 0, .slice none 0 0, .slice none 0 0, .int .i64 0] := by
    have := Box.new (w.alloc (.cells #[va, vb, vc, .int .i64 s.tests] 28)) #[.slice none 0 0, .slice none 0 0, .slice none 0 0, .int .i64 0] 28
    rw [show (w.alloc (.cells #[va, vb, vc, .int .i64 s.tests] 28)).heap.size = w.heap.size + 1 from by simp] at this
    rw [hZ]; exact this.bw (Bw.refl _).drew
  have z0 : Z.drew.heap.size = w.heap.size + 2 := by rw [hZ]; simp
  have c1 := fun W' (B : Bw Z.drew W') => S_l2Copy W' s.items va (ha.bw rItems_good (A0.then B)) t1
  have c2 := fun W' (B : Bw Z.drew W') => S_l5Copy W' s.wanted vb (hb.bw rNodes_good (A0.then B)) t2
  have hs3 : Rd rInts Z.drew s.best [vc] := hc.bw rInts_good A0
  have HW := Lib.hid hZ
  have HSZ := Lib.hid z0
  have p := St3.start Z.drew
  clear hZ ha hb hc z0
  go_enter Tryz.func83, Tryz.ntmps83
  go_wp2
  rw [← HW.out]
  go_region_held3 (fun w' => w'.cell? ⟨w.heap.size, 0, none⟩ = some va ∧ w'.cell? ⟨w.heap.size, 1, none⟩ = some vb ∧ w'.cell? ⟨w.heap.size, 2, none⟩ = some vc ∧ w'.cell? ⟨w.heap.size, 3, none⟩ = some (.int .i64 s.tests)) (first | go_keep | exact ⟨k0, k1, k2, k3⟩ | exact ⟨e0, e1, e2, e3⟩ | (have HB := p.B; exact ⟨HB.cell k0, HB.cell k1, HB.cell k2, HB.cell k3⟩))
    (first
      | (go_at_call 109; first
          | (refine (c1 _ p.B).mono ?_; rintro e' w2 ⟨v2, rfl, ⟨F2, o2, f2⟩, hb2⟩; obtain ⟨A1, d1, rfl, _⟩ := rSl_shape (fItems_Rd o2); replace p := p.call1 hb2 o2 f2; clear o2 f2 hb2; (try clear e0 e1 e2 e3 g0 g1 g2 g3 gf); have HB := p.B; have e0 := HB.cell k0; have e1 := HB.cell k1; have e2 := HB.cell k2; have e3 := HB.cell k3; have bX := bR.bw HB; have g0 := bX.c 0 _ rfl; have g1 := bX.c 1 _ rfl; have g2 := bX.c 2 _ rfl; have g3 := bX.c 3 _ rfl; have gf := bX.fr; clear HB bX)
          | (refine (c1 _ p.row3.B).mono ?_; rintro e' w2 ⟨v2, rfl, ⟨F2, o2, f2⟩, hb2⟩; obtain ⟨A1, d1, rfl, _⟩ := rSl_shape (fItems_Rd o2); replace p := p.row3.call1 hb2 o2 f2; clear o2 f2 hb2; (try clear e0 e1 e2 e3 g0 g1 g2 g3 gf); have HB := p.B; have e0 := HB.cell k0; have e1 := HB.cell k1; have e2 := HB.cell k2; have e3 := HB.cell k3; have bX := bR.bw HB; have g0 := bX.c 0 _ rfl; have g1 := bX.c 1 _ rfl; have g2 := bX.c 2 _ rfl; have g3 := bX.c 3 _ rfl; have gf := bX.fr; clear HB bX))
      | (go_at_call 110; first
          | (refine (c2 _ p.B).mono ?_; rintro e' w2 ⟨v2, rfl, ⟨F2, o2, f2⟩, hb2⟩; obtain ⟨A2, d2, rfl, _⟩ := rSl_shape (fNodes_Rd o2); replace p := p.call2 hb2 o2 f2; clear o2 f2 hb2; (try clear e0 e1 e2 e3 g0 g1 g2 g3 gf); have HB := p.B; have e0 := HB.cell k0; have e1 := HB.cell k1; have e2 := HB.cell k2; have e3 := HB.cell k3; have bX := bR.bw HB; have g0 := bX.c 0 _ rfl; have g1 := bX.c 1 _ rfl; have g2 := bX.c 2 _ rfl; have g3 := bX.c 3 _ rfl; have gf := bX.fr; clear HB bX)
          | (refine (c2 _ p.row3.B).mono ?_; rintro e' w2 ⟨v2, rfl, ⟨F2, o2, f2⟩, hb2⟩; obtain ⟨A2, d2, rfl, _⟩ := rSl_shape (fNodes_Rd o2); replace p := p.row3.call2 hb2 o2 f2; clear o2 f2 hb2; (try clear e0 e1 e2 e3 g0 g1 g2 g3 gf); have HB := p.B; have e0 := HB.cell k0; have e1 := HB.cell k1; have e2 := HB.cell k2; have e3 := HB.cell k3; have bX := bR.bw HB; have g0 := bX.c 0 _ rfl; have g1 := bX.c 1 _ rfl; have g2 := bX.c 2 _ rfl; have g3 := bX.c 3 _ rfl; have gf := bX.fr; clear HB bX))
      | ((first
        | refine St3.app3 p (.tmp 9) (.tmp 11) rfl rfl (by first | rfl | (go_simp; done)) _ (by rfl) s.best hs3 t3 ?_
        | refine St3.app3 p.row3 (.tmp 9) (.tmp 11) rfl rfl (by first | rfl | (go_simp; done)) _ (by rfl) s.best hs3 t3 ?_); clear p; intro A3 d3 w2 H2 p; (try clear e0 e1 e2 e3 g0 g1 g2 g3 gf); have HB := p.B; have e0 := HB.cell k0; have e1 := HB.cell k1; have e2 := HB.cell k2; have e3 := HB.cell k3; have bX := bR.bw HB; have g0 := bX.c 0 _ rfl; have g1 := bX.c 1 _ rfl; have g2 := bX.c 2 _ rfl; have g3 := bX.c 3 _ rfl; have gf := bX.fr; clear HB bX))
  all_goals
    go_wp2
    refine bodyPost_ret (v := .agg #[.slice A1 s.items.length d1, .slice A2 s.wanted.length d2, .slice A3 s.best.length d3, .int .i64 s.tests]) (by simp [results, Tryz.results83, go_sem, g0, g1, g2, g3]) rfl (p.ret A0 HSZ.out)
end Go.Proofs.YtpihighajaeabaaGreat

namespace Go.Proofs.YtpihighajaeabaaGreat
open Go.RowKit
set_option linter.unusedVariables false
set_option linter.unusedSimpArgs false
theorem fStanding_parts {w : World} {x : GStanding} {a b c d : Value} {F : List Nat} (h : fStanding w x [a, b, c, d] F) : ∃ Fa Fb Fc, fItems w x.items [a] Fa ∧ fNodes w x.wanted [b] Fb ∧ fInts w x.best [c] Fc ∧ F = Fa ++ (Fb ++ Fc) := by
  obtain ⟨va, vb, vc, Fa, Fb, Fc, e, h1, h2, h3, hF⟩ := h
  injection e with e1 e
  injection e with e2 e
  injection e with e3 e
  subst e1 e2 e3
  exact ⟨Fa, Fb, Fc, h1, h2, h3, hF⟩
/-- the end: four stores into the result's block -/
theorem stand_ret {w V : World} {y : GStanding} {b : Bool} {b0 : Nat} {v1 v2 v3 : Value} {F G H : List Nat} {a0 a1 a2 a3 : Value} (h1 : fItems V y.items [v1] F) (h2 : fNodes V y.wanted [v2] G) (h3 : fInts V y.best [v3] H) (f : Fresh (b0 + 1) (F ++ (G ++ H))) (hb0 : w.heap.size ≤ b0) (B : Bw w V) :
    RetV w (TwoA fStanding w.heap.size y (.bool b)) (.returned (.tuple #[.agg #[v1, v2, v3, .int .i64 y.tests], .bool b])) (set4 V b0 a0 a1 a2 a3) := by
  have n1 : b0 ∉ F := fun h => by have := f.ge b0 (List.mem_append_left _ h); omega
  have n2 : b0 ∉ G := fun h => by have := f.ge b0 (List.mem_append_right _ (List.mem_append_left _ h)); omega
  have n3 : b0 ∉ H := fun h => by have := f.ge b0 (List.mem_append_right _ (List.mem_append_right _ h)); omega
  exact ⟨_, rfl, ⟨[v1, v2, v3, .int .i64 y.tests], rfl, F ++ (G ++ H), ⟨_, _, _, F, G, H, rfl, keepSet4 fItems_good h1 n1, keepSet4 fNodes_good h2 n2, keepSet4 fInts_good h3 n3, rfl⟩, f.mono (by omega)⟩, B.set4 hb0⟩
set_option maxRecDepth 100000 in
set_option maxHeartbeats 6400000 in
theorem S_InsertItem_no (w : World) (s : GStanding) (x : GItem) (va vb vc u : Value) (ha : Rd rItems w s.items [va]) (hb : Rd rNodes w s.wanted [vb]) (hc : Rd rInts w s.best [vc]) (hx : Rd rInts w x.vals [u]) (t1 : totItems s.items ≤ 1048576) (t2 : totNodes s.wanted ≤ 1048576) (t3 : s.best.length ≤ 1048576) (hno : insOk s x = false) :
    Calls Tryz.prog 12 #[.agg #[va, vb, vc, .int .i64 s.tests], .agg #[.int .i64 x.id, u]] w (RetV w (TwoA fStanding w.heap.size s (.bool false))) := by
  obtain ⟨A, n, c, rfl, L0, Lc, Lm⟩ := rSl_open ha
  unfold maxLen at Lm
  have L := Lib.hid L0
  clear L0
  obtain ⟨B, m, c4, rfl, M0, Mc, Mm⟩ := rSl_open hc
  unfold maxLen at Mm
  have M := Lib.hid M0
  clear M0
  obtain ⟨W0, hW0⟩ : ∃ W0, W0 = ((w.alloc (.cells #[.slice A n c, vb, .slice B m c4, .int .i64 s.tests] 28)).alloc (.cells #[.int .i64 x.id, u] 30)).alloc (.cells #[.slice none 0 0, .slice none 0 0, .slice none 0 0, .int .i64 0] 28) := ⟨_, rfl⟩
  have A0 : Bw w W0 := by rw [hW0]; exact (((Bw.refl w).alloc _).alloc _).alloc _
  have bS : Box W0 w.heap.size [.slice A n c, vb, .slice B m c4, .int .i64 s.tests] := by rw [hW0]; exact (Box.new w #[.slice A n c, vb, .slice B m c4, .int .i64 s.tests] 28).bw (((Bw.refl _).alloc _).alloc _)
  have bX : Box W0 (w.heap.size + 1) [.int .i64 x.id, u] := by
    have := Box.new (w.alloc (.cells #[.slice A n c, vb, .slice B m c4, .int .i64 s.tests] 28)) #[.int .i64 x.id, u] 30
    rw [show (w.alloc (.cells #[.slice A n c, vb, .slice B m c4, .int .i64 s.tests] 28)).heap.size = w.heap.size + 1 from by simp] at this
    rw [hW0]; exact this.bw ((Bw.refl _).alloc _)
  have bR : Box W0 (w.heap.size + 1 + 1) [.slice none 0 0, .slice none 0 0, .slice none 0 0, .int .i64 0] := by
    have := Box.new ((w.alloc (.cells #[.slice A n c, vb, .slice B m c4, .int .i64 s.tests] 28)).alloc (.cells #[.int .i64 x.id, u] 30)) #[.slice none 0 0, .slice none 0 0, .slice none 0 0, .int .i64 0] 28
    rw [show ((w.alloc (.cells #[.slice A n c, vb, .slice B m c4, .int .i64 s.tests] 28)).alloc (.cells #[.int .i64 x.id, u] 30)).heap.size = w.heap.size + 1 + 1 from by simp] at this
    rw [hW0]; exact this
  have z0 : W0.heap.size = w.heap.size + 3 := by rw [hW0]; simp
  have hcopy := S_l15Copy W0 s _ vb _ (ha.bw rItems_good A0) (hb.bw rNodes_good A0) (hc.bw rInts_good A0) t1 t2 t3
  have HW0 := Lib.hid hW0
  clear hW0
  go_enter Tryz.func12, Tryz.ntmps12
  go_wp2_with fail
  rw [← HW0.out]
  refine hcopy.mono ?_
  rintro e w1 ⟨cs, F0, rfl, oS, fS, hb1⟩
  obtain ⟨A1, c1, A2, c2, A3, c3, rfl⟩ := fStanding_shape oS
  obtain ⟨F1, F2, F3, o1, o2, o3, rfl⟩ := fStanding_parts oS
  obtain ⟨m1, hm1⟩ : ∃ m, m = s.items.length := ⟨_, rfl⟩
  obtain ⟨m2, hm2⟩ : ∃ m, m = s.wanted.length := ⟨_, rfl⟩
  obtain ⟨m3, hm3⟩ : ∃ m, m = s.best.length := ⟨_, rfl⟩
  rw [← hm1] at o1
  rw [← hm2] at o2
  rw [← hm3] at o3
  dsimp only
  rw [← hm1, ← hm2, ← hm3]
  have bS1 := (bS.bw hb1).bw ((Bw.refl w1).alloc (.cells #[.slice A1 m1 c1, .slice A2 m2 c2, .slice A3 m3 c3, .int .i64 s.tests] 28))
  have y0 := bS1.c 0 _ rfl
  have y1 := bS1.c 1 _ rfl
  have y2 := bS1.c 2 _ rfl
  have y3 := bS1.c 3 _ rfl
  have HM1 := Lib.hid hm1
  have HM2 := Lib.hid hm2
  have HM3 := Lib.hid hm3
  clear hm1 hm2 hm3
  go_wp2_with fail
  obtain ⟨V, hV⟩ : ∃ V, V = w1.alloc (.cells #[.slice A1 m1 c1, .slice A2 m2 c2, .slice A3 m3 c3, .int .i64 s.tests] 28) := ⟨_, rfl⟩
  have A1' : Bw w1 V := by rw [hV]; exact (Bw.refl w1).alloc _
  have bO : Box V w1.heap.size [.slice A1 m1 c1, .slice A2 m2 c2, .slice A3 m3 c3, .int .i64 s.tests] := by rw [hV]; exact Box.new w1 #[.slice A1 m1 c1, .slice A2 m2 c2, .slice A3 m3 c3, .int .i64 s.tests] 28
  have zV : V.heap.size = w1.heap.size + 1 := by rw [hV]; simp
  have BV : Bw w V := A0.then (hb1.then A1')
  replace bS := bS.bw (hb1.then A1')
  replace bX := bX.bw (hb1.then A1')
  replace bR := bR.bw (hb1.then A1')
  have zw : w.heap.size + 3 ≤ w1.heap.size := by have := hb1.size; omega
  have lS := (fStanding_good (B := 0)).lt oS
  replace o1 := keepBw A1' fItems_good o1
  replace o2 := keepBw A1' fNodes_good o2
  replace o3 := keepBw A1' fInts_good o3
  have fV : Fresh (w.heap.size + 3) (F1 ++ (F2 ++ F3)) := fS.mono (by omega)
  have HLS := Lib.hid lS
  have HV := Lib.hid hV
  have k1 := Lib.hid (fun W (B : Bw V W) => S_IsStanding W s _ vb _ (ha.bw rItems_good (BV.then B)) (hb.bw rNodes_good (BV.then B)) (hc.bw rInts_good (BV.then B)))
  have k2 := Lib.hid (fun W (B : Bw V W) => S_IsItem W x u (hx.bw rInts_good (BV.then B)))
  have k3 := Lib.hid (fun W (B : Bw V W) => S_FindItem W s.items x.id _ (ha.bw rItems_good (BV.then B)))
  obtain ⟨b6, hb6⟩ : ∃ b, b = w1.heap.size := ⟨_, rfl⟩
  rw [← hb6] at bO zV zw lS
  have HB6 := Lib.hid hb6
  rw [← HV.out, ← HB6.out]
  clear hV oS fS hcopy hb1 A1' A0 hb6 lS y0 y1 y2 y3 bS1
  refine (k1.out _ (Bw.refl V)).mono ?_
  rintro e w2 ⟨rfl, hb2⟩
  rcases Bool.eq_false_or_eq_true (isStand s) with e1 | e1
  · have E1 := Lib.hid e1
    rw [e1]
    clear e1
    have bS2 := bS.bw hb2
    have bX2 := bX.bw hb2
    have y0 := bS2.c 0 _ rfl
    have y1 := bS2.c 1 _ rfl
    have y2 := bS2.c 2 _ rfl
    have y3 := bS2.c 3 _ rfl
    have yf := bS2.fr
    have x0 := bX2.c 0 _ rfl
    have x1 := bX2.c 1 _ rfl
    have xf := bX2.fr
    have hcall := k2.out _ hb2
    clear bS2 bX2
    go_wp2_with fail
    refine hcall.mono ?_
    rintro e w3 ⟨rfl, hb3⟩
    have hB3 := hb2.then hb3
    clear y0 y1 y2 y3 yf
    clear x0 x1 xf
    rcases Bool.eq_false_or_eq_true (isItem x) with e2 | e2
    · have E2 := Lib.hid e2
      rw [e2]
      clear e2
      have bS3 := bS.bw hB3
      have bX3 := bX.bw hB3
      have y0 := bS3.c 0 _ rfl
      have y1 := bS3.c 1 _ rfl
      have y2 := bS3.c 2 _ rfl
      have y3 := bS3.c 3 _ rfl
      have yf := bS3.fr
      have x0 := bX3.c 0 _ rfl
      have x1 := bX3.c 1 _ rfl
      have xf := bX3.fr
      have hcall := k3.out _ hB3
      obtain ⟨K, hK⟩ : ∃ K, K = findIdx s.items x.id := ⟨_, rfl⟩
      rw [← hK] at hcall
      have HK := Lib.hid hK
      clear bS3 bX3 hK
      go_wp2_with fail
      refine hcall.mono ?_
      rintro e w4 ⟨rfl, hb4⟩
      have hB4 := hB3.then hb4
      clear y0 y1 y2 y3 yf
      clear x0 x1 xf
      by_cases hK0 : 0 ≤ K
      · clear hno
        have bR2 := bR.bw hB4
        have bO2 := bO.bw hB4
        have r0 := bR2.c 0 _ rfl
        have r1 := bR2.c 1 _ rfl
        have r2 := bR2.c 2 _ rfl
        have r3 := bR2.c 3 _ rfl
        have rf := bR2.fr
        have q0 := bO2.c 0 _ rfl
        have q1 := bO2.c 1 _ rfl
        have q2 := bO2.c 2 _ rfl
        have q3 := bO2.c 3 _ rfl
        have qf := bO2.fr
        have hBB := BV.then hB4
        have p1 := keepBw hB4 fItems_good o1
        have p2 := keepBw hB4 fNodes_good o2
        have p3 := keepBw hB4 fInts_good o3
        clear bR2 bO2 o1 o2 o3 bR bO
        go_wp2
        rw [HM1.out] at p1 ⊢
        rw [HM2.out] at p2 ⊢
        rw [HM3.out] at p3 ⊢
        refine bodyPost_ret (v := .tuple #[.agg #[.slice A1 s.items.length c1, .slice A2 s.wanted.length c2, .slice A3 s.best.length c3, .int .i64 s.tests], .bool false]) (by simp [results, Tryz.results12, go_sem, r0, r1, r2, r3]) rfl (stand_ret p1 p2 p3 (fV.mono (by omega)) (by omega) hBB)
      · have hK1 : ¬ (0 : Int) ≤ K := hK0
        by_cases hn16 : 16 ≤ n
        · have hn1 : (16 : Int) ≤ (n : Int) := by omega
          have bS4 := bS.bw hB4
          have y0 := bS4.c 0 _ rfl
          have y1 := bS4.c 1 _ rfl
          have y2 := bS4.c 2 _ rfl
          have y3 := bS4.c 3 _ rfl
          have yf := bS4.fr
          clear hno bS4
          have bR2 := bR.bw hB4
          have bO2 := bO.bw hB4
          have r0 := bR2.c 0 _ rfl
          have r1 := bR2.c 1 _ rfl
          have r2 := bR2.c 2 _ rfl
          have r3 := bR2.c 3 _ rfl
          have rf := bR2.fr
          have q0 := bO2.c 0 _ rfl
          have q1 := bO2.c 1 _ rfl
          have q2 := bO2.c 2 _ rfl
          have q3 := bO2.c 3 _ rfl
          have qf := bO2.fr
          have hBB := BV.then hB4
          have p1 := keepBw hB4 fItems_good o1
          have p2 := keepBw hB4 fNodes_good o2
          have p3 := keepBw hB4 fInts_good o3
          clear bR2 bO2 o1 o2 o3 bR bO
          go_wp2
          rw [HM1.out] at p1 ⊢
          rw [HM2.out] at p2 ⊢
          rw [HM3.out] at p3 ⊢
          refine bodyPost_ret (v := .tuple #[.agg #[.slice A1 s.items.length c1, .slice A2 s.wanted.length c2, .slice A3 s.best.length c3, .int .i64 s.tests], .bool false]) (by simp [results, Tryz.results12, go_sem, r0, r1, r2, r3]) rfl (stand_ret p1 p2 p3 (fV.mono (by omega)) (by omega) hBB)
        · have hn1 : ¬ (16 : Int) ≤ (n : Int) := by omega
          have ht0 : 999900 < s.tests := by
            rcases Decidable.em (999900 < s.tests) with h | h
            · exact h
            · exfalso
              have h2 : insOk s x = true := by
                unfold insOk
                rw [E1.out, E2.out, decide_eq_true (show findIdx s.items x.id < 0 by rw [← HK.out]; omega), decide_eq_true (show s.items.length < 16 by rw [← L.out]; omega), decide_eq_true (show s.tests ≤ 999900 by omega)]; rfl
              rw [h2] at hno; cases hno
          have bS4 := bS.bw hB4
          have y0 := bS4.c 0 _ rfl
          have y1 := bS4.c 1 _ rfl
          have y2 := bS4.c 2 _ rfl
          have y3 := bS4.c 3 _ rfl
          have yf := bS4.fr
          clear hno bS4
          have bR2 := bR.bw hB4
          have bO2 := bO.bw hB4
          have r0 := bR2.c 0 _ rfl
          have r1 := bR2.c 1 _ rfl
          have r2 := bR2.c 2 _ rfl
          have r3 := bR2.c 3 _ rfl
          have rf := bR2.fr
          have q0 := bO2.c 0 _ rfl
          have q1 := bO2.c 1 _ rfl
          have q2 := bO2.c 2 _ rfl
          have q3 := bO2.c 3 _ rfl
          have qf := bO2.fr
          have hBB := BV.then hB4
          have p1 := keepBw hB4 fItems_good o1
          have p2 := keepBw hB4 fNodes_good o2
          have p3 := keepBw hB4 fInts_good o3
          clear bR2 bO2 o1 o2 o3 bR bO
          go_wp2
          rw [HM1.out] at p1 ⊢
          rw [HM2.out] at p2 ⊢
          rw [HM3.out] at p3 ⊢
          refine bodyPost_ret (v := .tuple #[.agg #[.slice A1 s.items.length c1, .slice A2 s.wanted.length c2, .slice A3 s.best.length c3, .int .i64 s.tests], .bool false]) (by simp [results, Tryz.results12, go_sem, r0, r1, r2, r3]) rfl (stand_ret p1 p2 p3 (fV.mono (by omega)) (by omega) hBB)
    · rw [e2]
      clear e2 hno
      have bR2 := bR.bw hB3
      have bO2 := bO.bw hB3
      have r0 := bR2.c 0 _ rfl
      have r1 := bR2.c 1 _ rfl
      have r2 := bR2.c 2 _ rfl
      have r3 := bR2.c 3 _ rfl
      have rf := bR2.fr
      have q0 := bO2.c 0 _ rfl
      have q1 := bO2.c 1 _ rfl
      have q2 := bO2.c 2 _ rfl
      have q3 := bO2.c 3 _ rfl
      have qf := bO2.fr
      have hBB := BV.then hB3
      have p1 := keepBw hB3 fItems_good o1
      have p2 := keepBw hB3 fNodes_good o2
      have p3 := keepBw hB3 fInts_good o3
      clear bR2 bO2 o1 o2 o3 bR bO
      go_wp2
      rw [HM1.out] at p1 ⊢
      rw [HM2.out] at p2 ⊢
      rw [HM3.out] at p3 ⊢
      refine bodyPost_ret (v := .tuple #[.agg #[.slice A1 s.items.length c1, .slice A2 s.wanted.length c2, .slice A3 s.best.length c3, .int .i64 s.tests], .bool false]) (by simp [results, Tryz.results12, go_sem, r0, r1, r2, r3]) rfl (stand_ret p1 p2 p3 (fV.mono (by omega)) (by omega) hBB)
  · rw [e1]
    clear e1 hno
    have bR2 := bR.bw hb2
    have bO2 := bO.bw hb2
    have r0 := bR2.c 0 _ rfl
    have r1 := bR2.c 1 _ rfl
    have r2 := bR2.c 2 _ rfl
    have r3 := bR2.c 3 _ rfl
    have rf := bR2.fr
    have q0 := bO2.c 0 _ rfl
    have q1 := bO2.c 1 _ rfl
    have q2 := bO2.c 2 _ rfl
    have q3 := bO2.c 3 _ rfl
    have qf := bO2.fr
    have hBB := BV.then hb2
    have p1 := keepBw hb2 fItems_good o1
    have p2 := keepBw hb2 fNodes_good o2
    have p3 := keepBw hb2 fInts_good o3
    clear bR2 bO2 o1 o2 o3 bR bO
    go_wp2
    rw [HM1.out] at p1 ⊢
    rw [HM2.out] at p2 ⊢
    rw [HM3.out] at p3 ⊢
    refine bodyPost_ret (v := .tuple #[.agg #[.slice A1 s.items.length c1, .slice A2 s.wanted.length c2, .slice A3 s.best.length c3, .int .i64 s.tests], .bool false]) (by simp [results, Tryz.results12, go_sem, r0, r1, r2, r3]) rfl (stand_ret p1 p2 p3 (fV.mono (by omega)) (by omega) hBB)
end Go.Proofs.YtpihighajaeabaaGreat
