/- An item is taken from a standing answer, in the reference: the ways on which it is taken. -/
import Derived.Test.YtpihighajaeabaaGreatQDelM
import Derived.Test.YtpihighajaeabaaGreatQWishes3
import Derived.Test.YtpihighajaeabaaGreatQRuleR
import Derived.Test.YtpihighajaeabaaGreatQCompI
import Derived.Test.YtpihighajaeabaaGreatQItems
import Derived.Test.YtpihighajaeabaaGreatQOnly
import Derived.Test.YtpihighajaeabaaGreatQReach
import Derived.Test.YtpihighajaeabaaGreatQSortL
namespace Go.Proofs.YtpihighajaeabaaGreat
open Go.RowKit
set_option linter.unusedVariables false
set_option linter.unusedSimpArgs false
end Go.Proofs.YtpihighajaeabaaGreat

namespace Go.Proofs.YtpihighajaeabaaGreat
open Go.RowKit
set_option linter.unusedVariables false
set_option linter.unusedSimpArgs false
theorem rInts_prefix {w : World} {S : Blocks} {xs : List Int} {b o n c m : Nat} (h : rInts w S xs [.slice (some ⟨b, o, none⟩) n c]) (hm : m ≤ n) : rInts w S (xs.take m) [.slice (some ⟨b, o, none⟩) m c] := by
  have hl := (rSl_len h).1
  have h2 := rSl_sub h 0 m (Nat.zero_le _) hm hl
  have h3 : rSl 1 rInt w S (xs.take m) [.slice (some ⟨b, o, none⟩) m c] := by simpa using h2
  exact h3
theorem rInts_suffix {w : World} {S : Blocks} {xs : List Int} {b o n c m : Nat} (h : rInts w S xs [.slice (some ⟨b, o, none⟩) n c]) (hm : m ≤ n) : rInts w S (xs.drop m) [.slice (some ⟨b, o + m, none⟩) (n - m) (c - m)] := by
  have hl := (rSl_len h).1
  have := rSl_sub h m n hm (Nat.le_refl _) hl
  rw [Nat.mul_one, List.take_of_length_le (by rw [List.length_drop]; omega)] at this
  exact this
theorem rInts_zero {w : World} {S : Blocks} {xs : List Int} {A : Option Addr} {n : Nat} (h1 : xs.length = n) (h0 : n = 0) : rInts w S xs [.slice A n 0] := by
  subst h0
  obtain rfl := List.eq_nil_of_length_eq_zero h1
  exact ⟨A, 0, rfl, Nat.le_refl _, by decide, fun k x hx => by simp at hx⟩
end Go.Proofs.YtpihighajaeabaaGreat

namespace Go.Proofs.YtpihighajaeabaaGreat
open Go.RowKit
set_option linter.unusedVariables false
set_option linter.unusedSimpArgs false
set_option maxRecDepth 100000 in
set_option maxHeartbeats 3200000 in
theorem I_copyStanding (w : World) (s : GStanding) (va vb vc : Value) (ha : Rd rItems w s.items [va]) (hb : Rd rNodes w s.wanted [vb]) (hc : Rd rInts w s.best [vc]) (t1 : totItems s.items ≤ 1048576) (t2 : totNodes s.wanted ≤ 1048576) (t3 : s.best.length ≤ 1048576) :
    Calls Tryz.prog 75 #[.agg #[va, vb, vc, .int .i64 s.tests]] w (RetA fStanding w s) := by
  obtain ⟨W, hW⟩ : ∃ W, W = ((w.alloc (.cells #[va, vb, vc, .int .i64 s.tests] 28)).alloc (.cells #[.slice none 0 0, .slice none 0 0, .slice none 0 0, .int .i64 0] 28)).drew := ⟨_, rfl⟩
  have A0 : Bw w W := by rw [hW]; exact (((Bw.refl w).alloc _).alloc _).drew
  have k0 : W.cell? ⟨w.heap.size, 0, none⟩ = some va := by rw [hW]; go_simp
  have k1 : W.cell? ⟨w.heap.size, 1, none⟩ = some vb := by rw [hW]; go_simp
  have k2 : W.cell? ⟨w.heap.size, 2, none⟩ = some vc := by rw [hW]; go_simp
  have k3 : W.cell? ⟨w.heap.size, 3, none⟩ = some (.int .i64 s.tests) := by rw [hW]; go_simp
  have bR : Box W (w.heap.size + 1) [.slice none 0 0, .slice none 0 0, .slice none 0 0, .int .i64 0] := by
    have := Box.new (w.alloc (.cells #[va, vb, vc, .int .i64 s.tests] 28)) #[.slice none 0 0, .slice none 0 0, .slice none 0 0, .int .i64 0] 28
    rw [show (w.alloc (.cells #[va, vb, vc, .int .i64 s.tests] 28)).heap.size = w.heap.size + 1 from by simp] at this
    rw [hW]; exact this.bw (Bw.refl _).drew
  have z0 : W.heap.size = w.heap.size + 2 := by rw [hW]; simp
  have c1 := I_copyItems W s.items va (ha.bw rItems_good A0) t1
  have c2 := Lib.hid (fun W' (B : Bw W W') => I_copyNodes W' s.wanted vb (hb.bw rNodes_good (A0.then B)) t2)
  have c3 := Lib.hid (fun W' (B : Bw W W') => I_copyInts W' s.best vc (hc.bw rInts_good (A0.then B)) t3)
  have HW := Lib.hid hW
  clear hW ha hb hc
  go_enter Tryz.func75, Tryz.ntmps75
  go_wp2
  go_region_held3 (fun w' => w'.cell? ⟨w.heap.size, 0, none⟩ = some va ∧ w'.cell? ⟨w.heap.size, 1, none⟩ = some vb ∧ w'.cell? ⟨w.heap.size, 2, none⟩ = some vc ∧ w'.cell? ⟨w.heap.size, 3, none⟩ = some (.int .i64 s.tests)) (first | go_keep | exact ⟨k0, k1, k2, k3⟩ | (rw [HW.out] at k0 k1 k2 k3; exact ⟨k0, k1, k2, k3⟩))
    (first
      | (go_at_call 107; rw [← HW.out]; refine c1.mono ?_; rintro e w1 ⟨v1, rfl, ⟨F1, o1, f1⟩, hb1⟩; obtain ⟨A1, d1, rfl, _⟩ := rSl_shape (fItems_Rd o1); replace k0 := hb1.cell k0; replace k1 := hb1.cell k1; replace k2 := hb1.cell k2; replace k3 := hb1.cell k3)
      | (go_at_call 108; refine (c2.out _ hb1).mono ?_; rintro e w2 ⟨v2, rfl, ⟨F2, o2, f2⟩, hb2⟩; obtain ⟨A2, d2, rfl, _⟩ := rSl_shape (fNodes_Rd o2); replace k0 := hb2.cell k0; replace k1 := hb2.cell k1; replace k2 := hb2.cell k2; replace k3 := hb2.cell k3; have hb12 := hb1.then hb2)
      | (go_at_call 96; refine (c3.out _ hb12).mono ?_; rintro e w3 ⟨v3, rfl, ⟨F3, o3, f3⟩, hb3⟩; obtain ⟨A3, d3, rfl, _⟩ := rSl_shape (fInts_Rd o3); replace k0 := hb3.cell k0; replace k1 := hb3.cell k1; replace k2 := hb3.cell k2; replace k3 := hb3.cell k3; have hbb := hb12.then hb3; have bR3 := bR.bw hbb; have r0 := bR3.c 0 _ rfl; have r1 := bR3.c 1 _ rfl; have r2 := bR3.c 2 _ rfl; have r3 := bR3.c 3 _ rfl; have rf := bR3.fr))
  have lt1 := (fItems_good (B := 0)).lt o1
  have lt2 := (fNodes_good (B := 0)).lt o2
  have z1 := hb1.size
  have z2 := hb2.size
  have o1' := keepBw (hb2.then hb3) fItems_good o1
  have o2' := keepBw hb3 fNodes_good o2
  have f1z : ∀ b ∈ F1, w.heap.size + 2 ≤ b := fun b hb => by have := f1.ge b hb; omega
  have f2z : ∀ b ∈ F2, w.heap.size + 2 ≤ b := fun b hb => by have := f2.ge b hb; omega
  have f3z : ∀ b ∈ F3, w.heap.size + 2 ≤ b := fun b hb => by have := f3.ge b hb; omega
  have FF : Fresh w.heap.size (F1 ++ (F2 ++ F3)) := Fresh.append (m := w1.heap.size) (f1.mono (by omega)) lt1 (Fresh.append (m := w2.heap.size) f2 lt2 f3 (by omega)) (by omega)
  have B4 := A0.then hbb
  clear bR bR3 c1 c2 c3 o1 o2 hbb hb12 hb1 hb2 hb3
  go_wp2
  refine bodyPost_ret (v := .agg #[.slice A1 s.items.length d1, .slice A2 s.wanted.length d2, .slice A3 s.best.length d3, .int .i64 s.tests]) (by simp [results, Tryz.results75, go_sem, r0, r1, r2, r3]) rfl ⟨_, F1 ++ (F2 ++ F3), rfl, ⟨_, _, _, F1, F2, F3, rfl, ?_, ?_, ?_, rfl⟩, FF, ?_⟩
  · refine (fItems_good (B := 0)).step (fun b hb => ?_) o1'
    rcases hb with hb | hb
    · have := f1z b hb
      repeat rw [Below.heap_setCell _ _ _ _ (by dsimp only; omega)]
    · omega
  · refine (fNodes_good (B := 0)).step (fun b hb => ?_) o2'
    rcases hb with hb | hb
    · have := f2z b hb
      repeat rw [Below.heap_setCell _ _ _ _ (by dsimp only; omega)]
    · omega
  · refine (fInts_good (B := 0)).step (fun b hb => ?_) o3
    rcases hb with hb | hb
    · have := f3z b hb
      repeat rw [Below.heap_setCell _ _ _ _ (by dsimp only; omega)]
    · omega
  · repeat (first | with_reducible exact B4 | with_reducible refine Bw.set ?_ ?_ _)
    all_goals (dsimp only; omega)
/-- three lists under way in one region -/
structure St3 (W X : World) (l : List GItem) (v : Value) (F : List Nat) (e : List GNode) (u : Value) (G : List Nat) (b : List Int) (t : Value) (H : List Nat) : Prop where
  h1 : fItems X l [v] F
  h2 : fNodes X e [u] G
  h3 : fInts X b [t] H
  d1 : ∀ b ∈ F, b ∉ G
  d2 : ∀ b ∈ F, b ∉ H
  d3 : ∀ b ∈ G, b ∉ H
  f1 : Fresh W.heap.size F
  f2 : Fresh W.heap.size G
  f3 : Fresh W.heap.size H
  B : Bw W X
theorem St3.start (W : World) : St3 W W [] (.slice none 0 0) [] [] (.slice none 0 0) [] [] (.slice none 0 0) [] := ⟨fSl_nil _, fSl_nil _, fSl_nil _, by simp, by simp, by simp, Fresh.nil, Fresh.nil, Fresh.nil, Bw.refl W⟩
theorem St3.ret {w W X : World} {s : GStanding} {A1 A2 A3 : Option Addr} {d1 d2 d3 : Nat} {F G H : List Nat} {a0 a1 a2 a3 : Value} (p : St3 W X s.items (.slice A1 s.items.length d1) F s.wanted (.slice A2 s.wanted.length d2) G s.best (.slice A3 s.best.length d3) H) (A0 : Bw w W) (hz : W.heap.size = w.heap.size + 2) :
    RetA fStanding w s (.returned (.agg #[.slice A1 s.items.length d1, .slice A2 s.wanted.length d2, .slice A3 s.best.length d3, .int .i64 s.tests])) (set4 X (w.heap.size + 1) a0 a1 a2 a3) := by
  obtain ⟨h1, h2, h3, e1, e2, e3, f1, f2, f3, B⟩ := p
  have nF : w.heap.size + 1 ∉ F := fun h => by have := f1.ge _ h; omega
  have nG : w.heap.size + 1 ∉ G := fun h => by have := f2.ge _ h; omega
  have nH : w.heap.size + 1 ∉ H := fun h => by have := f3.ge _ h; omega
  refine ⟨[.slice A1 s.items.length d1, .slice A2 s.wanted.length d2, .slice A3 s.best.length d3, .int .i64 s.tests], F ++ (G ++ H), rfl, ⟨_, _, _, F, G, H, rfl, keepSet4 fItems_good h1 nF, keepSet4 fNodes_good h2 nG, keepSet4 fInts_good h3 nH, rfl⟩, ⟨?_, ?_⟩, (A0.then B).set4 (by omega)⟩
  · rw [List.nodup_append, List.nodup_append]
    refine ⟨f1.nodup, ⟨f2.nodup, f3.nodup, fun a ha b hb e => e3 a ha (e ▸ hb)⟩, fun a ha b hb e => ?_⟩
    rcases List.mem_append.1 hb with hb | hb
    · exact e1 a ha (e ▸ hb)
    · exact e2 a ha (e ▸ hb)
  · intro b hb
    rcases List.mem_append.1 hb with hb | hb
    · have := f1.ge b hb; omega
    · rcases List.mem_append.1 hb with hb | hb
      · have := f2.ge b hb; omega
      · have := f3.ge b hb; omega
section
variable {ops : Array Oper} {o : Oper} {a : Act} {K : Act → World → Prop} {Q : Exit → Act → World → Prop} {E : Prop}
end
end Go.Proofs.YtpihighajaeabaaGreat

namespace Go.Proofs.YtpihighajaeabaaGreat
open Go.RowKit
set_option linter.unusedVariables false
set_option linter.unusedSimpArgs false
theorem fStanding_parts {w : World} {x : GStanding} {a b c d : Value} {F : List Nat} (h : fStanding w x [a, b, c, d] F) : ∃ Fa Fb Fc, fItems w x.items [a] Fa ∧ fNodes w x.wanted [b] Fb ∧ fInts w x.best [c] Fc ∧ F = Fa ++ (Fb ++ Fc) := by
  obtain ⟨va, vb, vc, Fa, Fb, Fc, e, h1, h2, h3, hF⟩ := h
  injection e with e1 e
  injection e with e2 e
  injection e with e3 e
  subst e1 e2 e3
  exact ⟨Fa, Fb, Fc, h1, h2, h3, hF⟩
/-- the end: four stores into the result's block -/
theorem stand_ret {w V : World} {y : GStanding} {b : Bool} {b0 : Nat} {v1 v2 v3 : Value} {F G H : List Nat} {a0 a1 a2 a3 : Value} (h1 : fItems V y.items [v1] F) (h2 : fNodes V y.wanted [v2] G) (h3 : fInts V y.best [v3] H) (f : Fresh (b0 + 1) (F ++ (G ++ H))) (hb0 : w.heap.size ≤ b0) (B : Bw w V) :
    RetV w (TwoA fStanding w.heap.size y (.bool b)) (.returned (.tuple #[.agg #[v1, v2, v3, .int .i64 y.tests], .bool b])) (set4 V b0 a0 a1 a2 a3) := by
  have n1 : b0 ∉ F := fun h => by have := f.ge b0 (List.mem_append_left _ h); omega
  have n2 : b0 ∉ G := fun h => by have := f.ge b0 (List.mem_append_right _ (List.mem_append_left _ h)); omega
  have n3 : b0 ∉ H := fun h => by have := f.ge b0 (List.mem_append_right _ (List.mem_append_right _ h)); omega
  exact ⟨_, rfl, ⟨[v1, v2, v3, .int .i64 y.tests], rfl, F ++ (G ++ H), ⟨_, _, _, F, G, H, rfl, keepSet4 fItems_good h1 n1, keepSet4 fNodes_good h2 n2, keepSet4 fInts_good h3 n3, rfl⟩, f.mono (by omega)⟩, B.set4 hb0⟩
end Go.Proofs.YtpihighajaeabaaGreat

namespace Go.Proofs.YtpihighajaeabaaGreat
open Go.RowKit
set_option linter.unusedVariables false

end Go.Proofs.YtpihighajaeabaaGreat

namespace Go.Proofs.YtpihighajaeabaaGreat
open Go.RowKit
set_option linter.unusedVariables false
abbrev fIntss : Fp (List (List Int)) := fSl 26 1 fInts
end Go.Proofs.YtpihighajaeabaaGreat


namespace Go.Proofs.YtpihighajaeabaaGreat
open Go.RowKit
set_option linter.unusedVariables false
set_option linter.unusedSimpArgs false
end Go.Proofs.YtpihighajaeabaaGreat

namespace Go.Proofs.YtpihighajaeabaaGreat
open Go.RowKit
set_option linter.unusedVariables false
set_option linter.unusedSimpArgs false
end Go.Proofs.YtpihighajaeabaaGreat

namespace Go.Proofs.YtpihighajaeabaaGreat
open Go.RowKit
set_option linter.unusedVariables false
set_option linter.unusedSimpArgs false
theorem Only.keepsB' {α : Type} {R : Fp α} {B : Nat} {F G : List Nat} {w w' : World} (h : Only F w w') (hR : GoodF B R) (hB : B ≤ w.heap.size) (hF : ∀ b ∈ F, B ≤ b) {x : α} {cs : List Value} (hx : R w x cs G) (hd : ∀ b ∈ G, b ∉ F) : R w' x cs G :=
  hR.step (fun b hb => by
    rcases hb with hb | hb
    · exact h.2 b (hR.lt hx b hb) (hd b hb)
    · exact h.2 b (by omega) (fun hf => by have := hF b hf; omega)) hx
end Go.Proofs.YtpihighajaeabaaGreat
