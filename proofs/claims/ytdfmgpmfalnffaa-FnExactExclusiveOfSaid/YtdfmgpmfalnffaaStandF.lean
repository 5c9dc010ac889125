/- Standings as owned results: what the laws write into them and look for. -/
import Derived.Test.YtdfmgpmfalnffaaStand
import Derived.Test.YtdfmgpmfalnffaaHeldN
import Derived.Test.YtdfmgpmfalnffaaMarks2
namespace Go.Proofs.Ytdfmgpmfalnffaa
open Go.RowKit
set_option linter.unusedVariables false
set_option linter.unusedSimpArgs false
theorem fStanding_good {B : Nat} : GoodF B fStanding :=
  ⟨fun hw ⟨v, u, t, G, H, I, e, h, k, l, hF⟩ => ⟨v, u, t, G, H, I, e, fItems_good.step (fun b hb => hw b (hb.imp (fun hb => by rw [hF]; exact List.mem_append_left _ hb) id)) h, fNodes_good.step (fun b hb => hw b (hb.imp (fun hb => by rw [hF]; exact List.mem_append_right _ (List.mem_append_left _ hb)) id)) k, fInts_good.step (fun b hb => hw b (hb.imp (fun hb => by rw [hF]; exact List.mem_append_right _ (List.mem_append_right _ hb)) id)) l, hF⟩,
   fun ⟨v, u, t, G, H, I, e, h, k, l, hF⟩ b hb => by
    rw [hF] at hb
    exact (List.mem_append.1 hb).elim ((fItems_good (B := B)).lt h b) fun hb => (List.mem_append.1 hb).elim ((fNodes_good (B := B)).lt k b) ((fInts_good (B := B)).lt l b),
   fun ⟨v, u, t, G, H, I, e, h, k, l, hF⟩ s hs => by
    rw [e] at hs
    simp at hs
    rcases hs with rfl | rfl | rfl | rfl
    · exact (fItems_good (B := B)).one h _ (by simp)
    · exact (fNodes_good (B := B)).one k _ (by simp)
    · exact (fInts_good (B := B)).one l _ (by simp)
    · rfl⟩
theorem fStanding_Rds {w : World} {x : GStanding} {a b c d : Value} {F : List Nat} (h : fStanding w x [a, b, c, d] F) : Rd rItems w x.items [a] ∧ Rd rNodes w x.wanted [b] ∧ Rd rInts w x.best [c] ∧ d = .int .i64 x.tests := by
  obtain ⟨v, u, t, G, H, I, e, h, k, l, hF⟩ := h
  injection e with e1 e; injection e with e2 e; injection e with e3 e; injection e with e4 e
  subst e1 e2 e3 e4
  exact ⟨fItems_Rd h, fNodes_Rd k, fInts_Rd l, rfl⟩
theorem fStanding_shape {w : World} {x : GStanding} {cs : List Value} {F : List Nat} (h : fStanding w x cs F) : ∃ A1 c1 A2 c2 A3 c3, cs = [.slice A1 x.items.length c1, .slice A2 x.wanted.length c2, .slice A3 x.best.length c3, .int .i64 x.tests] := by
  obtain ⟨v, u, t, G, H, I, e, h, k, l, hF⟩ := h
  obtain ⟨A1, c1, rfl, _⟩ := rSl_shape (fItems_Rd h)
  obtain ⟨A2, c2, rfl, _⟩ := rSl_shape (fNodes_Rd k)
  obtain ⟨A3, c3, rfl, _⟩ := rSl_shape (fInts_Rd l)
  exact ⟨A1, c1, A2, c2, A3, c3, e⟩
def mkStanding (x : GStanding) (k : Nat) : GStanding := ⟨mkItems x.items k, mkNodes x.wanted (k + totItems x.items), mkInts x.best (k + totItems x.items + markNodes x.wanted), x.tests⟩
def markSt (x : GStanding) : Nat := totItems x.items + markNodes x.wanted + x.best.length
def smallSt (x : GStanding) : Prop := totItems x.items ≤ 1048576 ∧ totNodes x.wanted ≤ 1048576 ∧ x.best.length ≤ 1048576
theorem smallSt_of {x : GStanding} (h : totStanding x ≤ 1048576) : smallSt x := by unfold totStanding at h; unfold smallSt; omega
theorem markSt_le {x : GStanding} (h : smallSt x) : markSt x ≤ 6291456 := by
  obtain ⟨h1, h2, h3⟩ := h
  have := markNodes_le x.wanted
  unfold markSt; omega
def RetMs {α : Type} (f : Fp α) (w0 w : World) (x : α) (cs : List Value) (F : List Nat) (k : Nat) (e : Ending) (w' : World) : Prop := e = .returned (.int .i64 k) ∧ f w' x cs F ∧ Only F w w' ∧ Bw w0 w'
set_option maxRecDepth 100000 in
set_option maxHeartbeats 1600000 in
theorem L_markStanding (w0 w : World) (x : GStanding) (A1 A2 A3 : Option Addr) (n1 n2 n3 c1 c2 c3 : Nat) (F : List Nat) (k : Nat) (hv : fStanding w x [.slice A1 n1 c1, .slice A2 n2 c2, .slice A3 n3 c3, .int .i64 x.tests] F) (hF : Fresh w0.heap.size F) (hb : Bw w0 w) (hs : smallSt x) (hk : k ≤ 2097152) :
    Calls Try.prog 69 #[.agg #[.slice A1 n1 c1, .slice A2 n2 c2, .slice A3 n3 c3, .int .i64 x.tests], .int .i64 k] w (RetMs fStanding w0 w (mkStanding x k) [.slice A1 n1 c1, .slice A2 n2 c2, .slice A3 n3 c3, .int .i64 x.tests] F (k + markSt x)) := by
  obtain ⟨v, u, t, G, H, I, e, h1, h2, h3, rfl⟩ := hv
  injection e with e1 e; injection e with e2 e; injection e with e3 e; injection e with e4 e
  subst e1 e2 e3
  clear e e4
  obtain ⟨s1, s2, s3⟩ := hs
  have hnl := markNodes_le x.wanted
  have hnd := hF.nodup
  rw [List.nodup_append] at hnd
  have hnd2 := hnd.2.1
  rw [List.nodup_append] at hnd2
  have fG : Fresh w0.heap.size G := ⟨hnd.1, fun b hb => hF.ge b (List.mem_append_left _ hb)⟩
  have fH : Fresh w0.heap.size H := ⟨hnd2.1, fun b hb => hF.ge b (List.mem_append_right _ (List.mem_append_left _ hb))⟩
  have fI : Fresh w0.heap.size I := ⟨hnd2.2.1, fun b hb => hF.ge b (List.mem_append_right _ (List.mem_append_right _ hb))⟩
  have dGH : ∀ b ∈ H, b ∉ G := fun b hb hb2 => hnd.2.2 b hb2 b (List.mem_append_left _ hb) rfl
  have dGI : ∀ b ∈ I, b ∉ G := fun b hb hb2 => hnd.2.2 b hb2 b (List.mem_append_right _ hb) rfl
  have dHG : ∀ b ∈ G, b ∉ H := fun b hb hb2 => hnd.2.2 b hb b (List.mem_append_left _ hb2) rfl
  have dHI : ∀ b ∈ I, b ∉ H := fun b hb hb2 => hnd2.2.2 b hb2 b hb rfl
  have dIG : ∀ b ∈ G, b ∉ I := fun b hb hb2 => hnd.2.2 b hb b (List.mem_append_right _ hb2) rfl
  have dIH : ∀ b ∈ H, b ∉ I := fun b hb hb2 => hnd2.2.2 b hb b hb2 rfl
  have A0 : Bw w (w.alloc (.cells #[.slice A1 n1 c1, .slice A2 n2 c2, .slice A3 n3 c3, .int .i64 x.tests] 61)) := (Bw.refl w).alloc _
  have B0 := hb.then A0
  have O0 := Only.alloc (G ++ (H ++ I)) w (.cells #[.slice A1 n1 c1, .slice A2 n2 c2, .slice A3 n3 c3, .int .i64 x.tests] 61)
  have nG : w.heap.size ∉ G := fun h => by have := (fItems_good (B := 0)).lt h1 _ h; omega
  have nH : w.heap.size ∉ H := fun h => by have := (fNodes_good (B := 0)).lt h2 _ h; omega
  have h1' := (fItems_good (B := w0.heap.size)).bw A0 hb.size h1
  have h2' := (fNodes_good (B := w0.heap.size)).bw A0 hb.size h2
  have h3' := (fInts_good (B := w0.heap.size)).bw A0 hb.size h3
  have q1 : (w.alloc (.cells #[.slice A1 n1 c1, .slice A2 n2 c2, .slice A3 n3 c3, .int .i64 x.tests] 61)).cell? ⟨w.heap.size, 1, none⟩ = some (.slice A2 n2 c2) := by go_simp
  have q2 : (w.alloc (.cells #[.slice A1 n1 c1, .slice A2 n2 c2, .slice A3 n3 c3, .int .i64 x.tests] 61)).cell? ⟨w.heap.size, 2, none⟩ = some (.slice A3 n3 c3) := by go_simp
  have hcall := L_markItemS w0 _ x.items _ G k h1' fG B0 s1 hk
  have hcall2 := fun w2 o c => L_markNodeS w0 w2 x.wanted (.slice A2 n2 c2) H (k + totItems x.items) o fH c s2 (by omega)
  have hcall3 := fun w2 o c => L_markIntS w0 w2 x.best (.slice A3 n3 c3) I (k + totItems x.items + markNodes x.wanted) o fI c s3 (by omega)
  have HM := Lib.hid (show k + totItems x.items + markNodes x.wanted + x.best.length = k + markSt x by unfold markSt; omega)
  rw [HM.out] at hcall3
  have HC2 := Lib.hid hcall2
  have HC3 := Lib.hid hcall3
  clear h1 h2 h3 hnl hnd hnd2 h1' fG fH fI hcall2 hcall3 s1 s2 s3
  go_enter Try.func69, Try.ntmps69
  go_wp2_with fail
  refine hcall.mono ?_
  rintro e w1 ⟨rfl, m1, hO1, hb1⟩
  replace q1 := hO1.cell q1 nG
  replace q2 := hO1.cell q2 nG
  replace h2' := hO1.keeps (fNodes_good (B := 0)) h2' dGH
  replace h3' := hO1.keeps (fInts_good (B := 0)) h3' dGI
  clear hcall
  go_wp2_with fail
  refine (HC2.out _ h2' hb1).mono ?_
  rintro e w2 ⟨rfl, m2, hO2, hb2⟩
  replace q2 := hO2.cell q2 nH
  replace h3' := hO2.keeps (fInts_good (B := 0)) h3' dHI
  replace m1 := hO2.keeps (fItems_good (B := 0)) m1 dHG
  go_wp2_with fail
  refine (HC3.out _ h3' hb2).mono ?_
  rintro e w3 ⟨rfl, m3, hO3, hb3⟩
  replace m1 := hO3.keeps (fItems_good (B := 0)) m1 dIG
  replace m2 := hO3.keeps (fNodes_good (B := 0)) m2 dIH
  have O1 := O0.then hO1 (fun b hb => List.mem_append_left _ hb)
  have O2 := O1.then hO2 (fun b hb => List.mem_append_right _ (List.mem_append_left _ hb))
  have O3 := O2.then hO3 (fun b hb => List.mem_append_right _ (List.mem_append_right _ hb))
  clear O0 O1 O2 hO1 hO2 hO3 HC2 HC3 A0 B0 hb1 hb2 q1 q2 h2' h3'
  go_wp2
  go_ret
  exact ⟨rfl, ⟨_, _, _, G, H, I, rfl, m1, m2, m3, rfl⟩, O3, hb3⟩
end Go.Proofs.Ytdfmgpmfalnffaa
