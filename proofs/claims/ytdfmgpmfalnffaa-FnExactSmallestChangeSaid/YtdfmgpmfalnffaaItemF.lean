/- Items as owned results: what the laws write into one and look for. -/
import Derived.Test.YtdfmgpmfalnffaaMarks3
import Derived.Test.YtdfmgpmfalnffaaItems
namespace Go.Proofs.Ytdfmgpmfalnffaa
open Go.RowKit
set_option linter.unusedVariables false
set_option linter.unusedSimpArgs false
theorem fItem_open {w : World} {x : GItem} {cs : List Value} {F : List Nat} (h : fItem w x cs F) : ∃ A c, cs = [.int .i64 x.id, .slice A x.vals.length c] := by
  obtain ⟨v, e, h⟩ := h
  obtain ⟨A, c, rfl, _⟩ := rSl_shape (fInts_Rd h)
  exact ⟨A, c, e⟩
theorem fItem_Rds {w : World} {x : GItem} {a b : Value} {F : List Nat} (h : fItem w x [a, b] F) : Rd rInts w x.vals [b] := by
  obtain ⟨v, e, h⟩ := h
  injection e with e1 e; injection e with e2 e
  subst e2
  exact fInts_Rd h
def mkItemA (x : GItem) (k : Nat) : GItem := ⟨x.id, mkInts x.vals k⟩
def smallIt (x : GItem) : Prop := x.vals.length ≤ 1048576
theorem smallIt_le {x : GItem} (h : smallIt x) : x.vals.length ≤ 1048576 := h
def RetMi {α : Type} (f : Fp α) (w0 w : World) (x : α) (cs : List Value) (F : List Nat) (k : Nat) (e : Ending) (w' : World) : Prop := e = .returned (.int .i64 k) ∧ f w' x cs F ∧ Only F w w' ∧ Bw w0 w'
theorem L_markItemA (w0 w : World) (x : GItem) (A : Option Addr) (n c : Nat) (F : List Nat) (k : Nat) (hv : fItem w x [.int .i64 x.id, .slice A n c] F) (hF : Fresh w0.heap.size F) (hb : Bw w0 w) (hs : smallIt x) (hk : k ≤ 2097152) :
    Calls Try.prog 48 #[.agg #[.int .i64 x.id, .slice A n c], .int .i64 k] w (RetMi fItem w0 w (mkItemA x k) [.int .i64 x.id, .slice A n c] F (k + x.vals.length)) := by
  obtain ⟨v, e, h⟩ := hv
  injection e with e1 e; injection e with e2 e
  subst e2
  refine (L_markItem w0 w x _ F k h hF hb hs (by omega)).mono ?_
  rintro e w' ⟨rfl, o, hO, hb'⟩
  exact ⟨rfl, ⟨_, rfl, o⟩, hO, hb'⟩
set_option maxHeartbeats 800000 in
theorem L_heldItem (w : World) (x : GItem) (v : Value) (k : Nat) (h : Rd rInts w (mkInts x.vals k) [v]) (hn : x.vals.length ≤ 1048576) (hk : k ≤ 2097152) :
    Calls Try.prog 49 #[.agg #[.int .i64 x.id, v], .int .i64 k] w (Ret w (.int .i64 ((k + x.vals.length : Nat) : Int))) := by
  have B0 : Bw w (w.alloc (.cells #[.int .i64 x.id, v] 40)) := (Bw.refl w).alloc _
  have hcall := L_heldIntS _ x.vals v k (h.bw rInts_good B0) hn (by omega)
  obtain ⟨K, hK⟩ : ∃ K, K = k + x.vals.length := ⟨_, rfl⟩
  have hb : K ≤ 4194304 := by omega
  rw [← hK] at hcall ⊢
  clear hK h
  go_enter Try.func49, Try.ntmps49
  go_wp2_with fail
  refine hcall.mono ?_
  rintro e w1 ⟨rfl, hb1⟩
  have B1 := B0.then hb1
  clear hcall
  go_wp2
  go_ret
  exact Ret.int rfl B1
theorem L_heldIt {w : World} {x : GItem} {A : Option Addr} {n c : Nat} {F : List Nat} (h : fItem w (mkItemA x 1) [.int .i64 x.id, .slice A n c] F) (hs : smallIt x) :
    Calls Try.prog 49 #[.agg #[.int .i64 x.id, .slice A n c], .int .i64 1] w (Ret w (.int .i64 ((1 + x.vals.length : Nat) : Int))) :=
  L_heldItem w x _ 1 (fItem_Rds h) hs (by omega)
end Go.Proofs.Ytdfmgpmfalnffaa
