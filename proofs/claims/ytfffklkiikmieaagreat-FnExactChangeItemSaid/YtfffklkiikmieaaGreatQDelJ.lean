/- DeleteItem in the reference, whole; what it makes is small. -/
import Derived.Test.YtfffklkiikmieaaGreatQDelS2
import Derived.Test.YtfffklkiikmieaaGreatQDelI3
namespace Go.Proofs.YtfffklkiikmieaaGreat
open Go.RowKit
set_option linter.unusedVariables false
theorem S_DeleteItem (w : World) (s : GStanding) (id : Int) (va vb vc : Value) (ha : Rd rItems w s.items [va]) (hb : Rd rNodes w s.wanted [vb]) (hc : Rd rInts w s.best [vc]) (t1 : totItems s.items ≤ 1048576) (t2 : totNodes s.wanted ≤ 1048576) (t3 : s.best.length ≤ 1048576) :
    Calls Tryz.prog 21 #[.agg #[va, vb, vc, .int .i64 s.tests], .int .i64 id] w (RetV w (TwoA fStanding w.heap.size (delM s id) (.bool (delOk s id)))) := by
  cases h : delOk s id with
  | true =>
    rw [show delM s id = delS s id by unfold delM; rw [h]; rfl]
    cases h2 : s.best.contains id with
    | true => exact S_DeleteItem_in w s id va vb vc ha hb hc t1 t2 t3 h h2
    | false => exact S_DeleteItem_out w s id va vb vc ha hb hc t1 t2 t3 h h2
  | false => rw [show delM s id = s by unfold delM; rw [h]; rfl]; exact S_DeleteItem_no w s id va vb vc ha hb hc t1 t2 t3 h
theorem I_DeleteItem (w : World) (s : GStanding) (id : Int) (va vb vc : Value) (ha : Rd rItems w s.items [va]) (hb : Rd rNodes w s.wanted [vb]) (hc : Rd rInts w s.best [vc]) (t1 : totItems s.items ≤ 1048576) (t2 : totNodes s.wanted ≤ 1048576) (t3 : s.best.length ≤ 1048576) :
    Calls Tryz.prog 23 #[.agg #[va, vb, vc, .int .i64 s.tests], .int .i64 id] w (RetV w (TwoA fStanding w.heap.size (delM s id) (.bool (delOk s id)))) := by
  cases h : delOk s id with
  | true =>
    rw [show delM s id = delS s id by unfold delM; rw [h]; rfl]
    cases h2 : s.best.contains id with
    | true => exact I_DeleteItem_in w s id va vb vc ha hb hc t1 t2 t3 h h2
    | false => exact I_DeleteItem_out w s id va vb vc ha hb hc t1 t2 t3 h h2
  | false => rw [show delM s id = s by unfold delM; rw [h]; rfl]; exact I_DeleteItem_no w s id va vb vc ha hb hc t1 t2 t3 h
theorem sum_constB {α : Type} (f : α → Nat) (n : Nat) : ∀ {l : List α}, (∀ x ∈ l, f x = n) → sumL f l = l.length * n
  | [], _ => by simp [sumL]
  | a :: l, h => by
    have h1 := sum_constB f n (l := l) (fun x hx => h x (by simp [hx]))
    have h2 := h a (by simp)
    simp only [sumL, List.length_cons, h1, h2, Nat.succ_mul]; omega
theorem items_small {l : List GItem} (h : areItems l = true) : totItems l ≤ 64 := by
  have h2 := sum_constB (fun y : GItem => y.vals.length) 3 (fun y hy => isItem_len (areItems_mem h hy))
  have h3 := areItems_len h
  unfold totItems
  rw [h2]; omega
theorem delM_small {s : GStanding} {id : Int} (h : smallSt s) : smallSt (delM s id) := by
  unfold delM
  split
  · rename_i hok
    obtain ⟨E1, _, _⟩ := delOk_parts hok
    have hI := areBoth_items (stand_both E1).1
    have hl := stand_best_len E1
    have h4 := items_small (onlyM_items hI [id] false)
    have h5 := delLeft_len s id
    have h6 := delNew_len hI id
    unfold delS
    split
    · refine ⟨by dsimp only; omega, h.2.1, ?_⟩
      dsimp only
      rw [sortI_len, List.length_append]; omega
    · exact ⟨by dsimp only; omega, h.2.1, h.2.2⟩
  · exact h
end Go.Proofs.YtfffklkiikmieaaGreat
