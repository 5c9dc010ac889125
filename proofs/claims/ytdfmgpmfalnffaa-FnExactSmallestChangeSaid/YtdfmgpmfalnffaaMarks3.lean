/- What the laws write into one item. -/
import Derived.Test.YtdfmgpmfalnffaaMarks2
namespace Go.Proofs.Ytdfmgpmfalnffaa
open Go.RowKit
set_option linter.unusedVariables false
set_option maxHeartbeats 800000 in
theorem L_markItem (w0 w : World) (x : GItem) (v : Value) (F : List Nat) (k : Nat) (hv : fInts w x.vals [v] F) (hF : Fresh w0.heap.size F) (hb : Bw w0 w) (hn : x.vals.length ≤ 1048576) (hk : k ≤ 8388608) :
    Calls Try.prog 48 #[.agg #[.int .i64 x.id, v], .int .i64 k] w (RetM fInts w0 w (mkInts x.vals k) v F (k + x.vals.length)) := by
  have B0 := hb.alloc (.cells #[.int .i64 x.id, v] 40)
  have hv1 := (fInts_good (B := w0.heap.size)).bw ((Bw.refl w).alloc (.cells #[.int .i64 x.id, v] 40)) hb.size hv
  have O0 := Only.alloc F w (.cells #[.int .i64 x.id, v] 40)
  have hcall := L_markIntS w0 _ x.vals v F k hv1 hF B0 hn hk
  go_enter Try.func48, Try.ntmps48
  go_wp2_with fail
  refine hcall.mono ?_
  rintro e w1 ⟨rfl, h1, hO, hb1⟩
  have hO' := O0.then hO (fun _ h => h)
  go_wp2
  go_ret
  exact ⟨rfl, h1, hO', hb1⟩
end Go.Proofs.Ytdfmgpmfalnffaa
