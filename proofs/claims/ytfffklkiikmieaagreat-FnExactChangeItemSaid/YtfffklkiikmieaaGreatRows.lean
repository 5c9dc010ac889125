/-
  No cell of these rows narrows 'for every input' (looked for: loops, veiled, ifaces, maps, wideKeys, modest, calm, conditions, laid).
  DERIVED. THE GIVEN ROWS OF THIS SEAT. 4 by the template 'for every input the law returns true; each argument reads behind the call as it read before'; 0 by the template 'total and deterministic' (their statements: YtfffklkiikmieaaGreatTotals.lean).
  GIVEN WITH THE SEED: the statements are not yours to turn. If you find one false, say at which input.
  Laid BY PROGRAM, IN A SANDBOX (cutbox-rows.mjs): the forced cells as the released guide's own fill.sh prints them over the translation a7a919cb17210fc3… (all of the seat's roots in one cut). By AI agents, Wed Nov 11 2026. No macro, syntax, notation, axiom, sorry.
-/
import Derived.Test.YtfffklkiikmieaaGreatChecked
import GoSem.Claim
import GoSem.ClaimJoined
import GoSem.ClaimMapViews
import Derived.JoinedTies
import Derived.KernelRfl
namespace Go.Proofs.YtfffklkiikmieaaGreat
/- THE CELL 'sum', in the pinned program and in every row, IS THE sha256 OF THE DUMP (.gsa) THAT YtfffklkiikmieaaGreatProg.lean LOADS. Nothing in Lean hashes anything: it is a label: what it is worth is what the hold of that sum in a sandbox is worth. -/
noncomputable def Tryz.pinned : Pinned := { name := "ytfffklkiikmieaagreat", sum := "a7a919cb17210fc38716aa5088c36d170a0ec144464558da0215b5ec7d686d87", checked := Tryz.checked }
namespace Rows
def none {H : Type} : Left H := { results := [], args := [] }

/-- 'laws.FnExactShareBest': WHATEVER THE INPUT: true; the input reads as it did. -/
def fnExactShareBestSpec : ChangeSpec := { name := "fnExactShareBest", fn := fun _ => fun
  | [d1, d2] => { results := [.lit (.bool true)], args := [d1, d2] }
  | _ => none }
def fnExactShareBestRow : OpenClaim := { program := "ytfffklkiikmieaagreat", sum := "a7a919cb17210fc38716aa5088c36d170a0ec144464558da0215b5ec7d686d87", func := "loop.example/g01987/laws.FnExactShareBest", spec := "fnExactShareBest", unfollowed := true, recurses := true, apart := false }
def FnExactShareBestSaid : Prop := fnExactShareBestRow.holds Tryz.pinned (OpenSpec.ofChange fnExactShareBestSpec)

/-- ITS FALSE NEIGHBOUR: 'it returns false'. Refute it at one input. -/
def fnExactShareBestWrong : ChangeSpec := { name := "fnExactShareBest", fn := fun _ => fun
  | [d1, d2] => { results := [.lit (.bool false)], args := [d1, d2] }
  | _ => none }
def FnExactShareBestWrongFalsely : Prop := fnExactShareBestRow.holds Tryz.pinned (OpenSpec.ofChange fnExactShareBestWrong)

/-- 'laws.FnExactDeleteItem': WHATEVER THE INPUT: true; the input reads as it did. -/
def fnExactDeleteItemSpec : ChangeSpec := { name := "fnExactDeleteItem", fn := fun _ => fun
  | [d1, d2] => { results := [.lit (.bool true)], args := [d1, d2] }
  | _ => none }
def fnExactDeleteItemRow : OpenClaim := { program := "ytfffklkiikmieaagreat", sum := "a7a919cb17210fc38716aa5088c36d170a0ec144464558da0215b5ec7d686d87", func := "loop.example/g01987/laws.FnExactDeleteItem", spec := "fnExactDeleteItem", unfollowed := true, recurses := true, apart := false }
def FnExactDeleteItemSaid : Prop := fnExactDeleteItemRow.holds Tryz.pinned (OpenSpec.ofChange fnExactDeleteItemSpec)

/-- ITS FALSE NEIGHBOUR: 'it returns false'. Refute it at one input. -/
def fnExactDeleteItemWrong : ChangeSpec := { name := "fnExactDeleteItem", fn := fun _ => fun
  | [d1, d2] => { results := [.lit (.bool false)], args := [d1, d2] }
  | _ => none }
def FnExactDeleteItemWrongFalsely : Prop := fnExactDeleteItemRow.holds Tryz.pinned (OpenSpec.ofChange fnExactDeleteItemWrong)

/-- 'laws.FnExactInsertItem': WHATEVER THE INPUT: true; the input reads as it did. -/
def fnExactInsertItemSpec : ChangeSpec := { name := "fnExactInsertItem", fn := fun _ => fun
  | [d1, d2] => { results := [.lit (.bool true)], args := [d1, d2] }
  | _ => none }
def fnExactInsertItemRow : OpenClaim := { program := "ytfffklkiikmieaagreat", sum := "a7a919cb17210fc38716aa5088c36d170a0ec144464558da0215b5ec7d686d87", func := "loop.example/g01987/laws.FnExactInsertItem", spec := "fnExactInsertItem", unfollowed := true, recurses := true, apart := false }
def FnExactInsertItemSaid : Prop := fnExactInsertItemRow.holds Tryz.pinned (OpenSpec.ofChange fnExactInsertItemSpec)

/-- ITS FALSE NEIGHBOUR: 'it returns false'. Refute it at one input. -/
def fnExactInsertItemWrong : ChangeSpec := { name := "fnExactInsertItem", fn := fun _ => fun
  | [d1, d2] => { results := [.lit (.bool false)], args := [d1, d2] }
  | _ => none }
def FnExactInsertItemWrongFalsely : Prop := fnExactInsertItemRow.holds Tryz.pinned (OpenSpec.ofChange fnExactInsertItemWrong)

/-- 'laws.FnExactChangeItem': WHATEVER THE INPUT: true; the input reads as it did. -/
def fnExactChangeItemSpec : ChangeSpec := { name := "fnExactChangeItem", fn := fun _ => fun
  | [d1, d2] => { results := [.lit (.bool true)], args := [d1, d2] }
  | _ => none }
def fnExactChangeItemRow : OpenClaim := { program := "ytfffklkiikmieaagreat", sum := "a7a919cb17210fc38716aa5088c36d170a0ec144464558da0215b5ec7d686d87", func := "loop.example/g01987/laws.FnExactChangeItem", spec := "fnExactChangeItem", unfollowed := true, recurses := true, apart := false }
def FnExactChangeItemSaid : Prop := fnExactChangeItemRow.holds Tryz.pinned (OpenSpec.ofChange fnExactChangeItemSpec)

/-- ITS FALSE NEIGHBOUR: 'it returns false'. Refute it at one input. -/
def fnExactChangeItemWrong : ChangeSpec := { name := "fnExactChangeItem", fn := fun _ => fun
  | [d1, d2] => { results := [.lit (.bool false)], args := [d1, d2] }
  | _ => none }
def FnExactChangeItemWrongFalsely : Prop := fnExactChangeItemRow.holds Tryz.pinned (OpenSpec.ofChange fnExactChangeItemWrong)

/- THE SECOND FORM. 'bulk': how many values and letters a reading holds, each counted each time it is reached (what is shared counts as often as it is met; a slice's spare places count too). A statement '..UptoSaid' is the law's where the arguments, and the package variables that the reading takes, are together of bulk at most 1048576: NARROWER than '..Said'. Prove '..Said' where nothing that the law and all that it calls make is longer than what came in: it says more and counts as full. Else prove '..UptoSaid'. A law counts once. -/
mutual
def uptoBulk {H : Type} : DataW H → Nat
  | .lit (.string bytes) => bytes.length + 1
  | .lit _ => 1
  | .nil => 1
  | .ptr d => uptoBulk d + 1
  | .slice elems spare => uptoBulkAll elems + uptoBulkAll spare + 1
  | .agg parts => uptoBulkAll parts + 1
  | .iface _ d => uptoBulk d + 1
  | .map entries => uptoBulkEntries entries + 1
  | .held _ => 1
def uptoBulkAll {H : Type} : List (DataW H) → Nat
  | [] => 0
  | d :: r => uptoBulk d + uptoBulkAll r
def uptoBulkEntries {H : Type} : List (Lit × DataW H) → Nat
  | [] => 0
  | x :: r => uptoBulkEntry x + uptoBulkEntries r
def uptoBulkEntry {H : Type} : Lit × DataW H → Nat
  | (.string bytes, d) => bytes.length + uptoBulk d + 1
  | (_, d) => uptoBulk d + 1
 end
def uptoSmall : (H : Type) → List (DataW H) → Bool := fun _ ds => decide (uptoBulkAll ds ≤ 1048576)
def OpenSpec.upto (s : _root_.Go.ChangeSpec) : _root_.Go.OpenSpec := { _root_.Go.OpenSpec.ofChange s with cond := some uptoSmall }

/-- 'laws.FnExactShareBest', WHERE WHAT IT READS IS OF BULK AT MOST 1048576: true; the input reads as it did. -/
def fnExactShareBestUptoRow : OpenClaim := { program := "ytfffklkiikmieaagreat", sum := "a7a919cb17210fc38716aa5088c36d170a0ec144464558da0215b5ec7d686d87", func := "loop.example/g01987/laws.FnExactShareBest", spec := "fnExactShareBest", unfollowed := true, recurses := true, apart := false, narrowed := true }
def FnExactShareBestUptoSaid : Prop := fnExactShareBestUptoRow.holds Tryz.pinned (OpenSpec.upto fnExactShareBestSpec)

/-- 'laws.FnExactDeleteItem', WHERE WHAT IT READS IS OF BULK AT MOST 1048576: true; the input reads as it did. -/
def fnExactDeleteItemUptoRow : OpenClaim := { program := "ytfffklkiikmieaagreat", sum := "a7a919cb17210fc38716aa5088c36d170a0ec144464558da0215b5ec7d686d87", func := "loop.example/g01987/laws.FnExactDeleteItem", spec := "fnExactDeleteItem", unfollowed := true, recurses := true, apart := false, narrowed := true }
def FnExactDeleteItemUptoSaid : Prop := fnExactDeleteItemUptoRow.holds Tryz.pinned (OpenSpec.upto fnExactDeleteItemSpec)

/-- 'laws.FnExactInsertItem', WHERE WHAT IT READS IS OF BULK AT MOST 1048576: true; the input reads as it did. -/
def fnExactInsertItemUptoRow : OpenClaim := { program := "ytfffklkiikmieaagreat", sum := "a7a919cb17210fc38716aa5088c36d170a0ec144464558da0215b5ec7d686d87", func := "loop.example/g01987/laws.FnExactInsertItem", spec := "fnExactInsertItem", unfollowed := true, recurses := true, apart := false, narrowed := true }
def FnExactInsertItemUptoSaid : Prop := fnExactInsertItemUptoRow.holds Tryz.pinned (OpenSpec.upto fnExactInsertItemSpec)

/-- 'laws.FnExactChangeItem', WHERE WHAT IT READS IS OF BULK AT MOST 1048576: true; the input reads as it did. -/
def fnExactChangeItemUptoRow : OpenClaim := { program := "ytfffklkiikmieaagreat", sum := "a7a919cb17210fc38716aa5088c36d170a0ec144464558da0215b5ec7d686d87", func := "loop.example/g01987/laws.FnExactChangeItem", spec := "fnExactChangeItem", unfollowed := true, recurses := true, apart := false, narrowed := true }
def FnExactChangeItemUptoSaid : Prop := fnExactChangeItemUptoRow.holds Tryz.pinned (OpenSpec.upto fnExactChangeItemSpec)

end Rows
end Go.Proofs.YtfffklkiikmieaaGreat
