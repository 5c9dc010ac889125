/-
  No cell of these rows narrows 'for every input' (looked for: loops, veiled, ifaces, maps, wideKeys, modest, calm, conditions, laid).
  DERIVED. THE GIVEN ROWS OF THIS SEAT. 12 by the template 'for every input the law returns true; each argument reads behind the call as it read before'; 0 by the template 'total and deterministic' (their statements: YtjhieohbobfjjaaTotals.lean).
  GIVEN WITH THE SEED: the statements are not yours to turn. If you find one false, say at which input.
  Laid BY PROGRAM, IN A SANDBOX (cutbox-rows.mjs): the forced cells as the released guide's own fill.sh prints them over the translation e27fdee7d8570a48… (all of the seat's roots in one cut). By AI agents, Wed Nov 11 2026. No macro, syntax, notation, axiom, sorry.
-/
import Derived.Test.YtjhieohbobfjjaaChecked
import GoSem.Claim
import GoSem.ClaimJoined
import GoSem.ClaimMapViews
import Derived.JoinedTies
import Derived.KernelRfl
namespace Go.Proofs.Ytjhieohbobfjjaa
/- THE CELL 'sum', in the pinned program and in every row, IS THE sha256 OF THE DUMP (.gsa) THAT YtjhieohbobfjjaaProg.lean LOADS. Nothing in Lean hashes anything: it is a label: what it is worth is what the hold of that sum in a sandbox is worth. -/
noncomputable def Try.pinned : Pinned := { name := "ytjhieohbobfjjaa", sum := "e27fdee7d8570a48c3239ceeb708d50d2e50b49209f9068f41b5902219944d02", checked := Try.checked }
namespace Rows
def none {H : Type} : Left H := { results := [], args := [] }

/-- 'laws.FnExactEqualCouples': WHATEVER THE INPUT: true; the input reads as it did. -/
def fnExactEqualCouplesSpec : ChangeSpec := { name := "fnExactEqualCouples", fn := fun _ => fun
  | [d1, d2] => { results := [.lit (.bool true)], args := [d1, d2] }
  | _ => none }
def fnExactEqualCouplesRow : OpenClaim := { program := "ytjhieohbobfjjaa", sum := "e27fdee7d8570a48c3239ceeb708d50d2e50b49209f9068f41b5902219944d02", func := "loop.example/g01987/laws.FnExactEqualCouples", spec := "fnExactEqualCouples", apart := false }
def FnExactEqualCouplesSaid : Prop := fnExactEqualCouplesRow.holds Try.pinned (OpenSpec.ofChange fnExactEqualCouplesSpec)

/-- ITS FALSE NEIGHBOUR: 'it returns false'. Refute it at one input. -/
def fnExactEqualCouplesWrong : ChangeSpec := { name := "fnExactEqualCouples", fn := fun _ => fun
  | [d1, d2] => { results := [.lit (.bool false)], args := [d1, d2] }
  | _ => none }
def FnExactEqualCouplesWrongFalsely : Prop := fnExactEqualCouplesRow.holds Try.pinned (OpenSpec.ofChange fnExactEqualCouplesWrong)

/-- 'laws.FnExactCostOf': WHATEVER THE INPUT: true; the input reads as it did. -/
def fnExactCostOfSpec : ChangeSpec := { name := "fnExactCostOf", fn := fun _ => fun
  | [d1, d2] => { results := [.lit (.bool true)], args := [d1, d2] }
  | _ => none }
def fnExactCostOfRow : OpenClaim := { program := "ytjhieohbobfjjaa", sum := "e27fdee7d8570a48c3239ceeb708d50d2e50b49209f9068f41b5902219944d02", func := "loop.example/g01987/laws.FnExactCostOf", spec := "fnExactCostOf", apart := false }
def FnExactCostOfSaid : Prop := fnExactCostOfRow.holds Try.pinned (OpenSpec.ofChange fnExactCostOfSpec)

/-- ITS FALSE NEIGHBOUR: 'it returns false'. Refute it at one input. -/
def fnExactCostOfWrong : ChangeSpec := { name := "fnExactCostOf", fn := fun _ => fun
  | [d1, d2] => { results := [.lit (.bool false)], args := [d1, d2] }
  | _ => none }
def FnExactCostOfWrongFalsely : Prop := fnExactCostOfRow.holds Try.pinned (OpenSpec.ofChange fnExactCostOfWrong)

/-- 'laws.FnExactIdLine': WHATEVER THE INPUT: true; the input reads as it did. -/
def fnExactIdLineSpec : ChangeSpec := { name := "fnExactIdLine", fn := fun _ => fun
  | [d] => { results := [.lit (.bool true)], args := [d] }
  | _ => none }
def fnExactIdLineRow : OpenClaim := { program := "ytjhieohbobfjjaa", sum := "e27fdee7d8570a48c3239ceeb708d50d2e50b49209f9068f41b5902219944d02", func := "loop.example/g01987/laws.FnExactIdLine", spec := "fnExactIdLine", apart := false }
def FnExactIdLineSaid : Prop := fnExactIdLineRow.holds Try.pinned (OpenSpec.ofChange fnExactIdLineSpec)

/-- ITS FALSE NEIGHBOUR: 'it returns false'. Refute it at one input. -/
def fnExactIdLineWrong : ChangeSpec := { name := "fnExactIdLine", fn := fun _ => fun
  | [d] => { results := [.lit (.bool false)], args := [d] }
  | _ => none }
def FnExactIdLineWrongFalsely : Prop := fnExactIdLineRow.holds Try.pinned (OpenSpec.ofChange fnExactIdLineWrong)

/-- 'laws.FnExactSameAnswers': WHATEVER THE INPUT: true; the input reads as it did. -/
def fnExactSameAnswersSpec : ChangeSpec := { name := "fnExactSameAnswers", fn := fun _ => fun
  | [d1, d2] => { results := [.lit (.bool true)], args := [d1, d2] }
  | _ => none }
def fnExactSameAnswersRow : OpenClaim := { program := "ytjhieohbobfjjaa", sum := "e27fdee7d8570a48c3239ceeb708d50d2e50b49209f9068f41b5902219944d02", func := "loop.example/g01987/laws.FnExactSameAnswers", spec := "fnExactSameAnswers", unfollowed := true, recurses := true, apart := false }
def FnExactSameAnswersSaid : Prop := fnExactSameAnswersRow.holds Try.pinned (OpenSpec.ofChange fnExactSameAnswersSpec)

/-- ITS FALSE NEIGHBOUR: 'it returns false'. Refute it at one input. -/
def fnExactSameAnswersWrong : ChangeSpec := { name := "fnExactSameAnswers", fn := fun _ => fun
  | [d1, d2] => { results := [.lit (.bool false)], args := [d1, d2] }
  | _ => none }
def FnExactSameAnswersWrongFalsely : Prop := fnExactSameAnswersRow.holds Try.pinned (OpenSpec.ofChange fnExactSameAnswersWrong)

/-- 'laws.FnExactReplaceItem': WHATEVER THE INPUT: true; the input reads as it did. -/
def fnExactReplaceItemSpec : ChangeSpec := { name := "fnExactReplaceItem", fn := fun _ => fun
  | [d1, d2] => { results := [.lit (.bool true)], args := [d1, d2] }
  | _ => none }
def fnExactReplaceItemRow : OpenClaim := { program := "ytjhieohbobfjjaa", sum := "e27fdee7d8570a48c3239ceeb708d50d2e50b49209f9068f41b5902219944d02", func := "loop.example/g01987/laws.FnExactReplaceItem", spec := "fnExactReplaceItem", unfollowed := true, recurses := true, apart := false }
def FnExactReplaceItemSaid : Prop := fnExactReplaceItemRow.holds Try.pinned (OpenSpec.ofChange fnExactReplaceItemSpec)

/-- ITS FALSE NEIGHBOUR: 'it returns false'. Refute it at one input. -/
def fnExactReplaceItemWrong : ChangeSpec := { name := "fnExactReplaceItem", fn := fun _ => fun
  | [d1, d2] => { results := [.lit (.bool false)], args := [d1, d2] }
  | _ => none }
def FnExactReplaceItemWrongFalsely : Prop := fnExactReplaceItemRow.holds Try.pinned (OpenSpec.ofChange fnExactReplaceItemWrong)

/-- 'laws.FnExactIsPartial': WHATEVER THE INPUT: true; the input reads as it did. -/
def fnExactIsPartialSpec : ChangeSpec := { name := "fnExactIsPartial", fn := fun _ => fun
  | [d] => { results := [.lit (.bool true)], args := [d] }
  | _ => none }
def fnExactIsPartialRow : OpenClaim := { program := "ytjhieohbobfjjaa", sum := "e27fdee7d8570a48c3239ceeb708d50d2e50b49209f9068f41b5902219944d02", func := "loop.example/g01987/laws.FnExactIsPartial", spec := "fnExactIsPartial", apart := false }
def FnExactIsPartialSaid : Prop := fnExactIsPartialRow.holds Try.pinned (OpenSpec.ofChange fnExactIsPartialSpec)

/-- ITS FALSE NEIGHBOUR: 'it returns false'. Refute it at one input. -/
def fnExactIsPartialWrong : ChangeSpec := { name := "fnExactIsPartial", fn := fun _ => fun
  | [d] => { results := [.lit (.bool false)], args := [d] }
  | _ => none }
def FnExactIsPartialWrongFalsely : Prop := fnExactIsPartialRow.holds Try.pinned (OpenSpec.ofChange fnExactIsPartialWrong)

/-- 'laws.FnExactCountCompletions': WHATEVER THE INPUT: true; the input reads as it did. -/
def fnExactCountCompletionsSpec : ChangeSpec := { name := "fnExactCountCompletions", fn := fun _ => fun
  | [d] => { results := [.lit (.bool true)], args := [d] }
  | _ => none }
def fnExactCountCompletionsRow : OpenClaim := { program := "ytjhieohbobfjjaa", sum := "e27fdee7d8570a48c3239ceeb708d50d2e50b49209f9068f41b5902219944d02", func := "loop.example/g01987/laws.FnExactCountCompletions", spec := "fnExactCountCompletions", apart := false }
def FnExactCountCompletionsSaid : Prop := fnExactCountCompletionsRow.holds Try.pinned (OpenSpec.ofChange fnExactCountCompletionsSpec)

/-- ITS FALSE NEIGHBOUR: 'it returns false'. Refute it at one input. -/
def fnExactCountCompletionsWrong : ChangeSpec := { name := "fnExactCountCompletions", fn := fun _ => fun
  | [d] => { results := [.lit (.bool false)], args := [d] }
  | _ => none }
def FnExactCountCompletionsWrongFalsely : Prop := fnExactCountCompletionsRow.holds Try.pinned (OpenSpec.ofChange fnExactCountCompletionsWrong)

/-- 'laws.FnExactCouples': WHATEVER THE INPUT: true; the input reads as it did. -/
def fnExactCouplesSpec : ChangeSpec := { name := "fnExactCouples", fn := fun _ => fun
  | [d1, d2, d3, d4] => { results := [.lit (.bool true)], args := [d1, d2, d3, d4] }
  | _ => none }
def fnExactCouplesRow : OpenClaim := { program := "ytjhieohbobfjjaa", sum := "e27fdee7d8570a48c3239ceeb708d50d2e50b49209f9068f41b5902219944d02", func := "loop.example/g01987/laws.FnExactCouples", spec := "fnExactCouples", apart := false }
def FnExactCouplesSaid : Prop := fnExactCouplesRow.holds Try.pinned (OpenSpec.ofChange fnExactCouplesSpec)

/-- ITS FALSE NEIGHBOUR: 'it returns false'. Refute it at one input. -/
def fnExactCouplesWrong : ChangeSpec := { name := "fnExactCouples", fn := fun _ => fun
  | [d1, d2, d3, d4] => { results := [.lit (.bool false)], args := [d1, d2, d3, d4] }
  | _ => none }
def FnExactCouplesWrongFalsely : Prop := fnExactCouplesRow.holds Try.pinned (OpenSpec.ofChange fnExactCouplesWrong)

/-- 'laws.FnExactCompletionAt': WHATEVER THE INPUT: true; the input reads as it did. -/
def fnExactCompletionAtSpec : ChangeSpec := { name := "fnExactCompletionAt", fn := fun _ => fun
  | [d1, d2] => { results := [.lit (.bool true)], args := [d1, d2] }
  | _ => none }
def fnExactCompletionAtRow : OpenClaim := { program := "ytjhieohbobfjjaa", sum := "e27fdee7d8570a48c3239ceeb708d50d2e50b49209f9068f41b5902219944d02", func := "loop.example/g01987/laws.FnExactCompletionAt", spec := "fnExactCompletionAt", apart := false }
def FnExactCompletionAtSaid : Prop := fnExactCompletionAtRow.holds Try.pinned (OpenSpec.ofChange fnExactCompletionAtSpec)

/-- ITS FALSE NEIGHBOUR: 'it returns false'. Refute it at one input. -/
def fnExactCompletionAtWrong : ChangeSpec := { name := "fnExactCompletionAt", fn := fun _ => fun
  | [d1, d2] => { results := [.lit (.bool false)], args := [d1, d2] }
  | _ => none }
def FnExactCompletionAtWrongFalsely : Prop := fnExactCompletionAtRow.holds Try.pinned (OpenSpec.ofChange fnExactCompletionAtWrong)

/-- 'laws.FnExactEqualStandings': WHATEVER THE INPUT: true; the input reads as it did. -/
def fnExactEqualStandingsSpec : ChangeSpec := { name := "fnExactEqualStandings", fn := fun _ => fun
  | [d1, d2] => { results := [.lit (.bool true)], args := [d1, d2] }
  | _ => none }
def fnExactEqualStandingsRow : OpenClaim := { program := "ytjhieohbobfjjaa", sum := "e27fdee7d8570a48c3239ceeb708d50d2e50b49209f9068f41b5902219944d02", func := "loop.example/g01987/laws.FnExactEqualStandings", spec := "fnExactEqualStandings", unfollowed := true, recurses := true, apart := false }
def FnExactEqualStandingsSaid : Prop := fnExactEqualStandingsRow.holds Try.pinned (OpenSpec.ofChange fnExactEqualStandingsSpec)

/-- ITS FALSE NEIGHBOUR: 'it returns false'. Refute it at one input. -/
def fnExactEqualStandingsWrong : ChangeSpec := { name := "fnExactEqualStandings", fn := fun _ => fun
  | [d1, d2] => { results := [.lit (.bool false)], args := [d1, d2] }
  | _ => none }
def FnExactEqualStandingsWrongFalsely : Prop := fnExactEqualStandingsRow.holds Try.pinned (OpenSpec.ofChange fnExactEqualStandingsWrong)

/-- 'laws.FnExactParetoOf': WHATEVER THE INPUT: true; the input reads as it did. -/
def fnExactParetoOfSpec : ChangeSpec := { name := "fnExactParetoOf", fn := fun _ => fun
  | [d] => { results := [.lit (.bool true)], args := [d] }
  | _ => none }
def fnExactParetoOfRow : OpenClaim := { program := "ytjhieohbobfjjaa", sum := "e27fdee7d8570a48c3239ceeb708d50d2e50b49209f9068f41b5902219944d02", func := "loop.example/g01987/laws.FnExactParetoOf", spec := "fnExactParetoOf", apart := false }
def FnExactParetoOfSaid : Prop := fnExactParetoOfRow.holds Try.pinned (OpenSpec.ofChange fnExactParetoOfSpec)

/-- ITS FALSE NEIGHBOUR: 'it returns false'. Refute it at one input. -/
def fnExactParetoOfWrong : ChangeSpec := { name := "fnExactParetoOf", fn := fun _ => fun
  | [d] => { results := [.lit (.bool false)], args := [d] }
  | _ => none }
def FnExactParetoOfWrongFalsely : Prop := fnExactParetoOfRow.holds Try.pinned (OpenSpec.ofChange fnExactParetoOfWrong)

/-- 'laws.FnExactIsWeaker': WHATEVER THE INPUT: true; the input reads as it did. -/
def fnExactIsWeakerSpec : ChangeSpec := { name := "fnExactIsWeaker", fn := fun _ => fun
  | [d1, d2] => { results := [.lit (.bool true)], args := [d1, d2] }
  | _ => none }
def fnExactIsWeakerRow : OpenClaim := { program := "ytjhieohbobfjjaa", sum := "e27fdee7d8570a48c3239ceeb708d50d2e50b49209f9068f41b5902219944d02", func := "loop.example/g01987/laws.FnExactIsWeaker", spec := "fnExactIsWeaker", unfollowed := true, recurses := true, apart := false }
def FnExactIsWeakerSaid : Prop := fnExactIsWeakerRow.holds Try.pinned (OpenSpec.ofChange fnExactIsWeakerSpec)

/-- ITS FALSE NEIGHBOUR: 'it returns false'. Refute it at one input. -/
def fnExactIsWeakerWrong : ChangeSpec := { name := "fnExactIsWeaker", fn := fun _ => fun
  | [d1, d2] => { results := [.lit (.bool false)], args := [d1, d2] }
  | _ => none }
def FnExactIsWeakerWrongFalsely : Prop := fnExactIsWeakerRow.holds Try.pinned (OpenSpec.ofChange fnExactIsWeakerWrong)

/- THE SECOND FORM. 'bulk': how many values and letters a reading holds, each counted each time it is reached (what is shared counts as often as it is met; a slice's spare places count too). A statement '..UptoSaid' is the law's where the arguments, and the package variables that the reading takes, are together of bulk at most 1048576: NARROWER than '..Said'. Prove '..Said' where nothing that the law and all that it calls make is longer than what came in: it says more and counts as full. Else prove '..UptoSaid'. A law counts once. -/
mutual
def uptoBulk {H : Type} : DataW H → Nat
  | .lit (.string bytes) => bytes.length + 1
  | .lit _ => 1
  | .nil => 1
  | .ptr d => uptoBulk d + 1
  | .slice elems spare => uptoBulkAll elems + uptoBulkAll spare + 1
  | .agg parts => uptoBulkAll parts + 1
  | .iface _ d => uptoBulk d + 1
  | .map entries => uptoBulkEntries entries + 1
  | .held _ => 1
def uptoBulkAll {H : Type} : List (DataW H) → Nat
  | [] => 0
  | d :: r => uptoBulk d + uptoBulkAll r
def uptoBulkEntries {H : Type} : List (Lit × DataW H) → Nat
  | [] => 0
  | x :: r => uptoBulkEntry x + uptoBulkEntries r
def uptoBulkEntry {H : Type} : Lit × DataW H → Nat
  | (.string bytes, d) => bytes.length + uptoBulk d + 1
  | (_, d) => uptoBulk d + 1
 end
def uptoSmall : (H : Type) → List (DataW H) → Bool := fun _ ds => decide (uptoBulkAll ds ≤ 1048576)
def OpenSpec.upto (s : _root_.Go.ChangeSpec) : _root_.Go.OpenSpec := { _root_.Go.OpenSpec.ofChange s with cond := some uptoSmall }

/-- 'laws.FnExactEqualCouples', WHERE WHAT IT READS IS OF BULK AT MOST 1048576: true; the input reads as it did. -/
def fnExactEqualCouplesUptoRow : OpenClaim := { program := "ytjhieohbobfjjaa", sum := "e27fdee7d8570a48c3239ceeb708d50d2e50b49209f9068f41b5902219944d02", func := "loop.example/g01987/laws.FnExactEqualCouples", spec := "fnExactEqualCouples", apart := false, narrowed := true }
def FnExactEqualCouplesUptoSaid : Prop := fnExactEqualCouplesUptoRow.holds Try.pinned (OpenSpec.upto fnExactEqualCouplesSpec)

/-- 'laws.FnExactCostOf', WHERE WHAT IT READS IS OF BULK AT MOST 1048576: true; the input reads as it did. -/
def fnExactCostOfUptoRow : OpenClaim := { program := "ytjhieohbobfjjaa", sum := "e27fdee7d8570a48c3239ceeb708d50d2e50b49209f9068f41b5902219944d02", func := "loop.example/g01987/laws.FnExactCostOf", spec := "fnExactCostOf", apart := false, narrowed := true }
def FnExactCostOfUptoSaid : Prop := fnExactCostOfUptoRow.holds Try.pinned (OpenSpec.upto fnExactCostOfSpec)

/-- 'laws.FnExactIdLine', WHERE WHAT IT READS IS OF BULK AT MOST 1048576: true; the input reads as it did. -/
def fnExactIdLineUptoRow : OpenClaim := { program := "ytjhieohbobfjjaa", sum := "e27fdee7d8570a48c3239ceeb708d50d2e50b49209f9068f41b5902219944d02", func := "loop.example/g01987/laws.FnExactIdLine", spec := "fnExactIdLine", apart := false, narrowed := true }
def FnExactIdLineUptoSaid : Prop := fnExactIdLineUptoRow.holds Try.pinned (OpenSpec.upto fnExactIdLineSpec)

/-- 'laws.FnExactSameAnswers', WHERE WHAT IT READS IS OF BULK AT MOST 1048576: true; the input reads as it did. -/
def fnExactSameAnswersUptoRow : OpenClaim := { program := "ytjhieohbobfjjaa", sum := "e27fdee7d8570a48c3239ceeb708d50d2e50b49209f9068f41b5902219944d02", func := "loop.example/g01987/laws.FnExactSameAnswers", spec := "fnExactSameAnswers", unfollowed := true, recurses := true, apart := false, narrowed := true }
def FnExactSameAnswersUptoSaid : Prop := fnExactSameAnswersUptoRow.holds Try.pinned (OpenSpec.upto fnExactSameAnswersSpec)

/-- 'laws.FnExactReplaceItem', WHERE WHAT IT READS IS OF BULK AT MOST 1048576: true; the input reads as it did. -/
def fnExactReplaceItemUptoRow : OpenClaim := { program := "ytjhieohbobfjjaa", sum := "e27fdee7d8570a48c3239ceeb708d50d2e50b49209f9068f41b5902219944d02", func := "loop.example/g01987/laws.FnExactReplaceItem", spec := "fnExactReplaceItem", unfollowed := true, recurses := true, apart := false, narrowed := true }
def FnExactReplaceItemUptoSaid : Prop := fnExactReplaceItemUptoRow.holds Try.pinned (OpenSpec.upto fnExactReplaceItemSpec)

/-- 'laws.FnExactIsPartial', WHERE WHAT IT READS IS OF BULK AT MOST 1048576: true; the input reads as it did. -/
def fnExactIsPartialUptoRow : OpenClaim := { program := "ytjhieohbobfjjaa", sum := "e27fdee7d8570a48c3239ceeb708d50d2e50b49209f9068f41b5902219944d02", func := "loop.example/g01987/laws.FnExactIsPartial", spec := "fnExactIsPartial", apart := false, narrowed := true }
def FnExactIsPartialUptoSaid : Prop := fnExactIsPartialUptoRow.holds Try.pinned (OpenSpec.upto fnExactIsPartialSpec)

/-- 'laws.FnExactCountCompletions', WHERE WHAT IT READS IS OF BULK AT MOST 1048576: true; the input reads as it did. -/
def fnExactCountCompletionsUptoRow : OpenClaim := { program := "ytjhieohbobfjjaa", sum := "e27fdee7d8570a48c3239ceeb708d50d2e50b49209f9068f41b5902219944d02", func := "loop.example/g01987/laws.FnExactCountCompletions", spec := "fnExactCountCompletions", apart := false, narrowed := true }
def FnExactCountCompletionsUptoSaid : Prop := fnExactCountCompletionsUptoRow.holds Try.pinned (OpenSpec.upto fnExactCountCompletionsSpec)

/-- 'laws.FnExactCouples', WHERE WHAT IT READS IS OF BULK AT MOST 1048576: true; the input reads as it did. -/
def fnExactCouplesUptoRow : OpenClaim := { program := "ytjhieohbobfjjaa", sum := "e27fdee7d8570a48c3239ceeb708d50d2e50b49209f9068f41b5902219944d02", func := "loop.example/g01987/laws.FnExactCouples", spec := "fnExactCouples", apart := false, narrowed := true }
def FnExactCouplesUptoSaid : Prop := fnExactCouplesUptoRow.holds Try.pinned (OpenSpec.upto fnExactCouplesSpec)

/-- 'laws.FnExactCompletionAt', WHERE WHAT IT READS IS OF BULK AT MOST 1048576: true; the input reads as it did. -/
def fnExactCompletionAtUptoRow : OpenClaim := { program := "ytjhieohbobfjjaa", sum := "e27fdee7d8570a48c3239ceeb708d50d2e50b49209f9068f41b5902219944d02", func := "loop.example/g01987/laws.FnExactCompletionAt", spec := "fnExactCompletionAt", apart := false, narrowed := true }
def FnExactCompletionAtUptoSaid : Prop := fnExactCompletionAtUptoRow.holds Try.pinned (OpenSpec.upto fnExactCompletionAtSpec)

/-- 'laws.FnExactEqualStandings', WHERE WHAT IT READS IS OF BULK AT MOST 1048576: true; the input reads as it did. -/
def fnExactEqualStandingsUptoRow : OpenClaim := { program := "ytjhieohbobfjjaa", sum := "e27fdee7d8570a48c3239ceeb708d50d2e50b49209f9068f41b5902219944d02", func := "loop.example/g01987/laws.FnExactEqualStandings", spec := "fnExactEqualStandings", unfollowed := true, recurses := true, apart := false, narrowed := true }
def FnExactEqualStandingsUptoSaid : Prop := fnExactEqualStandingsUptoRow.holds Try.pinned (OpenSpec.upto fnExactEqualStandingsSpec)

/-- 'laws.FnExactParetoOf', WHERE WHAT IT READS IS OF BULK AT MOST 1048576: true; the input reads as it did. -/
def fnExactParetoOfUptoRow : OpenClaim := { program := "ytjhieohbobfjjaa", sum := "e27fdee7d8570a48c3239ceeb708d50d2e50b49209f9068f41b5902219944d02", func := "loop.example/g01987/laws.FnExactParetoOf", spec := "fnExactParetoOf", apart := false, narrowed := true }
def FnExactParetoOfUptoSaid : Prop := fnExactParetoOfUptoRow.holds Try.pinned (OpenSpec.upto fnExactParetoOfSpec)

/-- 'laws.FnExactIsWeaker', WHERE WHAT IT READS IS OF BULK AT MOST 1048576: true; the input reads as it did. -/
def fnExactIsWeakerUptoRow : OpenClaim := { program := "ytjhieohbobfjjaa", sum := "e27fdee7d8570a48c3239ceeb708d50d2e50b49209f9068f41b5902219944d02", func := "loop.example/g01987/laws.FnExactIsWeaker", spec := "fnExactIsWeaker", unfollowed := true, recurses := true, apart := false, narrowed := true }
def FnExactIsWeakerUptoSaid : Prop := fnExactIsWeakerUptoRow.holds Try.pinned (OpenSpec.upto fnExactIsWeakerSpec)

end Rows
end Go.Proofs.Ytjhieohbobfjjaa
