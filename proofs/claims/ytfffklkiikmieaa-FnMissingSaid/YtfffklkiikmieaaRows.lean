/-
  No cell of these rows narrows 'for every input' (looked for: loops, veiled, ifaces, maps, wideKeys, modest, calm, conditions, laid).
  DERIVED. THE GIVEN ROWS OF THIS SEAT. 8 by the template 'for every input the law returns true; each argument reads behind the call as it read before'; 0 by the template 'total and deterministic' (their statements: YtfffklkiikmieaaTotals.lean).
  GIVEN WITH THE SEED: the statements are not yours to turn. If you find one false, say at which input.
  Laid BY PROGRAM, IN A SANDBOX (cutbox-rows.mjs): the forced cells as the released guide's own fill.sh prints them over the translation 8571b070d4d19912… (all of the seat's roots in one cut). By AI agents, Wed Nov 11 2026. No macro, syntax, notation, axiom, sorry.
-/
import Derived.Test.YtfffklkiikmieaaChecked
import GoSem.Claim
import GoSem.ClaimJoined
import GoSem.ClaimMapViews
import Derived.JoinedTies
import Derived.KernelRfl
namespace Go.Proofs.Ytfffklkiikmieaa
/- THE CELL 'sum', in the pinned program and in every row, IS THE sha256 OF THE DUMP (.gsa) THAT YtfffklkiikmieaaProg.lean LOADS. Nothing in Lean hashes anything: it is a label: what it is worth is what the hold of that sum in a sandbox is worth. -/
noncomputable def Try.pinned : Pinned := { name := "ytfffklkiikmieaa", sum := "8571b070d4d199125270f4049d2292b3cabe6008e54299f64e96ef4e94e41805", checked := Try.checked }
namespace Rows
def none {H : Type} : Left H := { results := [], args := [] }

/-- 'laws.FnExactFastCouples': WHATEVER THE INPUT: true; the input reads as it did. -/
def fnExactFastCouplesSpec : ChangeSpec := { name := "fnExactFastCouples", fn := fun _ => fun
  | [d1, d2, d3, d4, d5, d6] => { results := [.lit (.bool true)], args := [d1, d2, d3, d4, d5, d6] }
  | _ => none }
def fnExactFastCouplesRow : OpenClaim := { program := "ytfffklkiikmieaa", sum := "8571b070d4d199125270f4049d2292b3cabe6008e54299f64e96ef4e94e41805", func := "loop.example/g01987/laws.FnExactFastCouples", spec := "fnExactFastCouples", unfollowed := true, recurses := true, apart := false }
def FnExactFastCouplesSaid : Prop := fnExactFastCouplesRow.holds Try.pinned (OpenSpec.ofChange fnExactFastCouplesSpec)

/-- ITS FALSE NEIGHBOUR: 'it returns false'. Refute it at one input. -/
def fnExactFastCouplesWrong : ChangeSpec := { name := "fnExactFastCouples", fn := fun _ => fun
  | [d1, d2, d3, d4, d5, d6] => { results := [.lit (.bool false)], args := [d1, d2, d3, d4, d5, d6] }
  | _ => none }
def FnExactFastCouplesWrongFalsely : Prop := fnExactFastCouplesRow.holds Try.pinned (OpenSpec.ofChange fnExactFastCouplesWrong)

/-- 'laws.FnExactExplainItem': WHATEVER THE INPUT: true; the input reads as it did. -/
def fnExactExplainItemSpec : ChangeSpec := { name := "fnExactExplainItem", fn := fun _ => fun
  | [d1, d2, d3] => { results := [.lit (.bool true)], args := [d1, d2, d3] }
  | _ => none }
def fnExactExplainItemRow : OpenClaim := { program := "ytfffklkiikmieaa", sum := "8571b070d4d199125270f4049d2292b3cabe6008e54299f64e96ef4e94e41805", func := "loop.example/g01987/laws.FnExactExplainItem", spec := "fnExactExplainItem", unfollowed := true, recurses := true, apart := false }
def FnExactExplainItemSaid : Prop := fnExactExplainItemRow.holds Try.pinned (OpenSpec.ofChange fnExactExplainItemSpec)

/-- ITS FALSE NEIGHBOUR: 'it returns false'. Refute it at one input. -/
def fnExactExplainItemWrong : ChangeSpec := { name := "fnExactExplainItem", fn := fun _ => fun
  | [d1, d2, d3] => { results := [.lit (.bool false)], args := [d1, d2, d3] }
  | _ => none }
def FnExactExplainItemWrongFalsely : Prop := fnExactExplainItemRow.holds Try.pinned (OpenSpec.ofChange fnExactExplainItemWrong)

/-- 'laws.FnExactNewStanding': WHATEVER THE INPUT: true; the input reads as it did. -/
def fnExactNewStandingSpec : ChangeSpec := { name := "fnExactNewStanding", fn := fun _ => fun
  | [d1, d2] => { results := [.lit (.bool true)], args := [d1, d2] }
  | _ => none }
def fnExactNewStandingRow : OpenClaim := { program := "ytfffklkiikmieaa", sum := "8571b070d4d199125270f4049d2292b3cabe6008e54299f64e96ef4e94e41805", func := "loop.example/g01987/laws.FnExactNewStanding", spec := "fnExactNewStanding", apart := false }
def FnExactNewStandingSaid : Prop := fnExactNewStandingRow.holds Try.pinned (OpenSpec.ofChange fnExactNewStandingSpec)

/-- ITS FALSE NEIGHBOUR: 'it returns false'. Refute it at one input. -/
def fnExactNewStandingWrong : ChangeSpec := { name := "fnExactNewStanding", fn := fun _ => fun
  | [d1, d2] => { results := [.lit (.bool false)], args := [d1, d2] }
  | _ => none }
def FnExactNewStandingWrongFalsely : Prop := fnExactNewStandingRow.holds Try.pinned (OpenSpec.ofChange fnExactNewStandingWrong)

/-- 'laws.FnExactLayerLines': WHATEVER THE INPUT: true; the input reads as it did. -/
def fnExactLayerLinesSpec : ChangeSpec := { name := "fnExactLayerLines", fn := fun _ => fun
  | [d1, d2] => { results := [.lit (.bool true)], args := [d1, d2] }
  | _ => none }
def fnExactLayerLinesRow : OpenClaim := { program := "ytfffklkiikmieaa", sum := "8571b070d4d199125270f4049d2292b3cabe6008e54299f64e96ef4e94e41805", func := "loop.example/g01987/laws.FnExactLayerLines", spec := "fnExactLayerLines", apart := false }
def FnExactLayerLinesSaid : Prop := fnExactLayerLinesRow.holds Try.pinned (OpenSpec.ofChange fnExactLayerLinesSpec)

/-- ITS FALSE NEIGHBOUR: 'it returns false'. Refute it at one input. -/
def fnExactLayerLinesWrong : ChangeSpec := { name := "fnExactLayerLines", fn := fun _ => fun
  | [d1, d2] => { results := [.lit (.bool false)], args := [d1, d2] }
  | _ => none }
def FnExactLayerLinesWrongFalsely : Prop := fnExactLayerLinesRow.holds Try.pinned (OpenSpec.ofChange fnExactLayerLinesWrong)

/-- 'laws.FnExactVoteLine': WHATEVER THE INPUT: true; the input reads as it did. -/
def fnExactVoteLineSpec : ChangeSpec := { name := "fnExactVoteLine", fn := fun _ => fun
  | [d1, d2] => { results := [.lit (.bool true)], args := [d1, d2] }
  | _ => none }
def fnExactVoteLineRow : OpenClaim := { program := "ytfffklkiikmieaa", sum := "8571b070d4d199125270f4049d2292b3cabe6008e54299f64e96ef4e94e41805", func := "loop.example/g01987/laws.FnExactVoteLine", spec := "fnExactVoteLine", unfollowed := true, recurses := true, apart := false }
def FnExactVoteLineSaid : Prop := fnExactVoteLineRow.holds Try.pinned (OpenSpec.ofChange fnExactVoteLineSpec)

/-- ITS FALSE NEIGHBOUR: 'it returns false'. Refute it at one input. -/
def fnExactVoteLineWrong : ChangeSpec := { name := "fnExactVoteLine", fn := fun _ => fun
  | [d1, d2] => { results := [.lit (.bool false)], args := [d1, d2] }
  | _ => none }
def FnExactVoteLineWrongFalsely : Prop := fnExactVoteLineRow.holds Try.pinned (OpenSpec.ofChange fnExactVoteLineWrong)

/-- 'laws.FnDrops': WHATEVER THE INPUT: true; the input reads as it did. -/
def fnDropsSpec : ChangeSpec := { name := "fnDrops", fn := fun _ => fun
  | [d] => { results := [.lit (.bool true)], args := [d] }
  | _ => none }
def fnDropsRow : OpenClaim := { program := "ytfffklkiikmieaa", sum := "8571b070d4d199125270f4049d2292b3cabe6008e54299f64e96ef4e94e41805", func := "loop.example/g01987/laws.FnDrops", spec := "fnDrops", unfollowed := true, recurses := true, apart := false }
def FnDropsSaid : Prop := fnDropsRow.holds Try.pinned (OpenSpec.ofChange fnDropsSpec)

/-- ITS FALSE NEIGHBOUR: 'it returns false'. Refute it at one input. -/
def fnDropsWrong : ChangeSpec := { name := "fnDrops", fn := fun _ => fun
  | [d] => { results := [.lit (.bool false)], args := [d] }
  | _ => none }
def FnDropsWrongFalsely : Prop := fnDropsRow.holds Try.pinned (OpenSpec.ofChange fnDropsWrong)

/-- 'laws.FnJoins': WHATEVER THE INPUT: true; the input reads as it did. -/
def fnJoinsSpec : ChangeSpec := { name := "fnJoins", fn := fun _ => fun
  | [d] => { results := [.lit (.bool true)], args := [d] }
  | _ => none }
def fnJoinsRow : OpenClaim := { program := "ytfffklkiikmieaa", sum := "8571b070d4d199125270f4049d2292b3cabe6008e54299f64e96ef4e94e41805", func := "loop.example/g01987/laws.FnJoins", spec := "fnJoins", unfollowed := true, recurses := true, apart := false }
def FnJoinsSaid : Prop := fnJoinsRow.holds Try.pinned (OpenSpec.ofChange fnJoinsSpec)

/-- ITS FALSE NEIGHBOUR: 'it returns false'. Refute it at one input. -/
def fnJoinsWrong : ChangeSpec := { name := "fnJoins", fn := fun _ => fun
  | [d] => { results := [.lit (.bool false)], args := [d] }
  | _ => none }
def FnJoinsWrongFalsely : Prop := fnJoinsRow.holds Try.pinned (OpenSpec.ofChange fnJoinsWrong)

/-- 'laws.FnMissing': WHATEVER THE INPUT: true; the input reads as it did. -/
def fnMissingSpec : ChangeSpec := { name := "fnMissing", fn := fun _ => fun
  | [d] => { results := [.lit (.bool true)], args := [d] }
  | _ => none }
def fnMissingRow : OpenClaim := { program := "ytfffklkiikmieaa", sum := "8571b070d4d199125270f4049d2292b3cabe6008e54299f64e96ef4e94e41805", func := "loop.example/g01987/laws.FnMissing", spec := "fnMissing", recurses := true, apart := false }
def FnMissingSaid : Prop := fnMissingRow.holds Try.pinned (OpenSpec.ofChange fnMissingSpec)

/-- ITS FALSE NEIGHBOUR: 'it returns false'. Refute it at one input. -/
def fnMissingWrong : ChangeSpec := { name := "fnMissing", fn := fun _ => fun
  | [d] => { results := [.lit (.bool false)], args := [d] }
  | _ => none }
def FnMissingWrongFalsely : Prop := fnMissingRow.holds Try.pinned (OpenSpec.ofChange fnMissingWrong)

/- THE SECOND FORM. 'bulk': how many values and letters a reading holds, each counted each time it is reached (what is shared counts as often as it is met; a slice's spare places count too). A statement '..UptoSaid' is the law's where the arguments, and the package variables that the reading takes, are together of bulk at most 1048576: NARROWER than '..Said'. Prove '..Said' where nothing that the law and all that it calls make is longer than what came in: it says more and counts as full. Else prove '..UptoSaid'. A law counts once. -/
mutual
def uptoBulk {H : Type} : DataW H → Nat
  | .lit (.string bytes) => bytes.length + 1
  | .lit _ => 1
  | .nil => 1
  | .ptr d => uptoBulk d + 1
  | .slice elems spare => uptoBulkAll elems + uptoBulkAll spare + 1
  | .agg parts => uptoBulkAll parts + 1
  | .iface _ d => uptoBulk d + 1
  | .map entries => uptoBulkEntries entries + 1
  | .held _ => 1
def uptoBulkAll {H : Type} : List (DataW H) → Nat
  | [] => 0
  | d :: r => uptoBulk d + uptoBulkAll r
def uptoBulkEntries {H : Type} : List (Lit × DataW H) → Nat
  | [] => 0
  | x :: r => uptoBulkEntry x + uptoBulkEntries r
def uptoBulkEntry {H : Type} : Lit × DataW H → Nat
  | (.string bytes, d) => bytes.length + uptoBulk d + 1
  | (_, d) => uptoBulk d + 1
 end
def uptoSmall : (H : Type) → List (DataW H) → Bool := fun _ ds => decide (uptoBulkAll ds ≤ 1048576)
def OpenSpec.upto (s : _root_.Go.ChangeSpec) : _root_.Go.OpenSpec := { _root_.Go.OpenSpec.ofChange s with cond := some uptoSmall }

/-- 'laws.FnExactFastCouples', WHERE WHAT IT READS IS OF BULK AT MOST 1048576: true; the input reads as it did. -/
def fnExactFastCouplesUptoRow : OpenClaim := { program := "ytfffklkiikmieaa", sum := "8571b070d4d199125270f4049d2292b3cabe6008e54299f64e96ef4e94e41805", func := "loop.example/g01987/laws.FnExactFastCouples", spec := "fnExactFastCouples", unfollowed := true, recurses := true, apart := false, narrowed := true }
def FnExactFastCouplesUptoSaid : Prop := fnExactFastCouplesUptoRow.holds Try.pinned (OpenSpec.upto fnExactFastCouplesSpec)

/-- 'laws.FnExactExplainItem', WHERE WHAT IT READS IS OF BULK AT MOST 1048576: true; the input reads as it did. -/
def fnExactExplainItemUptoRow : OpenClaim := { program := "ytfffklkiikmieaa", sum := "8571b070d4d199125270f4049d2292b3cabe6008e54299f64e96ef4e94e41805", func := "loop.example/g01987/laws.FnExactExplainItem", spec := "fnExactExplainItem", unfollowed := true, recurses := true, apart := false, narrowed := true }
def FnExactExplainItemUptoSaid : Prop := fnExactExplainItemUptoRow.holds Try.pinned (OpenSpec.upto fnExactExplainItemSpec)

/-- 'laws.FnExactNewStanding', WHERE WHAT IT READS IS OF BULK AT MOST 1048576: true; the input reads as it did. -/
def fnExactNewStandingUptoRow : OpenClaim := { program := "ytfffklkiikmieaa", sum := "8571b070d4d199125270f4049d2292b3cabe6008e54299f64e96ef4e94e41805", func := "loop.example/g01987/laws.FnExactNewStanding", spec := "fnExactNewStanding", apart := false, narrowed := true }
def FnExactNewStandingUptoSaid : Prop := fnExactNewStandingUptoRow.holds Try.pinned (OpenSpec.upto fnExactNewStandingSpec)

/-- 'laws.FnExactLayerLines', WHERE WHAT IT READS IS OF BULK AT MOST 1048576: true; the input reads as it did. -/
def fnExactLayerLinesUptoRow : OpenClaim := { program := "ytfffklkiikmieaa", sum := "8571b070d4d199125270f4049d2292b3cabe6008e54299f64e96ef4e94e41805", func := "loop.example/g01987/laws.FnExactLayerLines", spec := "fnExactLayerLines", apart := false, narrowed := true }
def FnExactLayerLinesUptoSaid : Prop := fnExactLayerLinesUptoRow.holds Try.pinned (OpenSpec.upto fnExactLayerLinesSpec)

/-- 'laws.FnExactVoteLine', WHERE WHAT IT READS IS OF BULK AT MOST 1048576: true; the input reads as it did. -/
def fnExactVoteLineUptoRow : OpenClaim := { program := "ytfffklkiikmieaa", sum := "8571b070d4d199125270f4049d2292b3cabe6008e54299f64e96ef4e94e41805", func := "loop.example/g01987/laws.FnExactVoteLine", spec := "fnExactVoteLine", unfollowed := true, recurses := true, apart := false, narrowed := true }
def FnExactVoteLineUptoSaid : Prop := fnExactVoteLineUptoRow.holds Try.pinned (OpenSpec.upto fnExactVoteLineSpec)

/-- 'laws.FnDrops', WHERE WHAT IT READS IS OF BULK AT MOST 1048576: true; the input reads as it did. -/
def fnDropsUptoRow : OpenClaim := { program := "ytfffklkiikmieaa", sum := "8571b070d4d199125270f4049d2292b3cabe6008e54299f64e96ef4e94e41805", func := "loop.example/g01987/laws.FnDrops", spec := "fnDrops", unfollowed := true, recurses := true, apart := false, narrowed := true }
def FnDropsUptoSaid : Prop := fnDropsUptoRow.holds Try.pinned (OpenSpec.upto fnDropsSpec)

/-- 'laws.FnJoins', WHERE WHAT IT READS IS OF BULK AT MOST 1048576: true; the input reads as it did. -/
def fnJoinsUptoRow : OpenClaim := { program := "ytfffklkiikmieaa", sum := "8571b070d4d199125270f4049d2292b3cabe6008e54299f64e96ef4e94e41805", func := "loop.example/g01987/laws.FnJoins", spec := "fnJoins", unfollowed := true, recurses := true, apart := false, narrowed := true }
def FnJoinsUptoSaid : Prop := fnJoinsUptoRow.holds Try.pinned (OpenSpec.upto fnJoinsSpec)

/-- 'laws.FnMissing', WHERE WHAT IT READS IS OF BULK AT MOST 1048576: true; the input reads as it did. -/
def fnMissingUptoRow : OpenClaim := { program := "ytfffklkiikmieaa", sum := "8571b070d4d199125270f4049d2292b3cabe6008e54299f64e96ef4e94e41805", func := "loop.example/g01987/laws.FnMissing", spec := "fnMissing", recurses := true, apart := false, narrowed := true }
def FnMissingUptoSaid : Prop := fnMissingUptoRow.holds Try.pinned (OpenSpec.upto fnMissingSpec)

end Rows
end Go.Proofs.Ytfffklkiikmieaa
