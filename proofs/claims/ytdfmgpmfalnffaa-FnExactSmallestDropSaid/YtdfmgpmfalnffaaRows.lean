/-
  No cell of these rows narrows 'for every input' (looked for: loops, veiled, ifaces, maps, wideKeys, modest, calm, conditions, laid).
  DERIVED. THE GIVEN ROWS OF THIS SEAT. 12 by the template 'for every input the law returns true; each argument reads behind the call as it read before'; 0 by the template 'total and deterministic' (their statements: YtdfmgpmfalnffaaTotals.lean).
  GIVEN WITH THE SEED: the statements are not yours to turn. If you find one false, say at which input.
  Laid BY PROGRAM, IN A SANDBOX (cutbox-rows.mjs): the forced cells as the released guide's own fill.sh prints them over the translation 688813b3fa83827c… (all of the seat's roots in one cut). By AI agents, Wed Nov 11 2026. No macro, syntax, notation, axiom, sorry.
-/
import Derived.Test.YtdfmgpmfalnffaaChecked
import GoSem.Claim
import GoSem.ClaimJoined
import GoSem.ClaimMapViews
import Derived.JoinedTies
import Derived.KernelRfl
namespace Go.Proofs.Ytdfmgpmfalnffaa
/- THE CELL 'sum', in the pinned program and in every row, IS THE sha256 OF THE DUMP (.gsa) THAT YtdfmgpmfalnffaaProg.lean LOADS. Nothing in Lean hashes anything: it is a label: what it is worth is what the hold of that sum in a sandbox is worth. -/
noncomputable def Try.pinned : Pinned := { name := "ytdfmgpmfalnffaa", sum := "688813b3fa83827c9f0cef27d7489c46fd91c7df53c160c329f9bad8cb380171", checked := Try.checked }
namespace Rows
def none {H : Type} : Left H := { results := [], args := [] }

/-- 'laws.FnExactRewriteLine': WHATEVER THE INPUT: true; the input reads as it did. -/
def fnExactRewriteLineSpec : ChangeSpec := { name := "fnExactRewriteLine", fn := fun _ => fun
  | [d] => { results := [.lit (.bool true)], args := [d] }
  | _ => none }
def fnExactRewriteLineRow : OpenClaim := { program := "ytdfmgpmfalnffaa", sum := "688813b3fa83827c9f0cef27d7489c46fd91c7df53c160c329f9bad8cb380171", func := "loop.example/g01987/laws.FnExactRewriteLine", spec := "fnExactRewriteLine", apart := false }
def FnExactRewriteLineSaid : Prop := fnExactRewriteLineRow.holds Try.pinned (OpenSpec.ofChange fnExactRewriteLineSpec)

/-- ITS FALSE NEIGHBOUR: 'it returns false'. Refute it at one input. -/
def fnExactRewriteLineWrong : ChangeSpec := { name := "fnExactRewriteLine", fn := fun _ => fun
  | [d] => { results := [.lit (.bool false)], args := [d] }
  | _ => none }
def FnExactRewriteLineWrongFalsely : Prop := fnExactRewriteLineRow.holds Try.pinned (OpenSpec.ofChange fnExactRewriteLineWrong)

/-- 'laws.FnExactCompareLine': WHATEVER THE INPUT: true; the input reads as it did. -/
def fnExactCompareLineSpec : ChangeSpec := { name := "fnExactCompareLine", fn := fun _ => fun
  | [d1, d2, d3] => { results := [.lit (.bool true)], args := [d1, d2, d3] }
  | _ => none }
def fnExactCompareLineRow : OpenClaim := { program := "ytdfmgpmfalnffaa", sum := "688813b3fa83827c9f0cef27d7489c46fd91c7df53c160c329f9bad8cb380171", func := "loop.example/g01987/laws.FnExactCompareLine", spec := "fnExactCompareLine", apart := false }
def FnExactCompareLineSaid : Prop := fnExactCompareLineRow.holds Try.pinned (OpenSpec.ofChange fnExactCompareLineSpec)

/-- ITS FALSE NEIGHBOUR: 'it returns false'. Refute it at one input. -/
def fnExactCompareLineWrong : ChangeSpec := { name := "fnExactCompareLine", fn := fun _ => fun
  | [d1, d2, d3] => { results := [.lit (.bool false)], args := [d1, d2, d3] }
  | _ => none }
def FnExactCompareLineWrongFalsely : Prop := fnExactCompareLineRow.holds Try.pinned (OpenSpec.ofChange fnExactCompareLineWrong)

/-- 'laws.FnExactLocalBest': WHATEVER THE INPUT: true; the input reads as it did. -/
def fnExactLocalBestSpec : ChangeSpec := { name := "fnExactLocalBest", fn := fun _ => fun
  | [d1, d2, d3] => { results := [.lit (.bool true)], args := [d1, d2, d3] }
  | _ => none }
def fnExactLocalBestRow : OpenClaim := { program := "ytdfmgpmfalnffaa", sum := "688813b3fa83827c9f0cef27d7489c46fd91c7df53c160c329f9bad8cb380171", func := "loop.example/g01987/laws.FnExactLocalBest", spec := "fnExactLocalBest", apart := false }
def FnExactLocalBestSaid : Prop := fnExactLocalBestRow.holds Try.pinned (OpenSpec.ofChange fnExactLocalBestSpec)

/-- ITS FALSE NEIGHBOUR: 'it returns false'. Refute it at one input. -/
def fnExactLocalBestWrong : ChangeSpec := { name := "fnExactLocalBest", fn := fun _ => fun
  | [d1, d2, d3] => { results := [.lit (.bool false)], args := [d1, d2, d3] }
  | _ => none }
def FnExactLocalBestWrongFalsely : Prop := fnExactLocalBestRow.holds Try.pinned (OpenSpec.ofChange fnExactLocalBestWrong)

/-- 'laws.FnExactIsStanding': WHATEVER THE INPUT: true; the input reads as it did. -/
def fnExactIsStandingSpec : ChangeSpec := { name := "fnExactIsStanding", fn := fun _ => fun
  | [d] => { results := [.lit (.bool true)], args := [d] }
  | _ => none }
def fnExactIsStandingRow : OpenClaim := { program := "ytdfmgpmfalnffaa", sum := "688813b3fa83827c9f0cef27d7489c46fd91c7df53c160c329f9bad8cb380171", func := "loop.example/g01987/laws.FnExactIsStanding", spec := "fnExactIsStanding", apart := false }
def FnExactIsStandingSaid : Prop := fnExactIsStandingRow.holds Try.pinned (OpenSpec.ofChange fnExactIsStandingSpec)

/-- ITS FALSE NEIGHBOUR: 'it returns false'. Refute it at one input. -/
def fnExactIsStandingWrong : ChangeSpec := { name := "fnExactIsStanding", fn := fun _ => fun
  | [d] => { results := [.lit (.bool false)], args := [d] }
  | _ => none }
def FnExactIsStandingWrongFalsely : Prop := fnExactIsStandingRow.holds Try.pinned (OpenSpec.ofChange fnExactIsStandingWrong)

/-- 'laws.FnExactRefineBest': WHATEVER THE INPUT: true; the input reads as it did. -/
def fnExactRefineBestSpec : ChangeSpec := { name := "fnExactRefineBest", fn := fun _ => fun
  | [d1, d2, d3] => { results := [.lit (.bool true)], args := [d1, d2, d3] }
  | _ => none }
def fnExactRefineBestRow : OpenClaim := { program := "ytdfmgpmfalnffaa", sum := "688813b3fa83827c9f0cef27d7489c46fd91c7df53c160c329f9bad8cb380171", func := "loop.example/g01987/laws.FnExactRefineBest", spec := "fnExactRefineBest", apart := false }
def FnExactRefineBestSaid : Prop := fnExactRefineBestRow.holds Try.pinned (OpenSpec.ofChange fnExactRefineBestSpec)

/-- ITS FALSE NEIGHBOUR: 'it returns false'. Refute it at one input. -/
def fnExactRefineBestWrong : ChangeSpec := { name := "fnExactRefineBest", fn := fun _ => fun
  | [d1, d2, d3] => { results := [.lit (.bool false)], args := [d1, d2, d3] }
  | _ => none }
def FnExactRefineBestWrongFalsely : Prop := fnExactRefineBestRow.holds Try.pinned (OpenSpec.ofChange fnExactRefineBestWrong)

/-- 'laws.FnExactSmallestChange': WHATEVER THE INPUT: true; the input reads as it did. -/
def fnExactSmallestChangeSpec : ChangeSpec := { name := "fnExactSmallestChange", fn := fun _ => fun
  | [d1, d2, d3] => { results := [.lit (.bool true)], args := [d1, d2, d3] }
  | _ => none }
def fnExactSmallestChangeRow : OpenClaim := { program := "ytdfmgpmfalnffaa", sum := "688813b3fa83827c9f0cef27d7489c46fd91c7df53c160c329f9bad8cb380171", func := "loop.example/g01987/laws.FnExactSmallestChange", spec := "fnExactSmallestChange", unfollowed := true, recurses := true, apart := false }
def FnExactSmallestChangeSaid : Prop := fnExactSmallestChangeRow.holds Try.pinned (OpenSpec.ofChange fnExactSmallestChangeSpec)

/-- ITS FALSE NEIGHBOUR: 'it returns false'. Refute it at one input. -/
def fnExactSmallestChangeWrong : ChangeSpec := { name := "fnExactSmallestChange", fn := fun _ => fun
  | [d1, d2, d3] => { results := [.lit (.bool false)], args := [d1, d2, d3] }
  | _ => none }
def FnExactSmallestChangeWrongFalsely : Prop := fnExactSmallestChangeRow.holds Try.pinned (OpenSpec.ofChange fnExactSmallestChangeWrong)

/-- 'laws.FnExactBestCouples': WHATEVER THE INPUT: true; the input reads as it did. -/
def fnExactBestCouplesSpec : ChangeSpec := { name := "fnExactBestCouples", fn := fun _ => fun
  | [d1, d2, d3, d4, d5, d6] => { results := [.lit (.bool true)], args := [d1, d2, d3, d4, d5, d6] }
  | _ => none }
def fnExactBestCouplesRow : OpenClaim := { program := "ytdfmgpmfalnffaa", sum := "688813b3fa83827c9f0cef27d7489c46fd91c7df53c160c329f9bad8cb380171", func := "loop.example/g01987/laws.FnExactBestCouples", spec := "fnExactBestCouples", unfollowed := true, recurses := true, apart := false }
def FnExactBestCouplesSaid : Prop := fnExactBestCouplesRow.holds Try.pinned (OpenSpec.ofChange fnExactBestCouplesSpec)

/-- ITS FALSE NEIGHBOUR: 'it returns false'. Refute it at one input. -/
def fnExactBestCouplesWrong : ChangeSpec := { name := "fnExactBestCouples", fn := fun _ => fun
  | [d1, d2, d3, d4, d5, d6] => { results := [.lit (.bool false)], args := [d1, d2, d3, d4, d5, d6] }
  | _ => none }
def FnExactBestCouplesWrongFalsely : Prop := fnExactBestCouplesRow.holds Try.pinned (OpenSpec.ofChange fnExactBestCouplesWrong)

/-- 'laws.FnExactStandingLine': WHATEVER THE INPUT: true; the input reads as it did. -/
def fnExactStandingLineSpec : ChangeSpec := { name := "fnExactStandingLine", fn := fun _ => fun
  | [d] => { results := [.lit (.bool true)], args := [d] }
  | _ => none }
def fnExactStandingLineRow : OpenClaim := { program := "ytdfmgpmfalnffaa", sum := "688813b3fa83827c9f0cef27d7489c46fd91c7df53c160c329f9bad8cb380171", func := "loop.example/g01987/laws.FnExactStandingLine", spec := "fnExactStandingLine", apart := false }
def FnExactStandingLineSaid : Prop := fnExactStandingLineRow.holds Try.pinned (OpenSpec.ofChange fnExactStandingLineSpec)

/-- ITS FALSE NEIGHBOUR: 'it returns false'. Refute it at one input. -/
def fnExactStandingLineWrong : ChangeSpec := { name := "fnExactStandingLine", fn := fun _ => fun
  | [d] => { results := [.lit (.bool false)], args := [d] }
  | _ => none }
def FnExactStandingLineWrongFalsely : Prop := fnExactStandingLineRow.holds Try.pinned (OpenSpec.ofChange fnExactStandingLineWrong)

/-- 'laws.FnExactSmallestDrop': WHATEVER THE INPUT: true; the input reads as it did. -/
def fnExactSmallestDropSpec : ChangeSpec := { name := "fnExactSmallestDrop", fn := fun _ => fun
  | [d1, d2, d3] => { results := [.lit (.bool true)], args := [d1, d2, d3] }
  | _ => none }
def fnExactSmallestDropRow : OpenClaim := { program := "ytdfmgpmfalnffaa", sum := "688813b3fa83827c9f0cef27d7489c46fd91c7df53c160c329f9bad8cb380171", func := "loop.example/g01987/laws.FnExactSmallestDrop", spec := "fnExactSmallestDrop", unfollowed := true, recurses := true, apart := false }
def FnExactSmallestDropSaid : Prop := fnExactSmallestDropRow.holds Try.pinned (OpenSpec.ofChange fnExactSmallestDropSpec)

/-- ITS FALSE NEIGHBOUR: 'it returns false'. Refute it at one input. -/
def fnExactSmallestDropWrong : ChangeSpec := { name := "fnExactSmallestDrop", fn := fun _ => fun
  | [d1, d2, d3] => { results := [.lit (.bool false)], args := [d1, d2, d3] }
  | _ => none }
def FnExactSmallestDropWrongFalsely : Prop := fnExactSmallestDropRow.holds Try.pinned (OpenSpec.ofChange fnExactSmallestDropWrong)

/-- 'laws.FnExactCertainBest': WHATEVER THE INPUT: true; the input reads as it did. -/
def fnExactCertainBestSpec : ChangeSpec := { name := "fnExactCertainBest", fn := fun _ => fun
  | [d1, d2] => { results := [.lit (.bool true)], args := [d1, d2] }
  | _ => none }
def fnExactCertainBestRow : OpenClaim := { program := "ytdfmgpmfalnffaa", sum := "688813b3fa83827c9f0cef27d7489c46fd91c7df53c160c329f9bad8cb380171", func := "loop.example/g01987/laws.FnExactCertainBest", spec := "fnExactCertainBest", apart := false }
def FnExactCertainBestSaid : Prop := fnExactCertainBestRow.holds Try.pinned (OpenSpec.ofChange fnExactCertainBestSpec)

/-- ITS FALSE NEIGHBOUR: 'it returns false'. Refute it at one input. -/
def fnExactCertainBestWrong : ChangeSpec := { name := "fnExactCertainBest", fn := fun _ => fun
  | [d1, d2] => { results := [.lit (.bool false)], args := [d1, d2] }
  | _ => none }
def FnExactCertainBestWrongFalsely : Prop := fnExactCertainBestRow.holds Try.pinned (OpenSpec.ofChange fnExactCertainBestWrong)

/-- 'laws.FnExactPossibleBest': WHATEVER THE INPUT: true; the input reads as it did. -/
def fnExactPossibleBestSpec : ChangeSpec := { name := "fnExactPossibleBest", fn := fun _ => fun
  | [d1, d2] => { results := [.lit (.bool true)], args := [d1, d2] }
  | _ => none }
def fnExactPossibleBestRow : OpenClaim := { program := "ytdfmgpmfalnffaa", sum := "688813b3fa83827c9f0cef27d7489c46fd91c7df53c160c329f9bad8cb380171", func := "loop.example/g01987/laws.FnExactPossibleBest", spec := "fnExactPossibleBest", apart := false }
def FnExactPossibleBestSaid : Prop := fnExactPossibleBestRow.holds Try.pinned (OpenSpec.ofChange fnExactPossibleBestSpec)

/-- ITS FALSE NEIGHBOUR: 'it returns false'. Refute it at one input. -/
def fnExactPossibleBestWrong : ChangeSpec := { name := "fnExactPossibleBest", fn := fun _ => fun
  | [d1, d2] => { results := [.lit (.bool false)], args := [d1, d2] }
  | _ => none }
def FnExactPossibleBestWrongFalsely : Prop := fnExactPossibleBestRow.holds Try.pinned (OpenSpec.ofChange fnExactPossibleBestWrong)

/-- 'laws.FnExactExclusiveOf': WHATEVER THE INPUT: true; the input reads as it did. -/
def fnExactExclusiveOfSpec : ChangeSpec := { name := "fnExactExclusiveOf", fn := fun _ => fun
  | [d1, d2] => { results := [.lit (.bool true)], args := [d1, d2] }
  | _ => none }
def fnExactExclusiveOfRow : OpenClaim := { program := "ytdfmgpmfalnffaa", sum := "688813b3fa83827c9f0cef27d7489c46fd91c7df53c160c329f9bad8cb380171", func := "loop.example/g01987/laws.FnExactExclusiveOf", spec := "fnExactExclusiveOf", unfollowed := true, recurses := true, apart := false }
def FnExactExclusiveOfSaid : Prop := fnExactExclusiveOfRow.holds Try.pinned (OpenSpec.ofChange fnExactExclusiveOfSpec)

/-- ITS FALSE NEIGHBOUR: 'it returns false'. Refute it at one input. -/
def fnExactExclusiveOfWrong : ChangeSpec := { name := "fnExactExclusiveOf", fn := fun _ => fun
  | [d1, d2] => { results := [.lit (.bool false)], args := [d1, d2] }
  | _ => none }
def FnExactExclusiveOfWrongFalsely : Prop := fnExactExclusiveOfRow.holds Try.pinned (OpenSpec.ofChange fnExactExclusiveOfWrong)

/- THE SECOND FORM. 'bulk': how many values and letters a reading holds, each counted each time it is reached (what is shared counts as often as it is met; a slice's spare places count too). A statement '..UptoSaid' is the law's where the arguments, and the package variables that the reading takes, are together of bulk at most 1048576: NARROWER than '..Said'. Prove '..Said' where nothing that the law and all that it calls make is longer than what came in: it says more and counts as full. Else prove '..UptoSaid'. A law counts once. -/
mutual
def uptoBulk {H : Type} : DataW H → Nat
  | .lit (.string bytes) => bytes.length + 1
  | .lit _ => 1
  | .nil => 1
  | .ptr d => uptoBulk d + 1
  | .slice elems spare => uptoBulkAll elems + uptoBulkAll spare + 1
  | .agg parts => uptoBulkAll parts + 1
  | .iface _ d => uptoBulk d + 1
  | .map entries => uptoBulkEntries entries + 1
  | .held _ => 1
def uptoBulkAll {H : Type} : List (DataW H) → Nat
  | [] => 0
  | d :: r => uptoBulk d + uptoBulkAll r
def uptoBulkEntries {H : Type} : List (Lit × DataW H) → Nat
  | [] => 0
  | x :: r => uptoBulkEntry x + uptoBulkEntries r
def uptoBulkEntry {H : Type} : Lit × DataW H → Nat
  | (.string bytes, d) => bytes.length + uptoBulk d + 1
  | (_, d) => uptoBulk d + 1
 end
def uptoSmall : (H : Type) → List (DataW H) → Bool := fun _ ds => decide (uptoBulkAll ds ≤ 1048576)
def OpenSpec.upto (s : _root_.Go.ChangeSpec) : _root_.Go.OpenSpec := { _root_.Go.OpenSpec.ofChange s with cond := some uptoSmall }

/-- 'laws.FnExactRewriteLine', WHERE WHAT IT READS IS OF BULK AT MOST 1048576: true; the input reads as it did. -/
def fnExactRewriteLineUptoRow : OpenClaim := { program := "ytdfmgpmfalnffaa", sum := "688813b3fa83827c9f0cef27d7489c46fd91c7df53c160c329f9bad8cb380171", func := "loop.example/g01987/laws.FnExactRewriteLine", spec := "fnExactRewriteLine", apart := false, narrowed := true }
def FnExactRewriteLineUptoSaid : Prop := fnExactRewriteLineUptoRow.holds Try.pinned (OpenSpec.upto fnExactRewriteLineSpec)

/-- 'laws.FnExactCompareLine', WHERE WHAT IT READS IS OF BULK AT MOST 1048576: true; the input reads as it did. -/
def fnExactCompareLineUptoRow : OpenClaim := { program := "ytdfmgpmfalnffaa", sum := "688813b3fa83827c9f0cef27d7489c46fd91c7df53c160c329f9bad8cb380171", func := "loop.example/g01987/laws.FnExactCompareLine", spec := "fnExactCompareLine", apart := false, narrowed := true }
def FnExactCompareLineUptoSaid : Prop := fnExactCompareLineUptoRow.holds Try.pinned (OpenSpec.upto fnExactCompareLineSpec)

/-- 'laws.FnExactLocalBest', WHERE WHAT IT READS IS OF BULK AT MOST 1048576: true; the input reads as it did. -/
def fnExactLocalBestUptoRow : OpenClaim := { program := "ytdfmgpmfalnffaa", sum := "688813b3fa83827c9f0cef27d7489c46fd91c7df53c160c329f9bad8cb380171", func := "loop.example/g01987/laws.FnExactLocalBest", spec := "fnExactLocalBest", apart := false, narrowed := true }
def FnExactLocalBestUptoSaid : Prop := fnExactLocalBestUptoRow.holds Try.pinned (OpenSpec.upto fnExactLocalBestSpec)

/-- 'laws.FnExactIsStanding', WHERE WHAT IT READS IS OF BULK AT MOST 1048576: true; the input reads as it did. -/
def fnExactIsStandingUptoRow : OpenClaim := { program := "ytdfmgpmfalnffaa", sum := "688813b3fa83827c9f0cef27d7489c46fd91c7df53c160c329f9bad8cb380171", func := "loop.example/g01987/laws.FnExactIsStanding", spec := "fnExactIsStanding", apart := false, narrowed := true }
def FnExactIsStandingUptoSaid : Prop := fnExactIsStandingUptoRow.holds Try.pinned (OpenSpec.upto fnExactIsStandingSpec)

/-- 'laws.FnExactRefineBest', WHERE WHAT IT READS IS OF BULK AT MOST 1048576: true; the input reads as it did. -/
def fnExactRefineBestUptoRow : OpenClaim := { program := "ytdfmgpmfalnffaa", sum := "688813b3fa83827c9f0cef27d7489c46fd91c7df53c160c329f9bad8cb380171", func := "loop.example/g01987/laws.FnExactRefineBest", spec := "fnExactRefineBest", apart := false, narrowed := true }
def FnExactRefineBestUptoSaid : Prop := fnExactRefineBestUptoRow.holds Try.pinned (OpenSpec.upto fnExactRefineBestSpec)

/-- 'laws.FnExactSmallestChange', WHERE WHAT IT READS IS OF BULK AT MOST 1048576: true; the input reads as it did. -/
def fnExactSmallestChangeUptoRow : OpenClaim := { program := "ytdfmgpmfalnffaa", sum := "688813b3fa83827c9f0cef27d7489c46fd91c7df53c160c329f9bad8cb380171", func := "loop.example/g01987/laws.FnExactSmallestChange", spec := "fnExactSmallestChange", unfollowed := true, recurses := true, apart := false, narrowed := true }
def FnExactSmallestChangeUptoSaid : Prop := fnExactSmallestChangeUptoRow.holds Try.pinned (OpenSpec.upto fnExactSmallestChangeSpec)

/-- 'laws.FnExactBestCouples', WHERE WHAT IT READS IS OF BULK AT MOST 1048576: true; the input reads as it did. -/
def fnExactBestCouplesUptoRow : OpenClaim := { program := "ytdfmgpmfalnffaa", sum := "688813b3fa83827c9f0cef27d7489c46fd91c7df53c160c329f9bad8cb380171", func := "loop.example/g01987/laws.FnExactBestCouples", spec := "fnExactBestCouples", unfollowed := true, recurses := true, apart := false, narrowed := true }
def FnExactBestCouplesUptoSaid : Prop := fnExactBestCouplesUptoRow.holds Try.pinned (OpenSpec.upto fnExactBestCouplesSpec)

/-- 'laws.FnExactStandingLine', WHERE WHAT IT READS IS OF BULK AT MOST 1048576: true; the input reads as it did. -/
def fnExactStandingLineUptoRow : OpenClaim := { program := "ytdfmgpmfalnffaa", sum := "688813b3fa83827c9f0cef27d7489c46fd91c7df53c160c329f9bad8cb380171", func := "loop.example/g01987/laws.FnExactStandingLine", spec := "fnExactStandingLine", apart := false, narrowed := true }
def FnExactStandingLineUptoSaid : Prop := fnExactStandingLineUptoRow.holds Try.pinned (OpenSpec.upto fnExactStandingLineSpec)

/-- 'laws.FnExactSmallestDrop', WHERE WHAT IT READS IS OF BULK AT MOST 1048576: true; the input reads as it did. -/
def fnExactSmallestDropUptoRow : OpenClaim := { program := "ytdfmgpmfalnffaa", sum := "688813b3fa83827c9f0cef27d7489c46fd91c7df53c160c329f9bad8cb380171", func := "loop.example/g01987/laws.FnExactSmallestDrop", spec := "fnExactSmallestDrop", unfollowed := true, recurses := true, apart := false, narrowed := true }
def FnExactSmallestDropUptoSaid : Prop := fnExactSmallestDropUptoRow.holds Try.pinned (OpenSpec.upto fnExactSmallestDropSpec)

/-- 'laws.FnExactCertainBest', WHERE WHAT IT READS IS OF BULK AT MOST 1048576: true; the input reads as it did. -/
def fnExactCertainBestUptoRow : OpenClaim := { program := "ytdfmgpmfalnffaa", sum := "688813b3fa83827c9f0cef27d7489c46fd91c7df53c160c329f9bad8cb380171", func := "loop.example/g01987/laws.FnExactCertainBest", spec := "fnExactCertainBest", apart := false, narrowed := true }
def FnExactCertainBestUptoSaid : Prop := fnExactCertainBestUptoRow.holds Try.pinned (OpenSpec.upto fnExactCertainBestSpec)

/-- 'laws.FnExactPossibleBest', WHERE WHAT IT READS IS OF BULK AT MOST 1048576: true; the input reads as it did. -/
def fnExactPossibleBestUptoRow : OpenClaim := { program := "ytdfmgpmfalnffaa", sum := "688813b3fa83827c9f0cef27d7489c46fd91c7df53c160c329f9bad8cb380171", func := "loop.example/g01987/laws.FnExactPossibleBest", spec := "fnExactPossibleBest", apart := false, narrowed := true }
def FnExactPossibleBestUptoSaid : Prop := fnExactPossibleBestUptoRow.holds Try.pinned (OpenSpec.upto fnExactPossibleBestSpec)

/-- 'laws.FnExactExclusiveOf', WHERE WHAT IT READS IS OF BULK AT MOST 1048576: true; the input reads as it did. -/
def fnExactExclusiveOfUptoRow : OpenClaim := { program := "ytdfmgpmfalnffaa", sum := "688813b3fa83827c9f0cef27d7489c46fd91c7df53c160c329f9bad8cb380171", func := "loop.example/g01987/laws.FnExactExclusiveOf", spec := "fnExactExclusiveOf", unfollowed := true, recurses := true, apart := false, narrowed := true }
def FnExactExclusiveOfUptoSaid : Prop := fnExactExclusiveOfUptoRow.holds Try.pinned (OpenSpec.upto fnExactExclusiveOfSpec)

end Rows
end Go.Proofs.Ytdfmgpmfalnffaa
