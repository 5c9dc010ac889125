/-
  No cell of these rows narrows 'for every input' (looked for: loops, veiled, ifaces, maps, wideKeys, modest, calm, conditions, laid).
  DERIVED. THE GIVEN ROWS OF THIS SEAT. 6 by the template 'for every input the law returns true; each argument reads behind the call as it read before'; 0 by the template 'total and deterministic' (their statements: YtpihighajaeabaaGreatTotals.lean).
  GIVEN WITH THE SEED: the statements are not yours to turn. If you find one false, say at which input.
  Laid BY PROGRAM, IN A SANDBOX (cutbox-rows.mjs): the forced cells as the released guide's own fill.sh prints them over the translation cef18866377ae4ae… (all of the seat's roots in one cut). By AI agents, Wed Nov 11 2026. No macro, syntax, notation, axiom, sorry.
-/
import Derived.Test.YtpihighajaeabaaGreatChecked
import GoSem.Claim
import GoSem.ClaimJoined
import GoSem.ClaimMapViews
import Derived.JoinedTies
import Derived.KernelRfl
namespace Go.Proofs.YtpihighajaeabaaGreat
/- THE CELL 'sum', in the pinned program and in every row, IS THE sha256 OF THE DUMP (.gsa) THAT YtpihighajaeabaaGreatProg.lean LOADS. Nothing in Lean hashes anything: it is a label: what it is worth is what the hold of that sum in a sandbox is worth. -/
noncomputable def Tryz.pinned : Pinned := { name := "ytpihighajaeabaagreat", sum := "cef18866377ae4ae5ebe62b64e2a42f18d9604c6f001fff9f784e59935f3456c", checked := Tryz.checked }
namespace Rows
def none {H : Type} : Left H := { results := [], args := [] }

/-- 'laws.FnStandings': WHATEVER THE INPUT: true; the input reads as it did. -/
def fnStandingsSpec : ChangeSpec := { name := "fnStandings", fn := fun _ => fun
  | [d] => { results := [.lit (.bool true)], args := [d] }
  | _ => none }
def fnStandingsRow : OpenClaim := { program := "ytpihighajaeabaagreat", sum := "cef18866377ae4ae5ebe62b64e2a42f18d9604c6f001fff9f784e59935f3456c", func := "loop.example/g01987/laws.FnStandings", spec := "fnStandings", unfollowed := true, recurses := true, apart := false }
def FnStandingsSaid : Prop := fnStandingsRow.holds Tryz.pinned (OpenSpec.ofChange fnStandingsSpec)

/-- ITS FALSE NEIGHBOUR: 'it returns false'. Refute it at one input. -/
def fnStandingsWrong : ChangeSpec := { name := "fnStandings", fn := fun _ => fun
  | [d] => { results := [.lit (.bool false)], args := [d] }
  | _ => none }
def FnStandingsWrongFalsely : Prop := fnStandingsRow.holds Tryz.pinned (OpenSpec.ofChange fnStandingsWrong)

/-- 'laws.FnTop': WHATEVER THE INPUT: true; the input reads as it did. -/
def fnTopSpec : ChangeSpec := { name := "fnTop", fn := fun _ => fun
  | [d] => { results := [.lit (.bool true)], args := [d] }
  | _ => none }
def fnTopRow : OpenClaim := { program := "ytpihighajaeabaagreat", sum := "cef18866377ae4ae5ebe62b64e2a42f18d9604c6f001fff9f784e59935f3456c", func := "loop.example/g01987/laws.FnTop", spec := "fnTop", unfollowed := true, recurses := true, apart := false }
def FnTopSaid : Prop := fnTopRow.holds Tryz.pinned (OpenSpec.ofChange fnTopSpec)

/-- ITS FALSE NEIGHBOUR: 'it returns false'. Refute it at one input. -/
def fnTopWrong : ChangeSpec := { name := "fnTop", fn := fun _ => fun
  | [d] => { results := [.lit (.bool false)], args := [d] }
  | _ => none }
def FnTopWrongFalsely : Prop := fnTopRow.holds Tryz.pinned (OpenSpec.ofChange fnTopWrong)

/-- 'laws.FnReports': WHATEVER THE INPUT: true; the input reads as it did. -/
def fnReportsSpec : ChangeSpec := { name := "fnReports", fn := fun _ => fun
  | [d] => { results := [.lit (.bool true)], args := [d] }
  | _ => none }
def fnReportsRow : OpenClaim := { program := "ytpihighajaeabaagreat", sum := "cef18866377ae4ae5ebe62b64e2a42f18d9604c6f001fff9f784e59935f3456c", func := "loop.example/g01987/laws.FnReports", spec := "fnReports", unfollowed := true, recurses := true, apart := false }
def FnReportsSaid : Prop := fnReportsRow.holds Tryz.pinned (OpenSpec.ofChange fnReportsSpec)

/-- ITS FALSE NEIGHBOUR: 'it returns false'. Refute it at one input. -/
def fnReportsWrong : ChangeSpec := { name := "fnReports", fn := fun _ => fun
  | [d] => { results := [.lit (.bool false)], args := [d] }
  | _ => none }
def FnReportsWrongFalsely : Prop := fnReportsRow.holds Tryz.pinned (OpenSpec.ofChange fnReportsWrong)

/-- 'laws.FnConsoleResults': WHATEVER THE INPUT: true; the input reads as it did. -/
def fnConsoleResultsSpec : ChangeSpec := { name := "fnConsoleResults", fn := fun _ => fun
  | [d] => { results := [.lit (.bool true)], args := [d] }
  | _ => none }
def fnConsoleResultsRow : OpenClaim := { program := "ytpihighajaeabaagreat", sum := "cef18866377ae4ae5ebe62b64e2a42f18d9604c6f001fff9f784e59935f3456c", func := "loop.example/g01987/laws.FnConsoleResults", spec := "fnConsoleResults", unfollowed := true, recurses := true, apart := false }
def FnConsoleResultsSaid : Prop := fnConsoleResultsRow.holds Tryz.pinned (OpenSpec.ofChange fnConsoleResultsSpec)

/-- ITS FALSE NEIGHBOUR: 'it returns false'. Refute it at one input. -/
def fnConsoleResultsWrong : ChangeSpec := { name := "fnConsoleResults", fn := fun _ => fun
  | [d] => { results := [.lit (.bool false)], args := [d] }
  | _ => none }
def FnConsoleResultsWrongFalsely : Prop := fnConsoleResultsRow.holds Tryz.pinned (OpenSpec.ofChange fnConsoleResultsWrong)

/-- 'laws.FnExactRunConsole': WHATEVER THE INPUT: true; the input reads as it did. -/
def fnExactRunConsoleSpec : ChangeSpec := { name := "fnExactRunConsole", fn := fun _ => fun
  | [d] => { results := [.lit (.bool true)], args := [d] }
  | _ => none }
def fnExactRunConsoleRow : OpenClaim := { program := "ytpihighajaeabaagreat", sum := "cef18866377ae4ae5ebe62b64e2a42f18d9604c6f001fff9f784e59935f3456c", func := "loop.example/g01987/laws.FnExactRunConsole", spec := "fnExactRunConsole", unfollowed := true, recurses := true, apart := false }
def FnExactRunConsoleSaid : Prop := fnExactRunConsoleRow.holds Tryz.pinned (OpenSpec.ofChange fnExactRunConsoleSpec)

/-- ITS FALSE NEIGHBOUR: 'it returns false'. Refute it at one input. -/
def fnExactRunConsoleWrong : ChangeSpec := { name := "fnExactRunConsole", fn := fun _ => fun
  | [d] => { results := [.lit (.bool false)], args := [d] }
  | _ => none }
def FnExactRunConsoleWrongFalsely : Prop := fnExactRunConsoleRow.holds Tryz.pinned (OpenSpec.ofChange fnExactRunConsoleWrong)

/-- 'laws.FnConsolePrefix': WHATEVER THE INPUT: true; the input reads as it did. -/
def fnConsolePrefixSpec : ChangeSpec := { name := "fnConsolePrefix", fn := fun _ => fun
  | [d] => { results := [.lit (.bool true)], args := [d] }
  | _ => none }
def fnConsolePrefixRow : OpenClaim := { program := "ytpihighajaeabaagreat", sum := "cef18866377ae4ae5ebe62b64e2a42f18d9604c6f001fff9f784e59935f3456c", func := "loop.example/g01987/laws.FnConsolePrefix", spec := "fnConsolePrefix", unfollowed := true, recurses := true, apart := false }
def FnConsolePrefixSaid : Prop := fnConsolePrefixRow.holds Tryz.pinned (OpenSpec.ofChange fnConsolePrefixSpec)

/-- ITS FALSE NEIGHBOUR: 'it returns false'. Refute it at one input. -/
def fnConsolePrefixWrong : ChangeSpec := { name := "fnConsolePrefix", fn := fun _ => fun
  | [d] => { results := [.lit (.bool false)], args := [d] }
  | _ => none }
def FnConsolePrefixWrongFalsely : Prop := fnConsolePrefixRow.holds Tryz.pinned (OpenSpec.ofChange fnConsolePrefixWrong)

/- THE SECOND FORM. 'bulk': how many values and letters a reading holds, each counted each time it is reached (what is shared counts as often as it is met; a slice's spare places count too). A statement '..UptoSaid' is the law's where the arguments, and the package variables that the reading takes, are together of bulk at most 1048576: NARROWER than '..Said'. Prove '..Said' where nothing that the law and all that it calls make is longer than what came in: it says more and counts as full. Else prove '..UptoSaid'. A law counts once. -/
mutual
def uptoBulk {H : Type} : DataW H → Nat
  | .lit (.string bytes) => bytes.length + 1
  | .lit _ => 1
  | .nil => 1
  | .ptr d => uptoBulk d + 1
  | .slice elems spare => uptoBulkAll elems + uptoBulkAll spare + 1
  | .agg parts => uptoBulkAll parts + 1
  | .iface _ d => uptoBulk d + 1
  | .map entries => uptoBulkEntries entries + 1
  | .held _ => 1
def uptoBulkAll {H : Type} : List (DataW H) → Nat
  | [] => 0
  | d :: r => uptoBulk d + uptoBulkAll r
def uptoBulkEntries {H : Type} : List (Lit × DataW H) → Nat
  | [] => 0
  | x :: r => uptoBulkEntry x + uptoBulkEntries r
def uptoBulkEntry {H : Type} : Lit × DataW H → Nat
  | (.string bytes, d) => bytes.length + uptoBulk d + 1
  | (_, d) => uptoBulk d + 1
 end
def uptoSmall : (H : Type) → List (DataW H) → Bool := fun _ ds => decide (uptoBulkAll ds ≤ 1048576)
def OpenSpec.upto (s : _root_.Go.ChangeSpec) : _root_.Go.OpenSpec := { _root_.Go.OpenSpec.ofChange s with cond := some uptoSmall }

/-- 'laws.FnStandings', WHERE WHAT IT READS IS OF BULK AT MOST 1048576: true; the input reads as it did. -/
def fnStandingsUptoRow : OpenClaim := { program := "ytpihighajaeabaagreat", sum := "cef18866377ae4ae5ebe62b64e2a42f18d9604c6f001fff9f784e59935f3456c", func := "loop.example/g01987/laws.FnStandings", spec := "fnStandings", unfollowed := true, recurses := true, apart := false, narrowed := true }
def FnStandingsUptoSaid : Prop := fnStandingsUptoRow.holds Tryz.pinned (OpenSpec.upto fnStandingsSpec)

/-- 'laws.FnTop', WHERE WHAT IT READS IS OF BULK AT MOST 1048576: true; the input reads as it did. -/
def fnTopUptoRow : OpenClaim := { program := "ytpihighajaeabaagreat", sum := "cef18866377ae4ae5ebe62b64e2a42f18d9604c6f001fff9f784e59935f3456c", func := "loop.example/g01987/laws.FnTop", spec := "fnTop", unfollowed := true, recurses := true, apart := false, narrowed := true }
def FnTopUptoSaid : Prop := fnTopUptoRow.holds Tryz.pinned (OpenSpec.upto fnTopSpec)

/-- 'laws.FnReports', WHERE WHAT IT READS IS OF BULK AT MOST 1048576: true; the input reads as it did. -/
def fnReportsUptoRow : OpenClaim := { program := "ytpihighajaeabaagreat", sum := "cef18866377ae4ae5ebe62b64e2a42f18d9604c6f001fff9f784e59935f3456c", func := "loop.example/g01987/laws.FnReports", spec := "fnReports", unfollowed := true, recurses := true, apart := false, narrowed := true }
def FnReportsUptoSaid : Prop := fnReportsUptoRow.holds Tryz.pinned (OpenSpec.upto fnReportsSpec)

/-- 'laws.FnConsoleResults', WHERE WHAT IT READS IS OF BULK AT MOST 1048576: true; the input reads as it did. -/
def fnConsoleResultsUptoRow : OpenClaim := { program := "ytpihighajaeabaagreat", sum := "cef18866377ae4ae5ebe62b64e2a42f18d9604c6f001fff9f784e59935f3456c", func := "loop.example/g01987/laws.FnConsoleResults", spec := "fnConsoleResults", unfollowed := true, recurses := true, apart := false, narrowed := true }
def FnConsoleResultsUptoSaid : Prop := fnConsoleResultsUptoRow.holds Tryz.pinned (OpenSpec.upto fnConsoleResultsSpec)

/-- 'laws.FnExactRunConsole', WHERE WHAT IT READS IS OF BULK AT MOST 1048576: true; the input reads as it did. -/
def fnExactRunConsoleUptoRow : OpenClaim := { program := "ytpihighajaeabaagreat", sum := "cef18866377ae4ae5ebe62b64e2a42f18d9604c6f001fff9f784e59935f3456c", func := "loop.example/g01987/laws.FnExactRunConsole", spec := "fnExactRunConsole", unfollowed := true, recurses := true, apart := false, narrowed := true }
def FnExactRunConsoleUptoSaid : Prop := fnExactRunConsoleUptoRow.holds Tryz.pinned (OpenSpec.upto fnExactRunConsoleSpec)

/-- 'laws.FnConsolePrefix', WHERE WHAT IT READS IS OF BULK AT MOST 1048576: true; the input reads as it did. -/
def fnConsolePrefixUptoRow : OpenClaim := { program := "ytpihighajaeabaagreat", sum := "cef18866377ae4ae5ebe62b64e2a42f18d9604c6f001fff9f784e59935f3456c", func := "loop.example/g01987/laws.FnConsolePrefix", spec := "fnConsolePrefix", unfollowed := true, recurses := true, apart := false, narrowed := true }
def FnConsolePrefixUptoSaid : Prop := fnConsolePrefixUptoRow.holds Tryz.pinned (OpenSpec.upto fnConsolePrefixSpec)

end Rows
end Go.Proofs.YtpihighajaeabaaGreat
