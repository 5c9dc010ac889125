/- Lists of lists of integers: the laws' helpers, SameAnswers. -/
import Derived.Test.YtfffklkiikmieaaItems
namespace Go.Proofs.Ytfffklkiikmieaa
open Go.RowKit
set_option linter.unusedVariables false
theorem info_ints : (Try.prog.info? 42).map (fun i => (i.zero, i.size, i.bytes)) = some (some (.slice none 0 0), 1, 24) := by kernel_rfl
abbrev fIntss : Fp (List (List Int)) := fSl 42 1 fInts
theorem fIntss_good {B : Nat} : GoodF B fIntss := fSl_good fInts_good
theorem fIntss_rd {B : Nat} {w : World} {xs : List (List Int)} {cs : List Value} {F : List Nat} (h : fIntss w xs cs F) : rIntss w (fun b => b ∈ F ∨ b < B) xs cs := fSl_rd rInts_good (fun _ _ _ h => fInts_rd h) h
theorem fIntss_Rd {w : World} {xs : List (List Int)} {cs : List Value} {F : List Nat} (h : fIntss w xs cs F) : Rd rIntss w xs cs := Rd.of rIntss_good (B := 0) (fIntss_rd h) ((fIntss_good (B := 0)).lt h) (Nat.zero_le _)
def totIntss (xs : List (List Int)) : Nat := xs.length + sumL (fun x => x.length) xs
