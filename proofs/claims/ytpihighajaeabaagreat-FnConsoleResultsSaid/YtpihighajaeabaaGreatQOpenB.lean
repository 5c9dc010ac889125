/- A slice of bytes among a law's arguments. -/
import Derived.Test.YtpihighajaeabaaGreatQChangeS
import Derived.Test.YtpihighajaeabaaGreatQDrawE
namespace Go.Proofs.YtpihighajaeabaaGreat
open Go.RowKit Go.ChangeShapes Go.WideShapes Go.Deep
set_option linter.unusedVariables false
section
variable {H:Type} {enc:TypeId×Value→H} {w:World} {sp:Nat→Bool} {held:Bool}
theorem jAe {n:Nat} {cs:List Value} {y:DataW H×List MemPlace} (h:DataW.trod enc Tryz.prog w 0 sp held n 5 cs=some y):∃x,rU8 w (lt w) x cs∧(0≤x∧x≤255):=by
 obtain ⟨x,rfl,_,hw⟩:=DataW.trod_int Tryz.underlying5 h;exact ⟨x,rfl,bounds_u8 hw⟩
theorem iA9 {n:Nat} {cs:List Value} {y:DataW H×List MemPlace} (h:DataW.trod enc Tryz.prog w 0 sp held n 22 cs=some y):∃xs,DK w (lt w) xs cs∧xJ xs:=
 gAy Tryz.underlying22 (by kernel_rfl) (by omega) (fun _ _ _ h _=>jAe h) h
end
end Go.Proofs.YtpihighajaeabaaGreat
