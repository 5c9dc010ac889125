/- For every input, FnExactRunConsole returns true and leaves its argument as it was. No condition. -/
import Derived.Test.YtpihighajaeabaaGreatRows
import Derived.Test.YtpihighajaeabaaGreatXConX
import Derived.Test.YtpihighajaeabaaGreatXOpenB
namespace Go.Proofs.YtpihighajaeabaaGreat
open Go.RowKit Go.ChangeShapes Go.WideShapes Go.ChangeAt Go.Proofs.Tryz
set_option linter.all false
set_option maxRecDepth 100000
set_option maxHeartbeats 16000000
theorem pAp (w:World) (text:ByteArray) (hq:text.size<=9223372036854775807):Calls prog 7 #[.string text] w (Ret w (.bool true)):=by
 by_cases hbig:1048576<text.size
 ·have i1:(1048576:Int)<(text.size:Int):=by omega
  clear hbig hq;go_enter func7,ntmps7;go_wp2;go_ret;exact Ret.bool rfl (Bw.refl _)
 ·have i1:¬(1048576:Int)<(text.size:Int):=by omega
  have k1:=bAs w text;have k2:=fun W=>mS W text
  obtain ⟨Y,hY⟩:=pA7 (yI text);rw [<-hY] at k1;simp only [<-hY] at k2;have K2:=pA6 k2;clear hY hbig hq k2;have e1:=JD (rfl:Y=Y);go_enter func7,ntmps7;go_wp2_with fail;refine (k1).mono ?_;rintro e w1 ⟨rfl,bb⟩;go_wp2_with fail;refine (K2.out _).mono ?_;rintro e w2 ⟨rfl,bc⟩;clear k1;go_wp2;go_ret;exact Ret.bool rfl (bb.then bc)
theorem pAo (os:Os) (started:os.Started) (H:Type) (enc:TypeId×Value->H) :
  ReturnsInHanded {} Tryz.checked os 7 .any (Rows.fnExactRunConsoleSpec.pre6 enc prog Tryz.f7 Rows.fnExactRunConsoleRow.domain false) (Rows.fnExactRunConsoleSpec.post enc prog Tryz.f7 false true false false):=by
 refine returnsInHanded_of_change (C:=Tryz.checked) lA3 started (by kernel_rfl) func7
  (ChangeSpec.witness6 (enc:=enc) (C:=Tryz.checked) false ⟨#[],#[.string ⟨#[]⟩],[]⟩ 8 (by kernel_rfl) (by kernel_rfl) (by kernel_rfl) (by kernel_rfl)) ?_
 intro W bf bb ds gs before bc hW hcnd _;have bd:∀(j:Nat) t v,Tryz.f7.params[j]? = some t->bb[j]? = some v->Value.okWide prog W .any bf t v:=bc;have bj:=hW;obtain ⟨p,q,bg,hV,rfl,hfz,hnd⟩:=hW;have hA:DataW.TrodAll enc prog W 0 (fun _=>true) true Tryz.f7.params.toList bb.toList ds p:=bg;rw [Tryz.params7] at hA bd;obtain ⟨v0,vs0,d0,ds0,p0,q0,hargs,rfl,rfl,h0,r0⟩:=trodAll_cons hA;obtain ⟨rfl,rfl,rfl⟩:=trodAll_nil r0;obtain rfl:bb=#[v0]:=by cases bb;simp_all
 obtain ⟨rfl,rfl⟩:=trodVars_none hV;obtain ⟨x0,rfl,rfl,rfl,Q0⟩:=Go.ChangeMaps.open_string underlying9 (bd 0 9 v0 rfl rfl) h0;clear bg bc;refine (pAp W x0 Q0).mono fun e W' ⟨he,bel⟩=>?_
 subst he;exact ⟨_,rfl,_,_,_,[],_,[],bj,trodAll_mk1 (shut_bool underlying4 _),(trodAll_cons_mk (Go.ChangeMaps.shut_string underlying9 Q0) trodAll_mk0),rfl,Below.frame bel _,fun h=>by cases h⟩
theorem FnExactRunConsole_holds:Rows.FnExactRunConsoleSaid:=
 OpenClaim.holds_of_wide 7 Tryz.f7 rfl rfl rfl rfl rfl rfl rfl ⟨rfl,rfl,rfl,rfl,rfl⟩ rfl rfl rfl rfl rfl (by kernel_rfl) func7 (by kernel_rfl)
  (of_decide_eq_true (by kernel_rfl)) (by unfold Func.isWrapper;first | (rw [if_pos (by decide +kernel)];kernel_rfl) | (rw [if_neg (by decide +kernel)];exact ⟨rfl,rfl⟩))
  (fun os started H enc _=>pAo os started H enc)
end Go.Proofs.YtpihighajaeabaaGreat
