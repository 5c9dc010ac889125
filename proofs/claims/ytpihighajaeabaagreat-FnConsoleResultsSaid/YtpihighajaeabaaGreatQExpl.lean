/- Why an item is not one of the best: ExplainItem in both programs. -/
import Derived.Test.YtpihighajaeabaaGreatQDom
import Derived.Test.YtpihighajaeabaaGreatQChangeI
import Derived.Test.YtpihighajaeabaaGreatQChangeS
import Derived.Test.YtpihighajaeabaaGreatQFmtP
namespace Go.Proofs.YtpihighajaeabaaGreat
open Go.RowKit
set_option linter.unusedVariables false
set_option linter.unusedSimpArgs false
def DC (l:List gA) (e:List kA) (id:Int):ByteArray:=
 if qB l e id then (if tD l e id 1=[] then ⟨#[98,101,115,116]⟩ else ⟨#[98,101,108,111,119,32]⟩++MB (tD l e id 1) ⟨#[44]⟩++⟨#[32,99,104,97,110,103,101,32,116,111,32]⟩++MB (TB l e id).vals ⟨#[44]⟩++⟨#[32,99,111,115,116,32]⟩++EA (xC l e id)) else ⟨#[]⟩
theorem fA3 {l:List gA} {e:List kA} {id:Int} (h:qB l e id=true):(BA l e).contains id=decide (tD l e id 1=[]):=by
 rcases eH l e id with hc | ⟨hB,j,p,hf,hp,hid⟩
 ·rw [hc] at h;exact absurd h (by simp)
 ·rw [rR hB hf hp];have hpm:=List.mem_of_getElem? hp;have h1:BA l e=mD l e:=by unfold BA;rw [hB];rfl
  rw [h1,Bool.eq_iff_iff,List.contains_iff_mem,decide_eq_true_eq];constructor
  ·intro hm;obtain ⟨x,hx,hxi⟩:=List.mem_map.1 (show id∈(l.filter (ZF l e)).map (·.id) from hm);have hxp:x=p:=yM (sA hB) (List.mem_filter.1 hx).1 hpm (hxi.trans hid.symm);subst hxp;have hf2:=(List.mem_filter.1 hx).2;unfold ZF at hf2;rw [Bool.not_eq_true',List.any_eq_false] at hf2;unfold jG;rw [List.map_eq_nil_iff,List.filter_eq_nil_iff];intro y hy;exact hf2 y hy
  ·intro hn;unfold jG at hn;rw [List.map_eq_nil_iff,List.filter_eq_nil_iff] at hn;refine List.mem_map.2 ⟨p,List.mem_filter.2 ⟨hpm,?_⟩,hid⟩;unfold ZF;rw [Bool.not_eq_true',List.any_eq_false];exact hn
theorem vR {l:List gA} {e:List kA} {id c:Int} (hB:dB l e=true) {v:Int} (hv:v∈tD l e id c):0≤v∧v≤99:=by
 unfold tD at hv
 split at hv
 ·unfold jG at hv;obtain ⟨x,hx,rfl⟩:=List.mem_map.1 hv;exact wD (NA (sA hB) (List.mem_filter.1 hx).1)
 ·simp at hv
theorem kU (l:List gA) (e:List kA) (id:Int):(TB l e id=⟨0,[]⟩∧xC l e id=0)∨(∃m p,m<1000∧TB l e id=IB id m∧xC l e id=gD p (IB id m))∨(TB l e id=⟨0,[]⟩∧xC l e id = -1):=by
 unfold TB xC
 split
 ·rcases XO l e (nD l id) id 1000 with h | h
  ·rw [h];exact .inr (.inr ⟨rfl,rfl⟩)
  ·obtain ⟨m,hm,h1,_⟩:=qV l e (nD l id) id 1000 h;rw [h1];exact .inr (.inl ⟨m,_,hm,rfl,rfl⟩)
 ·exact .inl ⟨rfl,rfl⟩
theorem nK (l:List gA) (e:List kA) (id:Int) {v:Int} (hv:v∈(TB l e id).vals):0≤v∧v≤9:=by
 rcases kU l e id with ⟨h,_⟩ | ⟨m,p,hm,h,_⟩ | ⟨h,_⟩
 ·rw [h] at hv;simp at hv
 ·rw [h] at hv;simp only [IB,List.mem_cons,List.not_mem_nil,or_false] at hv;omega
 ·rw [h] at hv;simp at hv
theorem iL (l:List gA) (e:List kA) (id:Int):(TB l e id).vals.length≤3:=by
 rcases kU l e id with ⟨h,_⟩ | ⟨m,p,hm,h,_⟩ | ⟨h,_⟩
 ·rw [h];exact Nat.zero_le _
 ·rw [h];exact Nat.le_refl _
 ·rw [h];exact Nat.zero_le _
theorem pX:∀ {xs ys:List Int},(∀v∈xs,0≤v∧v≤9)→(∀v∈ys,0≤v∧v≤9)→zF xs ys≤9*xs.length
 | a::p,b::q,h1,h2=>by
  have:=pX (xs:=p) (ys:=q) (fun v hv=>h1 v (by simp [hv])) (fun v hv=>h2 v (by simp [hv]));have ha:=h1 a (by simp);have hb:=h2 b (by simp);have hd:eL a b≤9:=by unfold eL;split<;>omega
  rw [zF,List.length_cons];omega
 | [],_,_,_=>by simp [zF]
 | _::_,[],_,_=>by simp [zF];omega
theorem cAp (x y:gA):gD x y≤27:=by
 unfold gD
 split
 ·rename_i h
  rw [Bool.and_eq_true] at h;have:=pX (fun v hv=>dE h.1 (v:=v) hv) (fun v hv=>dE h.2 (v:=v) hv);rw [YA h.1] at this;omega
 ·omega
theorem XM (l:List gA) (e:List kA) (id:Int) (hB:dB l e=true):0≤xC l e id∧xC l e id≤27:=by
 rcases eH l e id with hc | ⟨_,j,p,hf,hp,hid⟩
 ·unfold xC;rw [hc];simp
 ·have hid2:=wD (NA (sA hB) (List.mem_of_getElem? hp));rw [hid] at hid2;have h0:=qR (p:=nD l id) hB hid2;unfold xC
  split
  ·obtain ⟨m,hm,h1,_⟩:=qV l e (nD l id) id 1000 h0;refine ⟨h0,?_⟩;rw [h1];exact cAp _ _
  ·omega
theorem pE {l:List Int} (sep:ByteArray) (hw:∀x∈l,(Lit.int .i64 x).wf=true):(MB l sep).size≤l.length*(20+sep.size):=by
 unfold MB mE;have h1:=iJ sep (SC l) 0 ⟨#[]⟩;have h2:=iK (l:=l) sep hw;have e0:(⟨#[]⟩:ByteArray).size=0:=rfl;omega
theorem OP {w:World} {x:gA} {cs:List Value} {F:List Nat} (h:BG w x cs F):∃A c,cs=[.int .i64 x.id,.slice A x.vals.length c]∧ZA w x.vals [.slice A x.vals.length c] F:=by
 obtain ⟨v,e,h⟩:=h;obtain ⟨A,c,rfl,_⟩:=aB (AA h);exact ⟨A,c,e,h⟩
set_option maxHeartbeats 1600000 in
theorem XN (w:World) (l:List Int) (v:Value) (h:Rd XA w l [v]) (hw:∀x∈l,(Lit.int .i64 x).wf=true) (hn:l.length≤1048576) :
  Calls Tryz.prog 145 #[v] w (Ret w (.string (MB l ⟨#[44]⟩))):=by
 obtain ⟨A,n,c,rfl,a1,a2,a3⟩:=iA h;have L1:=Lib.hid a1;rw [← a1] at hn;clear a1;go_enter Tryz.func145,Tryz.ntmps145;go_wp2
 go_loopw [3,4] (fun s i w'=>∃(k:Nat) (acc:ByteArray),k≤n∧i=.int .i64 k∧s=.string acc∧Hid (MB l ⟨#[44]⟩=gl ⟨#[44]⟩ k acc (SC (l.drop k)))∧acc.size≤21*k∧Bw w w') (fun s i _=>n-(intOf i).toNat)
 case atStart=>exact ⟨0,_,by omega,rfl,rfl,rfl,Nat.zero_le _,Bw.refl _⟩
 case round=>
  obtain ⟨k,acc,hk,rfl,rfl,HE,g1,hb⟩:=hrel;by_cases hlt:k<n
  ·obtain ⟨x,hx⟩:=rA (xs:=l) (k:=k) (by rw [← L1.out];exact hlt);obtain ⟨ba,oa,rfl,_,hcx⟩:=GB (h.bw dA hb) hx;have hwx:=hw x (List.mem_of_getElem? hx);have HS:=Lib.hid (FN (sep:=⟨#[44]⟩) (acc:=acc) hx);have ⟨hsz1,hsz⟩:=OA hwx;clear hx h hw hsz1;by_cases h0:0<k
   ·have hadd:∀W,(Op.stringOp .add acc ⟨#[44]⟩).run Tryz.prog W=.ok (.string (acc++⟨#[44]⟩)) W:=fun W=>run_string_add_sum W _ _ (by have e:(⟨#[44]⟩:ByteArray).size=1:=rfl;omega)
    have hadd2:∀W,(Op.stringOp .add (acc++⟨#[44]⟩) (EA x)).run Tryz.prog W=.ok (.string (acc++⟨#[44]⟩++EA x)) W:=fun W=>run_string_add_sum W _ _ (by have e:(⟨#[44]⟩:ByteArray).size=1:=rfl;rw [cA];omega)
    go_wp2_with fail;refine (KC _ x hwx).mono ?_;rintro e w1 ⟨rfl,hb1⟩;go_wp2
    go_roundw
    case rel=>exact ⟨k+1,_,by omega,by go_num,rfl,by show _=_;rw [HE.out,HS.out,if_pos h0],by have e:(⟨#[44]⟩:ByteArray).size=1:=rfl;rw [cA,cA];omega,hb.then hb1⟩
    case measure=>simp [intOf];omega
   ·have hadd2:∀W,(Op.stringOp .add acc (EA x)).run Tryz.prog W=.ok (.string (acc++EA x)) W:=fun W=>run_string_add_sum W _ _ (by omega)
    go_wp2_with fail;refine (KC _ x hwx).mono ?_;rintro e w1 ⟨rfl,hb1⟩;go_wp2
    go_roundw
    case rel=>exact ⟨k+1,_,by omega,by go_num,rfl,by show _=_;rw [HE.out,HS.out,if_neg (by omega)],by rw [cA];omega,hb.then hb1⟩
    case measure=>simp [intOf];omega
  ·have hacc:Hid (acc=MB l ⟨#[44]⟩):=by show _=_;rw [HE.out,List.drop_of_length_le (by rw [← L1.out];omega)];rfl
   go_wp2;go_ret;exact Ret.str hacc.out hb
set_option maxRecDepth 100000 in
set_option maxHeartbeats 6400000 in
theorem gAp (w:World) (l:List gA) (e:List kA) (id:Int) (v u:Value) (h:Rd MA w l [v]) (h':Rd RA w e [u]) :
  Calls Tryz.prog 255 #[v,u,.int .i64 id] w (Ret w (.string (DC l e id))):=by
 obtain ⟨K,hK⟩:∃K,K=UA l id:=⟨_,rfl⟩;have HK:=Lib.hid hK;have hcall:=fun W (B:Bw w W)=>vG W l id _ (h.bw jA B)
 rw [← hK] at hcall;clear hK;go_enter Tryz.func255,Tryz.ntmps255;go_wp2_with fail;refine (NJ _ l e _ _ h h').mono ?_;rintro e w1 ⟨rfl,hb1⟩;rcases Bool.eq_false_or_eq_true (dB l e) with e1 | e1
 ·have HB:=Lib.hid e1;rw [e1];clear e1;go_wp2_with fail;refine (hcall _ hb1).mono ?_;rintro e w2 ⟨rfl,hb2⟩;have B2:=hb1.then hb2;clear hcall;by_cases hk:K<0
  ·have HN:=Lib.hid (show DC l e id=⟨#[]⟩ by
    have:qB l e id=false:=by unfold qB;rw [HB.out,← HK.out];simp;omega
    unfold DC;rw [this];rfl)
   go_wp2;go_ret;exact Ret.str (by rw [HN.out]) (B2)
  ·have HOK:=Lib.hid (show qB l e id=true by unfold qB;rw [HB.out,← HK.out];simp;omega);go_wp2_with fail;refine (tR _ l e id _ _ (h.bw jA B2) (h'.bw lA B2)).mono ?_;rintro e w3 ⟨v3,rfl,⟨F3,o3,f3⟩,hb3⟩;have B3:=B2.then hb3;by_cases hne:tD l e id 1=[]
   ·have HN:=Lib.hid (show DC l e id=⟨#[98,101,115,116]⟩ by rw [DC,if_pos HOK.out,if_pos hne]);rw [hne] at o3;obtain ⟨A3,c3,rfl,_⟩:=aB (AA o3);clear hne;go_wp2;go_ret;exact Ret.str (by rw [HN.out]) (B3)
   ·have HNE:=Lib.hid hne;have hl0:(tD l e id 1).length≠0:=fun h=>hne (List.eq_nil_of_length_eq_zero h)
    obtain ⟨A3,n3,c3,rfl,L3,_,_⟩:=iA (AA o3);rw [← L3] at hl0;have hl1:((n3:Int)==0)=false:=by simpa using hl0
    have hd3:=AA o3;clear hne L3 hl0;go_wp2_with fail;refine (aP _ l e id _ _ (h.bw jA B3) (h'.bw lA B3)).mono ?_;rintro e w4 ⟨_,rfl,⟨cs,rfl,F4,o4,f4⟩,hb4⟩;have B4:=B3.then hb4;obtain ⟨A4,c4,rfl,o5⟩:=OP o4;obtain ⟨X,hX⟩:∃X,X=TB l e id:=⟨_,rfl⟩;have hx4:=AA o5;have hids:∀v∈tD l e id 1,(Lit.int .i64 v).wf=true:=fun v hv=>iB (by have:=vR HB.out hv;omega)
    have hvs:∀v∈(TB l e id).vals,(Lit.int .i64 v).wf=true:=fun v hv=>iB (by have:=nK l e id hv;omega)
    have wc:=iB (n:=xC l e id) (by have:=XM l e id HB.out;omega);have dl:=Nat.le_trans (kG l e id 1) (VA (sA HB.out));have xl:=iL l e id;have HF:=Lib.hid (show ⟨#[98,101,108,111,119,32]⟩++MB (tD l e id 1) ⟨#[44]⟩++⟨#[32,99,104,97,110,103,101,32,116,111,32]⟩++MB (TB l e id).vals ⟨#[44]⟩++⟨#[32,99,111,115,116,32]⟩++EA (xC l e id)=DC l e id by rw [DC,if_pos HOK.out,if_neg HNE.out]);obtain ⟨P,hP⟩:∃P,P=MB (tD l e id 1) ⟨#[44]⟩:=⟨_,rfl⟩;obtain ⟨Q,hQ⟩:∃Q,Q=MB (TB l e id).vals ⟨#[44]⟩:=⟨_,rfl⟩;obtain ⟨R,hR⟩:∃R,R=EA (xC l e id):=⟨_,rfl⟩;have szP:P.size≤400:=by rw [hP];have:=pE ⟨#[44]⟩ hids;have e:(⟨#[44]⟩:ByteArray).size=1:=rfl;rw [e] at this;omega
    have szQ:Q.size≤400:=by rw [hQ];have:=pE ⟨#[44]⟩ hvs;have e:(⟨#[44]⟩:ByteArray).size=1:=rfl;rw [e] at this;omega
    have szR:R.size≤20:=by rw [hR];exact (OA wc).2
    have cP:∀W v,Rd XA W (tD l e id 1) [v]→Calls Tryz.prog 145 #[v] W (Ret W (.string P)):=fun W v h=>by rw [hP];exact XN W (tD l e id 1) v h hids (by omega)
    have cQ:∀W v,Rd XA W (TB l e id).vals [v]→Calls Tryz.prog 145 #[v] W (Ret W (.string Q)):=fun W v h=>by rw [hQ];exact XN W (TB l e id).vals v h hvs (by omega)
    have cR:∀W,Calls Tryz.prog 64 #[.int .i64 (xC l e id)] W (Ret W (.string R)):=fun W=>by rw [hR];exact KC W _ wc
    rw [← hP,← hQ,← hR] at HF;have a1:∀W,(Op.stringOp .add ⟨#[98,101,108,111,119,32]⟩ P).run Tryz.prog W=.ok (.string (⟨#[98,101,108,111,119,32]⟩++P)) W:=fun W=>run_string_add_sum W _ _ (by have:(⟨#[98,101,108,111,119,32]⟩:ByteArray).size=6:=rfl;have:(⟨#[32,99,104,97,110,103,101,32,116,111,32]⟩:ByteArray).size=11:=rfl;have:(⟨#[32,99,111,115,116,32]⟩:ByteArray).size=6:=rfl;omega)
    have a2:∀W,(Op.stringOp .add (⟨#[98,101,108,111,119,32]⟩++P) ⟨#[32,99,104,97,110,103,101,32,116,111,32]⟩).run Tryz.prog W=.ok (.string (⟨#[98,101,108,111,119,32]⟩++P++⟨#[32,99,104,97,110,103,101,32,116,111,32]⟩)) W:=fun W=>run_string_add_sum W _ _ (by have:(⟨#[98,101,108,111,119,32]⟩:ByteArray).size=6:=rfl;have:(⟨#[32,99,104,97,110,103,101,32,116,111,32]⟩:ByteArray).size=11:=rfl;have:(⟨#[32,99,111,115,116,32]⟩:ByteArray).size=6:=rfl;rw [cA];omega)
    have a3:∀W,(Op.stringOp .add (⟨#[98,101,108,111,119,32]⟩++P++⟨#[32,99,104,97,110,103,101,32,116,111,32]⟩) Q).run Tryz.prog W=.ok (.string (⟨#[98,101,108,111,119,32]⟩++P++⟨#[32,99,104,97,110,103,101,32,116,111,32]⟩++Q)) W:=fun W=>run_string_add_sum W _ _ (by have:(⟨#[98,101,108,111,119,32]⟩:ByteArray).size=6:=rfl;have:(⟨#[32,99,104,97,110,103,101,32,116,111,32]⟩:ByteArray).size=11:=rfl;have:(⟨#[32,99,111,115,116,32]⟩:ByteArray).size=6:=rfl;rw [cA,cA];omega)
    have a4:∀W,(Op.stringOp .add (⟨#[98,101,108,111,119,32]⟩++P++⟨#[32,99,104,97,110,103,101,32,116,111,32]⟩++Q) ⟨#[32,99,111,115,116,32]⟩).run Tryz.prog W=.ok (.string (⟨#[98,101,108,111,119,32]⟩++P++⟨#[32,99,104,97,110,103,101,32,116,111,32]⟩++Q++⟨#[32,99,111,115,116,32]⟩)) W:=fun W=>run_string_add_sum W _ _ (by have:(⟨#[98,101,108,111,119,32]⟩:ByteArray).size=6:=rfl;have:(⟨#[32,99,104,97,110,103,101,32,116,111,32]⟩:ByteArray).size=11:=rfl;have:(⟨#[32,99,111,115,116,32]⟩:ByteArray).size=6:=rfl;rw [cA,cA,cA];omega)
    have a5:∀W,(Op.stringOp .add (⟨#[98,101,108,111,119,32]⟩++P++⟨#[32,99,104,97,110,103,101,32,116,111,32]⟩++Q++⟨#[32,99,111,115,116,32]⟩) R).run Tryz.prog W=.ok (.string (⟨#[98,101,108,111,119,32]⟩++P++⟨#[32,99,104,97,110,103,101,32,116,111,32]⟩++Q++⟨#[32,99,111,115,116,32]⟩++R)) W:=fun W=>run_string_add_sum W _ _ (by have:(⟨#[98,101,108,111,119,32]⟩:ByteArray).size=6:=rfl;have:(⟨#[32,99,104,97,110,103,101,32,116,111,32]⟩:ByteArray).size=11:=rfl;have:(⟨#[32,99,111,115,116,32]⟩:ByteArray).size=6:=rfl;rw [cA,cA,cA,cA];omega)
    obtain ⟨W,hW⟩:∃W,W=w4.alloc (.cells #[.int .i64 (TB l e id).id,.slice A4 (TB l e id).vals.length c4] 30):=⟨_,rfl⟩;have bW:Bw w4 W:=by rw [hW];exact (Bw.refl w4).alloc _
    have k1:W.cell? ⟨w4.heap.size,1,none⟩=some (.slice A4 (TB l e id).vals.length c4):=by rw [hW];go_simp
    have HW:=Lib.hid hW;have hdW:=(hd3.bw dA hb4).bw dA bW;have hxW:=hx4.bw dA bW;have c1:∀s:GC W,Calls Tryz.prog 145 #[.slice A3 n3 c3] s.1 (Ret s.1 (.string P)):=fun s=>cP _ _ (hdW.bw dA s.bw)
    have c2:∀s:GC W,Calls Tryz.prog 145 #[.slice A4 (TB l e id).vals.length c4] s.1 (Ret s.1 (.string Q)):=fun s=>cQ _ _ (hxW.bw dA s.bw)
    have s1:=qA k1;obtain ⟨C,hC⟩:∃C,C=xC l e id:=⟨_,rfl⟩;rw [← hC] at cR ⊢;obtain ⟨M,hM⟩:∃M,M=(TB l e id).vals.length:=⟨_,rfl⟩;rw [← hM] at c2 k1 s1 HW;have HMM:=Lib.hid hM;clear hW hX hP hQ hR szP szQ szR hids hvs wc dl xl cP cQ o3 o4 o5 hd3 hx4 hdW hxW hC hM;go_wp2;rw [← HMM.out];rw [← HW.out];refine mA (by kernel_rfl) (by kernel_rfl) ?_
    repeat (first | go_big_quiet_skip | (go_big_quiet_want;go_big_quiet_op;first | go_big_quiet_on | (apply Exists.intro;refine ⟨fun _=>?_,?_⟩;(· (((first | (go_at_call 145;first | (with_reducible exact GA (c1 _)) | (with_reducible exact GA (c2 _))) | (go_at_call 64;exact GA (cR _))))));go_big_quiet_on)))
    refine wpQuiet_nil ?_;rintro ⟨wq,hbq⟩;dsimp only at *;go_wp2;go_ret;exact Ret.str HF.out (B4.then (bW.then hbq))
 ·have HN:=Lib.hid (show DC l e id=⟨#[]⟩ by
   have:qB l e id=false:=by unfold qB;rw [e1];rfl
   unfold DC;rw [this];rfl)
  rw [e1];clear e1;go_wp2;go_ret;exact Ret.str (by rw [HN.out]) (hb1)
set_option maxRecDepth 100000 in
set_option maxHeartbeats 6400000 in
theorem mT (w:World) (l:List gA) (e:List kA) (id:Int) (v u:Value) (h:Rd MA w l [v]) (h':Rd RA w e [u]) :
  Calls Tryz.prog 250 #[v,u,.int .i64 id] w (Ret w (.string (DC l e id))):=by
 obtain ⟨K,hK⟩:∃K,K=UA l id:=⟨_,rfl⟩;have HK:=Lib.hid hK;have hcall:=fun W (B:Bw w W)=>QC W l id _ (h.bw jA B)
 rw [← hK] at hcall;clear hK;go_enter Tryz.func250,Tryz.ntmps250;go_wp2_with fail;refine (JD _ l e _ _ h h').mono ?_;rintro e w1 ⟨rfl,hb1⟩;rcases Bool.eq_false_or_eq_true (dB l e) with e1 | e1
 ·have HB:=Lib.hid e1;rw [e1];clear e1;go_wp2_with fail;refine (hcall _ hb1).mono ?_;rintro e w2 ⟨rfl,hb2⟩;have B2:=hb1.then hb2;clear hcall;by_cases hk:K<0
  ·have HN:=Lib.hid (show DC l e id=⟨#[]⟩ by
    have:qB l e id=false:=by unfold qB;rw [HB.out,← HK.out];simp;omega
    unfold DC;rw [this];rfl)
   go_wp2;go_ret;exact Ret.str (by rw [HN.out]) (B2)
  ·have HOK:=Lib.hid (show qB l e id=true by unfold qB;rw [HB.out,← HK.out];simp;omega);have hbi:=nX w2 l e id _ _ (h.bw jA B2) (h'.bw lA B2);rw [fA3 HOK.out] at hbi;go_wp2_with fail;refine (hbi).mono ?_;rintro e w3 ⟨rfl,hb3⟩;have B3:=B2.then hb3;by_cases hne:tD l e id 1=[]
   ·have HN:=Lib.hid (show DC l e id=⟨#[98,101,115,116]⟩ by rw [DC,if_pos HOK.out,if_pos hne]);rw [decide_eq_true hne];clear hne hbi;go_wp2;go_ret;exact Ret.str (by rw [HN.out]) (B3)
   ·have HNE:=Lib.hid hne;rw [decide_eq_false hne];clear hne hbi;go_wp2_with fail;refine (bP _ l e id _ _ (h.bw jA B3) (h'.bw lA B3)).mono ?_;rintro e w4 ⟨_,rfl,⟨cs,rfl,F4,o4,f4⟩,hb4⟩;have B4:=B3.then hb4;obtain ⟨A4,c4,rfl,o5⟩:=OP o4;have hx4:=AA o5;have hids:∀v∈tD l e id 1,(Lit.int .i64 v).wf=true:=fun v hv=>iB (by have:=vR HB.out hv;omega)
    have hvs:∀v∈(TB l e id).vals,(Lit.int .i64 v).wf=true:=fun v hv=>iB (by have:=nK l e id hv;omega)
    have wc:=iB (n:=xC l e id) (by have:=XM l e id HB.out;omega);have dl:=Nat.le_trans (kG l e id 1) (VA (sA HB.out));have xl:=iL l e id;have HF:=Lib.hid (show ⟨#[98,101,108,111,119,32]⟩++MB (tD l e id 1) ⟨#[44]⟩++⟨#[32,99,104,97,110,103,101,32,116,111,32]⟩++MB (TB l e id).vals ⟨#[44]⟩++⟨#[32,99,111,115,116,32]⟩++EA (xC l e id)=DC l e id by rw [DC,if_pos HOK.out,if_neg HNE.out]);obtain ⟨P,hP⟩:∃P,P=MB (tD l e id 1) ⟨#[44]⟩:=⟨_,rfl⟩;obtain ⟨Q,hQ⟩:∃Q,Q=MB (TB l e id).vals ⟨#[44]⟩:=⟨_,rfl⟩;obtain ⟨R,hR⟩:∃R,R=EA (xC l e id):=⟨_,rfl⟩;have szP:P.size≤400:=by rw [hP];have:=pE ⟨#[44]⟩ hids;have e:(⟨#[44]⟩:ByteArray).size=1:=rfl;rw [e] at this;omega
    have szQ:Q.size≤400:=by rw [hQ];have:=pE ⟨#[44]⟩ hvs;have e:(⟨#[44]⟩:ByteArray).size=1:=rfl;rw [e] at this;omega
    have szR:R.size≤20:=by rw [hR];exact (OA wc).2
    have cP:∀W v,Rd XA W (tD l e id 1) [v]→Calls Tryz.prog 132 #[v,.string ⟨#[44]⟩] W (Ret W (.string P)):=fun W v h=>by rw [hP];exact rI W (tD l e id 1) ⟨#[44]⟩ v h hids (by omega) (by show 1≤1024;omega)
    have cQ:∀W v,Rd XA W (TB l e id).vals [v]→Calls Tryz.prog 132 #[v,.string ⟨#[44]⟩] W (Ret W (.string Q)):=fun W v h=>by rw [hQ];exact rI W (TB l e id).vals ⟨#[44]⟩ v h hvs (by omega) (by show 1≤1024;omega)
    have cR:∀W,Calls Tryz.prog 125 #[.int .i64 (xC l e id)] W (Ret W (.string R)):=fun W=>by rw [hR];exact OB W _ wc
    rw [← hP,← hQ,← hR] at HF;have a1:∀W,(Op.stringOp .add ⟨#[98,101,108,111,119,32]⟩ P).run Tryz.prog W=.ok (.string (⟨#[98,101,108,111,119,32]⟩++P)) W:=fun W=>run_string_add_sum W _ _ (by have:(⟨#[98,101,108,111,119,32]⟩:ByteArray).size=6:=rfl;have:(⟨#[32,99,104,97,110,103,101,32,116,111,32]⟩:ByteArray).size=11:=rfl;have:(⟨#[32,99,111,115,116,32]⟩:ByteArray).size=6:=rfl;omega)
    have a2:∀W,(Op.stringOp .add (⟨#[98,101,108,111,119,32]⟩++P) ⟨#[32,99,104,97,110,103,101,32,116,111,32]⟩).run Tryz.prog W=.ok (.string (⟨#[98,101,108,111,119,32]⟩++P++⟨#[32,99,104,97,110,103,101,32,116,111,32]⟩)) W:=fun W=>run_string_add_sum W _ _ (by have:(⟨#[98,101,108,111,119,32]⟩:ByteArray).size=6:=rfl;have:(⟨#[32,99,104,97,110,103,101,32,116,111,32]⟩:ByteArray).size=11:=rfl;have:(⟨#[32,99,111,115,116,32]⟩:ByteArray).size=6:=rfl;rw [cA];omega)
    have a3:∀W,(Op.stringOp .add (⟨#[98,101,108,111,119,32]⟩++P++⟨#[32,99,104,97,110,103,101,32,116,111,32]⟩) Q).run Tryz.prog W=.ok (.string (⟨#[98,101,108,111,119,32]⟩++P++⟨#[32,99,104,97,110,103,101,32,116,111,32]⟩++Q)) W:=fun W=>run_string_add_sum W _ _ (by have:(⟨#[98,101,108,111,119,32]⟩:ByteArray).size=6:=rfl;have:(⟨#[32,99,104,97,110,103,101,32,116,111,32]⟩:ByteArray).size=11:=rfl;have:(⟨#[32,99,111,115,116,32]⟩:ByteArray).size=6:=rfl;rw [cA,cA];omega)
    have a4:∀W,(Op.stringOp .add (⟨#[98,101,108,111,119,32]⟩++P++⟨#[32,99,104,97,110,103,101,32,116,111,32]⟩++Q) ⟨#[32,99,111,115,116,32]⟩).run Tryz.prog W=.ok (.string (⟨#[98,101,108,111,119,32]⟩++P++⟨#[32,99,104,97,110,103,101,32,116,111,32]⟩++Q++⟨#[32,99,111,115,116,32]⟩)) W:=fun W=>run_string_add_sum W _ _ (by have:(⟨#[98,101,108,111,119,32]⟩:ByteArray).size=6:=rfl;have:(⟨#[32,99,104,97,110,103,101,32,116,111,32]⟩:ByteArray).size=11:=rfl;have:(⟨#[32,99,111,115,116,32]⟩:ByteArray).size=6:=rfl;rw [cA,cA,cA];omega)
    have a5:∀W,(Op.stringOp .add (⟨#[98,101,108,111,119,32]⟩++P++⟨#[32,99,104,97,110,103,101,32,116,111,32]⟩++Q++⟨#[32,99,111,115,116,32]⟩) R).run Tryz.prog W=.ok (.string (⟨#[98,101,108,111,119,32]⟩++P++⟨#[32,99,104,97,110,103,101,32,116,111,32]⟩++Q++⟨#[32,99,111,115,116,32]⟩++R)) W:=fun W=>run_string_add_sum W _ _ (by have:(⟨#[98,101,108,111,119,32]⟩:ByteArray).size=6:=rfl;have:(⟨#[32,99,104,97,110,103,101,32,116,111,32]⟩:ByteArray).size=11:=rfl;have:(⟨#[32,99,111,115,116,32]⟩:ByteArray).size=6:=rfl;rw [cA,cA,cA,cA];omega)
    obtain ⟨W,hW⟩:∃W,W=w4.alloc (.cells #[.int .i64 (TB l e id).id,.slice A4 (TB l e id).vals.length c4] 30):=⟨_,rfl⟩;have bW:Bw w4 W:=by rw [hW];exact (Bw.refl w4).alloc _
    have bWd:Bw w4 W.drew:=bW.drew;have k1:W.drew.cell? ⟨w4.heap.size,1,none⟩=some (.slice A4 (TB l e id).vals.length c4):=by rw [hW];go_simp
    have HW:=Lib.hid hW;have hxW:=hx4.bw dA bWd;have hIW:=h.bw jA (B4.then bWd);have hEW:=h'.bw lA (B4.then bWd);obtain ⟨C,hC⟩:∃C,C=xC l e id:=⟨_,rfl⟩;rw [← hC] at cR ⊢;obtain ⟨M,hM⟩:∃M,M=(TB l e id).vals.length:=⟨_,rfl⟩;rw [← hM] at k1 HW hxW;have HMM:=Lib.hid hM;have hB:=Bw.refl W.drew;clear hW hP hQ hR szP szQ szR hids hvs wc dl xl o4 o5 hx4 hC hM;go_wp2;rw [← HMM.out];rw [← HW.out]
    go_region_held3 (fun w'=>w'.cell? ⟨w4.heap.size,1,none⟩=some (.slice A4 M c4)) (first | exact k1 | exact hB.cell k1)
     (first
      | (go_at_call 105;refine (fH _ l e id _ _ (hIW.bw jA hB) (hEW.bw lA hB)).mono ?_;rintro e' w5 ⟨vd,rfl,⟨Fd,od,fd⟩,hb5⟩;replace hB:=hB.then hb5;have hd:=AA od;clear od fd)
      | (go_at_call 132;refine (cP _ _ hd).mono ?_;rintro e' w5 ⟨rfl,hb5⟩;replace hB:=hB.then hb5;clear hd)
      | (go_at_call 132;refine (cQ _ _ (hxW.bw dA hB)).mono ?_;rintro e' w5 ⟨rfl,hb5⟩;replace hB:=hB.then hb5;try replace hd:=hd.bw dA hb5)
      | (go_at_call 125;refine (cR _).mono ?_;rintro e' w5 ⟨rfl,hb5⟩;replace hB:=hB.then hb5;try replace hd:=hd.bw dA hb5))
    all_goals
     go_wp2;go_ret;exact Ret.str HF.out (B4.then (bWd.then hB))
 ·have HN:=Lib.hid (show DC l e id=⟨#[]⟩ by
   have:qB l e id=false:=by unfold qB;rw [e1];rfl
   unfold DC;rw [this];rfl)
  rw [e1];clear e1;go_wp2;go_ret;exact Ret.str (by rw [HN.out]) (hb1)
end Go.Proofs.YtpihighajaeabaaGreat
