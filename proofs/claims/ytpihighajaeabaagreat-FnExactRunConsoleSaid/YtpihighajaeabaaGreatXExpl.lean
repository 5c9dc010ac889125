/- Why an item is not one of the best: ExplainItem in both programs. -/
import Derived.Test.YtpihighajaeabaaGreatXDom
import Derived.Test.YtpihighajaeabaaGreatXChangeI
import Derived.Test.YtpihighajaeabaaGreatXLines3
namespace Go.Proofs.YtpihighajaeabaaGreat
open Go.RowKit Go.Proofs.Tryz
set_option linter.all false
set_option maxRecDepth 100000
set_option maxHeartbeats 16000000
def TC (l:List iA) (e:List mA) (id:Int):ByteArray:=
 if MB l e id then (if xD l e id 1=[] then ⟨#[98,101,115,116]⟩ else ⟨#[98,101,108,111,119,32]⟩++GC (xD l e id 1) ⟨#[44]⟩++⟨#[32,99,104,97,110,103,101,32,116,111,32]⟩++GC (AC l e id).vals ⟨#[44]⟩++⟨#[32,99,111,115,116,32]⟩++QA (cD l e id)) else ⟨#[]⟩
theorem lA5 {l:List iA} {e:List mA} {id:Int} (h:MB l e id=true):(eB l e).contains id=decide (xD l e id 1=[]):=by
 rcases pH l e id with hc | ⟨hB,j,p,hf,hp,bc⟩
 ·rw [hc] at h;exact absurd h (by simp)
 ·rw [UQ hB hf hp];have bd:=List.mem_of_getElem? hp;have h1:eB l e=wD l e:=by unfold eB;rw [hB];rfl
  rw [h1,Bool.eq_iff_iff,List.contains_iff_mem,decide_eq_true_eq];constructor
  ·intro hm;obtain ⟨x,hx,bf⟩:=List.mem_map.1 (show id∈(l.filter (DH l e)).map (·.id) from hm);have bg:x=p:=dP (AA hB) (List.mem_filter.1 hx).1 bd (bf.trans bc.symm);subst bg;have bb:=(List.mem_filter.1 hx).2;unfold DH at bb;rw [Bool.not_eq_true',List.any_eq_false] at bb;unfold eG;rw [List.map_eq_nil_iff,List.filter_eq_nil_iff];intro y hy;exact bb y hy
  ·intro hn;unfold eG at hn;rw [List.map_eq_nil_iff,List.filter_eq_nil_iff] at hn;refine List.mem_map.2 ⟨p,List.mem_filter.2 ⟨bd,?_⟩,bc⟩;unfold DH;rw [Bool.not_eq_true',List.any_eq_false];exact hn
theorem SV {l:List iA} {e:List mA} {id c:Int} (hB:kB l e=true) {v:Int} (hv:v∈xD l e id c):0<=v/\v<=99:=by
 unfold xD at hv
 split at hv
 ·unfold eG at hv;obtain ⟨x,hx,rfl⟩:=List.mem_map.1 hv;exact lE (TA (AA hB) (List.mem_filter.1 hx).1)
 ·simp at hv
theorem dZ (l:List iA) (e:List mA) (id:Int):(AC l e id=⟨0,[]⟩/\cD l e id=0)\/(∃m p,m<1000/\AC l e id=lC id m/\cD l e id=XD p (lC id m))\/(AC l e id=⟨0,[]⟩/\cD l e id = -1):=by
 unfold AC cD
 split
 ·rcases JS l e (VB l id) id 1000 with h | h
  ·rw [h];exact .inr (.inr ⟨rfl,rfl⟩)
  ·obtain ⟨m,hm,h1,_⟩:=aAf l e (VB l id) id 1000 h;rw [h1];exact .inr (.inl ⟨m,_,hm,rfl,rfl⟩)
 ·exact .inl ⟨rfl,rfl⟩
theorem jM (l:List iA) (e:List mA) (id:Int) {v:Int} (hv:v∈(AC l e id).vals):0<=v/\v<=9:=by
 rcases dZ l e id with ⟨h,_⟩ | ⟨m,p,hm,h,_⟩ | ⟨h,_⟩
 ·rw [h] at hv;simp at hv
 ·rw [h] at hv;simp only [lC,List.mem_cons,List.not_mem_nil,or_false] at hv;omega
 ·rw [h] at hv;simp at hv
theorem qN (l:List iA) (e:List mA) (id:Int):(AC l e id).vals.length<=3:=by
 rcases dZ l e id with ⟨h,_⟩ | ⟨m,p,hm,h,_⟩ | ⟨h,_⟩
 ·rw [h];exact Nat.zero_le _
 ·rw [h];exact Nat.le_refl _
 ·rw [h];exact Nat.zero_le _
theorem cAj:∀ {xs ys:List Int},(∀v∈xs,0<=v/\v<=9)->(∀v∈ys,0<=v/\v<=9)->cH xs ys<=9*xs.length
 | a::p,b::q,h1,h2=>by
  have:=cAj (xs:=p) (ys:=q) (fun v hv=>h1 v (by simp [hv])) (fun v hv=>h2 v (by simp [hv]));have ha:=h1 a (by simp);have hb:=h2 b (by simp);have hd:nN a b<=9:=by unfold nN;split<;>omega
  rw [cH,List.length_cons];omega
 | [],_,_,_=>by simp [cH]
 | _::_,[],_,_=>by simp [cH];omega
theorem jA3 (x y:iA):XD x y<=27:=by
 unfold XD
 split
 ·rename_i h
  rw [Bool.and_eq_true] at h;have:=cAj (fun v hv=>QE h.1 (v:=v) hv) (fun v hv=>QE h.2 (v:=v) hv);rw [jB h.1] at this;omega
 ·omega
theorem VP (l:List iA) (e:List mA) (id:Int) (hB:kB l e=true):0<=cD l e id/\cD l e id<=27:=by
 rcases pH l e id with hc | ⟨_,j,p,hf,hp,hid⟩
 ·unfold cD;rw [hc];simp
 ·have hid2:=lE (TA (AA hB) (List.mem_of_getElem? hp));rw [hid] at hid2;have h0:=RV (p:=VB l id) hB hid2;unfold cD
  split
  ·obtain ⟨m,hm,h1,_⟩:=aAf l e (VB l id) id 1000 h0;refine ⟨h0,?_⟩;rw [h1];exact jA3 _ _
  ·omega
theorem OF {l:List Int} (sep:ByteArray) (hw:∀x∈l,(Lit.int .i64 x).wf=true):(GC l sep).size<=l.length*(20+sep.size):=by
 unfold GC dF;have h1:=bM sep (UD l) 0 ⟨#[]⟩;have h2:=cM (l:=l) sep hw;have e0:(⟨#[]⟩:ByteArray).size=0:=rfl;omega
theorem RT {w:World} {x:iA} {cs:List Value} {F:List Nat} (h:zH w x cs F):∃A c,cs=[.int .i64 x.id,.slice A x.vals.length c]/\WA w x.vals [.slice A x.vals.length c] F:=by
 obtain ⟨v,e,h⟩:=h;obtain ⟨A,c,rfl,_⟩:=XA (xA h);exact ⟨A,c,e,h⟩
theorem WQ (w:World) (l:List Int) (v:Value) (h:Rd aB w l [v]) (hw:∀x∈l,(Lit.int .i64 x).wf=true) (hn:l.length<=1048576) :
  Calls prog 145 #[v] w (Ret w (.string (GC l ⟨#[44]⟩))):=by
 obtain ⟨A,n,c,rfl,a1,a2,a3⟩:=qA h;have L1:=pA6 a1;rw [<-a1] at hn;clear a1;go_enter func145,ntmps145;go_wp2
 go_loopw [3,4] (fun s i w'=>∃(k:Nat) (acc:ByteArray),k<=n/\i=.int .i64 k/\s=.string acc/\Hid (GC l ⟨#[44]⟩=gl ⟨#[44]⟩ k acc (UD (l.drop k)))/\acc.size<=21*k/\Bw w w') (fun s i _=>n-(intOf i).toNat)
 case atStart=>exact ⟨0,_,by omega,rfl,rfl,rfl,Nat.zero_le _,Bw.refl _⟩
 case round=>
  obtain ⟨k,acc,hk,rfl,rfl,HE,g1,hb⟩:=hrel;by_cases hlt:k<n
  ·obtain ⟨x,hx⟩:=tA (xs:=l) (k:=k) (by rw [<-L1.out];exact hlt);obtain ⟨ba,oa,rfl,_,hcx⟩:=KB (h.bw dA hb) hx;have bf:=hw x (List.mem_of_getElem? hx);have HS:=pA6 (IQ (sep:=⟨#[44]⟩) (acc:=acc) hx);have ⟨hsz1,hsz⟩:=mB bf;clear hx h hw hsz1;by_cases h0:0<k
   ·have hadd:∀W,(Op.stringOp .add acc ⟨#[44]⟩).run prog W=.ok (.string (acc++⟨#[44]⟩)) W:=fun W=>run_string_add_sum W _ _ (by have e:(⟨#[44]⟩:ByteArray).size=1:=rfl;omega)
    have bb:∀W,(Op.stringOp .add (acc++⟨#[44]⟩) (QA x)).run prog W=.ok (.string (acc++⟨#[44]⟩++QA x)) W:=fun W=>run_string_add_sum W _ _ (by have e:(⟨#[44]⟩:ByteArray).size=1:=rfl;rw [lA];omega)
    go_wp2_with fail;refine (yC _ x bf).mono ?_;rintro e w1 ⟨rfl,bd⟩;go_wp2
    go_roundw
    case rel=>exact ⟨k+1,_,by omega,by go_num,rfl,by show _=_;rw [HE.out,HS.out,if_pos h0],by have e:(⟨#[44]⟩:ByteArray).size=1:=rfl;rw [lA,lA];omega,hb.then bd⟩
    case measure=>simp [intOf];omega
   ·have bb:∀W,(Op.stringOp .add acc (QA x)).run prog W=.ok (.string (acc++QA x)) W:=fun W=>run_string_add_sum W _ _ (by omega)
    go_wp2_with fail;refine (yC _ x bf).mono ?_;rintro e w1 ⟨rfl,bd⟩;go_wp2
    go_roundw
    case rel=>exact ⟨k+1,_,by omega,by go_num,rfl,by show _=_;rw [HE.out,HS.out,if_neg (by omega)],by rw [lA];omega,hb.then bd⟩
    case measure=>simp [intOf];omega
  ·have bc:Hid (acc=GC l ⟨#[44]⟩):=by show _=_;rw [HE.out,List.drop_of_length_le (by rw [<-L1.out];omega)];rfl
   go_wp2;go_ret;exact Ret.str bc.out hb
theorem YX (w:World) (l:List iA) (e:List mA) (id:Int) (v u:Value) (h:Rd LA w l [v]) (h':Rd OA w e [u]) :
  Calls prog 255 #[v,u,.int .i64 id] w (Ret w (.string (TC l e id))):=by
 obtain ⟨K,hK⟩:=pA7 (rB l id);have HK:=pA6 hK;have bb:=fun W (B:Bw w W)=>gD W l id _ (h.bw gA B)
 rw [<-hK] at bb;clear hK;go_enter func255,ntmps255;go_wp2_with fail;refine (EE _ l e _ _ h h').mono ?_;rintro e w1 ⟨rfl,bd⟩;rcases pA8 (kB l e) with e1 | e1
 ·have HB:=pA6 e1;rw [e1];clear e1;go_wp2_with fail;refine (bb _ bd).mono ?_;rintro e w2 ⟨rfl,bv⟩;have B2:=bd.then bv;clear bb;by_cases hk:K<0
  ·have HN:=pA6 (show TC l e id=⟨#[]⟩ by
    have:MB l e id=false:=by unfold MB;rw [HB.out,<-HK.out];simp;omega
    unfold TC;rw [this];rfl)
   go_wp2;go_ret;exact Ret.str (by rw [HN.out]) (B2)
  ·have bj:=pA6 (show MB l e id=true by unfold MB;rw [HB.out,<-HK.out];simp;omega);go_wp2_with fail;refine (CK _ l e id _ _ (h.bw gA B2) (h'.bw jA B2)).mono ?_;rintro e w3 ⟨v3,rfl,⟨F3,o3,f3⟩,bx⟩;have B3:=B2.then bx;by_cases hne:xD l e id 1=[]
   ·have HN:=pA6 (show TC l e id=⟨#[98,101,115,116]⟩ by rw [TC,if_pos bj.out,if_pos hne]);rw [hne] at o3;obtain ⟨A3,c3,rfl,_⟩:=XA (xA o3);clear hne;go_wp2;go_ret;exact Ret.str (by rw [HN.out]) (B3)
   ·have bt:=pA6 hne;have bf:(xD l e id 1).length≠0:=fun h=>hne (List.eq_nil_of_length_eq_zero h)
    obtain ⟨A3,n3,c3,rfl,L3,_,_⟩:=qA (xA o3);rw [<-L3] at bf;have hl1:((n3:Int)==0)=false:=by simpa using bf
    have bm:=xA o3;clear hne L3 bf;go_wp2_with fail;refine (NS _ l e id _ _ (h.bw gA B3) (h'.bw jA B3)).mono ?_;rintro e w4 ⟨_,rfl,⟨cs,rfl,F4,o4,f4⟩,bk⟩;have B4:=B3.then bk;obtain ⟨A4,c4,rfl,o5⟩:=RT o4;obtain ⟨X,hX⟩:=pA7 (AC l e id);have bp:=xA o5;have bc:∀v∈xD l e id 1,(Lit.int .i64 v).wf=true:=fun v hv=>bC (by have:=SV HB.out hv;omega)
    have bg:∀v∈(AC l e id).vals,(Lit.int .i64 v).wf=true:=fun v hv=>bC (by have:=jM l e id hv;omega)
    have wc:=bC (n:=cD l e id) (by have:=VP l e id HB.out;omega);have dl:=Nat.le_trans (fG l e id 1) (VA (AA HB.out));have xl:=qN l e id;have HF:=pA6 (show ⟨#[98,101,108,111,119,32]⟩++GC (xD l e id 1) ⟨#[44]⟩++⟨#[32,99,104,97,110,103,101,32,116,111,32]⟩++GC (AC l e id).vals ⟨#[44]⟩++⟨#[32,99,111,115,116,32]⟩++QA (cD l e id)=TC l e id by rw [TC,if_pos bj.out,if_neg bt.out]);obtain ⟨P,hP⟩:=pA7 (GC (xD l e id 1) ⟨#[44]⟩);obtain ⟨Q,hQ⟩:=pA7 (GC (AC l e id).vals ⟨#[44]⟩);obtain ⟨R,hR⟩:=pA7 (QA (cD l e id));have bz:P.size<=400:=by rw [hP];have:=OF ⟨#[44]⟩ bc;have e:(⟨#[44]⟩:ByteArray).size=1:=rfl;rw [e] at this;omega
    have cb:Q.size<=400:=by rw [hQ];have:=OF ⟨#[44]⟩ bg;have e:(⟨#[44]⟩:ByteArray).size=1:=rfl;rw [e] at this;omega
    have cc:R.size<=20:=by rw [hR];exact (mB wc).2
    have cP:∀W v,Rd aB W (xD l e id 1) [v]->Calls prog 145 #[v] W (Ret W (.string P)):=fun W v h=>by rw [hP];exact WQ W (xD l e id 1) v h bc (by omega)
    have cQ:∀W v,Rd aB W (AC l e id).vals [v]->Calls prog 145 #[v] W (Ret W (.string Q)):=fun W v h=>by rw [hQ];exact WQ W (AC l e id).vals v h bg (by omega)
    have cR:∀W,Calls prog 64 #[.int .i64 (cD l e id)] W (Ret W (.string R)):=fun W=>by rw [hR];exact yC W _ wc
    rw [<-hP,<-hQ,<-hR] at HF;have a1:∀W,(Op.stringOp .add ⟨#[98,101,108,111,119,32]⟩ P).run prog W=.ok (.string (⟨#[98,101,108,111,119,32]⟩++P)) W:=fun W=>run_string_add_sum W _ _ (by have:(⟨#[98,101,108,111,119,32]⟩:ByteArray).size=6:=rfl;have:(⟨#[32,99,104,97,110,103,101,32,116,111,32]⟩:ByteArray).size=11:=rfl;have:(⟨#[32,99,111,115,116,32]⟩:ByteArray).size=6:=rfl;omega)
    have a2:∀W,(Op.stringOp .add (⟨#[98,101,108,111,119,32]⟩++P) ⟨#[32,99,104,97,110,103,101,32,116,111,32]⟩).run prog W=.ok (.string (⟨#[98,101,108,111,119,32]⟩++P++⟨#[32,99,104,97,110,103,101,32,116,111,32]⟩)) W:=fun W=>run_string_add_sum W _ _ (by have:(⟨#[98,101,108,111,119,32]⟩:ByteArray).size=6:=rfl;have:(⟨#[32,99,104,97,110,103,101,32,116,111,32]⟩:ByteArray).size=11:=rfl;have:(⟨#[32,99,111,115,116,32]⟩:ByteArray).size=6:=rfl;rw [lA];omega)
    have a3:∀W,(Op.stringOp .add (⟨#[98,101,108,111,119,32]⟩++P++⟨#[32,99,104,97,110,103,101,32,116,111,32]⟩) Q).run prog W=.ok (.string (⟨#[98,101,108,111,119,32]⟩++P++⟨#[32,99,104,97,110,103,101,32,116,111,32]⟩++Q)) W:=fun W=>run_string_add_sum W _ _ (by have:(⟨#[98,101,108,111,119,32]⟩:ByteArray).size=6:=rfl;have:(⟨#[32,99,104,97,110,103,101,32,116,111,32]⟩:ByteArray).size=11:=rfl;have:(⟨#[32,99,111,115,116,32]⟩:ByteArray).size=6:=rfl;rw [lA,lA];omega)
    have a4:∀W,(Op.stringOp .add (⟨#[98,101,108,111,119,32]⟩++P++⟨#[32,99,104,97,110,103,101,32,116,111,32]⟩++Q) ⟨#[32,99,111,115,116,32]⟩).run prog W=.ok (.string (⟨#[98,101,108,111,119,32]⟩++P++⟨#[32,99,104,97,110,103,101,32,116,111,32]⟩++Q++⟨#[32,99,111,115,116,32]⟩)) W:=fun W=>run_string_add_sum W _ _ (by have:(⟨#[98,101,108,111,119,32]⟩:ByteArray).size=6:=rfl;have:(⟨#[32,99,104,97,110,103,101,32,116,111,32]⟩:ByteArray).size=11:=rfl;have:(⟨#[32,99,111,115,116,32]⟩:ByteArray).size=6:=rfl;rw [lA,lA,lA];omega)
    have a5:∀W,(Op.stringOp .add (⟨#[98,101,108,111,119,32]⟩++P++⟨#[32,99,104,97,110,103,101,32,116,111,32]⟩++Q++⟨#[32,99,111,115,116,32]⟩) R).run prog W=.ok (.string (⟨#[98,101,108,111,119,32]⟩++P++⟨#[32,99,104,97,110,103,101,32,116,111,32]⟩++Q++⟨#[32,99,111,115,116,32]⟩++R)) W:=fun W=>run_string_add_sum W _ _ (by have:(⟨#[98,101,108,111,119,32]⟩:ByteArray).size=6:=rfl;have:(⟨#[32,99,104,97,110,103,101,32,116,111,32]⟩:ByteArray).size=11:=rfl;have:(⟨#[32,99,111,115,116,32]⟩:ByteArray).size=6:=rfl;rw [lA,lA,lA,lA];omega)
    obtain ⟨W,hW⟩:=pA7 (w4.alloc (.cells #[.int .i64 (AC l e id).id,.slice A4 (AC l e id).vals.length c4] 30));have bW:Bw w4 W:=by rw [hW];exact (Bw.refl w4).alloc _
    have k1:W.cell? ⟨w4.heap.size,1,none⟩=some (.slice A4 (AC l e id).vals.length c4):=by rw [hW];go_simp
    have HW:=pA6 hW;have bn:=(bm.bw dA bk).bw dA bW;have bq:=bp.bw dA bW;have c1:∀s:eC W,Calls prog 145 #[.slice A3 n3 c3] s.1 (Ret s.1 (.string P)):=fun s=>cP _ _ (bn.bw dA s.bw)
    have c2:∀s:eC W,Calls prog 145 #[.slice A4 (AC l e id).vals.length c4] s.1 (Ret s.1 (.string Q)):=fun s=>cQ _ _ (bq.bw dA s.bw)
    have s1:=pA k1;obtain ⟨C,hC⟩:=pA7 (cD l e id);rw [<-hC] at cR ⊢;obtain ⟨M,hM⟩:=pA7 ((AC l e id).vals.length);rw [<-hM] at c2 k1 s1 HW;have bs:=pA6 hM;clear hW hX hP hQ hR bz cb cc bc bg wc dl xl cP cQ o3 o4 o5 bm bp bn bq hC hM;go_wp2;rw [<-bs.out];rw [<-HW.out];refine IA (by kernel_rfl) ?_
    repeat (first | go_big_quiet_skip | (go_big_quiet_want;go_big_quiet_op;first | go_big_quiet_on | (apply Exists.intro;refine ⟨fun _=>?_,?_⟩;(· (((first | (go_at_call 145;first | (with_reducible exact DA (c1 _)) | (with_reducible exact DA (c2 _))) | (go_at_call 64;exact DA (cR _))))));go_big_quiet_on)))
    refine JA fun wq hbq=>?_
    try dsimp only at *
    go_wp2;go_ret;exact Ret.str HF.out (B4.then (bW.then hbq))
 ·have HN:=pA6 (show TC l e id=⟨#[]⟩ by
   have:MB l e id=false:=by unfold MB;rw [e1];rfl
   unfold TC;rw [this];rfl)
  rw [e1];clear e1;go_wp2;go_ret;exact Ret.str (by rw [HN.out]) (bd)
theorem aY (w:World) (l:List iA) (e:List mA) (id:Int) (v u:Value) (h:Rd LA w l [v]) (h':Rd OA w e [u]) :
  Calls prog 250 #[v,u,.int .i64 id] w (Ret w (.string (TC l e id))):=by
 obtain ⟨K,hK⟩:=pA7 (rB l id);have HK:=pA6 hK;have bb:=fun W (B:Bw w W)=>GD W l id _ (h.bw gA B)
 rw [<-hK] at bb;clear hK;go_enter func250,ntmps250;go_wp2_with fail;refine (KE _ l e _ _ h h').mono ?_;rintro e w1 ⟨rfl,bk⟩;rcases pA8 (kB l e) with e1 | e1
 ·have HB:=pA6 e1;rw [e1];clear e1;go_wp2_with fail;refine (bb _ bk).mono ?_;rintro e w2 ⟨rfl,bx⟩;have B2:=bk.then bx;clear bb;by_cases hk:K<0
  ·have HN:=pA6 (show TC l e id=⟨#[]⟩ by
    have:MB l e id=false:=by unfold MB;rw [HB.out,<-HK.out];simp;omega
    unfold TC;rw [this];rfl)
   go_wp2;go_ret;exact Ret.str (by rw [HN.out]) (B2)
  ·have bj:=pA6 (show MB l e id=true by unfold MB;rw [HB.out,<-HK.out];simp;omega);have bg:=cAi w2 l e id _ _ (h.bw gA B2) (h'.bw jA B2);rw [lA5 bj.out] at bg;go_wp2_with fail;refine (bg).mono ?_;rintro e w3 ⟨rfl,bz⟩;have B3:=B2.then bz;by_cases hne:xD l e id 1=[]
   ·have HN:=pA6 (show TC l e id=⟨#[98,101,115,116]⟩ by rw [TC,if_pos bj.out,if_pos hne]);rw [decide_eq_true hne];clear hne bg;go_wp2;go_ret;exact Ret.str (by rw [HN.out]) (B3)
   ·have bs:=pA6 hne;rw [decide_eq_false hne];clear hne bg;go_wp2_with fail;refine (OS _ l e id _ _ (h.bw gA B3) (h'.bw jA B3)).mono ?_;rintro e w4 ⟨_,rfl,⟨cs,rfl,F4,o4,f4⟩,cb⟩;have B4:=B3.then cb;obtain ⟨A4,c4,rfl,o5⟩:=RT o4;have bn:=xA o5;have bd:∀v∈xD l e id 1,(Lit.int .i64 v).wf=true:=fun v hv=>bC (by have:=SV HB.out hv;omega)
    have bm:∀v∈(AC l e id).vals,(Lit.int .i64 v).wf=true:=fun v hv=>bC (by have:=jM l e id hv;omega)
    have wc:=bC (n:=cD l e id) (by have:=VP l e id HB.out;omega);have dl:=Nat.le_trans (fG l e id 1) (VA (AA HB.out));have xl:=qN l e id;have HF:=pA6 (show ⟨#[98,101,108,111,119,32]⟩++GC (xD l e id 1) ⟨#[44]⟩++⟨#[32,99,104,97,110,103,101,32,116,111,32]⟩++GC (AC l e id).vals ⟨#[44]⟩++⟨#[32,99,111,115,116,32]⟩++QA (cD l e id)=TC l e id by rw [TC,if_pos bj.out,if_neg bs.out]);obtain ⟨P,hP⟩:=pA7 (GC (xD l e id 1) ⟨#[44]⟩);obtain ⟨Q,hQ⟩:=pA7 (GC (AC l e id).vals ⟨#[44]⟩);obtain ⟨R,hR⟩:=pA7 (QA (cD l e id));have cc:P.size<=400:=by rw [hP];have:=OF ⟨#[44]⟩ bd;have e:(⟨#[44]⟩:ByteArray).size=1:=rfl;rw [e] at this;omega
    have cd:Q.size<=400:=by rw [hQ];have:=OF ⟨#[44]⟩ bm;have e:(⟨#[44]⟩:ByteArray).size=1:=rfl;rw [e] at this;omega
    have cf:R.size<=20:=by rw [hR];exact (mB wc).2
    have cP:∀W v,Rd aB W (xD l e id 1) [v]->Calls prog 132 #[v,.string ⟨#[44]⟩] W (Ret W (.string P)):=fun W v h=>by rw [hP];exact CL W (xD l e id 1) ⟨#[44]⟩ v h bd (by omega) (by show 1<=1024;omega)
    have cQ:∀W v,Rd aB W (AC l e id).vals [v]->Calls prog 132 #[v,.string ⟨#[44]⟩] W (Ret W (.string Q)):=fun W v h=>by rw [hQ];exact CL W (AC l e id).vals ⟨#[44]⟩ v h bm (by omega) (by show 1<=1024;omega)
    have cR:∀W,Calls prog 125 #[.int .i64 (cD l e id)] W (Ret W (.string R)):=fun W=>by rw [hR];exact dD W _ wc
    rw [<-hP,<-hQ,<-hR] at HF;have a1:∀W,(Op.stringOp .add ⟨#[98,101,108,111,119,32]⟩ P).run prog W=.ok (.string (⟨#[98,101,108,111,119,32]⟩++P)) W:=fun W=>run_string_add_sum W _ _ (by have:(⟨#[98,101,108,111,119,32]⟩:ByteArray).size=6:=rfl;have:(⟨#[32,99,104,97,110,103,101,32,116,111,32]⟩:ByteArray).size=11:=rfl;have:(⟨#[32,99,111,115,116,32]⟩:ByteArray).size=6:=rfl;omega)
    have a2:∀W,(Op.stringOp .add (⟨#[98,101,108,111,119,32]⟩++P) ⟨#[32,99,104,97,110,103,101,32,116,111,32]⟩).run prog W=.ok (.string (⟨#[98,101,108,111,119,32]⟩++P++⟨#[32,99,104,97,110,103,101,32,116,111,32]⟩)) W:=fun W=>run_string_add_sum W _ _ (by have:(⟨#[98,101,108,111,119,32]⟩:ByteArray).size=6:=rfl;have:(⟨#[32,99,104,97,110,103,101,32,116,111,32]⟩:ByteArray).size=11:=rfl;have:(⟨#[32,99,111,115,116,32]⟩:ByteArray).size=6:=rfl;rw [lA];omega)
    have a3:∀W,(Op.stringOp .add (⟨#[98,101,108,111,119,32]⟩++P++⟨#[32,99,104,97,110,103,101,32,116,111,32]⟩) Q).run prog W=.ok (.string (⟨#[98,101,108,111,119,32]⟩++P++⟨#[32,99,104,97,110,103,101,32,116,111,32]⟩++Q)) W:=fun W=>run_string_add_sum W _ _ (by have:(⟨#[98,101,108,111,119,32]⟩:ByteArray).size=6:=rfl;have:(⟨#[32,99,104,97,110,103,101,32,116,111,32]⟩:ByteArray).size=11:=rfl;have:(⟨#[32,99,111,115,116,32]⟩:ByteArray).size=6:=rfl;rw [lA,lA];omega)
    have a4:∀W,(Op.stringOp .add (⟨#[98,101,108,111,119,32]⟩++P++⟨#[32,99,104,97,110,103,101,32,116,111,32]⟩++Q) ⟨#[32,99,111,115,116,32]⟩).run prog W=.ok (.string (⟨#[98,101,108,111,119,32]⟩++P++⟨#[32,99,104,97,110,103,101,32,116,111,32]⟩++Q++⟨#[32,99,111,115,116,32]⟩)) W:=fun W=>run_string_add_sum W _ _ (by have:(⟨#[98,101,108,111,119,32]⟩:ByteArray).size=6:=rfl;have:(⟨#[32,99,104,97,110,103,101,32,116,111,32]⟩:ByteArray).size=11:=rfl;have:(⟨#[32,99,111,115,116,32]⟩:ByteArray).size=6:=rfl;rw [lA,lA,lA];omega)
    have a5:∀W,(Op.stringOp .add (⟨#[98,101,108,111,119,32]⟩++P++⟨#[32,99,104,97,110,103,101,32,116,111,32]⟩++Q++⟨#[32,99,111,115,116,32]⟩) R).run prog W=.ok (.string (⟨#[98,101,108,111,119,32]⟩++P++⟨#[32,99,104,97,110,103,101,32,116,111,32]⟩++Q++⟨#[32,99,111,115,116,32]⟩++R)) W:=fun W=>run_string_add_sum W _ _ (by have:(⟨#[98,101,108,111,119,32]⟩:ByteArray).size=6:=rfl;have:(⟨#[32,99,104,97,110,103,101,32,116,111,32]⟩:ByteArray).size=11:=rfl;have:(⟨#[32,99,111,115,116,32]⟩:ByteArray).size=6:=rfl;rw [lA,lA,lA,lA];omega)
    obtain ⟨W,hW⟩:=pA7 (w4.alloc (.cells #[.int .i64 (AC l e id).id,.slice A4 (AC l e id).vals.length c4] 30));have bW:Bw w4 W:=by rw [hW];exact (Bw.refl w4).alloc _
    have bf:Bw w4 W.drew:=bW.drew;have k1:W.drew.cell? ⟨w4.heap.size,1,none⟩=some (.slice A4 (AC l e id).vals.length c4):=by rw [hW];go_simp
    have HW:=pA6 hW;have bp:=bn.bw dA bf;have bv:=h.bw gA (B4.then bf);have bt:=h'.bw jA (B4.then bf);obtain ⟨C,hC⟩:=pA7 (cD l e id);rw [<-hC] at cR ⊢;obtain ⟨M,hM⟩:=pA7 ((AC l e id).vals.length);rw [<-hM] at k1 HW bp;have bq:=pA6 hM;have hB:=Bw.refl W.drew;clear hW hP hQ hR cc cd cf bd bm wc dl xl o4 o5 bn hC hM;go_wp2;rw [<-bq.out];rw [<-HW.out]
    go_region_held3 (fun w'=>w'.cell? ⟨w4.heap.size,1,none⟩=some (.slice A4 M c4)) (first | exact k1 | exact hB.cell k1)
     (first
      | (go_at_call 105;refine (GI _ l e id _ _ (bv.bw gA hB) (bt.bw jA hB)).mono ?_;rintro e' w5 ⟨vd,rfl,⟨Fd,od,fd⟩,bc⟩;replace hB:=hB.then bc;have hd:=xA od;clear od fd)
      | (go_at_call 132;refine (cP _ _ hd).mono ?_;rintro e' w5 ⟨rfl,bc⟩;replace hB:=hB.then bc;clear hd)
      | (go_at_call 132;refine (cQ _ _ (bp.bw dA hB)).mono ?_;rintro e' w5 ⟨rfl,bc⟩;replace hB:=hB.then bc;try replace hd:=hd.bw dA bc)
      | (go_at_call 125;refine (cR _).mono ?_;rintro e' w5 ⟨rfl,bc⟩;replace hB:=hB.then bc;try replace hd:=hd.bw dA bc))
    all_goals
     go_wp2;go_ret;exact Ret.str HF.out (B4.then (bf.then hB))
 ·have HN:=pA6 (show TC l e id=⟨#[]⟩ by
   have:MB l e id=false:=by unfold MB;rw [e1];rfl
   unfold TC;rw [this];rfl)
  rw [e1];clear e1;go_wp2;go_ret;exact Ret.str (by rw [HN.out]) (bk)
end Go.Proofs.YtpihighajaeabaaGreat
