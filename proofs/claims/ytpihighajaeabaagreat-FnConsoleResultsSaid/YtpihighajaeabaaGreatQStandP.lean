/- A standing answer stays right when items come and go; exclusive regions do not overlap. No program in sight. -/
import Derived.Test.YtpihighajaeabaaGreatQApply
import Derived.Test.YtpihighajaeabaaGreatQFmtP
import Derived.Test.YtpihighajaeabaaGreatQCopies
import Derived.Test.YtpihighajaeabaaGreatQChangeS
import Derived.Test.YtpihighajaeabaaGreatQDelS2
import Derived.Test.YtpihighajaeabaaGreatQInsI
import Derived.Test.YtpihighajaeabaaGreatQSortT
import Derived.Test.YtpihighajaeabaaGreatQChangeM
namespace Go.Proofs.YtpihighajaeabaaGreat
open Go.RowKit
set_option linter.unusedVariables false
set_option linter.unusedSimpArgs false
theorem ES {l:List gA} {g:List (List kA)} {s:List Int} (hP:sC l g=true) (hl:0<l.length):wE l g s=aAb l (XI s s.length):=by unfold wE;rw [hP,decide_eq_true hl];rfl
theorem bAv {l:List gA} {k:Nat} {x:gA} (h:l[k]? = some x):aAb l k=x.id:=by unfold aAb;rw [h]
set_option maxRecDepth 100000 in
set_option maxHeartbeats 3200000 in
theorem nW (w:World) (l:List gA) (g:List (List kA)) (v u:Value) (h:Rd MA w l [v]) (h':Rd dD w g [u]) (hP:sC l g=true) (hl:0<l.length):Calls Tryz.prog 139 #[v,u,.int .i64 1] w (Ret w (.int .i64 (wE l g (BH l g)))):=by
 have hcall0:=qE w l g _ _ h h';rw [hP] at hcall0;have hcall1:=fun W (B:Bw w W)=>JT W l g _ _ (h.bw jA B) (h'.bw dC B)
 obtain ⟨S,hS⟩:∃S,S=BH l g:=⟨_,rfl⟩;have hSl:S.length=l.length:=by rw [hS];unfold BH;rw [if_pos hP,List.length_map]
 have hch:=ES (s:=S) hP hl;rw [← hS];rw [← hS] at hcall1;obtain ⟨Y,hY⟩:∃Y,Y=wE l g S:=⟨_,rfl⟩;rw [← hY];have HY:=Lib.hid (hY.trans hch);have n16:=VA (UD hP);obtain ⟨A,n,c,rfl,L0,Lc,Lm⟩:=iA h;unfold maxLen at Lm;have L:=Lib.hid L0;clear L0;rw [← L.out] at hl n16 hSl;have HSL:=Lib.hid hSl;have n0:((n:Int)==0)=false:=by rw [beq_eq_false_iff_ne];omega
 have HC:=Lib.hid hcall1;have HH:=Lib.hid h;clear hS hSl hch hY hP h' hcall1 h;go_enter Tryz.func139,Tryz.ntmps139;go_wp2_with fail;refine (hcall0).mono ?_;rintro e w1 ⟨rfl,hb1⟩;clear hcall0;go_wp2_with fail;refine (HC.out _ (hb1.alloc _)).mono ?_;rintro e w2 ⟨v2,rfl,⟨F2,o2,f2⟩,hb2⟩;have B2:=(hb1.alloc _).then hb2;have hr2:=AA o2;clear o2 f2 hb1 hb2;obtain ⟨A2,n2,c2,rfl,L20,L2c,L2m⟩:=iA hr2;unfold maxLen at L2m;have L2:=Lib.hid L20;clear L20;have hn2:n2=n:=by have:=HSL.out;have:=L2.out;omega
 have HN2:=Lib.hid hn2;have n17:n2≤16:=by omega
 have hl2:0<n2:=by omega
 have HR2:=Lib.hid hr2;clear hn2 hr2;go_wp2
 go_loopg [8,39] n2 (fun gh p i w'=>∃(k q:Nat),k≤n2∧gh=n2-k∧i=.int .i64 k∧p=.int .i64 q∧q<n2∧Hid (q=XI S k)∧Bw w2 w')
 case atStart=>exact ⟨0,0,by omega,rfl,rfl,rfl,hl2,Lib.hid rfl,Bw.refl _⟩
 case round=>
  obtain ⟨k,q,hk,rfl,rfl,rfl,hq,HQ,hb⟩:=hrel;by_cases hlt:k<n2
  ·have hr2:=HR2.out;obtain ⟨a,ha⟩:=rA (xs:=S) (k:=k) (by have:=L2.out;omega);obtain ⟨b,hb1⟩:=rA (xs:=S) (k:=q) (by have:=L2.out;omega);obtain ⟨ba,oa,rfl,_,c0⟩:=GB hr2 ha;obtain ⟨b2,o2,e,_,c1⟩:=GB hr2 hb1;injection e with e;injection e with e1 e2;subst e1 e2;replace c0:=hb.cell c0;replace c1:=hb.cell c1;have s0:=qA c0;have s1:=qA c1;have i1:(0:Int)≤(k:Int):=by omega
   have i2:(k:Int)<(n2:Int):=by omega
   have i3:(0:Int)≤(q:Int):=by omega
   have i4:(q:Int)<(n2:Int):=by omega
   have HP:=Lib.hid (mS ha (by rw [← HQ.out];exact hb1));clear ha hb1 hr2;by_cases hba:b<a
   ·have HX:=Lib.hid (show k=XI S (k+1) by rw [HP.out,if_pos hba]);clear HP
    skip
    go_wp2
    go_roundg (n2-(k+1))
    case measure=>omega
    case rel=>exact ⟨k+1,k,by omega,rfl,by go_num,by go_num,hlt,HX,hb⟩
   ·have HX:=Lib.hid (show q=XI S (k+1) by rw [HP.out,if_neg hba,HQ.out]);clear HP
    skip
    go_wp2
    go_roundg (n2-(k+1))
    case measure=>omega
    case rel=>exact ⟨k+1,q,by omega,rfl,by go_num,rfl,hq,HX,hb⟩
  ·obtain rfl:k=n2:=by omega
   have h:=HH.out;have hqn:q<n:=by have:=HN2.out;omega
   obtain ⟨x,hx⟩:=rA (xs:=l) (k:=q) (by have:=L.out;omega);obtain ⟨bi,oi,Ax,cx,rfl,_,c0,c1,hix⟩:=mB h hx;have BB:=B2.then hb;replace c0:=BB.cell c0;have i3:(0:Int)≤(q:Int):=by omega
   have i4:(q:Int)<(n:Int):=by omega
   have HF:=Lib.hid (show Y=x.id by rw [HY.out,← L2.out,← HQ.out,bAv hx]);clear hx hix c1 h HQ;go_wp2;go_ret;exact Ret.int (HF.out.symm) (BB)
set_option maxHeartbeats 800000 in
theorem LY (w:World) (l:List gA) (g:List (List kA)) (v u:Value) (h:Rd MA w l [v]) (h':Rd dD w g [u]) (hno:(sC l g && decide (0<l.length))=false):Calls Tryz.prog 139 #[v,u,.int .i64 1] w (Ret w (.int .i64 (-1))):=by
 have hcall0:=qE w l g _ _ h h';obtain ⟨A,n,c,rfl,L0,Lc,Lm⟩:=iA h;unfold maxLen at Lm;have L:=Lib.hid L0;clear L0;rcases Bool.eq_false_or_eq_true (sC l g) with hP | hP
 ·rw [hP] at hno hcall0;have hn:n=0:=by rw [Bool.true_and,decide_eq_false_iff_not] at hno;rw [L.out];omega
  subst hn;clear hno hP h h';go_enter Tryz.func139,Tryz.ntmps139;go_wp2_with fail;refine (hcall0).mono ?_;rintro e w1 ⟨rfl,hb1⟩;go_wp2;go_ret;exact Ret.int (rfl) (hb1)
 ·rw [hP] at hcall0;clear hno hP h h';go_enter Tryz.func139,Tryz.ntmps139;go_wp2_with fail;refine (hcall0).mono ?_;rintro e w1 ⟨rfl,hb1⟩;go_wp2;go_ret;exact Ret.int (rfl) (hb1)
theorem gA2 (w:World) (l:List gA) (g:List (List kA)) (v u:Value) (h:Rd MA w l [v]) (h':Rd dD w g [u]):Calls Tryz.prog 139 #[v,u,.int .i64 1] w (Ret w (.int .i64 (wE l g (BH l g)))):=by
 rcases Bool.eq_false_or_eq_true (sC l g && decide (0<l.length)) with hc | hc
 ·have h1:=hc;rw [Bool.and_eq_true,decide_eq_true_eq] at h1;exact nW w l g v u h h' h1.1 h1.2
 ·have:=LY w l g v u h h' hc;rw [show wE l g (BH l g) = -1 by unfold wE;rw [hc];rfl];exact this
set_option maxRecDepth 100000 in
set_option maxHeartbeats 3200000 in
theorem pW (w:World) (l:List gA) (g:List (List kA)) (v u:Value) (h:Rd MA w l [v]) (h':Rd dD w g [u]) (hP:sC l g=true) (hl:0<l.length):Calls Tryz.prog 139 #[v,u,.int .i64 2] w (Ret w (.int .i64 (wE l g (RF l g)))):=by
 have hcall0:=qE w l g _ _ h h';rw [hP] at hcall0;have hcall1:=fun W (B:Bw w W)=>nP W l g _ _ (h.bw jA B) (h'.bw dC B)
 obtain ⟨S,hS⟩:∃S,S=RF l g:=⟨_,rfl⟩;have hSl:S.length=l.length:=by rw [hS];unfold RF;rw [if_pos hP,List.length_map]
 have hch:=ES (s:=S) hP hl;rw [← hS];rw [← hS] at hcall1;obtain ⟨Y,hY⟩:∃Y,Y=wE l g S:=⟨_,rfl⟩;rw [← hY];have HY:=Lib.hid (hY.trans hch);have n16:=VA (UD hP);obtain ⟨A,n,c,rfl,L0,Lc,Lm⟩:=iA h;unfold maxLen at Lm;have L:=Lib.hid L0;clear L0;rw [← L.out] at hl n16 hSl;have HSL:=Lib.hid hSl;have n0:((n:Int)==0)=false:=by rw [beq_eq_false_iff_ne];omega
 have HC:=Lib.hid hcall1;have HH:=Lib.hid h;clear hS hSl hch hY hP h' hcall1 h;go_enter Tryz.func139,Tryz.ntmps139;go_wp2_with fail;refine (hcall0).mono ?_;rintro e w1 ⟨rfl,hb1⟩;clear hcall0;go_wp2_with fail;refine (HC.out _ (hb1.alloc _)).mono ?_;rintro e w2 ⟨v2,rfl,⟨F2,o2,f2⟩,hb2⟩;have B2:=(hb1.alloc _).then hb2;have hr2:=AA o2;clear o2 f2 hb1 hb2;obtain ⟨A2,n2,c2,rfl,L20,L2c,L2m⟩:=iA hr2;unfold maxLen at L2m;have L2:=Lib.hid L20;clear L20;have hn2:n2=n:=by have:=HSL.out;have:=L2.out;omega
 have HN2:=Lib.hid hn2;have n17:n2≤16:=by omega
 have hl2:0<n2:=by omega
 have HR2:=Lib.hid hr2;clear hn2 hr2;go_wp2
 go_loopg [8,39] n2 (fun gh p i w'=>∃(k q:Nat),k≤n2∧gh=n2-k∧i=.int .i64 k∧p=.int .i64 q∧q<n2∧Hid (q=XI S k)∧Bw w2 w')
 case atStart=>exact ⟨0,0,by omega,rfl,rfl,rfl,hl2,Lib.hid rfl,Bw.refl _⟩
 case round=>
  obtain ⟨k,q,hk,rfl,rfl,rfl,hq,HQ,hb⟩:=hrel;by_cases hlt:k<n2
  ·have hr2:=HR2.out;obtain ⟨a,ha⟩:=rA (xs:=S) (k:=k) (by have:=L2.out;omega);obtain ⟨b,hb1⟩:=rA (xs:=S) (k:=q) (by have:=L2.out;omega);obtain ⟨ba,oa,rfl,_,c0⟩:=GB hr2 ha;obtain ⟨b2,o2,e,_,c1⟩:=GB hr2 hb1;injection e with e;injection e with e1 e2;subst e1 e2;replace c0:=hb.cell c0;replace c1:=hb.cell c1;have s0:=qA c0;have s1:=qA c1;have i1:(0:Int)≤(k:Int):=by omega
   have i2:(k:Int)<(n2:Int):=by omega
   have i3:(0:Int)≤(q:Int):=by omega
   have i4:(q:Int)<(n2:Int):=by omega
   have HP:=Lib.hid (mS ha (by rw [← HQ.out];exact hb1));clear ha hb1 hr2;by_cases hba:b<a
   ·have HX:=Lib.hid (show k=XI S (k+1) by rw [HP.out,if_pos hba]);clear HP
    skip
    go_wp2
    go_roundg (n2-(k+1))
    case measure=>omega
    case rel=>exact ⟨k+1,k,by omega,rfl,by go_num,by go_num,hlt,HX,hb⟩
   ·have HX:=Lib.hid (show q=XI S (k+1) by rw [HP.out,if_neg hba,HQ.out]);clear HP
    skip
    go_wp2
    go_roundg (n2-(k+1))
    case measure=>omega
    case rel=>exact ⟨k+1,q,by omega,rfl,by go_num,rfl,hq,HX,hb⟩
  ·obtain rfl:k=n2:=by omega
   have h:=HH.out;have hqn:q<n:=by have:=HN2.out;omega
   obtain ⟨x,hx⟩:=rA (xs:=l) (k:=q) (by have:=L.out;omega);obtain ⟨bi,oi,Ax,cx,rfl,_,c0,c1,hix⟩:=mB h hx;have BB:=B2.then hb;replace c0:=BB.cell c0;have i3:(0:Int)≤(q:Int):=by omega
   have i4:(q:Int)<(n:Int):=by omega
   have HF:=Lib.hid (show Y=x.id by rw [HY.out,← L2.out,← HQ.out,bAv hx]);clear hx hix c1 h HQ;go_wp2;go_ret;exact Ret.int (HF.out.symm) (BB)
set_option maxHeartbeats 800000 in
theorem MY (w:World) (l:List gA) (g:List (List kA)) (v u:Value) (h:Rd MA w l [v]) (h':Rd dD w g [u]) (hno:(sC l g && decide (0<l.length))=false):Calls Tryz.prog 139 #[v,u,.int .i64 2] w (Ret w (.int .i64 (-1))):=by
 have hcall0:=qE w l g _ _ h h';obtain ⟨A,n,c,rfl,L0,Lc,Lm⟩:=iA h;unfold maxLen at Lm;have L:=Lib.hid L0;clear L0;rcases Bool.eq_false_or_eq_true (sC l g) with hP | hP
 ·rw [hP] at hno hcall0;have hn:n=0:=by rw [Bool.true_and,decide_eq_false_iff_not] at hno;rw [L.out];omega
  subst hn;clear hno hP h h';go_enter Tryz.func139,Tryz.ntmps139;go_wp2_with fail;refine (hcall0).mono ?_;rintro e w1 ⟨rfl,hb1⟩;go_wp2;go_ret;exact Ret.int (rfl) (hb1)
 ·rw [hP] at hcall0;clear hno hP h h';go_enter Tryz.func139,Tryz.ntmps139;go_wp2_with fail;refine (hcall0).mono ?_;rintro e w1 ⟨rfl,hb1⟩;go_wp2;go_ret;exact Ret.int (rfl) (hb1)
theorem gA3 (w:World) (l:List gA) (g:List (List kA)) (v u:Value) (h:Rd MA w l [v]) (h':Rd dD w g [u]):Calls Tryz.prog 139 #[v,u,.int .i64 2] w (Ret w (.int .i64 (wE l g (RF l g)))):=by
 rcases Bool.eq_false_or_eq_true (sC l g && decide (0<l.length)) with hc | hc
 ·have h1:=hc;rw [Bool.and_eq_true,decide_eq_true_eq] at h1;exact pW w l g v u h h' h1.1 h1.2
 ·have:=MY w l g v u h h' hc;rw [show wE l g (RF l g) = -1 by unfold wE;rw [hc];rfl];exact this
set_option maxHeartbeats 800000 in
theorem gA4 (w:World) (l:List gA) (g:List (List kA)) (v u:Value) (h:Rd MA w l [v]) (h':Rd dD w g [u]):Calls Tryz.prog 139 #[v,u,.int .i64 0] w (Ret w (.int .i64 (pG l g))):=by
 have hcall0:=qE w l g _ _ h h';have hcall1:=fun W (B:Bw w W)=>IT W l g _ _ (h.bw jA B) (h'.bw dC B)
 have hem:Hid (l.length=0→pG l g = -1):=Lib.hid (fun hl=>by
  have:l=[]:=List.eq_nil_of_length_eq_zero hl;subst this;unfold pG;split<;>rfl)
 have hnp:Hid (sC l g=false→pG l g = -1):=Lib.hid (fun hp=>by rw [pG,hp];rfl);obtain ⟨Y,hY⟩:∃Y,Y=pG l g:=⟨_,rfl⟩;rw [← hY] at hcall1 hem hnp ⊢;obtain ⟨A,n,c,rfl,L0,Lc,Lm⟩:=iA h;unfold maxLen at Lm;have L:=Lib.hid L0;clear L0;have HC:=Lib.hid hcall1;clear hY h h' hcall1;rcases Bool.eq_false_or_eq_true (sC l g) with hP | hP
 ·rw [hP] at hcall0;clear hP;by_cases hn:n=0
  ·have HX:=Lib.hid (hem.out (by rw [← L.out];exact hn));subst hn;go_enter Tryz.func139,Tryz.ntmps139;go_wp2_with fail;refine (hcall0).mono ?_;rintro e w1 ⟨rfl,hb1⟩;go_wp2;go_ret;exact Ret.int (HX.out.symm) (hb1)
  ·have n0:((n:Int)==0)=false:=by rw [beq_eq_false_iff_ne];omega
   clear hn;go_enter Tryz.func139,Tryz.ntmps139;go_wp2_with fail;refine (hcall0).mono ?_;rintro e w1 ⟨rfl,hb1⟩;go_wp2_with fail;refine (HC.out _ (hb1.alloc _)).mono ?_;rintro e w2 ⟨rfl,hb2⟩;go_wp2;go_ret;exact Ret.int (rfl) ((hb1.alloc _).then hb2)
 ·have HX:=Lib.hid (hnp.out hP);rw [hP] at hcall0;clear hP;go_enter Tryz.func139,Tryz.ntmps139;go_wp2_with fail;refine (hcall0).mono ?_;rintro e w1 ⟨rfl,hb1⟩;go_wp2;go_ret;exact Ret.int (HX.out.symm) (hb1)
end Go.Proofs.YtpihighajaeabaaGreat
namespace Go.Proofs.YtpihighajaeabaaGreat
open Go.RowKit
set_option linter.unusedVariables false
def KF (l:List gA) (g:List (List kA)):ByteArray:=if sC l g then ⟨#[99,111,110,100,111,114,99,101,116,32]⟩++EA (pG l g)++⟨#[32,98,111,114,100,97,32]⟩++EA (wE l g (BH l g))++⟨#[32,97,112,112,114,111,118,97,108,32]⟩++EA (wE l g (RF l g)) else ⟨#[]⟩
theorem sW {l:List gA} {g:List (List kA)} (h:sC l g=true):KF l g=⟨#[99,111,110,100,111,114,99,101,116,32]⟩++EA (pG l g)++⟨#[32,98,111,114,100,97,32]⟩++EA (wE l g (BH l g))++⟨#[32,97,112,112,114,111,118,97,108,32]⟩++EA (wE l g (RF l g)):=by rw [KF,if_pos h]
theorem gM {n:Int} (h : -1≤n∧n≤99):(Lit.int .i64 n).wf=true:=by
 simp [Lit.wf,IntKind.min,IntKind.max,IntKind.signed,IntKind.bits];omega
theorem AL {a b:ByteArray} (h:a.size+b.size≤100000):∀W,(Op.stringOp .add a b).run Tryz.prog W=.ok (.string (a++b)) W:=fun W=>run_string_add_sum W _ _ (by omega)
set_option maxRecDepth 100000 in
set_option maxHeartbeats 1600000 in
theorem aAx (w:World) (l:List gA) (g:List (List kA)) (v u:Value) (h:Rd MA w l [v]) (h':Rd dD w g [u]):Calls Tryz.prog 57 #[v,u] w (Ret w (.string (KF l g))):=by
 have hcall0:=qE w l g _ _ h h';rcases Bool.eq_false_or_eq_true (sC l g) with hP | hP
 ·rw [hP] at hcall0;have k0:=fun W (B:Bw w W)=>gA4 W l g _ _ (h.bw jA B) (h'.bw dC B)
  have k1:=fun W (B:Bw w W)=>gA2 W l g _ _ (h.bw jA B) (h'.bw dC B)
  have k2:=fun W (B:Bw w W)=>gA3 W l g _ _ (h.bw jA B) (h'.bw dC B)
  have w0:=gM (WP l g);have w1:=gM (jI l g (BH l g));have w2:=gM (jI l g (RF l g));have HF:=sW hP;obtain ⟨Y,hY⟩:∃Y,Y=KF l g:=⟨_,rfl⟩;rw [← hY] at HF ⊢;obtain ⟨n0,hn0⟩:∃n0,n0=pG l g:=⟨_,rfl⟩;obtain ⟨n1,hn1⟩:∃n1,n1=wE l g (BH l g):=⟨_,rfl⟩;obtain ⟨n2,hn2⟩:∃n2,n2=wE l g (RF l g):=⟨_,rfl⟩;rw [← hn0] at k0 w0 HF;rw [← hn1] at k1 w1 HF;rw [← hn2] at k2 w2 HF;have s0:=(OA w0).2;have s1:=(OA w1).2;have s2:=(OA w2).2;have f0:=fun W=>OB W n0 w0
  have f1:=fun W=>OB W n1 w1
  have f2:=fun W=>OB W n2 w2
  obtain ⟨P0,hP0⟩:∃P,P=EA n0:=⟨_,rfl⟩;obtain ⟨P1,hP1⟩:∃P,P=EA n1:=⟨_,rfl⟩;obtain ⟨P2,hP2⟩:∃P,P=EA n2:=⟨_,rfl⟩;rw [← hP0] at HF s0;rw [← hP1] at HF s1;rw [← hP2] at HF s2;simp only [← hP0] at f0;simp only [← hP1] at f1;simp only [← hP2] at f2;have z1:(⟨#[99,111,110,100,111,114,99,101,116,32]⟩:ByteArray).size=10:=rfl;have z2:(⟨#[32,98,111,114,100,97,32]⟩:ByteArray).size=7:=rfl;have z3:(⟨#[32,97,112,112,114,111,118,97,108,32]⟩:ByteArray).size=10:=rfl;have a1:=AL (a:=⟨#[99,111,110,100,111,114,99,101,116,32]⟩) (b:=P0) (by omega);have y1:=cA ⟨#[99,111,110,100,111,114,99,101,116,32]⟩ P0;obtain ⟨T1,hT1⟩:∃T,T=(⟨#[99,111,110,100,111,114,99,101,116,32]⟩:ByteArray)++P0:=⟨_,rfl⟩;rw [← hT1] at HF y1;simp only [← hT1] at a1;have a2:=AL (a:=T1) (b:=⟨#[32,98,111,114,100,97,32]⟩) (by omega);have y2:=cA T1 ⟨#[32,98,111,114,100,97,32]⟩;obtain ⟨T2,hT2⟩:∃T,T=T1++⟨#[32,98,111,114,100,97,32]⟩:=⟨_,rfl⟩;rw [← hT2] at HF y2;simp only [← hT2] at a2;have a3:=AL (a:=T2) (b:=P1) (by omega);have y3:=cA T2 P1;obtain ⟨T3,hT3⟩:∃T,T=T2++P1:=⟨_,rfl⟩;rw [← hT3] at HF y3;simp only [← hT3] at a3;have a4:=AL (a:=T3) (b:=⟨#[32,97,112,112,114,111,118,97,108,32]⟩) (by omega);have y4:=cA T3 ⟨#[32,97,112,112,114,111,118,97,108,32]⟩;obtain ⟨T4,hT4⟩:∃T,T=T3++⟨#[32,97,112,112,114,111,118,97,108,32]⟩:=⟨_,rfl⟩;rw [← hT4] at HF y4;simp only [← hT4] at a4;have a5:=AL (a:=T4) (b:=P2) (by omega);obtain ⟨T5,hT5⟩:∃T,T=T4++P2:=⟨_,rfl⟩;rw [← hT5] at HF;simp only [← hT5] at a5
  have HX:=Lib.hid HF;have K1:=Lib.hid k1;have K2:=Lib.hid k2;have F1:=Lib.hid f1;have F2:=Lib.hid f2;clear hP hY HF hn0 hn1 hn2 w0 w1 w2 s0 s1 s2 hP0 hP1 hP2 z1 z2 z3 y1 y2 y3 y4 hT1 hT2 hT3 hT4 hT5 k1 k2 f1 f2;go_enter Tryz.func57,Tryz.ntmps57;go_wp2_with fail;refine (hcall0).mono ?_;rintro e w1 ⟨rfl,hb1⟩;go_wp2_with fail;refine (k0 _ hb1).mono ?_;rintro e w2 ⟨rfl,hb2⟩;have B2:=hb1.then hb2;go_wp2_with fail;refine (f0 _).mono ?_;rintro e w3 ⟨rfl,hb3⟩;have B3:=B2.then hb3;clear k0 f0 hcall0;go_wp2_with fail;refine (K1.out _ B3).mono ?_;rintro e w4 ⟨rfl,hb4⟩;have B4:=B3.then hb4;go_wp2_with fail;refine (F1.out _).mono ?_;rintro e w5 ⟨rfl,hb5⟩;have B5:=B4.then hb5;go_wp2_with fail;refine (K2.out _ B5).mono ?_;rintro e w6 ⟨rfl,hb6⟩;have B6:=B5.then hb6;go_wp2_with fail;refine (F2.out _).mono ?_;rintro e w7 ⟨rfl,hb7⟩;go_wp2;go_ret;exact Ret.str (HX.out.symm) (B6.then hb7)
 ·rw [hP] at hcall0;have HX:=Lib.hid (show KF l g=⟨#[]⟩ by rw [KF,hP];rfl);obtain ⟨Y,hY⟩:∃Y,Y=KF l g:=⟨_,rfl⟩;rw [← hY] at HX ⊢;clear hP hY h h';go_enter Tryz.func57,Tryz.ntmps57;go_wp2_with fail;refine (hcall0).mono ?_;rintro e w1 ⟨rfl,hb1⟩;go_wp2;go_ret;exact Ret.str (HX.out.symm) (hb1)
end Go.Proofs.YtpihighajaeabaaGreat
namespace Go.Proofs.YtpihighajaeabaaGreat
open Go.RowKit
set_option linter.unusedVariables false
theorem iAe {α:Type} {r:α→α→Prop}:∀ {l:List α},l≠[]→(∀x∈l,¬r x x)→(∀x∈l,∀y∈l,∀z∈l,r x y→r y z→r x z)→∃m∈l,∀y∈l,¬r y m
 | [],hl,_,_=>absurd rfl hl
 | x::l,_,hi,ht=>by
  by_cases hl:l=[]
  ·subst hl;exact ⟨x,by simp,fun y hy=>by rw [List.mem_singleton] at hy;rw [hy];exact hi x (by simp)⟩
  ·obtain ⟨m,hm,htop⟩:=iAe (r:=r) hl (fun y hy=>hi y (by simp [hy])) (fun a ha b hb c hc=>ht a (by simp [ha]) b (by simp [hb]) c (by simp [hc]));by_cases hb:r x m
   ·refine ⟨x,by simp,fun y hy he=>?_⟩;rcases List.mem_cons.1 hy with rfl | hy
    ·exact hi _ (by simp) he
    ·exact htop y hy (ht y (by simp [hy]) x (by simp) m (by simp [hm]) he hb)
   ·exact ⟨m,by simp [hm],fun y hy=>by
     rcases List.mem_cons.1 hy with rfl | hy
     ·exact hb
     ·exact htop y hy⟩
theorem JQ {a b:List Int} (ha:a.Pairwise (· < ·)) (hb:b.Pairwise (· < ·)) (h:∀v,v∈a↔v∈b):a=b:=by
 have na:a.Nodup:=ha.imp (fun h=>by omega);have nb:b.Nodup:=hb.imp (fun h=>by omega);have hp:a.Perm b:=(List.perm_ext_iff_of_nodup na nb).2 h;exact List.Perm.eq_of_pairwise (le:=fun x y:Int=>x<y) (fun x y _ _ h1 h2=>by omega) ha hb hp
theorem NY {l:List Int} (h:l.Nodup):(rH l).Pairwise (· < ·):=by
 have h1:=aW l;have h2:(rH l).Nodup:=(kN l).nodup_iff.2 h;exact h1.imp₂ (fun h3 h4=>by omega) h2
theorem OY {l:List Int} {v:Int}:v∈rH l↔v∈l:=(kN l).mem_iff
theorem FH {l:List gA} (e:List kA) (h:WA l=true):(mD l e).Pairwise (· < ·):=by
 unfold mD;exact List.pairwise_map.2 ((rE h).sublist List.filter_sublist)
def BL (l:List gA) (e:List kA) (y:gA):Prop:=∀z∈l,MC e z y=false
theorem PY {l:List gA} {e:List kA} {y:gA}:ZF l e y=true↔BL l e y:=by
 unfold ZF BL;rw [Bool.not_eq_true',List.any_eq_false];exact ⟨fun h z hz=>by simpa using h z hz,fun h z hz=>by simp [h z hz]⟩
theorem LD {l:List gA} {e:List kA} {v:Int}:v∈mD l e↔∃y∈l,BL l e y∧y.id=v:=by
 unfold mD;rw [List.mem_map];constructor
 ·rintro ⟨y,hy,rfl⟩;obtain ⟨h1,h2⟩:=List.mem_filter.1 hy;exact ⟨y,h1,PY.1 h2,rfl⟩
 ·rintro ⟨y,h1,h2,rfl⟩;exact ⟨y,List.mem_filter.2 ⟨h1,PY.2 h2⟩,rfl⟩
section
variable {e:List kA} (hE:bB e=true)
include hE
theorem BO {x y z:gA} (hx:LA x=true) (hy:LA y=true) (hz:LA z=true) (h1:MC e x y=true) (h2:MC e y z=true):MC e x z=true:=by
 unfold MC at h1 h2 ⊢;rw [decide_eq_true_eq] at h1 h2 ⊢;rw [(PI hE).tr x y z hx hy hz (by omega) (by omega) (by omega) (by omega),h1,h2];rfl
theorem iM {x:gA} (hx:LA x=true):MC e x x=false:=by
 unfold MC;rw [(PI hE).refl x hx];rfl
theorem ZI {l:List gA} (hl:∀x∈l,LA x=true) {y:gA} (hy:LA y=true) (h:¬BL l e y):∃m∈l,BL l e m∧MC e m y=true:=by
 have hne:(l.filter fun z=>MC e z y)≠[]:=fun hn=>by
  apply h;intro z hz;have:=List.filter_eq_nil_iff.1 hn z hz
  simpa using this
 obtain ⟨m,hm,ht⟩:=iAe (r:=fun a b=>MC e a b=true) hne
  (fun x hx=>by rw [iM hE (hl x (List.mem_filter.1 hx).1)];simp)
  (fun x hx y hy z hz h1 h2=>BO hE (hl x (List.mem_filter.1 hx).1) (hl y (List.mem_filter.1 hy).1) (hl z (List.mem_filter.1 hz).1) h1 h2)
 obtain ⟨hm1,hm2⟩:=List.mem_filter.1 hm;refine ⟨m,hm1,fun z hz=>?_,hm2⟩
 cases hb:MC e z m with
 | false=>rfl
 | true=>
  have h3:MC e z y=true:=BO hE (hl z hz) (hl m hm1) hy hb hm2;exact absurd hb (ht z (List.mem_filter.2 ⟨hz,h3⟩))
end
theorem TF {l:List gA} {x z:gA}:z∈TG l x↔z∈l∨z=x:=by
 rw [(DH l x).mem_iff];simp
theorem CL {y:tA} (h1:WA y.items=true) (h2:bB y.wanted=true) (h3:y.best=mD y.items y.wanted) (h4:0≤y.tests∧y.tests≤1000000):tB y=true:=by
 unfold tB dB;rw [h1,h2,decide_eq_true h3];have:inB y.tests 0 1000000=true:=qC.2 h4;rw [this];rfl
section
variable {s:tA} {x:gA} (h:WF s x=true)
include h
theorem hAw:WA (TG s.items x)=true:=by
 obtain ⟨h1,h2,h3,h4,h5⟩:=NG h;obtain ⟨hB,hb⟩:=ZB h1;have hn:=zI h3;refine aQ (fun y hy=>?_) (wL (rE (sA hB)) hn) (by rw [sO];omega);rcases TF.1 hy with hy | rfl
 ·exact NA (sA hB) hy
 ·exact h2
theorem DO:qH s x s.best.length=true↔¬BL s.items s.wanted x:=by
 obtain ⟨h1,h2,h3,h4,h5⟩:=NG h;obtain ⟨hB,hb⟩:=ZB h1;have hI:=sA hB;unfold qH;rw [List.take_length,List.any_eq_true];constructor
 ·rintro ⟨id,hid,hc⟩ hf;rw [decide_eq_true_eq] at hc;rw [hb] at hid;obtain ⟨y,hy,_,rfl⟩:=LD.1 hid;rw [xD hI hy] at hc;have:=hf y hy;unfold MC at this;rw [decide_eq_false_iff_not] at this;exact this hc
 ·intro hf;obtain ⟨m,hm,hmf,hmb⟩:=ZI (iC hB) (fun z hz=>NA hI hz) h2 hf;refine ⟨m.id,by rw [hb];exact LD.2 ⟨m,hm,hmf,rfl⟩,?_⟩;rw [xD hI hm];unfold MC at hmb;exact hmb
theorem dAo:tB (mI s x)=true:=by
 obtain ⟨h1,h2,h3,h4,h5⟩:=NG h;obtain ⟨hB,hb⟩:=ZB h1;have hI:=sA hB;have hE:=iC hB;have hn:=zI h3;have hbl:=DD h1;have ht:=tJ h1;have hA:=hAw h;refine CL (by exact hA) (by exact hE) ?_ (by show 0≤s.tests+(s.best.length:Int)∧s.tests+(s.best.length:Int)≤1000000;omega);show (if qH s x s.best.length then s.best else rH (ND s x s.best.length++[x.id]))=mD (TG s.items x) s.wanted
 have hxx:=iM hE h2
 cases hbt:qH s x s.best.length with
 | true=>
  rw [if_pos rfl];have hnf:=(DO h).1 hbt;obtain ⟨m,hm,hmf,hmb⟩:=ZI hE (fun z hz=>NA hI hz) h2 hnf;refine JQ (by rw [hb];exact FH _ hI) (FH _ hA) (fun v=>?_);rw [hb,LD,LD];constructor
  ·rintro ⟨y,hy,hf,rfl⟩;refine ⟨y,TF.2 (.inl hy),fun z hz=>?_,rfl⟩;rcases TF.1 hz with hz | rfl
   ·exact hf z hz
   ·cases hq:MC s.wanted z y with
    | false=>rfl
    | true=>
     have:=BO hE (NA hI hm) h2 (NA hI hy) hmb hq;rw [hf m hm] at this;cases this
  ·rintro ⟨y,hy,hf,rfl⟩;rcases TF.1 hy with hy | rfl
   ·exact ⟨y,hy,fun z hz=>hf z (TF.2 (.inl hz)),rfl⟩
   ·have:=hf m (TF.2 (.inl hm));rw [hmb] at this;cases this
 | false=>
  rw [if_neg (by simp)];have hfree:BL s.items s.wanted x:=by
   by_cases hq:BL s.items s.wanted x
   ·exact hq
   ·have:=(DO h).2 hq;rw [hbt] at this;cases this
  have hkm:∀v,v∈ND s x s.best.length↔∃y∈s.items,BL s.items s.wanted y∧MC s.wanted x y=false∧y.id=v:=by
   intro v;unfold ND;rw [List.take_length,List.mem_filter,hb,LD];have key:∀y∈s.items,((!decide (CC s.wanted (nD s.items y.id) x = -1))=true↔MC s.wanted x y=false):=by
    intro y hy;rw [xD hI hy];have ha:=(PI hE).anti x y h2 (NA hI hy);have hc:=(PI hE).code x y;unfold MC;rw [decide_eq_false_iff_not,Bool.not_eq_true',decide_eq_false_iff_not,ha];unfold wH
    split<;>constructor<;>intro hh<;>omega
   constructor
   ·rintro ⟨⟨y,hy,hf,rfl⟩,hk⟩;exact ⟨y,hy,hf,(key y hy).1 hk,rfl⟩
   ·rintro ⟨y,hy,hf,hk,rfl⟩;exact ⟨⟨y,hy,hf,rfl⟩,(key y hy).2 hk⟩
  have hnd:(ND s x s.best.length++[x.id]).Nodup:=by
   rw [List.nodup_append];refine ⟨?_,by simp,fun a ha b hb2 eab=>?_⟩
   ·unfold ND;rw [List.take_length];exact (lN h1).sublist List.filter_sublist
   ·rw [List.mem_singleton] at hb2;obtain ⟨y,hy,_,_,e⟩:=(hkm a).1 ha;exact hn y hy (by rw [e,eab,hb2])
  refine JQ (NY hnd) (FH _ hA) (fun v=>?_);rw [OY,List.mem_append,hkm,List.mem_singleton,LD];constructor
  ·rintro (⟨y,hy,hf,hk,rfl⟩ | rfl)
   ·refine ⟨y,TF.2 (.inl hy),fun z hz=>?_,rfl⟩;rcases TF.1 hz with hz | rfl
    ·exact hf z hz
    ·exact hk
   ·refine ⟨x,TF.2 (.inr rfl),fun z hz=>?_,rfl⟩;rcases TF.1 hz with hz | rfl
    ·exact hfree z hz
    ·exact hxx
  ·rintro ⟨y,hy,hf,rfl⟩;rcases TF.1 hy with hy | rfl
   ·exact .inl ⟨y,hy,fun z hz=>hf z (TF.2 (.inl hz)),hf x (TF.2 (.inr rfl)),rfl⟩
   ·exact .inr rfl
end
theorem qN {s:tA} {x:gA} (h:WF s x=true):tB (cG s x)=true:=by unfold cG;rw [if_pos h];exact dAo h
theorem GD {l:List gA} {id:Int} {y:gA}:y∈WB l [id] false↔y∈l∧y.id≠id:=by
 unfold WB;rw [List.mem_filter];simp
theorem gA5 {s:tA} (h:tB s=true) {id v:Int}:v∈KD s id↔id∈s.best∧∃y∈s.items,MC s.wanted (nD s.items id) y=true∧(∀b∈s.best,b=id∨MC s.wanted (nD s.items b) y=false)∧y.id=v:=by
 by_cases hid:id∈s.best
 ·rw [AY h (List.contains_iff_mem.2 hid)];unfold jG dAc;rw [List.mem_map];constructor
  ·rintro ⟨y,hy,rfl⟩;obtain ⟨h1,h2⟩:=List.mem_filter.1 hy;rw [Bool.and_eq_true,List.all_eq_true] at h2;exact ⟨hid,y,h1,h2.1,fun b hb=>by simpa using h2.2 b hb,rfl⟩
  ·rintro ⟨_,y,h1,h2,h3,rfl⟩;refine ⟨y,List.mem_filter.2 ⟨h1,?_⟩,rfl⟩;rw [Bool.and_eq_true,List.all_eq_true];exact ⟨h2,fun b hb=>by simpa using h3 b hb⟩
 ·rw [YV (by rw [h,Bool.true_and];simpa using hid)];simp [hid]
section
variable {s:tA} {id:Int} (h:oF s id=true)
include h
theorem dAp:tB (xL s id)=true:=by
 obtain ⟨h1,h2,h3⟩:=VH h;obtain ⟨hB,hb⟩:=ZB h1;have hI:=sA hB;have hE:=iC hB;have ht:=tJ h1;have hA:=vJ hI [id] false;have hIt:∀z∈s.items,LA z=true:=fun z hz=>NA hI hz
 have hIo:∀z∈WB s.items [id] false,LA z=true:=fun z hz=>hIt z (GD.1 hz).1
 obtain ⟨p,hp,hpid⟩:∃p∈s.items,p.id=id:=by
  rcases PB s.items id with ⟨hf,_⟩ | ⟨j,y,_,hj,e⟩
  ·omega
  ·exact ⟨y,List.mem_of_getElem? hj,e⟩
 have hpi:nD s.items id=p:=by rw [← hpid];exact xD hI hp
 have hother:∀y∈s.items,y.id=id→y=p:=fun y hy e=>eW hI hy hp (e.trans hpid.symm)
 unfold xL;by_cases hin:s.best.contains id=true
 ·rw [if_pos hin];have hin':id∈s.best:=List.contains_iff_mem.1 hin;have hexl:(KD s id).length≤16:=Nat.le_trans (dAd s id trivial) (VA hI);refine CL (by exact hA) (by exact hE) ?_ (by show 0≤s.tests+((KD s id).length:Int)∧s.tests+((KD s id).length:Int)≤1000000;omega);show rH (zE s id++JF s id)=mD (WB s.items [id] false) s.wanted
  have hleft:∀v,v∈zE s id↔∃y∈s.items,BL s.items s.wanted y∧y.id≠id∧y.id=v:=by
   intro v;unfold zE;rw [List.mem_filter,hb,LD];constructor
   ·rintro ⟨⟨y,hy,hf,rfl⟩,hk⟩;exact ⟨y,hy,hf,by simpa using hk,rfl⟩
   ·rintro ⟨y,hy,hf,hk,rfl⟩;exact ⟨⟨y,hy,hf,rfl⟩,by simpa using hk⟩
  have hex:∀y,(y∈WB s.items (KD s id) true↔y∈s.items∧MC s.wanted p y=true∧∀b∈s.best,b=id∨MC s.wanted (nD s.items b) y=false):=by
   intro y;unfold WB;rw [List.mem_filter];have e1:((KD s id).contains y.id==true)=(KD s id).contains y.id:=by simp
   rw [e1,List.contains_iff_mem,gA5 h1,hpi];constructor
   ·rintro ⟨hy,_,z,hz,h4,h5,e⟩;obtain rfl:=eW hI hz hy e;exact ⟨hy,h4,h5⟩
   ·rintro ⟨hy,h4,h5⟩;exact ⟨hy,hin',y,hy,h4,h5,rfl⟩
  have hpp:=iM hE (hIt p hp);have hnew:∀v,v∈JF s id↔∃y∈WB s.items (KD s id) true,BL (WB s.items (KD s id) true) s.wanted y∧y.id=v:=fun v=>LD
  have hexo:∀y∈WB s.items (KD s id) true,y∈WB s.items [id] false:=fun y hy=>by
   obtain ⟨h4,h5,_⟩:=(hex y).1 hy;refine GD.2 ⟨h4,fun e=>?_⟩;rw [hother y h4 e,hpp] at h5;cases h5
  have hkey:∀y∈WB s.items [id] false,BL (WB s.items [id] false) s.wanted y→¬BL s.items s.wanted y→y∈WB s.items (KD s id) true:=by
   intro y hy hf hnf;have hys:=(GD.1 hy).1;refine (hex y).2 ⟨hys,?_,fun b hb2=>?_⟩
   ·obtain ⟨m,hm,_,hmb⟩:=ZI hE hIt (hIt y hys) hnf;by_cases hmid:m.id=id
    ·rw [← hother m hm hmid];exact hmb
    ·rw [hf m (GD.2 ⟨hm,hmid⟩)] at hmb;cases hmb
   ·by_cases hbid:b=id
    ·exact .inl hbid
    ·refine .inr ?_;rw [hb] at hb2;obtain ⟨z,hz,_,e⟩:=LD.1 hb2;rw [← e,xD hI hz];exact hf z (GD.2 ⟨hz,by rw [e];exact hbid⟩)
  have hdis:∀v,v∈zE s id→v∉JF s id:=by
   intro v hv hv2;obtain ⟨y,hy,hf,hne,rfl⟩:=(hleft v).1 hv;obtain ⟨z,hz,_,e⟩:=(hnew y.id).1 hv2;obtain ⟨hzs,hzb,_⟩:=(hex z).1 hz;obtain rfl:=eW hI hzs hy e;rw [hf p hp] at hzb;cases hzb
  have hnd:(zE s id++JF s id).Nodup:=by
   rw [List.nodup_append];refine ⟨(lN h1).sublist List.filter_sublist,?_,fun a ha b hb2 e=>hdis a ha (e▸hb2)⟩;exact (FH s.wanted (vJ hI (KD s id) true)).imp (fun h=>by omega)
  refine JQ (NY hnd) (FH _ hA) (fun v=>?_);rw [OY,List.mem_append,hleft,hnew,LD];constructor
  ·rintro (⟨y,hy,hf,hne,rfl⟩ | ⟨y,hy,hf,rfl⟩)
   ·exact ⟨y,GD.2 ⟨hy,hne⟩,fun z hz=>hf z (GD.1 hz).1,rfl⟩
   ·refine ⟨y,hexo y hy,?_,rfl⟩;obtain ⟨hys,hyb,hyo⟩:=(hex y).1 hy;by_cases hq:BL (WB s.items [id] false) s.wanted y
    ·exact hq
    ·exfalso
     obtain ⟨m,hm,hmf,hmb⟩:=ZI hE hIo (hIt y hys) hq;have hms:=(GD.1 hm).1;by_cases hmfree:BL s.items s.wanted m
     ·have hmbest:m.id∈s.best:=by rw [hb];exact LD.2 ⟨m,hms,hmfree,rfl⟩
      rcases hyo m.id hmbest with e | e
      ·exact (GD.1 hm).2 e
      ·rw [xD hI hms,hmb] at e;cases e
     ·have:=hf m (hkey m hm hmf hmfree);rw [hmb] at this;cases this
  ·rintro ⟨y,hy,hf,rfl⟩;by_cases hq:BL s.items s.wanted y
   ·exact .inl ⟨y,(GD.1 hy).1,hq,(GD.1 hy).2,rfl⟩
   ·exact .inr ⟨y,hkey y hy hf hq,fun z hz=>hf z (hexo z hz),rfl⟩
 ·rw [if_neg hin];have hin':id∉s.best:=fun hm=>hin (List.contains_iff_mem.2 hm)
  refine CL (by exact hA) (by exact hE) ?_ (by exact ht);show s.best=mD (WB s.items [id] false) s.wanted
  have hpn:¬BL s.items s.wanted p:=fun hf=>hin' (by rw [hb];exact LD.2 ⟨p,hp,hf,hpid⟩)
  obtain ⟨m,hm,hmf,hmb⟩:=ZI hE hIt (hIt p hp) hpn;have hmid:m.id≠id:=fun e=>by
   rw [hother m hm e,iM hE (hIt p hp)] at hmb;cases hmb
  rw [hb];refine JQ (FH _ hI) (FH _ hA) (fun v=>?_);rw [LD,LD];constructor
  ·rintro ⟨y,hy,hf,rfl⟩;refine ⟨y,GD.2 ⟨hy,fun e=>hpn ?_⟩,fun z hz=>hf z (GD.1 hz).1,rfl⟩;rw [← hother y hy e];exact hf
  ·rintro ⟨y,hy,hf,rfl⟩;obtain ⟨hys,hyid⟩:=GD.1 hy;refine ⟨y,hys,fun z hz=>?_,rfl⟩;by_cases hzid:z.id=id
   ·rw [hother z hz hzid]
    cases hq:MC s.wanted p y with
    | false=>rfl
    | true=>
     have:=BO hE (hIt m hm) (hIt p hp) (hIt y hys) hmb hq;rw [hf m (GD.2 ⟨hm,hmid⟩)] at this;cases this
   ·exact hf z (GD.2 ⟨hz,hzid⟩)
end
theorem vP {s:tA} {id:Int}:(xL s id).items=WB s.items [id] false:=by unfold xL;split<;>rfl
theorem rN {s:tA} {id:Int} (h:oF s id=true):tB (PE s id)=true:=by unfold PE;rw [if_pos h];exact dAp h
theorem gA6 {s:tA} {id:Int} (h:oF s id=true):UA (PE s id).items id<0:=by
 unfold PE;rw [if_pos h,vP];rcases PB (WB s.items [id] false) id with ⟨hf,_⟩ | ⟨j,y,_,hj,e⟩
 ·omega
 ·exact absurd e (GD.1 (List.mem_of_getElem? hj)).2
section
variable {s:tA} (h:tB s=true)
include h
end
end Go.Proofs.YtpihighajaeabaaGreat
