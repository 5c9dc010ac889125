/- Copies of integers and items, in both programs. -/
import Derived.Test.YtpihighajaeabaaGreatQLines2
import Derived.Test.YtpihighajaeabaaGreatQExpl
import Derived.Test.YtpihighajaeabaaGreatQWishS
import Derived.Test.YtpihighajaeabaaGreatQFind
import Derived.Test.YtpihighajaeabaaGreatQOwn2
import Derived.Test.YtpihighajaeabaaGreatQReach
namespace Go.Proofs.YtpihighajaeabaaGreat
open Go.RowKit
set_option linter.unusedVariables false
set_option linter.unusedSimpArgs false
theorem qK {x:gA} (h:LA x=true):∀v∈x.vals,(Lit.int .i64 v).wf=true:=fun v hv=>SJ (by have:=dE h hv;omega)
theorem eO {x:gA} (h:LA x=true):(MB x.vals ⟨#[44]⟩).size≤100:=by
 have h1:=pE ⟨#[44]⟩ (qK h);have e:(⟨#[44]⟩:ByteArray).size=1:=rfl;rw [e,YA h] at h1;omega
set_option maxRecDepth 100000 in
set_option maxHeartbeats 1600000 in
theorem JV (w:World) (x:gA) (v:Value) (h:Rd XA w x.vals [v]):Calls Tryz.prog 275 #[.agg #[.int .i64 x.id,v]] w (Ret w (.string (LB x))):=by
 have B0:Bw w (w.alloc (.cells #[.int .i64 x.id,v] 30)):=(Bw.refl w).alloc _;go_enter Tryz.func275,Tryz.ntmps275;go_wp2_with fail;refine (IE _ x _ (h.bw dA B0)).mono ?_;rintro e w3 ⟨rfl,hb3⟩;have p0:w3.cell? ⟨w.heap.size,0,none⟩=some (.int .i64 x.id):=hb3.cell (by go_simp);have p1:w3.cell? ⟨w.heap.size,1,none⟩=some (v):=hb3.cell (by go_simp);have B3:=B0.then hb3;rcases Bool.eq_false_or_eq_true (LA x) with e1 | e1
 ·have E1:=Lib.hid e1;rw [e1];clear e1;have hp:=Lib.hid (SJ (n:=x.id) (by have:=wD E1.out;omega));have s0:=qA p0;have s1:=qA p1;have k1:=h.bw dA B3;obtain ⟨P,hP⟩:∃P,P=EA x.id:=⟨_,rfl⟩;obtain ⟨Q,hQ⟩:∃Q,Q=MB x.vals ⟨#[44]⟩:=⟨_,rfl⟩;have szP:P.size≤20:=by rw [hP];exact (OA hp.out).2
  have szQ:Q.size≤100:=by rw [hQ];exact eO E1.out
  have cP:∀W,Calls Tryz.prog 125 #[.int .i64 x.id] W (Ret W (.string P)):=fun W=>by rw [hP];exact OB W x.id hp.out
  have cQ:∀s:GC w3,Calls Tryz.prog 132 #[v,.string ⟨#[44]⟩] s.1 (Ret s.1 (.string Q)):=fun s=>by rw [hQ];exact rI _ x.vals ⟨#[44]⟩ _ (k1.bw dA s.bw) (qK E1.out) (by have:=YA E1.out;omega) (by show 1≤1024;omega)
  have HF:=Lib.hid (show P++⟨#[58]⟩++Q=LB x by rw [LB,E1.out,hP,hQ];rfl);have e1:(⟨#[58]⟩:ByteArray).size=1:=rfl;have a1:∀W,(Op.stringOp .add P ⟨#[58]⟩).run Tryz.prog W=.ok (.string (P++⟨#[58]⟩)) W:=fun W=>run_string_add_sum W _ _ (by omega)
  have a2:∀W,(Op.stringOp .add (P++⟨#[58]⟩) Q).run Tryz.prog W=.ok (.string (P++⟨#[58]⟩++Q)) W:=fun W=>run_string_add_sum W _ _ (by rw [cA];omega)
  clear p0 p1 hP hQ szP szQ e1 k1;go_wp2;refine mA (by kernel_rfl) (by kernel_rfl) ?_
  repeat (first | go_big_quiet_skip | (go_big_quiet_want;go_big_quiet_op;first | go_big_quiet_on | (apply Exists.intro;refine ⟨fun _=>?_,?_⟩;(· (((first | (go_at_call 125;exact GA (cP _)) | (exact GA (cQ _))))));go_big_quiet_on)))
  refine wpQuiet_nil ?_;rintro ⟨wq,hbq⟩;dsimp only at *;go_wp2;go_ret;exact Ret.str HF.out (B3.then hbq)
 ·have E1:=Lib.hid e1;rw [e1];clear e1;go_wp2;go_ret;exact Ret.str (by rw [LB,E1.out];rfl) (B3)
set_option maxRecDepth 100000 in
set_option maxHeartbeats 1600000 in
theorem rK (w:World) (x:gA) (v:Value) (h:Rd XA w x.vals [v]):Calls Tryz.prog 62 #[.agg #[.int .i64 x.id,v]] w (Ret w (.string (LB x))):=by
 have B0:Bw w (w.alloc (.cells #[.int .i64 x.id,v] 30)):=(Bw.refl w).alloc _;go_enter Tryz.func62,Tryz.ntmps62;go_wp2_with fail;refine (MH _ x _ (h.bw dA B0)).mono ?_;rintro e w3 ⟨rfl,hb3⟩;have p0:w3.cell? ⟨w.heap.size,0,none⟩=some (.int .i64 x.id):=hb3.cell (by go_simp);have p1:w3.cell? ⟨w.heap.size,1,none⟩=some (v):=hb3.cell (by go_simp);have B3:=B0.then hb3;rcases Bool.eq_false_or_eq_true (LA x) with e1 | e1
 ·have E1:=Lib.hid e1;rw [e1];clear e1;have hp:=Lib.hid (SJ (n:=x.id) (by have:=wD E1.out;omega));have s0:=qA p0;have s1:=qA p1;have k1:=h.bw dA B3;obtain ⟨P,hP⟩:∃P,P=EA x.id:=⟨_,rfl⟩;obtain ⟨Q,hQ⟩:∃Q,Q=MB x.vals ⟨#[44]⟩:=⟨_,rfl⟩;have szP:P.size≤20:=by rw [hP];exact (OA hp.out).2
  have szQ:Q.size≤100:=by rw [hQ];exact eO E1.out
  have cP:∀W,Calls Tryz.prog 64 #[.int .i64 x.id] W (Ret W (.string P)):=fun W=>by rw [hP];exact KC W x.id hp.out
  have cQ:∀s:GC w3,Calls Tryz.prog 145 #[v] s.1 (Ret s.1 (.string Q)):=fun s=>by rw [hQ];exact XN _ x.vals _ (k1.bw dA s.bw) (qK E1.out) (by have:=YA E1.out;omega)
  have HF:=Lib.hid (show P++⟨#[58]⟩++Q=LB x by rw [LB,E1.out,hP,hQ];rfl);have e1:(⟨#[58]⟩:ByteArray).size=1:=rfl;have a1:∀W,(Op.stringOp .add P ⟨#[58]⟩).run Tryz.prog W=.ok (.string (P++⟨#[58]⟩)) W:=fun W=>run_string_add_sum W _ _ (by omega)
  have a2:∀W,(Op.stringOp .add (P++⟨#[58]⟩) Q).run Tryz.prog W=.ok (.string (P++⟨#[58]⟩++Q)) W:=fun W=>run_string_add_sum W _ _ (by rw [cA];omega)
  clear p0 p1 hP hQ szP szQ e1 k1;go_wp2;refine mA (by kernel_rfl) (by kernel_rfl) ?_
  repeat (first | go_big_quiet_skip | (go_big_quiet_want;go_big_quiet_op;first | go_big_quiet_on | (apply Exists.intro;refine ⟨fun _=>?_,?_⟩;(· (((first | (go_at_call 64;exact GA (cP _)) | (exact GA (cQ _))))));go_big_quiet_on)))
  refine wpQuiet_nil ?_;rintro ⟨wq,hbq⟩;dsimp only at *;go_wp2;go_ret;exact Ret.str HF.out (B3.then hbq)
 ·have E1:=Lib.hid e1;rw [e1];clear e1;go_wp2;go_ret;exact Ret.str (by rw [LB,E1.out];rfl) (B3)
end Go.Proofs.YtpihighajaeabaaGreat
namespace Go.Proofs.YtpihighajaeabaaGreat
open Go.RowKit
set_option linter.unusedVariables false
end Go.Proofs.YtpihighajaeabaaGreat
namespace Go.Proofs.YtpihighajaeabaaGreat
open Go.RowKit
set_option linter.unusedVariables false
set_option linter.unusedSimpArgs false
def FM:Fp eB:=fun w x cs F=>∃v u G H,cs=[.int .i64 x.kind,.int .i64 x.field,.int .i64 x.value,v,u]∧ZA w x.list [v] G∧XF w x.pairs [u] H∧F=G++H
theorem UI {B : Nat} : VB B FM :=
  ⟨fun hw ⟨v, u, G, H, e, h, k, hF⟩ => ⟨v, u, G, H, e, aA.step (fun b hb => hw b (hb.imp (fun hb => by rw [hF]; exact List.mem_append_left _ hb) id)) h, zA.step (fun b hb => hw b (hb.imp (fun hb => by rw [hF]; exact List.mem_append_right _ hb) id)) k, hF⟩,
   fun ⟨v, u, G, H, e, h, k, hF⟩ b hb => by
    rw [hF] at hb
    exact (List.mem_append.1 hb).elim ((aA (B := B)).lt h b) ((zA (B := B)).lt k b),
   fun ⟨v, u, G, H, e, h, k, hF⟩ t ht => by
    rw [e] at ht
    simp at ht
    rcases ht with rfl | rfl | rfl | rfl | rfl
    · rfl
    · rfl
    · rfl
    · exact (aA (B := B)).one h _ (by simp)
    · exact (zA (B := B)).one k _ (by simp)⟩
theorem fAe {B:Nat} {w:World} {x:eB} {cs:List Value} {F:List Nat} (h:FM w x cs F):eAg w (fun b=>b∈F∨b<B) x cs:=by
 obtain ⟨v,u,G,H,e,h,k,hF⟩:=h;refine ⟨v,u,e,dA.step ⟨fun b hb=>?_,fun _ _=>rfl⟩ (FI (B:=B) h),DA.step ⟨fun b hb=>?_,fun _ _=>rfl⟩ (ST (B:=B) k)⟩
 ·exact hb.imp (fun hb=>by rw [hF];exact List.mem_append_left _ hb) id
 ·exact hb.imp (fun hb=>by rw [hF];exact List.mem_append_right _ hb) id
def nL:Fp kA:=fun w x cs F=>∃us,cs=.int .i64 x.op::us∧FM w x.wish us F
theorem ZC {B:Nat}:VB B nL:=
 ⟨fun hw ⟨us,e,h⟩=>⟨us,e,UI.step hw h⟩,fun ⟨us,e,h⟩=>(UI (B:=B)).lt h,fun ⟨us,e,h⟩ t ht=>by
  rw [e] at ht;rcases List.mem_cons.1 ht with rfl | ht
  ·rfl
  ·exact (UI (B:=B)).one h _ ht⟩
theorem fAf {B:Nat} {w:World} {x:kA} {cs:List Value} {F:List Nat} (h:nL w x cs F):FK w (fun b=>b∈F∨b<B) x cs:=by
 obtain ⟨us,e,h⟩:=h;exact ⟨us,e,fAe h⟩
abbrev EC:Fp (List kA):=fSl 111 6 nL
theorem nA {B:Nat}:VB B EC:=xB ZC
theorem xI {B:Nat} {w:World} {xs:List kA} {cs:List Value} {F:List Nat} (h:EC w xs cs F):RA w (fun b=>b∈F∨b<B) xs cs:=DI YC (fun _ _ _ h=>fAf h) h
theorem lC {w:World} {xs:List kA} {cs:List Value} {F:List Nat} (h:EC w xs cs F):Rd RA w xs cs:=Rd.of lA (B:=0) (xI h) ((nA (B:=0)).lt h) (Nat.zero_le _)
theorem AH:(Tryz.prog.info? 111).map (fun i=>(i.zero,i.size,i.bytes))=some (some (.agg #[.int .i64 0,.int .i64 0,.int .i64 0,.int .i64 0,.slice none 0 0,.slice none 0 0]),6,80):=by kernel_rfl
abbrev jAa:Fp (List eB):=fSl 109 5 FM
abbrev jAb:Fp (List (List kA)):=fSl 25 1 EC
theorem TZ:(Tryz.prog.info? 25).map (fun i=>(i.zero,i.size,i.bytes))=some (some (.slice none 0 0),1,24):=by kernel_rfl
def hAg {α:Type} (f:Fp α) (w:World) (x:α) (e:Ending) (w':World):Prop:=∃cs F,e=.returned (.agg cs.toArray)∧f w' x cs F∧pA w.heap.size F∧Bw w w'
theorem pA.append {B m:Nat} {F G:List Nat} (h:pA B F) (hlt:∀b∈F,b<m) (k:pA m G) (hm:B≤m):pA B (F++G):=
 ⟨PM h.nodup k hlt,fun b hb=>(List.mem_append.1 hb).elim (h.ge b) (fun hb=>Nat.le_trans hm (k.ge b hb))⟩
end Go.Proofs.YtpihighajaeabaaGreat
namespace Go.Proofs.YtpihighajaeabaaGreat
open Go.RowKit
set_option linter.unusedVariables false
set_option maxRecDepth 100000 in
set_option maxHeartbeats 3200000 in
theorem sK (w:World) (xs ys:List kA) (v1 v2:Value) (h1:Rd RA w xs [v1]) (h2:Rd RA w ys [v2]) :
  Calls Tryz.prog 271 #[v1,v2,.func (.func 272) #[] #[]] w (Ret w (.bool (decide (xs=ys)))):=by
 obtain ⟨A1,n1,c1,rfl,a1,a2,a3⟩:=iA h1;obtain ⟨A2,n2,c2,rfl,b1,b2,b3⟩:=iA h2;unfold maxLen at a3 b3;have L1:=Lib.hid a1;have L2:=Lib.hid b1;clear a1 b1;by_cases hl:n1=n2
 ·subst hl;go_enter Tryz.func271,Tryz.ntmps271;go_wp2
  go_loopw [17] (fun i w'=>∃k:Nat,k≤n1∧i=.int .i64 k∧xs.take k=ys.take k∧Bw w w') (fun i _=>n1-(intOf i).toNat)
  case atStart=>exact ⟨0,by omega,rfl,by simp,Bw.refl _⟩
  case round=>
   obtain ⟨k,hk,rfl,he,hb⟩:=hrel;have HE:=Lib.hid he;clear he;by_cases hlt:k<n1
   ·obtain ⟨x,hx⟩:=rA (xs:=xs) (k:=k) (by rw [← L1.out];exact hlt);obtain ⟨y,hy⟩:=rA (xs:=ys) (k:=k) (by rw [← L2.out];exact hlt);obtain ⟨ba,oa,Alx,clx,Apx,cpx,rfl,_,p0,p1,p2,p3,p4,p5,hix,hjx⟩:=bE (h1.bw lA hb) hx;obtain ⟨bb,ob,Aly,cly,Apy,cpy,rfl,_,q0,q1,q2,q3,q4,q5,hiy,hjy⟩:=bE (h2.bw lA hb) hy;have HX:=Lib.hid hx;have HY:=Lib.hid hy;have D:Bw wr ((wr.alloc (.cells #[.int .i64 x.op,.int .i64 x.wish.kind,.int .i64 x.wish.field,.int .i64 x.wish.value,.slice Alx x.wish.list.length clx,.slice Apx x.wish.pairs.length cpx] 111)).alloc (.cells #[.int .i64 y.op,.int .i64 y.wish.kind,.int .i64 y.wish.field,.int .i64 y.wish.value,.slice Aly y.wish.list.length cly,.slice Apy y.wish.pairs.length cpy] 111)):=((Bw.refl wr).alloc _).alloc _;have hbx:=World.block_lt_of_cell? _ _ p0;have hby:=World.block_lt_of_cell? _ _ q0;clear hx hy h1 h2;go_wp2_with fail;refine (cAc _ x y _ _ _ _ (Rd.bw dA hix D) (Rd.bw dA hiy D) (Rd.bw DA hjx D) (Rd.bw DA hjy D)).mono ?_;rintro e w2 ⟨rfl,hb2⟩;have hbb:Bw w w2:=hb.then (D.then hb2);by_cases hxy:x=y
    ·have HD:decide (x=y)=true:=by simpa using hxy
     have HXY:=Lib.hid hxy;clear hxy;go_wp2
     go_roundw
     case rel=>exact ⟨k+1,by omega,by go_num,LJ HE.out HX.out HY.out HXY.out,hbb⟩
     case measure=>simp [intOf];omega
    ·have HD:decide (x=y)=false:=by simpa using hxy
     go_wp2;go_ret;exact Ret.bool (by simpa using SK HX.out HY.out hxy) hbb
   ·go_wp2;go_ret;exact Ret.bool (by simpa using EI HE.out (by rw [← L1.out];omega) (by rw [← L2.out];omega)) hb
 ·go_enter Tryz.func271,Tryz.ntmps271;go_wp2;go_ret;exact Ret.bool (by simp;intro e;exact hl (by rw [L1.out,L2.out,e])) (Bw.refl _)
set_option maxHeartbeats 400000 in
theorem aN (w:World) (xs ys:List kA) (v1 v2:Value) (h1:Rd RA w xs [v1]) (h2:Rd RA w ys [v2]) :
  Calls Tryz.prog 236 #[v1,v2] w (Ret w (.bool (decide (xs=ys)))):=by
 go_enter Tryz.func236,Tryz.ntmps236;go_wp2_with fail;refine (sK _ xs ys _ _ h1 h2).mono ?_;rintro e w2 ⟨rfl,hb2⟩;go_wp2;go_ret;exact Ret.bool (rfl) (hb2)
end Go.Proofs.YtpihighajaeabaaGreat
namespace Go.Proofs.YtpihighajaeabaaGreat
open Go.RowKit
set_option linter.unusedVariables false
set_option linter.unusedSimpArgs false
def aC:Fp tA:=fun w x cs F=>∃va vb vc Fa Fb Fc,cs=[va,vb,vc,.int .i64 x.tests]∧fD w x.items [va] Fa∧EC w x.wanted [vb] Fb∧ZA w x.best [vc] Fc∧F=Fa++(Fb++Fc)
end Go.Proofs.YtpihighajaeabaaGreat
namespace Go.Proofs.YtpihighajaeabaaGreat
open Go.RowKit
set_option linter.unusedVariables false
end Go.Proofs.YtpihighajaeabaaGreat
namespace Go.Proofs.YtpihighajaeabaaGreat
open Go.RowKit
set_option linter.unusedVariables false
end Go.Proofs.YtpihighajaeabaaGreat
namespace Go.Proofs.YtpihighajaeabaaGreat
open Go.RowKit
set_option linter.unusedVariables false
end Go.Proofs.YtpihighajaeabaaGreat
namespace Go.Proofs.YtpihighajaeabaaGreat
open Go.RowKit
set_option linter.unusedVariables false
end Go.Proofs.YtpihighajaeabaaGreat
namespace Go.Proofs.YtpihighajaeabaaGreat
open Go.RowKit
set_option linter.unusedVariables false
set_option linter.unusedSimpArgs false
theorem oD {B : Nat} : VB B aC :=
  ⟨fun hw ⟨v, u, t, G, H, I, e, h, k, l, hF⟩ => ⟨v, u, t, G, H, I, e, yA.step (fun b hb => hw b (hb.imp (fun hb => by rw [hF]; exact List.mem_append_left _ hb) id)) h, nA.step (fun b hb => hw b (hb.imp (fun hb => by rw [hF]; exact List.mem_append_right _ (List.mem_append_left _ hb)) id)) k, aA.step (fun b hb => hw b (hb.imp (fun hb => by rw [hF]; exact List.mem_append_right _ (List.mem_append_right _ hb)) id)) l, hF⟩,
   fun ⟨v, u, t, G, H, I, e, h, k, l, hF⟩ b hb => by
    rw [hF] at hb
    exact (List.mem_append.1 hb).elim ((yA (B := B)).lt h b) fun hb => (List.mem_append.1 hb).elim ((nA (B := B)).lt k b) ((aA (B := B)).lt l b),
   fun ⟨v, u, t, G, H, I, e, h, k, l, hF⟩ s hs => by
    rw [e] at hs
    simp at hs
    rcases hs with rfl | rfl | rfl | rfl
    · exact (yA (B := B)).one h _ (by simp)
    · exact (nA (B := B)).one k _ (by simp)
    · exact (aA (B := B)).one l _ (by simp)
    · rfl⟩
theorem BT {w:World} {x:tA} {a b c d:Value} {F:List Nat} (h:aC w x [a,b,c,d] F):Rd MA w x.items [a]∧Rd RA w x.wanted [b]∧Rd XA w x.best [c]∧d=.int .i64 x.tests:=by
 obtain ⟨v,u,t,G,H,I,e,h,k,l,hF⟩:=h;injection e with e1 e;injection e with e2 e;injection e with e3 e;injection e with e4 e;subst e1 e2 e3 e4;exact ⟨vC h,lC k,AA l,rfl⟩
theorem NC {w:World} {x:tA} {cs:List Value} {F:List Nat} (h:aC w x cs F):∃A1 c1 A2 c2 A3 c3,cs=[.slice A1 x.items.length c1,.slice A2 x.wanted.length c2,.slice A3 x.best.length c3,.int .i64 x.tests]:=by
 obtain ⟨v,u,t,G,H,I,e,h,k,l,hF⟩:=h;obtain ⟨A1,c1,rfl,_⟩:=aB (vC h);obtain ⟨A2,c2,rfl,_⟩:=aB (lC k);obtain ⟨A3,c3,rfl,_⟩:=aB (AA l);exact ⟨A1,c1,A2,c2,A3,c3,e⟩
def oJ (x:tA):Prop:=eC x.items≤1048576∧tC x.wanted≤1048576∧x.best.length≤1048576
end Go.Proofs.YtpihighajaeabaaGreat
namespace Go.Proofs.YtpihighajaeabaaGreat
open Go.RowKit
set_option linter.unusedVariables false
theorem CT {α:Type} {P:Program} {o:Oper} {a:Act} {K:Act→World→Prop} {Q:Exit→Act→World→Prop} (W:World) (s x:Operand) (t:TypeId)
  (ho:o.op=.call { callee:=.builtin .append,args:=#[s,x],argTypes:=#[t,t] })
  (w0:World) (e:TypeId) (i:TypeInfo) (z:Value) (sz bytes:Nat) (ht:P.underlying t=some (.slice e)) (hi:P.info? e=some i) (hz:i.zero=some z)
  (hsize:i.size=sz) (hby:i.bytes=bytes) (hzs:z.cells.size=sz) (hsz:0<sz)
  {R:Fp α} (hR:VB w0.heap.size R) (v:Value) (xs:List α) (F:List Nat) (hs:a.eval s=v) (hv:fSl e sz R W xs [v] F) (hF:pA w0.heap.size F)
  (sv:Value) (hx:a.eval x=sv) {R':Rep α} {S:XB} (ys:List α) (hsrc:rSl sz R' W S ys [sv]) (hRR:∀y u,R' W S y u→R W y u [])
  (hbytes:(xs.length+ys.length)*bytes≤140737488355328) (hlen:xs.length+ys.length<4611686018427387904) (hbw:Bw w0 W)
  (h:∀v' w' F',fSl e sz R w' (xs++ys) [v'] F'→pA w0.heap.size F'→Bw w0 w'→SB F W w'→(∀b∈F',b∈F∨W.heap.size≤b)→K (a.put o.dst v') w'):o.wp P a W K Q:=by
 obtain ⟨v0,us,Fs,hv0,hown,hall,hFe⟩:=hv;injection hv0 with hv0;subst hv0;obtain ⟨A,c,hsv,hc1,hc2,hk⟩:=hsrc;injection hsv with hsv;subst hsv;have hl:=EE hall;have hvg:∀k,v.ownBlock=some k→w0.heap.size≤k:=fun k hk=>hF.ge k (by rw [hFe];simp [hk])
 by_cases hy0:ys=[]∧A=none
 ·obtain ⟨rfl,rfl⟩:=hy0;have hrun:=iF (P:=P) W 0 t o.type e i sz ht hi v xs.length us.flatten hown c;unfold Oper.wp execOp;simp only [ho,resolve,invoke,builtin,Sem.run_bind,Sem.run_pure,Result.andThen_ok,List.map_toArray,List.map_cons,List.map_nil,hs,hx];rw [show (List.length ([]:List α))=0 from rfl,hrun];exact (h v W F (by rw [List.append_nil];exact ⟨v,us,Fs,rfl,hown,hall,hFe⟩) hF hbw (SB.refl F W) (fun b hb=>.inl hb))
 ·obtain ⟨vs,hvl,hvs⟩:=gJ (P:=fun k y u=>∃b o,A=some ⟨b,o,none⟩∧u.length=sz∧(∀j t,u[j]? = some t→W.cell? ⟨b,o+k*sz+j,none⟩=some t)∧R' W S y u) (ys:=ys) (fun k y hy=>by
   obtain ⟨b,o,u,e,_,hul,hcl,hr⟩:=hk k y hy;exact ⟨u,b,o,e,hul,hcl,hr⟩)
  have hvsl:∀u∈vs,u.length=sz:=fun u hu=>by
   obtain ⟨k,hku⟩:=List.mem_iff_getElem?.1 hu;obtain ⟨y,hy⟩:∃y,ys[k]? = some y:=⟨_,List.getElem?_eq_getElem (by rw [← hvl];exact (List.getElem?_eq_some_iff.1 hku).1)⟩;obtain ⟨u',hu',_,_,_,hul,_⟩:=hvs k y hy;rw [hku] at hu';injection hu' with hu';rw [hu'];exact hul
  have hR0:∀k y u,ys[k]? = some y→vs[k]? = some u→R W y u []:=fun k y u hy hu=>by
   obtain ⟨u',hu',_,_,_,_,_,hr⟩:=hvs k y hy;rw [hu] at hu';injection hu' with hu';subst hu';exact hRR _ _ hr
  obtain ⟨ad,had⟩:∃ad,A=some ad:=by
   cases hA:A with
   | some ad=>exact ⟨ad,rfl⟩
   | none=>
    exfalso
    apply hy0;refine ⟨?_,hA⟩
    cases hys:ys with
    | nil=>rfl
    | cons y l=>
     obtain ⟨b,o,_,e,_⟩:=hk 0 y (by rw [hys];rfl);rw [hA] at e;cases e
  have hnews:∀j u,vs.flatten[j]? = some u→W.cell? (ad.add j)=some u:=by
   intro j u hj;have hjl:j<vs.length*sz:=by rw [← GE hvsl];exact (List.getElem?_eq_some_iff.1 hj).1
   have hkk:j / sz<vs.length:=Nat.div_lt_of_lt_mul (by rw [Nat.mul_comm];exact hjl);obtain ⟨y,hy⟩:∃y,ys[j / sz]? = some y:=⟨_,List.getElem?_eq_getElem (by rw [← hvl];exact hkk)⟩;obtain ⟨u',hu',b,o,e,hul,hcl,_⟩:=hvs _ y hy;have hm:j % sz<sz:=Nat.mod_lt _ hsz;have hf:=sF hvsl hu' hm;have hdm:j / sz*sz+j % sz=j:=by rw [Nat.mul_comm];exact Nat.div_add_mod j sz
   rw [hdm,hj] at hf;have:=hcl _ _ hf.symm;rw [e] at had;injection had with had;subst had;have ea:(⟨b,o,none⟩:Addr).add j=⟨b,o+j / sz*sz+j % sz,none⟩:=by
    unfold Addr.add
    split
    ·rename_i h0;subst h0;simp
    ·simp only [Addr.mk.injEq,true_and,and_true];omega
   rw [ea];exact this
  have hone:∀u∈vs.flatten,u.oneCell'=true:=fun u hu=>by
   obtain ⟨l,hl',hul⟩:=List.mem_flatten.1 hu;obtain ⟨k,hku⟩:=List.mem_iff_getElem?.1 hl';obtain ⟨y,hy⟩:∃y,ys[k]? = some y:=⟨_,List.getElem?_eq_getElem (by rw [← hvl];exact (List.getElem?_eq_some_iff.1 hku).1)⟩;exact hR.one (hR0 k y l hy hku) u hul
  obtain ⟨v',w',hrun,hown',hgrow,_,hat⟩:=run_append_own_at (P:=P) W 0 t o.type e i z sz bytes ht hi hz hsize hby hzs hsz v xs.length us.flatten hown ad ys.length c vs.flatten (by rw [GE hvsl,hvl]) hnews hone
   (by simp only [maxLen];omega) hbytes (Nat.zero_le _)
  have hbw':Bw w0 w':=hbw.grown hgrow hvg;have hvF:∀b,b∈Fs.flatten→some b≠v.ownBlock:=by
   intro b hb e;have hn:=hF.nodup;rw [hFe,List.nodup_append] at hn;exact hn.2.2 b (by simp [← e]) b hb rfl
  have hlts:∀b∈Fs.flatten,b<W.heap.size:=fun b hb=>(xB hR).lt (⟨v,us,Fs,rfl,hown,hall,rfl⟩:fSl e sz R W xs [v] _) b (List.mem_append_right _ hb)
  have hold:∀b,b<w0.heap.size→w'.heap[b]? = W.heap[b]?:=fun b hb=>hgrow.block b (Nat.lt_of_lt_of_le hb hbw.size) (fun e=>by have:=hvg b e.symm;omega)
  unfold Oper.wp execOp;simp only [ho,resolve,invoke,builtin,Sem.run_bind,Sem.run_pure,Result.andThen_ok,List.map_toArray,List.map_cons,List.map_nil,hs,hx,had,hrun];have hrep:(List.replicate ys.length ([]:List Nat)).flatten=[]:=by simp
  refine (h v' w' (v'.ownBlock.toList++(Fs++List.replicate ys.length []).flatten) ⟨v',us++vs,Fs++List.replicate ys.length [],rfl,?_,?_,rfl⟩ ⟨?_,?_⟩ hbw' ⟨hgrow.size,fun b hb hn=>hgrow.block b hb (fun e=>hn (by rw [hFe];simp [← e]))⟩ ?_)
  ·rw [List.length_append,List.flatten_append];exact hown'
  ·refine AG (rF (fun x u f' hf' hx=>⟨hR.step (fun b hb=>?_) hx.1,hx.2⟩) hall) (EQ (by rw [hvl]) fun k y u hy hu=>⟨hR.step (fun b hb=>?_) (hR0 k y u hy hu),hvsl u (List.mem_iff_getElem?.2 ⟨k,hu⟩)⟩)
   ·rcases hb with hb | hb
    ·have hb':b∈Fs.flatten:=List.mem_flatten.2 ⟨_,hf',hb⟩;exact hgrow.block b (hlts b hb') (hvF b hb')
    ·exact hold b hb
   ·rcases hb with hb | hb
    ·simp at hb
    ·exact hold b hb
  ·rw [List.flatten_append,hrep,List.append_nil,List.nodup_append];have hn:=hF.nodup;rw [hFe,List.nodup_append] at hn;refine ⟨by cases v'.ownBlock<;>simp,hn.2.1,fun p hp q hq e=>?_⟩;subst e;have hp':v'.ownBlock=some p:=by simpa using hp
   rcases hat with e | e
   ·exact hvF p hq (by rw [← e,hp'])
   ·rw [hp'] at e;injection e with e;have:=hlts p hq;omega
  ·intro b hb;rcases List.mem_append.1 hb with hb | hb
   ·have hb':v'.ownBlock=some b:=by simpa using hb
    rcases hat with e | e
    ·exact hvg b (by rw [← e,hb'])
    ·rw [hb'] at e;injection e with e;have:=hbw.size;omega
   ·rw [List.flatten_append,hrep,List.append_nil] at hb;exact hF.ge b (by rw [hFe];exact List.mem_append_right _ hb)
  ·intro b hb;rcases List.mem_append.1 hb with hb | hb
   ·have hb':v'.ownBlock=some b:=by simpa using hb
    rcases hat with e | e
    ·exact .inl (by rw [hFe];simp [← e,hb'])
    ·rw [hb'] at e;injection e with e;exact .inr (by omega)
   ·rw [List.flatten_append,hrep,List.append_nil] at hb;exact .inl (by rw [hFe];exact List.mem_append_right _ hb)
theorem bC {α:Type} {P:Program} {ops:Array Oper} {o:Oper} {a:Act} {K:Act→World→Prop} {Q:Exit→Act→World→Prop} {E:Prop} (W:World) (hgd:o.guard=none) (s x:Operand) (t:TypeId)
  (ho:o.op=.call { callee:=.builtin .append,args:=#[s,x],argTypes:=#[t,t] })
  (w0:World) (e:TypeId) (i:TypeInfo) (z:Value) (sz bytes:Nat) (ht:P.underlying t=some (.slice e)) (hi:P.info? e=some i) (hz:i.zero=some z)
  (hsize:i.size=sz) (hby:i.bytes=bytes) (hzs:z.cells.size=sz) (hsz:0<sz)
  {R:Fp α} (hR:VB w0.heap.size R) (v:Value) (xs:List α) (F:List Nat) (hs:a.eval s=v) (hv:fSl e sz R W xs [v] F) (hF:pA w0.heap.size F)
  (sv:Value) (hx:a.eval x=sv) {R':Rep α} {S:XB} (ys:List α) (hsrc:rSl sz R' W S ys [sv]) (hRR:∀y u,R' W S y u→R W y u [])
  (hbytes:(xs.length+ys.length)*bytes≤140737488355328) (hlen:xs.length+ys.length<4611686018427387904) (hbw:Bw w0 W)
  (h:∀v' w' F',fSl e sz R w' (xs++ys) [v'] F'→pA w0.heap.size F'→Bw w0 w'→SB F W w'→(∀b∈F',b∈F∨W.heap.size≤b)→K (a.put o.dst v') w'):if Region.wanted o (yielded ops a.tmps)=true then Oper.wp P o a W K Q else E:=by
 have hw:Region.wanted o (yielded ops a.tmps)=true:=by simp [Region.wanted,hgd]
 rw [if_pos hw];exact CT W s x t ho w0 e i z sz bytes ht hi hz hsize hby hzs hsz hR v xs F hs hv hF sv hx ys hsrc hRR hbytes hlen hbw h
end Go.Proofs.YtpihighajaeabaaGreat
namespace Go.Proofs.YtpihighajaeabaaGreat
open Go.RowKit
set_option linter.unusedVariables false
set_option maxHeartbeats 400000 in
theorem bN (w:World) (xs:List Int) (v:Value) (h:Rd XA w xs [v]) (hn:xs.length≤1048576):Calls Tryz.prog 96 #[v] w (BC w (pF ZA w.heap.size xs)):=by
 obtain ⟨i0,hi,hz0,hz1,hz2⟩:=info_parts PC;have hv0:=PA (e:=3) (sz:=1) (R:=RG) w;have B0:Bw w (w.alloc (.cells #[] 3)):=(Bw.refl w).alloc _;have hs:=h.bw dA B0;have hF0:pA w.heap.size [w.heap.size]:=⟨by simp,by simp⟩;go_enter Tryz.func96,Tryz.ntmps96;go_wp2_with (at_builtin;refine kD _ rfl (.tmp 3) (.tmp 4) 26 rfl w 3 i0 _ 1 8 Tryz.underlying26 hi hz0 hz1 hz2 rfl (by omega) nB _ [] [w.heap.size] rfl hv0 hF0 _ rfl xs hs (fun y u h=>⟨h,rfl⟩) (by simp;omega) (by simp;omega) B0 ?_;intro v' w' F' hv' hF' hb');go_ret;exact ⟨_,rfl,⟨F',by simpa using hv',hF'⟩,hb'⟩
set_option maxRecDepth 100000 in
set_option maxHeartbeats 400000 in
theorem bAn (w:World) (x:gA) (v:Value) (h:Rd XA w x.vals [v]) (hn:x.vals.length≤1048576):Calls Tryz.prog 146 #[.int .i64 x.id,v] w (bAc w x):=by
 obtain ⟨i0,hi,hz0,hz1,hz2⟩:=info_parts PC;have A0:Bw w (w.alloc (.cells #[.int .i64 0,.slice none 0 0] 30)):=(Bw.refl w).alloc _;have B0:Bw (w.alloc (.cells #[.int .i64 0,.slice none 0 0] 30)) ((w.alloc (.cells #[.int .i64 0,.slice none 0 0] 30)).alloc (.cells #[] 3)):=(Bw.refl _).alloc _;have hv0:=PA (e:=3) (sz:=1) (R:=RG) (w.alloc (.cells #[.int .i64 0,.slice none 0 0] 30));have hF0:pA (w.alloc (.cells #[.int .i64 0,.slice none 0 0] 30)).heap.size [w.heap.size+1]:=⟨by simp,by simp⟩;rw [show (w.alloc (.cells #[.int .i64 0,.slice none 0 0] 30)).heap.size=w.heap.size+1 from by simp] at hv0;have hs:=h.bw dA (A0.then B0);go_enter Tryz.func146,Tryz.ntmps146;go_wp2_with (at_builtin;refine kD _ rfl (.tmp 6) (.tmp 7) 26 rfl (w.alloc (.cells #[.int .i64 0,.slice none 0 0] 30)) 3 i0 _ 1 8 Tryz.underlying26 hi hz0 hz1 hz2 rfl (by omega) nB _ [] _ rfl hv0 hF0 _ rfl x.vals hs (fun y u h=>⟨h,rfl⟩) (by simp;omega) (by simp;omega) B0 ?_;intro v' w' F' hv' hF' hb';rw [List.nil_append] at hv';obtain ⟨A',c',rfl,_⟩:=aB (AA hv');have hc:=rG hb';have hf:=kC hb');refine bodyPost_ret (v:=.agg #[.int .i64 x.id,.slice A' x.vals.length c']) (by simp [results,Tryz.results146,go_sem,hc]) rfl ⟨_,rfl,⟨F',?_,⟨hF'.nodup,fun b hb=>by have:=hF'.ge b hb;simp at this;omega⟩⟩,?_⟩
 ·refine (aA (B:=0)).step (fun b hb=>?_) hv';rcases hb with hb | hb
  ·have:=hF'.ge b hb;simp at this
   repeat rw [Below.heap_setCell _ _ _ _ (by dsimp only;omega)]
  ·omega
 ·repeat (first | exact A0.then hb' | refine Bw.set ?_ (by dsimp only;omega) _)
set_option maxRecDepth 100000 in
set_option maxHeartbeats 800000 in
theorem cN (w:World) (x:gA) (v:Value) (h:Rd XA w x.vals [v]) (hn:x.vals.length≤1048576):Calls Tryz.prog 80 #[.agg #[.int .i64 x.id,v]] w (bAc w x):=by
 have A0:Bw w ((w.alloc (.cells #[.int .i64 x.id,v] 30)).alloc (.cells #[.int .i64 0,.slice none 0 0] 30)).drew:=(((Bw.refl w).alloc _).alloc _).drew;have hs:=h.bw dA A0;obtain ⟨W,hW⟩:∃W,W=((w.alloc (.cells #[.int .i64 x.id,v] 30)).alloc (.cells #[.int .i64 0,.slice none 0 0] 30)).drew:=⟨_,rfl⟩;have k0:W.cell? ⟨w.heap.size,0,none⟩=some (.int .i64 x.id):=by rw [hW];go_simp
 have k1:W.cell? ⟨w.heap.size,1,none⟩=some v:=by rw [hW];go_simp
 have k2:W.cell? ⟨w.heap.size+1,0,none⟩=some (.int .i64 0):=by rw [hW];go_simp
 have k3:W.cell? ⟨w.heap.size+1,1,none⟩=some (.slice none 0 0):=by rw [hW];go_simp
 have hsz:W.heap.size=w.heap.size+2:=by rw [hW];simp
 have HSZ:=Lib.hid hsz;have hfr:=fun o (w2:World) (hb:Bw W w2)=>kC hb (w.heap.size+1) o (by rw [hsz];omega)
 have hfW:∀o,W.frozen? ⟨w.heap.size+1,o,none⟩=false:=fun o=>by rw [hW];go_simp
 rw [← hW] at A0 hs;have HW:=Lib.hid hW;clear hW hsz;go_enter Tryz.func80,Tryz.ntmps80;go_wp2
 go_region_held3 (fun w'=>w'.cell? ⟨w.heap.size,0,none⟩=some (.int .i64 x.id)∧w'.cell? ⟨w.heap.size,1,none⟩=some v) (first | go_keep | exact ⟨k0,k1⟩)
  (first
   | (go_at_call 96;rw [← HW.out];refine (bN _ x.vals _ hs hn).mono ?_;rintro e w2 ⟨v2,rfl,⟨F2,o2,f2⟩,hb2⟩;obtain ⟨A2,c2,rfl,_⟩:=aB (AA o2);replace k0:=hb2.cell k0;replace k1:=hb2.cell k1;replace k2:=hb2.cell k2;replace k3:=hb2.cell k3;have hf2:=fun o=>(hfr o w2 hb2).trans (hfW o)))
 go_wp2;have hFz:∀b∈F2,w.heap.size+2≤b:=fun b hb=>by have:=f2.ge b hb;rw [HSZ.out] at this;exact this
 refine bodyPost_ret (v:=.agg #[.int .i64 x.id,.slice A2 x.vals.length c2]) (by simp [results,Tryz.results80,go_sem,k2,k3]) rfl ⟨_,rfl,⟨F2,?_,⟨f2.nodup,fun b hb=>by have:=hFz b hb;omega⟩⟩,?_⟩
 ·refine (aA (B:=0)).step (fun b hb=>?_) o2;rcases hb with hb | hb
  ·have:=hFz b hb
   repeat rw [Below.heap_setCell _ _ _ _ (by dsimp only;omega)]
  ·omega
 ·repeat (first | exact A0.then hb2 | refine Bw.set ?_ (by dsimp only;omega) _)
theorem iI {α:Type} {l:List α} {k:Nat} {x:α} (h:l[k]? = some x):l.take (k+1)=l.take k++[x]:=by rw [List.take_add_one,h];rfl
set_option maxRecDepth 100000 in
set_option maxHeartbeats 1600000 in
theorem QP (w:World) (xs:List gA) (v:Value) (h:Rd MA w xs [v]) (ht:eC xs≤1048576):Calls Tryz.prog 107 #[v] w (BC w (pF fD w.heap.size xs)):=by
 have hn:xs.length≤1048576:=by unfold eC at ht;omega
 have hnn:∀x∈xs,x.vals.length≤1048576:=fun x hx=>by have:=jV (fun x:gA=>x.vals.length) hx;unfold eC at ht;omega
 clear ht;obtain ⟨i0,hi,hz0,hz1,hz2⟩:=info_parts ZE;obtain ⟨A,n,c,rfl,a1,a2,a3⟩:=iA h;rw [← a1] at hn;have L1:=Lib.hid a1;clear a1;have hv0:=PA (e:=30) (sz:=2) (R:=BG) w;go_enter Tryz.func107,Tryz.ntmps107;go_wp2
 go_loopw [3,9] (fun s i w'=>∃(k:Nat) (F:List Nat),k≤n∧i=.int .i64 k∧fD w' (xs.take k) [s] F∧pA w.heap.size F∧Bw w w') (fun s i _=>n-(intOf i).toNat)
 case atStart=>exact ⟨0,_,by omega,rfl,hv0,⟨by simp,by simp⟩,(Bw.refl _).alloc _⟩
 case round=>
  obtain ⟨k,F,hk,rfl,hv,hF,hb⟩:=hrel;by_cases hlt:k<n
  ·obtain ⟨x,hx⟩:=rA (xs:=xs) (k:=k) (by rw [← L1.out];exact hlt);have hxm:=hnn x (List.mem_of_getElem? hx);obtain ⟨ba,oa,A',c',rfl,_,hcx,hcx1,hin⟩:=mB (h.bw jA hb) hx;have HS:=Lib.hid (iI hx);have hkl:(xs.take k).length=k:=by rw [List.length_take];have:=L1.out;omega
   have HK:=Lib.hid hkl;have A1:Bw wr (wr.alloc (.cells #[.int .i64 x.id,.slice A' x.vals.length c'] 30)):=(Bw.refl wr).alloc _;clear hx h hnn hv0 hkl;go_wp2_with fail;refine (cN _ x _ (Rd.bw dA hin A1) hxm).mono ?_;rintro e w1 ⟨v1,rfl,⟨F1,o1,f1⟩,hb1⟩;have hb1':=A1.then hb1;have hv1:=(yA (B:=w.heap.size)).bw hb1' hb.size hv;have hFm:=(yA (B:=0)).lt hv;have hbb:=hb.then hb1';obtain ⟨Av,cv,rfl,_⟩:=aB (AA o1);have hvW:=(yA (B:=w.heap.size)).bw ((Bw.refl w1).alloc (.cells #[.int .i64 x.id,.slice Av x.vals.length cv] 30)) hbb.size hv1;have oW:=(aA (B:=w.heap.size)).bw ((Bw.refl w1).alloc (.cells #[.int .i64 x.id,.slice Av x.vals.length cv] 30)) hbb.size o1;have hbW:=hbb.alloc (.cells #[.int .i64 x.id,.slice Av x.vals.length cv] 30);have f1':pA wr.heap.size F1:=f1.mono A1.size;have hcl:∀j t,[Value.int .i64 x.id,.slice Av x.vals.length cv][j]? = some t→(w1.alloc (.cells #[.int .i64 x.id,.slice Av x.vals.length cv] 30)).cell? ((⟨w1.heap.size,0,none⟩:Addr).add j)=some t:=World.news_of_block (cs:=#[.int .i64 x.id,.slice Av x.vals.length cv]) (t:=30) (fr:=(0,0)) (heap_alloc_new w1 _);clear hv hv1 hcx hcx1 hin o1 f1;go_wp2_with (at_builtin;refine rB _ rfl (.tmp 13) (.tmp 16) 24 rfl w 30 i0 _ 2 32 Tryz.underlying24 hi hz0 hz1 hz2 rfl (by omega) YB _ (xs.take k) F rfl hvW hF ⟨w1.heap.size,0,none⟩ 1 rfl x [.int .i64 x.id,.slice Av x.vals.length cv] F1 hcl ⟨_,rfl,oW⟩ rfl wr.heap.size hFm f1' hb.size (by rw [HK.out];omega) (by rw [HK.out];omega) hbW ?_;intro v' w' F' hv' hF' hb')
   go_roundw
   case rel=>exact ⟨k+1,F',by omega,by go_num,by rw [HS.out];exact hv',hF',hb'⟩
   case measure=>simp [intOf];omega
  ·obtain rfl:k=n:=by omega
   rw [List.take_of_length_le (by rw [← L1.out];exact Nat.le_refl _)] at hv;go_wp2;go_ret;exact ⟨_,rfl,⟨F,hv,hF⟩,hb⟩
set_option maxRecDepth 100000 in
set_option maxHeartbeats 3200000 in
theorem fAg (w:World) (xs:List gA) (v:Value) (h:Rd MA w xs [v]) (ht:eC xs≤1048576):Calls Tryz.prog 109 #[v] w (BC w (pF fD w.heap.size xs)):=by
 have hn:xs.length≤1048576:=by unfold eC at ht;omega
 have hnn:∀x∈xs,x.vals.length≤1048576:=fun x hx=>by have:=jV (fun x:gA=>x.vals.length) hx;unfold eC at ht;omega
 clear ht;obtain ⟨i0,hi,hz0,hz1,hz2⟩:=info_parts ZE;obtain ⟨A,n,c,rfl,a1,a2,a3⟩:=iA h;rw [← a1] at hn;have L1:=Lib.hid a1;clear a1;have hv0:=PA (e:=30) (sz:=2) (R:=BG) w;go_enter Tryz.func109,Tryz.ntmps109;go_wp2
 go_loopw [3,4] (fun s i w'=>∃(k:Nat) (F:List Nat),k≤n∧i=.int .i64 k∧fD w' (xs.take k) [s] F∧pA w.heap.size F∧Bw w w') (fun s i _=>n-(intOf i).toNat)
 case atStart=>exact ⟨0,_,by omega,rfl,hv0,⟨by simp,by simp⟩,(Bw.refl _).alloc _⟩
 case round=>
  obtain ⟨k,F,hk,rfl,hv,hF,hb⟩:=hrel;by_cases hlt:k<n
  ·obtain ⟨x,hx⟩:=rA (xs:=xs) (k:=k) (by rw [← L1.out];exact hlt);have hxm:=hnn x (List.mem_of_getElem? hx);obtain ⟨ba,oa,A',c',rfl,_,hc0,hc1,hin⟩:=mB h hx;have hcx:=hb.cell hc0;have hcx1:=hb.cell hc1;have HS:=Lib.hid (iI hx);have hkl:(xs.take k).length=k:=by rw [List.length_take];have:=L1.out;omega
   have HK:=Lib.hid hkl;have i1:(0:Int)≤(k:Int):=by omega
   have i2:(k:Int)<(n:Int):=by omega
   have hin':Rd XA wr.drew x.vals [.slice A' x.vals.length c']:=Rd.bw dA hin hb.drew;have D1:Bw wr wr.drew:=(Bw.refl wr).drew;clear hx h hnn hv0 hkl;have hFm:=(yA (B:=0)).lt hv;go_wp2_with fail
   go_region_held3 (fun w'=>w'.cell? ⟨ba,oa+k*2,none⟩=some (.int .i64 x.id)∧w'.cell? ⟨ba,oa+k*2+1,none⟩=some (.slice A' x.vals.length c')) (first | go_keep | exact ⟨hcx,hcx1⟩ | exact ⟨hAl.cell hcx,hAl.cell hcx1⟩ | exact ⟨hb'.cell hc0,hb'.cell hc1⟩ | fail)
    (first
     | (go_at_call 146;refine (bAn _ x _ hin' hxm).mono ?_;rintro e w1 ⟨v1,rfl,⟨F1,o1,f1⟩,hb1⟩;obtain ⟨Av,cv,rfl,_⟩:=aB (AA o1);replace hcx:=hb1.cell hcx;replace hcx1:=hb1.cell hcx1;have hb1':=D1.then hb1;have hbb:=hb.then hb1';have hv1:=(yA (B:=w.heap.size)).bw hb1' hb.size hv;have hAl:=(Bw.refl w1).alloc (.cells #[.int .i64 x.id,.slice Av x.vals.length cv] 30);have hvW:=(yA (B:=w.heap.size)).bw hAl hbb.size hv1;have oW:=(aA (B:=w.heap.size)).bw hAl hbb.size o1;have hbW:=hbb.then hAl;have f1':pA wr.heap.size F1:=f1.mono (by simp);have hcl:∀j t,[Value.int .i64 x.id,.slice Av x.vals.length cv][j]? = some t→(w1.alloc (.cells #[.int .i64 x.id,.slice Av x.vals.length cv] 30)).cell? ((⟨w1.heap.size,0,none⟩:Addr).add j)=some t:=World.news_of_block (cs:=#[.int .i64 x.id,.slice Av x.vals.length cv]) (t:=30) (fr:=(0,0)) (heap_alloc_new w1 _))
     | (refine KO _ (by rfl) (.tmp 12) (.tmp 24) 24 (by rfl) w 30 i0 _ 2 32 Tryz.underlying24 hi hz0 hz1 hz2 rfl (by omega) YB _ (xs.take k) F (by rfl) hvW hF ⟨w1.heap.size,0,none⟩ 1 (by rfl) x [.int .i64 x.id,.slice Av x.vals.length cv] F1 hcl ⟨_,rfl,oW⟩ rfl wr.heap.size hFm f1' hb.size (by rw [HK.out];omega) (by rw [HK.out];omega) hbW ?_;intro v' w' F' hv' hF' hb')
     | fail)
   go_wp2
   go_roundw
   case rel=>exact ⟨k+1,F',by omega,by go_num,by rw [HS.out];exact hv',hF',hb'⟩
   case measure=>simp [intOf];omega
  ·obtain rfl:k=n:=by omega
   rw [List.take_of_length_le (by rw [← L1.out];exact Nat.le_refl _)] at hv;go_wp2;go_ret;exact ⟨_,rfl,⟨F,hv,hF⟩,hb⟩
end Go.Proofs.YtpihighajaeabaaGreat
