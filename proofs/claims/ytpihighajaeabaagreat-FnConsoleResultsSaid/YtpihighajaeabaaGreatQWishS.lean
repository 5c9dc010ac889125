/- Valid wishes in the reference. -/
import Derived.Test.YtpihighajaeabaaGreatQAbove
import Derived.Deep.WholeRow
import Derived.Test.YtpihighajaeabaaGreatQReach
import Derived.Test.YtpihighajaeabaaGreatQOwn2
namespace Go.Proofs.YtpihighajaeabaaGreat
open Go.RowKit
set_option linter.unusedVariables false
set_option maxRecDepth 100000 in
set_option maxHeartbeats 3200000 in
theorem XQ (w:World) (l:List lB) (v:Value) (h:Rd RB w l [v]):Calls Tryz.prog 237 #[v] w (Ret w (.bool (yB l))):=by
 obtain ⟨A,n,c,rfl,L0,Lc,Lm⟩:=iA h;unfold maxLen at Lm;have L:=Lib.hid L0;clear L0;go_enter Tryz.func237,Tryz.ntmps237;go_wp2
 go_loopg [9] n (fun g i w'=>∃k:Nat,k≤n∧g=n-k∧i=.int .i64 k∧Hid (rD l=rD (l.drop k))∧Bw w w')
 case atStart=>exact ⟨0,by omega,rfl,rfl,Lib.hid rfl,Bw.refl _⟩
 case round=>
  obtain ⟨k,hk,rfl,rfl,HE,hb⟩:=hrel;by_cases hlt:k<n
  ·obtain ⟨y,hy⟩:=rA (xs:=l) (k:=k) (by have:=L.out;omega);obtain ⟨ba,oa,rfl,_,hc0,hc1⟩:=YE h hy;have hx0:=hb.cell hc0;have hx1:=hb.cell hc1;have HS:=Lib.hid (KN hy);have A1:Bw wr (wr.alloc (.cells #[.int .i64 y.fst,.int .i64 y.snd] 214)):=(Bw.refl wr).alloc _;clear hy h;go_wp2_with fail;refine (JC _ _ _ _).mono ?_;rintro e w2 ⟨rfl,hb2⟩;have q1:w2.cell? ⟨wr.heap.size,1,none⟩=some (.int .i64 y.snd):=hb2.cell (by go_simp);have hbb:=hb.then (A1.then hb2);rcases Bool.eq_false_or_eq_true (inB y.fst 0 9) with e1 | e1
   ·have E1:=Lib.hid e1;rw [show inB y.fst 0 9=true from E1.out];clear e1;go_wp2_with fail;refine (JC _ _ _ _).mono ?_;rintro e w3 ⟨rfl,hb3⟩;have hbc:=hbb.then hb3;rcases Bool.eq_false_or_eq_true (inB y.snd 0 9) with e2 | e2
    ·have E2:=Lib.hid e2;rw [show inB y.snd 0 9=true from E2.out];clear e2;go_wp2
     go_roundg (n-(k+1))
     case measure=>omega
     case rel=>exact ⟨k+1,by omega,rfl,by go_num,Lib.hid (by rw [HE.out,HS.out,E1.out,E2.out];simp),hbc⟩
    ·have E2:=Lib.hid e2;rw [show inB y.snd 0 9=false from E2.out];clear e2;go_wp2;go_ret;exact Ret.bool (by rw [yB,HE.out,HS.out,E1.out,E2.out];simp) hbc
   ·have E1:=Lib.hid e1;rw [show inB y.fst 0 9=false from E1.out];clear e1;go_wp2;go_ret;exact Ret.bool (by rw [yB,HE.out,HS.out,E1.out];simp) hbb
  ·obtain rfl:k=n:=by omega
   have HT:=Lib.hid (show rD l=true by rw [HE.out,List.drop_of_length_le (by rw [← L.out];exact Nat.le_refl _)];rfl);have HM:=Lib.hid (show yB l=(decide (k≤8) && (List.range' 0 (10-0)).all (fun v=>!AC l (v:Int) (v:Int))) by
    unfold yB;rw [HT.out,List.range_eq_range',← L.out];simp)
   go_wp2_with fail;refine (bAh _ l _ (h.bw DA hb) HT.out).mono ?_;rintro e w2 ⟨rfl,hb2⟩;have hbb:=hb.then hb2;obtain ⟨B,hB⟩:∃B,B=FC (IK l) 10:=⟨_,rfl⟩;rw [← hB];have HB:=Lib.hid (show ∀v:Nat,AC l (v:Int) (v:Int)=B v v from fun v=>by rw [hB];rfl);have hmi:=VQ;rw [← eE B] at hmi;have hzz:Tryz.zeroCells228.size=(yC B).size:=by rw [eE];kernel_rfl
   have RR:Row (w2.alloc (.cells (yC B) 228)) w2.heap.size 228 (yC B):=heap_alloc_new _ _;have hbW:=hbb.alloc (.cells (yC B) 228);have hg0:(w2.alloc (.cells Tryz.zeroCells228 228)).heap[w2.heap.size]? = some (.cells Tryz.zeroCells228 228 (0,0)):=heap_alloc_new _ _;have hset:(w2.alloc (.cells Tryz.zeroCells228 228)).setRow w2.heap.size (yC B)=w2.alloc (.cells (yC B) 228):=World.setRow_alloc_new w2 _ _ _;clear hB HE;go_wp2_with (first | (refine wpList_store_row rfl 228 (.tmp 5) (.tmp 25) rfl w2.heap.size (yC B) rfl rfl 228 Tryz.zeroCells228 hg0 hmi hzz (sI _) ?_;rw [hset]));clear hmi hzz hg0 hset
   go_loopg [26] 10 (fun g i w'=>∃v:Nat,v≤10∧g=10-v∧i=.int .i64 v∧Hid (yB l=(decide (k≤8) && (List.range' v (10-v)).all (fun v=>!AC l (v:Int) (v:Int))))∧Row w' w2.heap.size 228 (yC B)∧Bw w w')
   case atStart=>exact ⟨0,by omega,rfl,rfl,HM,RR,hbW⟩
   case round=>
    clear HM RR hbW;obtain ⟨v,hv,rfl,rfl,HE,R,hbw⟩:=hrel;by_cases hlt1:v<10
    ·have v1:(v:Int)<10:=by omega
     have hc:=R.cell (v*10+v);rw [PH hlt1 hlt1] at hc;have HS:=Lib.hid (ZK (fun v=>!AC l (v:Int) (v:Int)) hlt1);have HBv:=Lib.hid (HB.out v);rcases Bool.eq_false_or_eq_true (B v v) with e2 | e2
     ·rw [e2] at hc;have E2:=Lib.hid e2;clear e2;go_wp2;go_ret;exact Ret.bool (by rw [HE.out,HS.out,HBv.out,E2.out];simp) hbw
     ·rw [e2] at hc;have E2:=Lib.hid e2;clear e2;go_wp2
      go_roundg (10-(v+1))
      case measure=>omega
      case rel=>exact ⟨v+1,by omega,rfl,by go_num,Lib.hid (by rw [HE.out,HS.out,HBv.out,E2.out];simp),R,hbw⟩
    ·obtain rfl:v=10:=by omega
     have HF:=Lib.hid (show yB l=decide (k≤8) by rw [HE.out];simp);clear HE;go_wp2;go_ret;exact Ret.bool (by rw [HF.out];simp;omega) hbw
end Go.Proofs.YtpihighajaeabaaGreat
namespace Go.Proofs.YtpihighajaeabaaGreat
open Go.RowKit
set_option linter.unusedVariables false
def rC:Option Int→List Int→Bool
 | _,[]=>true
 | none,v::l=>inB v 0 9 && rC (some v) l
 | some p,v::l=>(inB v 0 9 && decide (p<v)) && rC (some v) l
def II (l:List Int) (k:Nat):Option Int:=match k with | 0=>none | k+1=>l[k]?
theorem SM {l:List Int} {k:Nat} {x:Int} (h:l[k]? = some x):II l (k+1)=some x:=h
theorem VT {l:List Int} {x:Int} (h:l[0]? = some x):rC (II l 0) (l.drop 0)=(inB x 0 9 && rC (II l 1) (l.drop 1)):=by
 rw [SM h,NB h];rfl
theorem eAs {l:List Int} {k:Nat} {x y:Int} (hy:l[k]? = some y) (h:l[k+1]? = some x):rC (II l (k+1)) (l.drop (k+1))=((inB x 0 9 && decide (y<x)) && rC (II l (k+1+1)) (l.drop (k+1+1))):=by
 rw [SM hy,SM h,NB h];rfl
theorem kJ:∀ {l:List Int} {p:Option Int} {v:Int},rC p l=true→v∈l→0≤v∧v≤9
 | u::l,none,v,h,hv=>by
  simp only [rC,Bool.and_eq_true] at h;rcases List.mem_cons.1 hv with rfl | hv
  ·exact qC.1 h.1
  ·exact kJ h.2 hv
 | u::l,some p,v,h,hv=>by
  simp only [rC,Bool.and_eq_true] at h;rcases List.mem_cons.1 hv with rfl | hv
  ·exact qC.1 h.1.1
  ·exact kJ h.2 hv
def gB (w:eB):Bool:=
 inB w.field 0 2 && (inB w.kind 0 4 && (inB w.value 0 9 && (rC none w.list && ((decide (w.kind=2) || decide (w.value=0)) && ((decide (w.kind=3)==decide (0<w.list.length)) &&
  (if w.kind=4 then yB w.pairs else decide (w.pairs.length=0)))))))
def iD (w:eB) (v:Int):Int:=
 if w.kind=0 then v else if w.kind=1 then 9-v else if w.kind=2 then max (v-w.value) (w.value-v) else if w.list.contains v then 0 else 1
def iE (w:eB) (a b:Int):Int:=
 if w.kind=4 then (if a=b then 0 else if AC w.pairs a b then 1 else if AC w.pairs b a then -1 else 2)
 else if iD w a<iD w b then 1 else if iD w b<iD w a then -1 else 0
def kF (w:eB) (x y:gA):Int:=iE w (nE x w.field) (nE y w.field)
theorem WT (w:eB) (a b:Int) : -1≤iE w a b∧iE w a b≤2:=by
 unfold iE;repeat' split
 all_goals omega
def SA:eB:=⟨0,0,0,[],[]⟩
def zC (op:Int):Int:=if op=0 then 0 else if op=3 then 1 else 2
def LC (n:kA) (d:Int):Bool:=inB n.op 0 4 && (decide (zC n.op≤d) && if n.op=0 then gB n.wish else decide (n.wish=SA))
def KB:List kA→Int→Option Int
 | [],d=>some d
 | n::l,d=>if LC n d then KB l (d-zC n.op+1) else none
def bB (e:List kA):Bool:=decide (KB e 0=some 1) && decide (e.length≤9)
def RD (op a b:Int):Int:=
 if op=1 then (if a=2∨b=2∨a*b<0 then 2 else if a=0 then b else a) else if op=2 then (if a=0 then b else a) else if a=b then a else 2
def wH (a:Int):Int:=if a=2 then 2 else -a
def lE (x y:gA) (st:List Int) (n:kA):List Int:=
 if n.op=0 then st++[kF n.wish x y]
 else if n.op=3 then st.take (st.length-1)++[wH (st.getD (st.length-1) 0)]
 else st.take (st.length-2)++[RD n.op (st.getD (st.length-2) 0) (st.getD (st.length-1) 0)]
def CC (e:List kA) (x y:gA):Int:=(e.foldl (lE x y) []).getD 0 0
theorem NO {op a b:Int} (ha : -1≤a∧a≤2) (hb : -1≤b∧b≤2) : -1≤RD op a b∧RD op a b≤2:=by
 unfold RD;repeat' split
 all_goals omega
theorem OO {a:Int} (ha : -1≤a∧a≤2) : -1≤wH a∧wH a≤2:=by
 unfold wH;split<;>omega
end Go.Proofs.YtpihighajaeabaaGreat
namespace Go.Proofs.YtpihighajaeabaaGreat
open Go.RowKit
set_option linter.unusedVariables false
def nV (x:eB):Nat:=x.list.length+x.pairs.length
def kK (x:kA):Nat:=nV x.wish
def tC (xs:List kA):Nat:=xs.length+NH kK xs
section
variable {w:World} {S:XB} {A:Option Addr} {n c k:Nat}
theorem bE {xs:List kA} (h:RA w S xs [.slice A n c]) {x:kA} (hx:xs[k]? = some x):∃b o Al cl Ap cp,A=some ⟨b,o,none⟩∧S b ∧
  w.cell? ⟨b,o+k*6,none⟩=some (.int .i64 x.op)∧w.cell? ⟨b,o+k*6+1,none⟩=some (.int .i64 x.wish.kind)∧w.cell? ⟨b,o+k*6+2,none⟩=some (.int .i64 x.wish.field)∧w.cell? ⟨b,o+k*6+3,none⟩=some (.int .i64 x.wish.value) ∧
  w.cell? ⟨b,o+k*6+4,none⟩=some (.slice Al x.wish.list.length cl)∧w.cell? ⟨b,o+k*6+5,none⟩=some (.slice Ap x.wish.pairs.length cp)∧XA w S x.wish.list [.slice Al x.wish.list.length cl]∧RB w S x.wish.pairs [.slice Ap x.wish.pairs.length cp]:=by
 obtain ⟨b,o,us,e,hS,_,hc,us',rfl,v,u,rfl,hv,hu⟩:=RK h hx;obtain ⟨Al,cl,rfl,_⟩:=aB hv;obtain ⟨Ap,cp,rfl,_⟩:=aB hu;exact ⟨b,o,Al,cl,Ap,cp,e,hS,hc 0 _ rfl,hc 1 _ rfl,hc 2 _ rfl,hc 3 _ rfl,hc 4 _ rfl,hc 5 _ rfl,hv,hu⟩
theorem lK {xs:List (List kA)} (h:dD w S xs [.slice A n c]) {x:List kA} (hx:xs[k]? = some x):∃b o A' c',A=some ⟨b,o,none⟩∧S b ∧
  w.cell? ⟨b,o+k,none⟩=some (.slice A' x.length c')∧RA w S x [.slice A' x.length c']:=by
 obtain ⟨b,o,us,e,hS,_,hc,hv⟩:=RK h hx;obtain ⟨A',c',e',_⟩:=hv;subst e';exact ⟨b,o,A',c',e,hS,by simpa using hc 0 _ rfl,⟨A',c',rfl,by assumption⟩⟩
end
theorem AZ (x y:eB):decide (x=y)=(decide (x.kind=y.kind) && (decide (x.field=y.field) && (decide (x.value=y.value) && (decide (x.list=y.list) && decide (x.pairs=y.pairs))))):=by rw [Bool.eq_iff_iff];simp [eB.eq_iff]
theorem CZ (x y:kA):decide (x=y)=(decide (x.op=y.op) && decide (x.wish=y.wish)):=by rw [Bool.eq_iff_iff];simp [kA.eq_iff]
set_option maxRecDepth 100000 in
set_option maxHeartbeats 1600000 in
theorem IP (w:World) (x y:eB) (v1 v2 u1 u2:Value) (h1:Rd XA w x.list [v1]) (h2:Rd XA w y.list [v2]) (k1:Rd RB w x.pairs [u1]) (k2:Rd RB w y.pairs [u2]) :
  Calls Tryz.prog 186 #[.agg #[.int .i64 x.kind,.int .i64 x.field,.int .i64 x.value,v1,u1],.agg #[.int .i64 y.kind,.int .i64 y.field,.int .i64 y.value,v2,u2]] w (Ret w (.bool (decide (x=y)))):=by
 have B0:Bw w ((w.alloc (.cells #[.int .i64 x.kind,.int .i64 x.field,.int .i64 x.value,v1,u1] 109)).alloc (.cells #[.int .i64 y.kind,.int .i64 y.field,.int .i64 y.value,v2,u2] 109)):=((Bw.refl w).alloc _).alloc _;rw [AZ];by_cases e1:x.kind=y.kind
 ·by_cases e2:x.field=y.field
  ·by_cases e3:x.value=y.value
   ·have H:=Lib.hid (show decide (x.kind=y.kind)=true∧decide (x.field=y.field)=true∧decide (x.value=y.value)=true by simp [e1,e2,e3]);have a1:(x.kind==y.kind)=true:=by simpa using e1
    have b1:(x.kind != y.kind)=false:=by simpa using e1
    have a2:(x.field==y.field)=true:=by simpa using e2
    have b2:(x.field != y.field)=false:=by simpa using e2
    have a3:(x.value==y.value)=true:=by simpa using e3
    have b3:(x.value != y.value)=false:=by simpa using e3
    clear e1 e2 e3;go_enter Tryz.func186,Tryz.ntmps186;go_wp2_with fail;refine (jF _ x.list y.list _ _ (h1.bw dA B0) (h2.bw dA B0)).mono ?_;rintro e w2 ⟨rfl,hb2⟩;have hc:=rG hb2;have B2:=B0.then hb2;by_cases e4:x.list=y.list
    ·have H4:=Lib.hid (show decide (x.list=y.list)=true by simpa using e4);rw [show decide (x.list=y.list)=true from H4.out];clear e4;go_wp2_with fail;refine (QM _ x.pairs y.pairs _ _ (k1.bw DA B2) (k2.bw DA B2)).mono ?_;rintro e w3 ⟨rfl,hb3⟩;by_cases e5:x.pairs=y.pairs
     ·have H5:=Lib.hid (show decide (x.pairs=y.pairs)=true by simpa using e5);rw [show decide (x.pairs=y.pairs)=true from H5.out];clear e5;go_wp2;go_ret;exact Ret.bool (by simp [H.out.1,H.out.2.1,H.out.2.2,H4.out,H5.out]) (B2.then hb3)
     ·have H5:=Lib.hid (show decide (x.pairs=y.pairs)=false by simpa using e5);rw [show decide (x.pairs=y.pairs)=false from H5.out];clear e5;go_wp2;go_ret;exact Ret.bool (by simp [H5.out]) (B2.then hb3)
    ·have H4:=Lib.hid (show decide (x.list=y.list)=false by simpa using e4);rw [show decide (x.list=y.list)=false from H4.out];clear e4;go_wp2;go_ret;exact Ret.bool (by simp [H4.out]) (B2)
   ·have H:=Lib.hid (show decide (x.value=y.value)=false by simpa using e3);have a1:(x.kind==y.kind)=true:=by simpa using e1
    have b1:(x.kind != y.kind)=false:=by simpa using e1
    have a2:(x.field==y.field)=true:=by simpa using e2
    have b2:(x.field != y.field)=false:=by simpa using e2
    have a3:(x.value==y.value)=false:=by simpa using e3
    have b3:(x.value != y.value)=true:=by simpa using e3
    clear e1 e2 e3;go_enter Tryz.func186,Tryz.ntmps186;go_wp2;go_ret;exact Ret.bool (by rw [H.out];simp) (B0)
  ·have H:=Lib.hid (show decide (x.field=y.field)=false by simpa using e2);have a1:(x.kind==y.kind)=true:=by simpa using e1
   have b1:(x.kind != y.kind)=false:=by simpa using e1
   have a2:(x.field==y.field)=false:=by simpa using e2
   have b2:(x.field != y.field)=true:=by simpa using e2
   clear e1 e2;go_enter Tryz.func186,Tryz.ntmps186;go_wp2;go_ret;exact Ret.bool (by rw [H.out];simp) (B0)
 ·have H:=Lib.hid (show decide (x.kind=y.kind)=false by simpa using e1);have a1:(x.kind==y.kind)=false:=by simpa using e1
  have b1:(x.kind != y.kind)=true:=by simpa using e1
  clear e1;go_enter Tryz.func186,Tryz.ntmps186;go_wp2;go_ret;exact Ret.bool (by rw [H.out];simp) (B0)
set_option maxRecDepth 100000 in
set_option maxHeartbeats 1600000 in
theorem cAc (w:World) (x y:kA) (v1 v2 u1 u2:Value) (h1:Rd XA w x.wish.list [v1]) (h2:Rd XA w y.wish.list [v2]) (k1:Rd RB w x.wish.pairs [u1]) (k2:Rd RB w y.wish.pairs [u2]) :
  Calls Tryz.prog 272 #[.agg #[.int .i64 x.op,.int .i64 x.wish.kind,.int .i64 x.wish.field,.int .i64 x.wish.value,v1,u1],.agg #[.int .i64 y.op,.int .i64 y.wish.kind,.int .i64 y.wish.field,.int .i64 y.wish.value,v2,u2]] w (Ret w (.bool (decide (x=y)))):=by
 have B0:Bw w ((w.alloc (.cells #[.int .i64 x.op,.int .i64 x.wish.kind,.int .i64 x.wish.field,.int .i64 x.wish.value,v1,u1] 111)).alloc (.cells #[.int .i64 y.op,.int .i64 y.wish.kind,.int .i64 y.wish.field,.int .i64 y.wish.value,v2,u2] 111)):=((Bw.refl w).alloc _).alloc _;rw [CZ];by_cases e1:x.op=y.op
 ·have H:=Lib.hid (show decide (x.op=y.op)=true by simpa using e1);have a1:(x.op==y.op)=true:=by simpa using e1
  have b1:(x.op != y.op)=false:=by simpa using e1
  clear e1;go_enter Tryz.func272,Tryz.ntmps272;go_wp2_with fail;refine (IP _ x.wish y.wish _ _ _ _ (h1.bw dA B0) (h2.bw dA B0) (k1.bw DA B0) (k2.bw DA B0)).mono ?_;rintro e w2 ⟨rfl,hb2⟩;rcases Bool.eq_false_or_eq_true (decide (x.wish=y.wish)) with e4 | e4
  ·have H4:=Lib.hid e4;rw [e4];clear e4;go_wp2;go_ret;exact Ret.bool (by simp [H.out,H4.out]) (B0.then hb2)
  ·have H4:=Lib.hid e4;rw [e4];clear e4;go_wp2;go_ret;exact Ret.bool (by simp [H4.out]) (B0.then hb2)
 ·have H:=Lib.hid (show decide (x.op=y.op)=false by simpa using e1);have a1:(x.op==y.op)=false:=by simpa using e1
  have b1:(x.op != y.op)=true:=by simpa using e1
  clear e1;go_enter Tryz.func272,Tryz.ntmps272;go_wp2;go_ret;exact Ret.bool (by rw [H.out];simp) (B0)
end Go.Proofs.YtpihighajaeabaaGreat
namespace Go.Proofs.YtpihighajaeabaaGreat
open Go.RowKit
set_option linter.unusedVariables false
set_option linter.unusedSimpArgs false
theorem YT {l:List Int} {k:Nat} {x y:Int} (hk:0<k) (hy:l[k-1]? = some y) (h:l[k]? = some x):rC (II l k) (l.drop k)=((inB x 0 9 && decide (y<x)) && rC (II l (k+1)) (l.drop (k+1))):=by
 obtain ⟨j,rfl⟩:∃j,k=j+1:=⟨k-1,by omega⟩;exact eAs hy h
set_option maxRecDepth 100000 in
set_option maxHeartbeats 1600000 in
theorem eAt (w:World) (l:List Int) (v:Value) (h:Rd XA w l [v]):Calls Tryz.prog 174 #[v] w (Ret w (.bool (rC none l && decide (0<l.length)))):=by
 obtain ⟨A,n,c,rfl,L0,Lc,Lm⟩:=iA h;unfold maxLen at Lm;have L:=Lib.hid L0;clear L0;go_enter Tryz.func174,Tryz.ntmps174;go_wp2
 go_loopw [3] (fun i w'=>∃k:Nat,k≤n∧i=.int .i64 k∧Hid (rC none l=rC (II l k) (l.drop k))∧Bw w w') (fun i _=>n-(intOf i).toNat)
 case atStart=>exact ⟨0,by omega,rfl,Lib.hid rfl,Bw.refl _⟩
 case round=>
  obtain ⟨k,hk,rfl,HE,hb⟩:=hrel;by_cases hlt:k<n
  ·obtain ⟨x,hx⟩:=rA (xs:=l) (k:=k) (by have:=L.out;omega);have hrd:=h.bw dA hb;obtain ⟨ba,oa,rfl,_,hcx⟩:=GB hrd hx;have i1:(0:Int)≤(k:Int):=by omega
   have i2:(k:Int)<(n:Int):=by omega
   have hbA:=hb;have s0:=qA hcx;by_cases hk0:0<k
   ·obtain ⟨y,hy⟩:=rA (xs:=l) (k:=k-1) (by have:=L.out;omega);obtain ⟨_,_,e,_,hcy⟩:=GB hrd hy;injection e with e;injection e with e1 e2;subst e1 e2;have HP:=Lib.hid (YT hk0 hy hx);have s2:=qA hcy;clear hrd hcx hcy hx hy h;rcases Bool.eq_false_or_eq_true (inB x 0 9) with hi | hi
    ·by_cases hle:y<x
     ·have ht:decide (x≤y)=false:=by simp;omega
      go_wp2;refine mA (by kernel_rfl) (by kernel_rfl) ?_
      repeat (first | go_big_quiet_skip | (go_big_quiet_want;go_big_quiet_op;first | go_big_quiet_on | (apply Exists.intro;refine ⟨fun _=>?_,?_⟩;(· (((first | (go_at_call 103;exact GA (lD (GI _ _ _ _) (congrArg Value.bool hi)))))));go_big_quiet_on)))
      refine wpQuiet_nil ?_;rintro ⟨wq,hbq⟩;dsimp only at *;go_wp2
      go_roundw
      case rel=>exact ⟨k+1,by omega,by go_num,Lib.hid (by rw [HE.out,HP.out];simp [hi,hle]),hbA.then hbq⟩
      case measure=>simp [intOf];omega
     ·have ht:decide (x≤y)=true:=by simp;omega
      have HD:Hid (decide (y<x)=false):=by show _=_;simp;omega
      go_wp2;refine mA (by kernel_rfl) (by kernel_rfl) ?_
      repeat (first | go_big_quiet_skip | (go_big_quiet_want;go_big_quiet_op;first | go_big_quiet_on | (apply Exists.intro;refine ⟨fun _=>?_,?_⟩;(· (((first | (go_at_call 103;exact GA (lD (GI _ _ _ _) (congrArg Value.bool hi)))))));go_big_quiet_on)))
      refine wpQuiet_nil ?_;rintro ⟨wq,hbq⟩;dsimp only at *;go_wp2;go_ret;exact Ret.bool (by rw [HE.out,HP.out,HD.out];simp) (hbA.then hbq)
    ·go_wp2;refine mA (by kernel_rfl) (by kernel_rfl) ?_
     repeat (first | go_big_quiet_skip | (go_big_quiet_want;go_big_quiet_op;first | go_big_quiet_on | (apply Exists.intro;refine ⟨fun _=>?_,?_⟩;(· (((first | (go_at_call 103;exact GA (lD (GI _ _ _ _) (congrArg Value.bool hi)))))));go_big_quiet_on)))
     refine wpQuiet_nil ?_;rintro ⟨wq,hbq⟩;dsimp only at *;go_wp2;go_ret;exact Ret.bool (by rw [HE.out,HP.out];simp [hi]) (hbA.then hbq)
   ·have HP:=Lib.hid (show rC (II l k) (l.drop k)=(inB x 0 9 && rC (II l (k+1)) (l.drop (k+1))) by
     obtain rfl:k=0:=by omega
     exact VT hx)
    clear hrd hcx hx h;rcases Bool.eq_false_or_eq_true (inB x 0 9) with hi | hi
    ·go_wp2;refine mA (by kernel_rfl) (by kernel_rfl) ?_
     repeat (first | go_big_quiet_skip | (go_big_quiet_want;go_big_quiet_op;first | go_big_quiet_on | (apply Exists.intro;refine ⟨fun _=>?_,?_⟩;(· (((first | (go_at_call 103;exact GA (lD (GI _ _ _ _) (congrArg Value.bool hi)))))));go_big_quiet_on)))
     refine wpQuiet_nil ?_;rintro ⟨wq,hbq⟩;dsimp only at *;go_wp2
     go_roundw
     case rel=>exact ⟨k+1,by omega,by go_num,Lib.hid (by rw [HE.out,HP.out];simp [hi]),hbA.then hbq⟩
     case measure=>simp [intOf];omega
    ·go_wp2;refine mA (by kernel_rfl) (by kernel_rfl) ?_
     repeat (first | go_big_quiet_skip | (go_big_quiet_want;go_big_quiet_op;first | go_big_quiet_on | (apply Exists.intro;refine ⟨fun _=>?_,?_⟩;(· (((first | (go_at_call 103;exact GA (lD (GI _ _ _ _) (congrArg Value.bool hi)))))));go_big_quiet_on)))
     refine wpQuiet_nil ?_;rintro ⟨wq,hbq⟩;dsimp only at *;go_wp2;go_ret;exact Ret.bool (by rw [HE.out,HP.out];simp [hi]) (hbA.then hbq)
  ·have HF:=Lib.hid (show rC none l=true by rw [HE.out,List.drop_of_length_le (by have:=L.out;omega)];cases II l k<;>rfl);clear HE;by_cases h0:0<n
   ·have HN:=Lib.hid (show decide (0<l.length)=true from decide_eq_true (by have:=L.out;omega));go_wp2;go_ret;exact Ret.bool (by rw [HF.out,HN.out];simp) hb
   ·obtain rfl:n=0:=by omega
    have HN:=Lib.hid (show decide (0<l.length)=false from decide_eq_false (by have:=L.out;omega));go_wp2;go_ret;exact Ret.bool (by rw [HF.out,HN.out];simp) hb
theorem iAt {α:Type} {l:List α} {n:Nat} (h:n=l.length):decide (l.length=0)=decide (n=0):=by rw [h]
def eD (w:eB):Bool:=
 inB w.field 0 2 && (
  if w.kind=0∨w.kind=1 then decide (w.value=0) && (decide (w.list.length=0) && decide (w.pairs.length=0))
  else if w.kind=2 then inB w.value 0 9 && (decide (w.list.length=0) && decide (w.pairs.length=0))
  else if w.kind=3 then decide (w.value=0) && ((rC none w.list && decide (0<w.list.length)) && decide (w.pairs.length=0))
  else if w.kind=4 then decide (w.value=0) && (decide (w.list.length=0) && yB w.pairs)
  else false)
theorem DZ (w:eB):eD w=gB w:=by
 unfold eD gB;have hz:∀l:List Int,l.length=0→rC none l=true:=fun l h=>by rw [List.eq_nil_of_length_eq_zero h];rfl
 by_cases k0:w.kind=0
 ·rw [if_pos (.inl k0)];by_cases hv:w.value=0<;>by_cases hl:w.list.length=0<;>simp [k0,hv,hl,hz,inB,Nat.pos_iff_ne_zero]
 by_cases k1:w.kind=1
 ·rw [if_pos (.inr k1)];by_cases hv:w.value=0<;>by_cases hl:w.list.length=0<;>simp [k1,hv,hl,hz,inB,Nat.pos_iff_ne_zero]
 rw [if_neg (by simp [k0,k1])];by_cases k2:w.kind=2
 ·rw [if_pos k2];by_cases hl:w.list.length=0<;>simp [k2,hl,hz,inB,Nat.pos_iff_ne_zero]
 rw [if_neg k2];by_cases k3:w.kind=3
 ·rw [if_pos k3];by_cases hv:w.value=0
  ·simp [k3,hv,inB,Nat.pos_iff_ne_zero,Bool.and_assoc]
  ·simp [k3,hv]
 rw [if_neg k3];by_cases k4:w.kind=4
 ·rw [if_pos k4];by_cases hv:w.value=0<;>by_cases hl:w.list.length=0<;>simp [k4,hv,hl,hz,inB,Nat.pos_iff_ne_zero]
 rw [if_neg k4];have:inB w.kind 0 4=false:=by simp [inB];omega
 rw [this];simp
set_option maxRecDepth 100000 in
set_option maxHeartbeats 3200000 in
theorem JI (w:World) (x:eB) (v u:Value) (h:Rd XA w x.list [v]) (h':Rd RB w x.pairs [u]) :
  Calls Tryz.prog 111 #[.agg #[.int .i64 x.kind,.int .i64 x.field,.int .i64 x.value,v,u]] w (Ret w (.bool (gB x))):=by
 rw [← DZ];obtain ⟨A,n,c,rfl,L0,Lc,Lm⟩:=iA h;unfold maxLen at Lm;have L:=Lib.hid L0;clear L0;obtain ⟨B,m,c',rfl,M0,Mc,Mm⟩:=iA h';unfold maxLen at Mm;have M:=Lib.hid M0;clear M0;have LN:=Lib.hid (iAt L.out);have MN:=Lib.hid (iAt M.out);have B0:Bw w (w.alloc (.cells #[.int .i64 x.kind,.int .i64 x.field,.int .i64 x.value,.slice A n c,.slice B m c'] 109)):=(Bw.refl w).alloc _;go_enter Tryz.func111,Tryz.ntmps111;go_wp2_with fail;refine (GI _ _ _ _).mono ?_;rintro e w1 ⟨rfl,hb1⟩;have p0:w1.cell? ⟨w.heap.size,0,none⟩=some (.int .i64 x.kind):=hb1.cell (by go_simp);have p1:w1.cell? ⟨w.heap.size,1,none⟩=some (.int .i64 x.field):=hb1.cell (by go_simp);have p2:w1.cell? ⟨w.heap.size,2,none⟩=some (.int .i64 x.value):=hb1.cell (by go_simp);have p3:w1.cell? ⟨w.heap.size,3,none⟩=some (.slice A n c):=hb1.cell (by go_simp);have p4:w1.cell? ⟨w.heap.size,4,none⟩=some (.slice B m c'):=hb1.cell (by go_simp);have B1:=B0.then hb1;rcases Bool.eq_false_or_eq_true (inB x.field 0 2) with e1 | e1
 ·have E1:=Lib.hid e1;rw [e1];clear e1;by_cases k0:x.kind=0
  ·have K:=Lib.hid k0;have q0:(x.kind==0)=true:=by simpa using k0
   clear k0;by_cases v0:x.value=0
   ·have V0:=Lib.hid v0;have v1:(x.value==0)=true:=by simpa using v0
    clear v0;by_cases n0:n=0
    ·have N0:=Lib.hid (show x.list=[] from List.eq_nil_of_length_eq_zero (by have:=L.out;omega));subst n0;by_cases m0:m=0
     ·have M0:=Lib.hid (show x.pairs=[] from List.eq_nil_of_length_eq_zero (by have:=M.out;omega));subst m0;go_wp2;go_ret;exact Ret.bool (by simp [eD,E1.out,K.out,V0.out,N0.out,M0.out]) (B1)
     ·have M0:=Lib.hid (show x.pairs≠[] from fun e=>by have:=M.out;rw [e] at this;exact m0 this);have m1:((m:Int)==0)=false:=by simp;omega
      go_wp2;go_ret;exact Ret.bool (by simp [eD,E1.out,K.out,M0.out]) (B1)
    ·have N0:=Lib.hid (show x.list≠[] from fun e=>by have:=L.out;rw [e] at this;exact n0 this);have n1:((n:Int)==0)=false:=by simp;omega
     go_wp2;go_ret;exact Ret.bool (by simp [eD,E1.out,K.out,N0.out]) (B1)
   ·have V0:=Lib.hid v0;have v1:(x.value==0)=false:=by simpa using v0
    clear v0;go_wp2;go_ret;exact Ret.bool (by simp [eD,E1.out,K.out,V0.out]) (B1)
  by_cases k1:x.kind=1
  ·have K:=Lib.hid k1;have q1:(x.kind==1)=true:=by simpa using k1
   have q0:(x.kind==0)=false:=by simp;omega
   clear k0 k1;by_cases v0:x.value=0
   ·have V0:=Lib.hid v0;have v1:(x.value==0)=true:=by simpa using v0
    clear v0;by_cases n0:n=0
    ·have N0:=Lib.hid (show x.list=[] from List.eq_nil_of_length_eq_zero (by have:=L.out;omega));subst n0;by_cases m0:m=0
     ·have M0:=Lib.hid (show x.pairs=[] from List.eq_nil_of_length_eq_zero (by have:=M.out;omega));subst m0;go_wp2;go_ret;exact Ret.bool (by simp [eD,E1.out,K.out,V0.out,N0.out,M0.out]) (B1)
     ·have M0:=Lib.hid (show x.pairs≠[] from fun e=>by have:=M.out;rw [e] at this;exact m0 this);have m1:((m:Int)==0)=false:=by simp;omega
      go_wp2;go_ret;exact Ret.bool (by simp [eD,E1.out,K.out,M0.out]) (B1)
    ·have N0:=Lib.hid (show x.list≠[] from fun e=>by have:=L.out;rw [e] at this;exact n0 this);have n1:((n:Int)==0)=false:=by simp;omega
     go_wp2;go_ret;exact Ret.bool (by simp [eD,E1.out,K.out,N0.out]) (B1)
   ·have V0:=Lib.hid v0;have v1:(x.value==0)=false:=by simpa using v0
    clear v0;go_wp2;go_ret;exact Ret.bool (by simp [eD,E1.out,K.out,V0.out]) (B1)
  by_cases k2:x.kind=2
  ·have K:=Lib.hid k2;have q2:(x.kind==2)=true:=by simpa using k2
   have q0:(x.kind==0)=false:=by simp;omega
   have q1:(x.kind==1)=false:=by simp;omega
   clear k0 k1 k2;go_wp2_with fail;refine (GI _ _ _ _).mono ?_;rintro e w2 ⟨rfl,hb2⟩;replace p3:=hb2.cell p3;replace p4:=hb2.cell p4;replace B1:=B1.then hb2;rcases Bool.eq_false_or_eq_true (inB x.value 0 9) with e2 | e2
   ·have E2:=Lib.hid e2;rw [e2];clear e2;by_cases n0:n=0
    ·have N0:=Lib.hid (show x.list=[] from List.eq_nil_of_length_eq_zero (by have:=L.out;omega));subst n0;by_cases m0:m=0
     ·have M0:=Lib.hid (show x.pairs=[] from List.eq_nil_of_length_eq_zero (by have:=M.out;omega));subst m0;go_wp2;go_ret;exact Ret.bool (by simp [eD,E1.out,E2.out,K.out,N0.out,M0.out]) (B1)
     ·have M0:=Lib.hid (show x.pairs≠[] from fun e=>by have:=M.out;rw [e] at this;exact m0 this);have m1:((m:Int)==0)=false:=by simp;omega
      go_wp2;go_ret;exact Ret.bool (by simp [eD,E1.out,K.out,M0.out]) (B1)
    ·have N0:=Lib.hid (show x.list≠[] from fun e=>by have:=L.out;rw [e] at this;exact n0 this);have n1:((n:Int)==0)=false:=by simp;omega
     go_wp2;go_ret;exact Ret.bool (by simp [eD,E1.out,K.out,N0.out]) (B1)
   ·have E2:=Lib.hid e2;rw [e2];clear e2;go_wp2;go_ret;exact Ret.bool (by simp [eD,E1.out,E2.out,K.out]) (B1)
  by_cases k3:x.kind=3
  ·have K:=Lib.hid k3;have q3:(x.kind==3)=true:=by simpa using k3
   have q0:(x.kind==0)=false:=by simp;omega
   have q1:(x.kind==1)=false:=by simp;omega
   have q2:(x.kind==2)=false:=by simp;omega
   clear k0 k1 k2 k3;by_cases v0:x.value=0
   ·have V0:=Lib.hid v0;have v1:(x.value==0)=true:=by simpa using v0
    clear v0;go_wp2_with fail;refine (eAt _ x.list _ (h.bw dA B1)).mono ?_;rintro e w2 ⟨rfl,hb2⟩;replace p4:=hb2.cell p4;replace B1:=B1.then hb2;rcases Bool.eq_false_or_eq_true (rC none x.list && decide (0<x.list.length)) with e2 | e2
    ·have E2:=Lib.hid e2;rw [e2];clear e2;by_cases m0:m=0
     ·have M0:=Lib.hid (show x.pairs=[] from List.eq_nil_of_length_eq_zero (by have:=M.out;omega));subst m0;go_wp2;go_ret;exact Ret.bool (by rw [eD,E2.out];simp [E1.out,K.out,V0.out,M0.out]) (B1)
     ·have M0:=Lib.hid (show x.pairs≠[] from fun e=>by have:=M.out;rw [e] at this;exact m0 this);have m1:((m:Int)==0)=false:=by simp;omega
      go_wp2;go_ret;exact Ret.bool (by rw [eD,E2.out];simp [E1.out,K.out,V0.out,M0.out]) (B1)
    ·have E2:=Lib.hid e2;rw [e2];clear e2;go_wp2;go_ret;exact Ret.bool (by rw [eD,E2.out];simp [E1.out,K.out,V0.out]) (B1)
   ·have V0:=Lib.hid v0;have v1:(x.value==0)=false:=by simpa using v0
    clear v0;go_wp2;go_ret;exact Ret.bool (by simp [eD,E1.out,K.out,V0.out]) (B1)
  by_cases k4:x.kind=4
  ·have K:=Lib.hid k4;have q4:(x.kind==4)=true:=by simpa using k4
   have q0:(x.kind==0)=false:=by simp;omega
   have q1:(x.kind==1)=false:=by simp;omega
   have q2:(x.kind==2)=false:=by simp;omega
   have q3:(x.kind==3)=false:=by simp;omega
   clear k0 k1 k2 k3 k4;by_cases v0:x.value=0
   ·have V0:=Lib.hid v0;have v1:(x.value==0)=true:=by simpa using v0
    clear v0;by_cases n0:n=0
    ·have N0:=Lib.hid (show x.list=[] from List.eq_nil_of_length_eq_zero (by have:=L.out;omega));subst n0;go_wp2_with fail;refine (UQ _ x.pairs _ (h'.bw DA B1)).mono ?_;rintro e w2 ⟨rfl,hb2⟩;rcases Bool.eq_false_or_eq_true (yB x.pairs) with e2 | e2
     ·have E2:=Lib.hid e2;rw [e2];clear e2;go_wp2;go_ret;exact Ret.bool (by simp [eD,E1.out,E2.out,K.out,V0.out,N0.out]) (B1.then hb2)
     ·have E2:=Lib.hid e2;rw [e2];clear e2;go_wp2;go_ret;exact Ret.bool (by simp [eD,E1.out,E2.out,K.out,V0.out,N0.out]) (B1.then hb2)
    ·have N0:=Lib.hid (show x.list≠[] from fun e=>by have:=L.out;rw [e] at this;exact n0 this);have n1:((n:Int)==0)=false:=by simp;omega
     go_wp2;go_ret;exact Ret.bool (by simp [eD,E1.out,K.out,N0.out]) (B1)
   ·have V0:=Lib.hid v0;have v1:(x.value==0)=false:=by simpa using v0
    clear v0;go_wp2;go_ret;exact Ret.bool (by simp [eD,E1.out,K.out,V0.out]) (B1)
  have q0:(x.kind==0)=false:=by simpa using k0
  have q1:(x.kind==1)=false:=by simpa using k1
  have q2:(x.kind==2)=false:=by simpa using k2
  have q3:(x.kind==3)=false:=by simpa using k3
  have q4:(x.kind==4)=false:=by simpa using k4
  have K:=Lib.hid (show ¬(x.kind=0∨x.kind=1)∧¬x.kind=2∧¬x.kind=3∧¬x.kind=4 from ⟨by omega,k2,k3,k4⟩);clear k0 k1 k2 k3 k4;go_wp2;go_ret;exact Ret.bool (by rw [eD,if_neg K.out.1,if_neg K.out.2.1,if_neg K.out.2.2.1,if_neg K.out.2.2.2];simp) (B1)
 ·have E1:=Lib.hid e1;rw [e1];clear e1;go_wp2;go_ret;exact Ret.bool (by simp [eD,E1.out]) (B1)
end Go.Proofs.YtpihighajaeabaaGreat
