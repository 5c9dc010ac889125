/- Valid expressions in the reference. -/
import Derived.Test.YtpihighajaeabaaGreatQCmpS
import Derived.Deep.WholeRow
import Derived.Test.YtpihighajaeabaaGreatQWishS
import Derived.Test.YtpihighajaeabaaGreatQCompI
namespace Go.Proofs.YtpihighajaeabaaGreat
open Go.RowKit
set_option linter.unusedVariables false
set_option linter.unusedSimpArgs false
theorem cAg {T:List Int} {a b r:Int} {m:Nat} (h:T.length=m):(T++[a,b]).set m r=(T++[r])++[b]:=by
 rw [← h,List.set_append_right _ _ (Nat.le_refl _)];simp
set_option maxRecDepth 100000 in
set_option maxHeartbeats 6400000 in
theorem FG (w:World) (e:List kA) (p q:gA) (ve v1 v2:Value) (h:Rd RA w e [ve]) (h1:Rd XA w p.vals [v1]) (h2:Rd XA w q.vals [v2]) (hE:bB e=true) (hp:LA p=true) (hq:LA q=true) :
  Calls Tryz.prog 78 #[ve,.agg #[.int .i64 p.id,v1],.agg #[.int .i64 q.id,v2]] w (Ret w (.int .i64 (CC e p q))):=by
 obtain ⟨i0,hi,hz0,hz1,hz2⟩:=info_parts PC;obtain ⟨A,n,c,rfl,L0,Lc,Lm⟩:=iA h;unfold maxLen at Lm;have L:=Lib.hid L0;clear L0;have HP:=Lib.hid hp;have HQ:=Lib.hid hq;have DE:=Lib.hid (fI hE);have n9:n≤9:=by rw [L.out];exact YQ hE
 have hv0:=PA (e:=3) (sz:=1) (R:=RG) ((w.alloc (.cells #[.int .i64 p.id,v1] 30)).alloc (.cells #[.int .i64 q.id,v2] 30));rw [show ((w.alloc (.cells #[.int .i64 p.id,v1] 30)).alloc (.cells #[.int .i64 q.id,v2] 30)).heap.size=w.heap.size+1+1 by simp] at hv0;obtain ⟨wB,hwB⟩:∃wB,wB=(w.alloc (.cells #[.int .i64 p.id,v1] 30)).alloc (.cells #[.int .i64 q.id,v2] 30):=⟨_,rfl⟩;have B0:Bw w wB:=by rw [hwB];exact ((Bw.refl w).alloc _).alloc _
 have hsB:wB.heap.size=w.heap.size+1+1:=by rw [hwB];simp
 have ka0:wB.cell? ⟨w.heap.size,0,none⟩=some (.int .i64 p.id):=by rw [hwB];go_simp
 have ka1:wB.cell? ⟨w.heap.size,1,none⟩=some v1:=by rw [hwB];go_simp
 have kb0:wB.cell? ⟨w.heap.size+1,0,none⟩=some (.int .i64 q.id):=by rw [hwB];go_simp
 have kb1:wB.cell? ⟨w.heap.size+1,1,none⟩=some v2:=by rw [hwB];go_simp
 have B1':Bw wB (((w.alloc (.cells #[.int .i64 p.id,v1] 30)).alloc (.cells #[.int .i64 q.id,v2] 30)).alloc (.cells #[] 3)):=by rw [hwB];exact (Bw.refl _).alloc _
 have HSB:=Lib.hid hsB;clear hp hq hE hwB hsB;go_enter Tryz.func78,Tryz.ntmps78;go_wp2
 go_loopg [7,14] n (fun g s i w'=>∃(k m:Nat) (St:List Int) (F:List Nat) (A':Option Addr) (c':Nat),k≤n∧g=n-k∧i=.int .i64 k∧s=.slice A' m c'∧Hid (m=St.length)∧m≤k∧m≤c'∧ZA w' St [.slice A' m c'] F∧pA wB.heap.size F∧Hid (St=oE e p q k)∧Hid (KB (e.drop k) m=some 1)∧Hid (JP St)∧Bw wB w')
 case atStart=>exact ⟨0,0,[],_,_,_,by omega,rfl,rfl,rfl,Lib.hid rfl,by omega,by omega,hv0,⟨by simp,by rw [HSB.out];simp⟩,Lib.hid rfl,DE,Lib.hid (fun v hv=>by simp at hv),B1'⟩
 case round=>
  clear hv0 B1';obtain ⟨k,m,St,F,A',c',hk,rfl,rfl,rfl,HL,hmk,hmc,hv,hF,HS,HD,HC,hb⟩:=hrel;by_cases hlt:k<n
  ·obtain ⟨x,hx⟩:=rA (xs:=e) (k:=k) (by have:=L.out;omega);obtain ⟨ba,oa,Al,cl,Ap,cp,rfl,_,c0,c1',c2',c3,c4,c5,hl,hpr⟩:=bE h hx;have i1:(0:Int)≤(k:Int):=by omega
   have i2:(k:Int)<(n:Int):=by omega
   have hbw:=B0.then hb;replace c0:=hbw.cell c0;replace c1':=hbw.cell c1';replace c2':=hbw.cell c2';replace c3:=hbw.cell c3;replace c4:=hbw.cell c4;replace c5:=hbw.cell c5;have hbx:=World.block_lt_of_cell? _ _ c0;have A1:Bw wr (wr.alloc (.cells #[.int .i64 x.op,.int .i64 x.wish.kind,.int .i64 x.wish.field,.int .i64 x.wish.value,.slice Al x.wish.list.length cl,.slice Ap x.wish.pairs.length cp] 111)):=(Bw.refl wr).alloc _;have hbA:=hb.then A1;have hbwA:=B0.then hbA;have hl':=Rd.bw dA hl hbwA;have hp':=Rd.bw DA hpr hbwA;have h1':=h1.bw dA hbwA;have h2':=h2.bw dA hbwA;have hvA:=(aA (B:=wB.heap.size)).bw A1 hb.size hv;obtain ⟨hok,hd2⟩:=VM HD.out hx;have hop:=bU hok;have hge:=SO hok;have HN:=Lib.hid (XG (x:=p) (y:=q) hx);have HW:=Lib.hid (fun o0=>aL hok o0);have HD2:=Lib.hid hd2;have HH:=Lib.hid h;have hFm:=(aA (B:=0)).lt hvA;have ka:=hbA.cell ka0;have ka':=hbA.cell ka1;have kb:=hbA.cell kb0;have kb':=hbA.cell kb1;clear hx h hl hpr hok hd2 hv;by_cases o0:x.op=0
   ·have q0:(x.op==0)=true:=by simpa using o0
    have hcall:Calls Tryz.prog 160 _ _ (Ret _ (.int .i64 (kF x.wish p q))):=ZQ _ x.wish p q _ _ v1 v2 hl' hp' h1' h2' (HW.out o0) HP.out HQ.out;have hcode:=QN x.wish p q;obtain ⟨r,hr⟩:∃r,r=kF x.wish p q:=⟨_,rfl⟩;rw [← hr] at hcode hcall;have HS2:=Lib.hid (show St++[r]=oE e p q (k+1) by rw [HN.out,← HS.out,TM o0,hr]);have HD3:=Lib.hid (show KB (e.drop (k+1)) ((m+1:Nat):Int)=some 1 by rw [← HD2.out,o0];congr 1);have HC2:=Lib.hid (xH HC.out hcode);have HL2:=Lib.hid (show m+1=(St++[r]).length by rw [List.length_append,← HL.out];rfl);have HSm:=Lib.hid (show St.length=m from HL.out.symm);clear o0 HN HS HD HD2 HC hr HW hcode h1' h2' hl' hp';go_wp2_with fail;refine (hcall).mono ?_;rintro e w1 ⟨rfl,hb1⟩;have hbb:=hbA.then hb1;have hv1:=(aA (B:=wB.heap.size)).bw hb1 hbA.size hvA;have hvW:=(aA (B:=wB.heap.size)).bw ((Bw.refl w1).alloc (.cells #[.int .i64 r] 3)) hbb.size hv1;have hbW:=hbb.alloc (.cells #[.int .i64 r] 3);have hcl:=cell_one_new w1 (.int .i64 r) 3;have hb0:=hbA.size;clear hcall hvA hv1;go_wp2_with (at_builtin;refine rB _ rfl (.tmp 45) (.tmp 51) 26 rfl wB 3 i0 _ 1 8 Tryz.underlying26 hi hz0 hz1 hz2 rfl (by omega) nB _ St F rfl hvW hF ⟨w1.heap.size,0,none⟩ 1 rfl r [.int .i64 r] [] hcl ⟨rfl,rfl⟩ rfl _ hFm pA.nil hb0 (by rw [HSm.out];omega) (by rw [HSm.out];omega) hbW ?_;intro v' w' F' hv' hF' hb');obtain ⟨A3,c3',rfl,hc3,_⟩:=aB (AA hv');rw [← HL2.out] at hv' hc3 ⊢;go_wp2
    go_roundg (n-(k+1))
    case measure=>omega
    case rel=>exact ⟨k+1,m+1,St++[r],F',A3,c3',by omega,rfl,by go_num,rfl,HL2,by omega,hc3,hv',hF',HS2,HD3,HC2,hb'⟩
   ·have q0:(x.op==0)=false:=by simpa using o0
    by_cases o3:x.op=3
    ·have q3:(x.op==3)=true:=by simpa using o3
     rw [show zC x.op=1 by rw [o3];rfl] at hge HD2;obtain ⟨T,a,hSt⟩:=aU (l:=St) (by rw [← HL.out];omega);subst hSt;have hT:T.length=m-1:=by have:=HL.out;simp at this;omega
     obtain ⟨g,rfl,hz9,hgF⟩:=OH hvA (by simp);clear hz9;have hc:=QH hvA (bAj hT);have ha:=HC.out a (by simp);have HS2:=Lib.hid (show T++[wH a]=oE e p q (k+1) by rw [HN.out,← HS.out,UM o3]);have HD3:=Lib.hid (show KB (e.drop (k+1)) (m:Int)=some 1 by rw [← HD2.out];congr 1;omega);have HC2:=Lib.hid (xH (mK HC.out) (OO ha));have HL2:=Lib.hid (show m=(T++[wH a]).length by have:=HL.out;simp at this ⊢;exact this);have j1:(0:Int)≤(m:Int)-1:=by omega
     have j2:(m:Int)-1<(m:Int):=by omega
     have HT:=Lib.hid hT;have m1:1≤m:=by omega
     clear o0 o3 HN HS HD HD2 HC HW hl' hp' h1' h2' hop hge hT;by_cases a2:a=2
     ·have q4:(a != 2)=false:=by simpa using a2
      have HS3:=Lib.hid (show T++[a]=oE e p q (k+1) by rw [← HS2.out,wH,if_pos a2,a2]);have HC3:=Lib.hid (show JP (T++[a]) by have:=HC2.out;rwa [wH,if_pos a2,← a2] at this);clear a2 HS2 HC2 HL2;go_wp2
      go_roundg (n-(k+1))
      case measure=>omega
      case rel=>exact ⟨k+1,m,T++[a],F,_,c',by omega,rfl,by go_num,rfl,HL,by omega,hmc,hvA,hF,HS3,HD3,HC3,hbA⟩
     ·have q4:(a != 2)=true:=by simpa using a2
      have hff:=vD hvA (m-1);obtain ⟨F',hv',hF',hg,_,_⟩:=IH (nB (B:=wB.heap.size)) hvA hF (k:=m-1) (y:=-a) (u:=[.int .i64 (-a)]) ⟨rfl,rfl⟩ rfl hFm pA.nil hbA.size (by have:=HT.out;simp;omega);simp only [aD,Nat.mul_one] at hv' hg;rw [WW HT.out] at hv';rw [show wH a = -a by rw [wH,if_neg a2]] at HS2 HC2 HL2;have hb':=hbA.grown hg (fun q hq=>by injection hq with hq;have:=hF.ge g hgF;omega);clear a2 hg hvA hF hFm hgF HL;go_wp2
      go_roundg (n-(k+1))
      case measure=>omega
      case rel=>exact ⟨k+1,m,T++[-a],F',_,c',by omega,rfl,by go_num,rfl,HL2,by omega,hmc,hv',hF',HS2,HD3,HC2,hb'⟩
    ·have q3:(x.op==3)=false:=by simpa using o3
     have ho2:x.op=1∨x.op=2∨x.op=4:=by omega
     rw [show zC x.op=2 by rcases ho2 with h | h | h<;>rw [h]<;>rfl] at hge HD2;obtain ⟨T,a,b,hSt⟩:=iAa (l:=St) (by rw [← HL.out];omega);subst hSt;have hT:T.length=m-2:=by have:=HL.out;simp at this;omega
     have m2:2≤m:=by omega
     obtain ⟨g,rfl,hz9,hgF⟩:=OH hvA (by simp);clear hz9;have hca:=QH hvA (XW hT);have hcb:=QH (k:=m-1) hvA (YW (by omega));have hff:=vD hvA (m-2);have ha:=HC.out a (by simp);have hbc:=HC.out b (by simp);have hcode:=NO (op:=x.op) ha hbc;have HS2:=Lib.hid (show T++[RD x.op a b]=oE e p q (k+1) by rw [HN.out,← HS.out,RO o0 o3]);have HD3:=Lib.hid (show KB (e.drop (k+1)) ((m-1:Nat):Int)=some 1 by rw [← HD2.out];congr 1;omega);have HC2:=Lib.hid (xH (mK HC.out) hcode);have HL2:=Lib.hid (show m-1=(T++[RD x.op a b]).length by rw [List.length_append,hT];simp;omega);have HT:=Lib.hid hT;have hcall:∀W,Calls Tryz.prog 161 #[.int .i64 x.op,.int .i64 a,.int .i64 b] W (iT W (.int .i64 (RD x.op a b))):=fun W=>rQ W x.op a b ho2 ha hbc
     obtain ⟨r,hr⟩:∃r,r=RD x.op a b:=⟨_,rfl⟩;rw [← hr] at HS2 HC2 HL2;simp only [← hr] at hcall;have j1:(0:Int)≤(m:Int)-2:=by omega
     have j2:(m:Int)-2<(m:Int):=by omega
     have j3:(0:Int)≤(m:Int)-1:=by omega
     have j4:(m:Int)-1<(m:Int):=by omega
     have kx0:(wr.alloc (.cells #[.int .i64 x.op,.int .i64 x.wish.kind,.int .i64 x.wish.field,.int .i64 x.wish.value,.slice Al x.wish.list.length cl,.slice Ap x.wish.pairs.length cp] 111)).cell? ⟨wr.heap.size,0,none⟩=some (.int .i64 x.op):=by go_simp
     obtain ⟨W,hW⟩:∃W,W=wr.alloc (.cells #[.int .i64 x.op,.int .i64 x.wish.kind,.int .i64 x.wish.field,.int .i64 x.wish.value,.slice Al x.wish.list.length cl,.slice Ap x.wish.pairs.length cp] 111):=⟨_,rfl⟩;rw [← hW] at kx0 hca hcb hff hFm;have hvd:ZA W.drew (T++[a,b]) [.slice (some ⟨g,0,none⟩) m c'] F:=by rw [hW];exact (aA (B:=wB.heap.size)).bw ((Bw.refl _).drew) hbA.size hvA
     have hbd:Bw wB W.drew:=by rw [hW];exact hbA.drew
     obtain ⟨F',hv',hF',hg,_,_⟩:=IH (nB (B:=wB.heap.size)) hvd hF (k:=m-2) (y:=r) (u:=[.int .i64 r]) ⟨rfl,rfl⟩ rfl (m:=W.heap.size) hFm pA.nil hbd.size (by have:=HT.out;simp;omega);simp only [aD,Nat.mul_one] at hv' hg;rw [cAg HT.out] at hv';have hvp:=QO hv';rw [← HL2.out] at hvp;have hb':=hbd.grown hg (fun q hq=>by injection hq with hq;have:=hF.ge g hgF;omega);clear o0 o3 ho2 HN HS HD HD2 HC HW hl' hp' h1' h2' hge hT hr ha hbc hv' hvd hg hgF hF hFm hvA hbA hbd hcode ka ka' kb kb' A1 hbwA;go_wp2_with fail;rw [← hW];obtain ⟨qq,hqq⟩:∃qq,qq=wr.heap.size:=⟨_,rfl⟩;rw [← hqq] at kx0 ⊢;clear hW hqq;refine wp_region_still_tail 17 (by kernel_rfl) (by kernel_rfl) ?_;simp only [List.take_succ_cons,List.take_zero,List.drop_succ_cons,List.drop_zero];refine JE (w:=W.drew) ?_
     repeat (first | go_big_quiet_skip | (go_big_quiet_want;go_big_quiet_op;first | go_big_quiet_on | (apply Exists.intro;refine ⟨?_,?_⟩;(· first | exact hcall _ | (intro _;exact hcall _) | (intro _ hh;subst hh;exact hcall _));go_big_quiet_on)))
     refine wpQuiet_nil ?_
     change wpList _ _ _ _ _ W.drew
     go_wp2
     go_roundg (n-(k+1))
     case measure=>omega
     case rel=>exact ⟨k+1,m-1,T++[r],F',_,c',by omega,rfl,by go_num,rfl,HL2,by omega,by omega,hvp,hF',HS2,HD3,HC2,hb'⟩
  ·obtain rfl:k=n:=by omega
   have hm:(m:Int)=1:=by
    have:=HD.out;rw [List.drop_of_length_le (by rw [← L.out];exact Nat.le_refl _),KB] at this;injection this
   obtain rfl:m=1:=by omega
   obtain ⟨T,a,hSt⟩:=aU (l:=St) (by rw [← HL.out];omega);subst hSt;have hT:T=[]:=List.eq_nil_of_length_eq_zero (by have:=HL.out;rw [List.length_append] at this;simp only [List.length_singleton] at this;omega);subst hT;obtain ⟨g,rfl,hz9,hgF⟩:=OH hv (by simp);clear hz9;have hc:=QH (k:=0) hv rfl;have HF:=Lib.hid (show a=CC e p q by rw [← bL (e:=e) (x:=p) (y:=q) (k:=k) (by rw [← L.out];exact Nat.le_refl _),← HS.out];rfl);clear HS HD HC HL hm hv;go_wp2;go_ret;exact Ret.int HF.out (B0.then hb)
end Go.Proofs.YtpihighajaeabaaGreat
namespace Go.Proofs.YtpihighajaeabaaGreat
open Go.RowKit
set_option linter.unusedVariables false
set_option linter.unusedSimpArgs false
theorem FZ (x:eB):decide (x=SA)=(decide (x.kind=0) && (decide (x.field=0) && (decide (x.value=0) && (decide (x.list.length=0) && decide (x.pairs.length=0))))):=by
 rw [Bool.eq_iff_iff];simp [eB.eq_iff,SA]
set_option maxRecDepth 100000 in
set_option maxHeartbeats 1600000 in
theorem aR (w:World) (x:eB) (v u:Value) (h:Rd XA w x.list [v]) (h':Rd RB w x.pairs [u]) :
  Calls Tryz.prog 112 #[.agg #[.int .i64 x.kind,.int .i64 x.field,.int .i64 x.value,v,u]] w (Ret w (.bool (decide (x=SA)))):=by
 obtain ⟨A,n,c,rfl,L0,Lc,Lm⟩:=iA h;unfold maxLen at Lm;have L:=Lib.hid L0;clear L0;obtain ⟨B,m,c',rfl,M0,Mc,Mm⟩:=iA h';unfold maxLen at Mm;have M:=Lib.hid M0;clear M0;have HD:=Lib.hid (FZ x);rw [← L.out,← M.out] at HD;have B0:Bw w (w.alloc (.cells #[.int .i64 x.kind,.int .i64 x.field,.int .i64 x.value,.slice A n c,.slice B m c'] 109)):=(Bw.refl w).alloc _;by_cases e1:x.kind=0
 ·by_cases e2:x.field=0
  ·by_cases e3:x.value=0
   ·have a1:(x.kind==0)=true:=by simpa using e1
    have a2:(x.field==0)=true:=by simpa using e2
    have a3:(x.value==0)=true:=by simpa using e3
    by_cases e4:n=0
    ·by_cases e5:m=0
     ·have E:=Lib.hid (show decide (x=SA)=true by rw [HD.out];simp [e1,e2,e3,e4,e5]);subst e4 e5;clear e1 e2 e3 HD;go_enter Tryz.func112,Tryz.ntmps112;go_wp2;go_ret;exact Ret.bool (E.out.symm) (B0)
     ·have E:=Lib.hid (show decide (x=SA)=false by rw [HD.out];simp [e5]);have a5:((m:Int)==0)=false:=by simp;omega
      subst e4;clear e1 e2 e3 HD;go_enter Tryz.func112,Tryz.ntmps112;go_wp2;go_ret;exact Ret.bool (E.out.symm) (B0)
    ·have E:=Lib.hid (show decide (x=SA)=false by rw [HD.out];simp [e4]);have a4:((n:Int)==0)=false:=by simp;omega
     clear e1 e2 e3 HD;go_enter Tryz.func112,Tryz.ntmps112;go_wp2;go_ret;exact Ret.bool (E.out.symm) (B0)
   ·have E:=Lib.hid (show decide (x=SA)=false by rw [HD.out];simp [e3]);have a1:(x.kind==0)=true:=by simpa using e1
    have a2:(x.field==0)=true:=by simpa using e2
    have a3:(x.value==0)=false:=by simpa using e3
    clear e1 e2 e3 HD;go_enter Tryz.func112,Tryz.ntmps112;go_wp2;go_ret;exact Ret.bool (E.out.symm) (B0)
  ·have E:=Lib.hid (show decide (x=SA)=false by rw [HD.out];simp [e2]);have a1:(x.kind==0)=true:=by simpa using e1
   have a2:(x.field==0)=false:=by simpa using e2
   clear e1 e2 HD;go_enter Tryz.func112,Tryz.ntmps112;go_wp2;go_ret;exact Ret.bool (E.out.symm) (B0)
 ·have E:=Lib.hid (show decide (x=SA)=false by rw [HD.out];simp [e1]);have a1:(x.kind==0)=false:=by simpa using e1
  clear e1 HD;go_enter Tryz.func112,Tryz.ntmps112;go_wp2;go_ret;exact Ret.bool (E.out.symm) (B0)
theorem cAh {e:List kA} {k:Nat} {d:Int} {n:kA} (hn:e[k]? = some n) (h:LC n d=false):KB (e.drop k) d=none:=by
 rw [NB hn,KB,h];rfl
theorem GZ {e:List kA} {k:Nat} {d:Int} {n:kA} (hn:e[k]? = some n) (h:LC n d=true):KB (e.drop k) d=KB (e.drop (k+1)) (d-zC n.op+1):=by
 rw [NB hn,KB,if_pos h]
def MI (e:List kA) (k:Nat) (d:Int):Bool:=decide (KB (e.drop k) d=some 1) && decide (e.length≤9)
theorem eR {e:List kA} {k:Nat} {d:Int} {n:kA} (hn:e[k]? = some n) (h:LC n d=false):MI e k d=false:=by rw [MI,cAh hn h];rfl
theorem KP {e:List kA} {k:Nat} {d:Int} {n:kA} (hn:e[k]? = some n) (h:LC n d=true):MI e k d=MI e (k+1) (d-zC n.op+1):=by rw [MI,GZ hn h];rfl
theorem fR {e:List kA} {k:Nat} {d:Int} (hk:e.length=k):MI e k d=(decide (d=1) && decide (k≤9)):=by
 rw [MI,List.drop_of_length_le (by omega),KB,hk];simp
theorem ZW {n:kA} {d:Int} (h0:n.op=0) (hd:0≤d):LC n d=gB n.wish:=by
 unfold LC;rw [h0];simp [inB,zC,hd]
theorem aX {n:kA} {d:Int} (h0:n.op=3):LC n d=(decide (1≤d) && decide (n.wish=SA)):=by
 unfold LC;rw [h0];simp [inB,zC]
theorem IZ {n:kA} {d:Int} (h0:n.op=1∨n.op=2∨n.op=4):LC n d=(decide (2≤d) && decide (n.wish=SA)):=by
 unfold LC;rcases h0 with h0 | h0 | h0<;>rw [h0]<;>simp [inB,zC]
theorem dX {n:kA} {d:Int} (h0:¬n.op=0) (h1:¬n.op=1) (h2:¬n.op=2) (h3:¬n.op=3) (h4:¬n.op=4):LC n d=false:=by
 unfold LC;have:inB n.op 0 4=false:=by simp [inB];omega
 rw [this];rfl
set_option maxRecDepth 100000 in
set_option maxHeartbeats 3200000 in
theorem NI (w:World) (e:List kA) (v:Value) (h:Rd RA w e [v]):Calls Tryz.prog 31 #[v] w (Ret w (.bool (bB e))):=by
 obtain ⟨A,n,c,rfl,L0,Lc,Lm⟩:=iA h;unfold maxLen at Lm;have L:=Lib.hid L0;clear L0;go_enter Tryz.func31,Tryz.ntmps31;go_wp2
 go_loopg [3,4] n (fun g d i w'=>∃(k:Nat) (m:Int),k≤n∧g=n-k∧d=.int .i64 m∧i=.int .i64 k∧0≤m∧m≤k∧Hid (bB e=MI e k m)∧Bw w w')
 case atStart=>exact ⟨0,0,by omega,rfl,rfl,rfl,by omega,by omega,Lib.hid rfl,Bw.refl _⟩
 case round=>
  obtain ⟨k,m,hk,rfl,rfl,rfl,m0,mk,HE,hb⟩:=hrel;by_cases hlt:k<n
  ·obtain ⟨x,hx⟩:=rA (xs:=e) (k:=k) (by have:=L.out;omega);obtain ⟨ba,oa,Al,cl,Ap,cp,rfl,_,c0,c1,c2,c3,c4,c5,hl,hp⟩:=bE h hx;have i1:(0:Int)≤(k:Int):=by omega
   have i2:(k:Int)<(n:Int):=by omega
   have p0:=hb.cell c0;have p1:=hb.cell c1;have p2:=hb.cell c2;have p3:=hb.cell c3;have p4:=hb.cell c4;have p5:=hb.cell c5;have hl':=Rd.bw dA hl hb;have hp':=Rd.bw DA hp hb;have HH:=Lib.hid h;have HGOOD:=Lib.hid (show LC x m=true→bB e=MI e (k+1) (m-zC x.op+1) from fun hg=>by rw [HE.out,KP hx hg]);have HBAD:=Lib.hid (show LC x m=false→bB e=false from fun hg=>by rw [HE.out,eR hx hg]);clear c0 c1 c2 c3 c4 c5 hx h hl hp HE;by_cases o0:x.op=0
   ·have q0:(x.op==0)=true:=by simpa using o0
    have ho:=ZW (n:=x) o0 m0;rw [ho,show zC x.op=0 by rw [o0];rfl] at HGOOD;rw [ho] at HBAD;clear ho o0;go_wp2_with fail;refine (JI _ x.wish _ _ hl' hp').mono ?_;rintro e w2 ⟨rfl,hb2⟩;have hbb:=hb.then hb2;rcases Bool.eq_false_or_eq_true (gB x.wish) with e1 | e1
    ·have G:=Lib.hid (HGOOD.out e1);rw [e1];rw [show m-0+1=m+1 by omega] at G;clear e1 HGOOD HBAD;go_wp2
     go_roundg (n-(k+1))
     case measure=>omega
     case rel=>exact ⟨k+1,m+1,by omega,rfl,rfl,by go_num,by omega,by omega,G,hbb⟩
    ·have G:=Lib.hid (HBAD.out e1);rw [e1];clear e1 HGOOD HBAD;go_wp2;go_ret;exact Ret.bool (G.out.symm) (hbb)
   have q0:(x.op==0)=false:=by simpa using o0
   by_cases o3:x.op=3
   ·have q3:(x.op==3)=true:=by simpa using o3
    have ho:=aX (n:=x) (d:=m) o3;rw [ho,show zC x.op=1 by rw [o3];rfl,show m-1+1=m by omega] at HGOOD;rw [ho] at HBAD;clear ho o0 o3;by_cases hd:m<1
    ·have G:=Lib.hid (HBAD.out (by rw [show decide (1≤m)=false by simp;omega];rfl));clear HGOOD HBAD;go_wp2;go_ret;exact Ret.bool (G.out.symm) (hb)
    ·rw [show decide (1≤m)=true by simp;omega,Bool.true_and] at HGOOD HBAD;go_wp2_with fail;refine (aR _ x.wish _ _ hl' hp').mono ?_;rintro e w2 ⟨rfl,hb2⟩;have hbb:=hb.then hb2;rcases Bool.eq_false_or_eq_true (decide (x.wish=SA)) with e1 | e1
     ·have G:=Lib.hid (HGOOD.out e1);rw [e1];clear e1 HGOOD HBAD;go_wp2
      go_roundg (n-(k+1))
      case measure=>omega
      case rel=>exact ⟨k+1,m,by omega,rfl,rfl,by go_num,by omega,by omega,G,hbb⟩
     ·have G:=Lib.hid (HBAD.out e1);rw [e1];clear e1 HGOOD HBAD;go_wp2;go_ret;exact Ret.bool (G.out.symm) (hbb)
   have q3:(x.op==3)=false:=by simpa using o3
   by_cases ot:x.op=1∨x.op=2∨x.op=4
   ·have ho:=IZ (n:=x) (d:=m) ot;rw [ho,show zC x.op=2 by rcases ot with h | h | h<;>rw [h]<;>rfl,show m-2+1=m-1 by omega] at HGOOD;rw [ho] at HBAD;by_cases hd:m<2
    ·have G:=Lib.hid (HBAD.out (by rw [show decide (2≤m)=false by simp;omega];rfl));clear HGOOD HBAD;rcases ot with o1 | o1 | o1
     ·have q1:(x.op==1)=true:=by simpa using o1
      clear o0 o1 o3;go_wp2;go_ret;exact Ret.bool (G.out.symm) (hb)
     ·have q1:(x.op==1)=false:=by simp;omega
      have q2:(x.op==2)=true:=by simpa using o1
      clear o0 o1 o3;go_wp2;go_ret;exact Ret.bool (G.out.symm) (hb)
     ·have q1:(x.op==1)=false:=by simp;omega
      have q2:(x.op==2)=false:=by simp;omega
      have q4:(x.op==4)=true:=by simpa using o1
      clear o0 o1 o3;go_wp2;go_ret;exact Ret.bool (G.out.symm) (hb)
    ·rw [show decide (2≤m)=true by simp;omega,Bool.true_and] at HGOOD HBAD;have key:=aR wr x.wish _ _ hl' hp';rcases Bool.eq_false_or_eq_true (decide (x.wish=SA)) with e1 | e1
     all_goals rw [e1] at key
     ·have G:=Lib.hid (HGOOD.out e1);clear e1 HGOOD HBAD;rcases ot with o1 | o1 | o1
      ·have q1:(x.op==1)=true:=by simpa using o1
       clear o0 o1 o3;go_wp2_with fail;refine (key).mono ?_;rintro e w2 ⟨rfl,hb2⟩;have hbb:=hb.then hb2;go_wp2
       go_roundg (n-(k+1))
       case measure=>omega
       case rel=>exact ⟨k+1,m-1,by omega,rfl,rfl,by go_num,by omega,by omega,G,hbb⟩
      ·have q1:(x.op==1)=false:=by simp;omega
       have q2:(x.op==2)=true:=by simpa using o1
       clear o0 o1 o3;go_wp2_with fail;refine (key).mono ?_;rintro e w2 ⟨rfl,hb2⟩;have hbb:=hb.then hb2;go_wp2
       go_roundg (n-(k+1))
       case measure=>omega
       case rel=>exact ⟨k+1,m-1,by omega,rfl,rfl,by go_num,by omega,by omega,G,hbb⟩
      ·have q1:(x.op==1)=false:=by simp;omega
       have q2:(x.op==2)=false:=by simp;omega
       have q4:(x.op==4)=true:=by simpa using o1
       clear o0 o1 o3;go_wp2_with fail;refine (key).mono ?_;rintro e w2 ⟨rfl,hb2⟩;have hbb:=hb.then hb2;go_wp2
       go_roundg (n-(k+1))
       case measure=>omega
       case rel=>exact ⟨k+1,m-1,by omega,rfl,rfl,by go_num,by omega,by omega,G,hbb⟩
     ·have G:=Lib.hid (HBAD.out e1);clear e1 HGOOD HBAD;rcases ot with o1 | o1 | o1
      ·have q1:(x.op==1)=true:=by simpa using o1
       clear o0 o1 o3;go_wp2_with fail;refine (key).mono ?_;rintro e w2 ⟨rfl,hb2⟩;go_wp2;go_ret;exact Ret.bool (G.out.symm) (hb.then hb2)
      ·have q1:(x.op==1)=false:=by simp;omega
       have q2:(x.op==2)=true:=by simpa using o1
       clear o0 o1 o3;go_wp2_with fail;refine (key).mono ?_;rintro e w2 ⟨rfl,hb2⟩;go_wp2;go_ret;exact Ret.bool (G.out.symm) (hb.then hb2)
      ·have q1:(x.op==1)=false:=by simp;omega
       have q2:(x.op==2)=false:=by simp;omega
       have q4:(x.op==4)=true:=by simpa using o1
       clear o0 o1 o3;go_wp2_with fail;refine (key).mono ?_;rintro e w2 ⟨rfl,hb2⟩;go_wp2;go_ret;exact Ret.bool (G.out.symm) (hb.then hb2)
   have q1:(x.op==1)=false:=by simp;omega
   have q2:(x.op==2)=false:=by simp;omega
   have q4:(x.op==4)=false:=by simp;omega
   have G:=Lib.hid (HBAD.out (dX o0 (by omega) (by omega) o3 (by omega)));clear HGOOD HBAD o0 o3 ot;go_wp2;go_ret;exact Ret.bool (G.out.symm) (hb)
  ·obtain rfl:k=n:=by omega
   have HF:=Lib.hid (show bB e=(decide (m=1) && decide (k≤9)) by rw [HE.out,fR L.out.symm]);clear HE hlt;by_cases hm:m=1
   ·have q1:(m==1)=true:=by simpa using hm
    by_cases h9:(k:Int)≤9
    ·have G:=Lib.hid (show bB e=true by rw [HF.out];simp [hm];omega);clear hm HF;go_wp2;go_ret;exact Ret.bool (G.out.symm) (hb)
    ·have G:=Lib.hid (show bB e=false by rw [HF.out];simp;omega);clear hm HF;go_wp2;go_ret;exact Ret.bool (G.out.symm) (hb)
   ·have q1:(m==1)=false:=by simpa using hm
    have G:=Lib.hid (show bB e=false by rw [HF.out];simp [hm]);clear hm HF;go_wp2;go_ret;exact Ret.bool (G.out.symm) (hb)
end Go.Proofs.YtpihighajaeabaaGreat
