/- Numbers and lists of numbers as text, in both programs. -/
import Derived.Test.YtpihighajaeabaaGreatQOwn2
import Derived.Laws.BytesArg
import Derived.Laws.Concat
import Derived.OpenShut
namespace Go.Proofs.YtpihighajaeabaaGreat
open Go.RowKit
set_option linter.unusedVariables false
theorem OW (W:World) (d:Int):(convert 22 9 (.slice (some ⟨W.heap.size,0,none⟩) 1 1)).run Tryz.prog (W.alloc (.cells #[.int .u8 d] 5))=.ok (.string (strOfNums [d])) (W.alloc (.cells #[.int .u8 d] 5)):=
 run_convert_bytes_arg (P:=Tryz.prog) _ 22 5 Tryz.underlying22 Tryz.underlying5 W.heap.size 0 1 1 [d] rfl (fun i hi=>by
  obtain rfl:i=0:=by omega
  go_simp) 9 Tryz.underlying9
theorem gK (a b:List Int):strOfNums a++strOfNums b=strOfNums (a++b):=by
 apply ByteArray.ext;simp [strOfNums,ByteArray.data_append]
def bF:Nat→Nat→List Int→List Int
 | 0,_,acc=>acc
 | f+1,m,acc=>if m=0 then acc else bF f (m / 10) ((48+(m:Int) % 10)::acc)
theorem CG (f m:Nat) (acc:List Int) (h:0<m) (hf:m≤f):bF f m acc=bF (f-1) (m / 10) ((48+(m:Int) % 10)::acc):=by
 obtain ⟨g,rfl⟩:∃g,f=g+1:=⟨f-1,by omega⟩;rw [bF,if_neg (by omega)];rfl
theorem qI (f:Nat) (acc:List Int):bF f 0 acc=acc:=by cases f<;>simp [bF]
def PW (n:Int):List Int:=if n=0 then [48] else if n<0 then 45::bF n.natAbs n.natAbs [] else bF n.natAbs n.natAbs []
def EA (n:Int):ByteArray:=strOfNums (PW n)
set_option maxRecDepth 100000 in
set_option maxHeartbeats 400000 in
theorem nQ (w:World) (N:Nat) (h0:0<N) (h1:Hid ((N:Int)≤9223372036854775807)) :
  Calls Tryz.prog 64 #[.int .i64 N] w (Ret w (.string (EA N))):=by
 have hne0:((N:Int)==0)=false:=by simp;omega
 have hge:decide ((N:Int)<0)=false:=by simp
 have hcv:=OW;have FIN:Hid (EA N=strOfNums (bF N N [])):=by show _=_;simp only [EA,PW,Int.natAbs_natCast];rw [if_neg (by omega),if_neg (by omega)]
 go_enter Tryz.func64,Tryz.ntmps64;go_wp2
 go_loopw [0,3] (fun a s w'=>∃(f m:Nat) (acc:List Int),m≤f∧a=.int .i64 m∧s=.string (strOfNums acc)∧Hid (bF f m acc=bF N N [])∧acc.length+m≤N∧Bw w w') (fun a s _=>(intOf a).toNat)
 case atStart=>exact ⟨N,N,[],by omega,rfl,rfl,rfl,by simp,Bw.refl _⟩
 case round=>
  obtain ⟨f,m,acc,g1,rfl,rfl,HE,g2,hb⟩:=hrel;by_cases hm:0<m
  ·have hmb:(m:Int)≤9223372036854775807:=by have:=h1.out;omega
   have hne:((m:Int) != 0)=true:=by simp;omega
   have hadd:∀W,(Op.stringOp .add (strOfNums [48+(m:Int) % 10]) (strOfNums acc)).run Tryz.prog W=.ok (.string (strOfNums ((48+(m:Int) % 10)::acc))) W:=fun W=>by
    rw [run_string_add_sum W _ _ (by rw [strOfNums_size,strOfNums_size];have:=h1.out;simp;omega),gK];rfl
   have HS:=Lib.hid (CG f m acc hm g1);go_wp2
   go_roundw
   case rel=>exact ⟨f-1,m / 10,(48+(m:Int) % 10)::acc,by omega,by go_num,rfl,by show _=_;rw [← HE.out,HS.out],by simp;omega,hb.alloc _⟩
   case measure=>simp [intOf];omega
  ·obtain rfl:m=0:=by omega
   go_wp2;go_ret;exact Ret.str (by rw [FIN.out,← HE.out,qI]) hb
set_option maxRecDepth 100000 in
set_option maxHeartbeats 400000 in
theorem oQ (w:World) (N:Nat) (h0:0<N) (h1:Hid ((N:Int)≤9223372036854775808)) :
  Calls Tryz.prog 64 #[.int .i64 (-(N:Int))] w (Ret w (.string (EA (-(N:Int))))):=by
 have hne0:(-(N:Int)==0)=false:=by simp;omega
 have hge:decide (-(N:Int)<0)=true:=by simp;omega
 have hcv:=OW;have FIN:Hid (EA (-(N:Int))=strOfNums (45::bF N N [])):=by show _=_;simp only [EA,PW,Int.natAbs_neg,Int.natAbs_natCast];rw [if_neg (by omega),if_pos (by omega)]
 go_enter Tryz.func64,Tryz.ntmps64;go_wp2
 go_loopw [0,3] (fun a s w'=>∃(f m:Nat) (acc:List Int),m≤f∧a=.int .i64 (-(m:Int))∧s=.string (strOfNums acc)∧Hid (bF f m acc=bF N N [])∧2*acc.length≤N+3∧(0<m→2*acc.length+m≤N+1)∧m≤N∧Bw w w') (fun a s _=>(-(intOf a)).toNat)
 case atStart=>exact ⟨N,N,[],by omega,rfl,rfl,rfl,by simp,by simp,by omega,Bw.refl _⟩
 case round=>
  obtain ⟨f,m,acc,g1,rfl,rfl,HE,g2,g3,g4,hb⟩:=hrel;by_cases hm:0<m
  ·have g5:=g3 hm;clear g3;have hmb:(m:Int)≤9223372036854775808:=by have:=h1.out;omega
   have hne:(-(m:Int) != 0)=true:=by simp;omega
   have hadd:∀W,(Op.stringOp .add (strOfNums [48+(m:Int) % 10]) (strOfNums acc)).run Tryz.prog W=.ok (.string (strOfNums ((48+(m:Int) % 10)::acc))) W:=fun W=>by
    rw [run_string_add_sum W _ _ (by rw [strOfNums_size,strOfNums_size];have:=h1.out;simp;omega),gK];rfl
   have HS:=Lib.hid (CG f m acc hm g1);by_cases hd:(m:Int) % 10=0
   ·rw [hd] at hadd HS;rw [show (48:Int)+0=48 from rfl] at hadd HS;go_wp2
    go_roundw
    case rel=>exact ⟨f-1,m / 10,48::acc,by omega,by go_num,rfl,by show _=_;rw [← HE.out,HS.out],by simp;omega,by simp;omega,by omega,hb.alloc _⟩
    case measure=>simp [intOf];omega
   ·have hd':0<(m:Int) % 10:=by omega
    clear hd;go_wp2
    go_roundw
    case rel=>exact ⟨f-1,m / 10,(48+(m:Int) % 10)::acc,by omega,by go_num,rfl,by show _=_;rw [← HE.out,HS.out],by simp;omega,by simp;omega,by omega,hb.alloc _⟩
    case measure=>simp [intOf];omega
  ·obtain rfl:m=0:=by omega
   have hadd:∀W,(Op.stringOp .add ⟨#[45]⟩ (strOfNums acc)).run Tryz.prog W=.ok (.string (strOfNums (45::acc))) W:=fun W=>by
    rw [run_string_add_sum W _ _ (by rw [strOfNums_size];have:=h1.out;simp [ByteArray.size];omega)];exact congrArg (fun b=>Result.ok (Value.string b) W) (gK [45] acc)
   go_wp2;go_ret;exact Ret.str (by rw [FIN.out,← HE.out,qI]) hb
theorem DP:EA 0=⟨#[48]⟩:=rfl
theorem KC (w:World) (n:Int) (hn:(Lit.int .i64 n).wf=true):Calls Tryz.prog 64 #[.int .i64 n] w (Ret w (.string (EA n))):=by
 have ⟨b1,b2⟩:=Go.bounds_i64 hn;rcases Int.lt_trichotomy n 0 with h | h | h
 ·obtain ⟨N,rfl⟩:∃N:Nat,n = -(N:Int):=⟨n.natAbs,by omega⟩;exact oQ w N (by omega) (by show (N:Int)≤9223372036854775808;omega)
 ·subst h;go_enter Tryz.func64,Tryz.ntmps64;go_wp2;go_ret;exact Ret.str DP.symm (Bw.refl _)
 ·obtain ⟨N,rfl⟩:∃N:Nat,n=(N:Int):=⟨n.natAbs,by omega⟩;exact nQ w N (by omega) (by show (N:Int)≤9223372036854775807;omega)
def fU8:Fp Int:=fun _ n cs F=>cs=[.int .u8 n]∧F=[]
def rU8:Rep Int:=fun _ _ n cs=>cs=[.int .u8 n]
theorem TK:sG rU8:=⟨fun _ h=>h⟩
theorem WG {B:Nat}:VB B fU8:=⟨fun _ h=>h,fun h b hb=>by rw [h.2] at hb;simp at hb,fun h u hu=>by rw [h.1] at hu;simp at hu;rw [hu];rfl⟩
theorem iAj {B:Nat} {w:World} {x:Int} {u:List Value} {f:List Nat} (h:fU8 w x u f):rU8 w (fun b=>b∈f∨b<B) x u:=h.1
abbrev cA3:Fp (List Int):=fSl 5 1 fU8
theorem jE {B:Nat}:VB B cA3:=xB WG
theorem TL {B:Nat} {w:World} {xs:List Int} {cs:List Value} {F:List Nat} (h:cA3 w xs cs F):rSl 1 rU8 w (fun b=>b∈F∨b<B) xs cs:=DI TK (fun _ _ _ h=>iAj h) h
theorem dI {w:World} {S:XB} {A:Option Addr} {n c k:Nat} {xs:List Int} (h:rSl 1 rU8 w S xs [.slice A n c]) {x:Int} (hx:xs[k]? = some x):∃b o,A=some ⟨b,o,none⟩∧S b∧w.cell? ⟨b,o+k,none⟩=some (.int .u8 x):=by
 obtain ⟨b,o,us,e,hS,_,hc,rfl⟩:=RK h hx;exact ⟨b,o,e,hS,by simpa using hc 0 _ rfl⟩
theorem bAd:(Tryz.prog.info? 5).map (fun i=>(i.zero,i.size,i.bytes))=some (some (.int .u8 0),1,1):=by kernel_rfl
def UL (l:List Int) (i:Nat) (ys:List Int):Prop:=ys.length=l.length∧∀p,p<l.length→ys[p]? = if p<i∨l.length-1-i<p then l[l.length-1-p]? else l[p]?
theorem CN (l:List Int):UL l 0 l:=⟨rfl,fun p hp=>by rw [if_neg];omega⟩
theorem DN {l ys:List Int} {i:Nat} (h:UL l i ys) (hi:l.length-1≤2*i):ys=l.reverse:=by
 apply List.ext_getElem?;intro p;by_cases hp:p<l.length
 ·rw [h.2 p hp,List.getElem?_reverse hp];by_cases h1:p<i∨l.length-1-i<p
  ·rw [if_pos h1]
  ·rw [if_neg h1];congr 1;omega
 ·rw [List.getElem?_eq_none (by rw [h.1];omega),List.getElem?_eq_none (by simp;omega)]
theorem EN {l ys:List Int} {i:Nat} {a b:Int} (h:UL l i ys) (hi:2*i+1<l.length) (ha:ys[i]? = some a) (hb:ys[l.length-1-i]? = some b):UL l (i+1) ((ys.set i b).set (l.length-1-i) a):=by
 refine ⟨by simp [h.1],fun p hp=>?_⟩;have e1:=h.2 i (by omega);have e2:=h.2 (l.length-1-i) (by omega);rw [if_neg (by omega)] at e1;rw [if_neg (by omega)] at e2;have hl:=h.1;by_cases h1:l.length-1-i=p
 ·subst h1;rw [List.getElem?_set_self (by simp;omega),if_pos (by omega),← ha,e1]
  congr 1;omega
 ·rw [List.getElem?_set_ne h1];by_cases h2:i=p
  ·subst h2;rw [List.getElem?_set_self (by omega),if_pos (by omega),← hb,e2]
  ·rw [List.getElem?_set_ne h2,h.2 p hp];by_cases h3:p<i∨l.length-1-i<p
   ·rw [if_pos h3,if_pos (by omega)]
   ·rw [if_neg h3,if_neg (by omega)]
theorem TT {k m N:Nat} (hm:0<m) (h:10 ^ k*m≤N) (hN:N≤9223372036854775808):k≤18:=by
 rcases Nat.lt_or_ge 18 k with hk | hk
 ·have h1:10 ^ 19≤10 ^ k:=Nat.pow_le_pow_right (by omega) hk;have h2:10 ^ k*1≤10 ^ k*m:=Nat.mul_le_mul_left _ hm;have h3:(10:Nat) ^ 19=10000000000000000000:=by decide
  omega
 ·exact hk
theorem SQ {k m N:Nat} (h:10 ^ k*m≤N):10 ^ (k+1)*(m / 10)≤N:=by
 have h1:10 ^ (k+1)*(m / 10)=10 ^ k*(10*(m / 10)):=by rw [Nat.pow_succ,Nat.mul_assoc]
 have h2:10 ^ k*(10*(m / 10))≤10 ^ k*m:=Nat.mul_le_mul_left _ (by omega);omega
set_option maxRecDepth 100000 in
set_option maxHeartbeats 800000 in
theorem pQ (w:World) (N:Nat) (h0:0<N) (h1:Hid ((N:Int)≤9223372036854775807)) :
  Calls Tryz.prog 125 #[.int .i64 N] w (Ret w (.string (EA N))):=by
 obtain ⟨i0,hi,hz0,hz1,hz2⟩:=info_parts bAd;have hne0:((N:Int)==0)=false:=by simp;omega
 have hge:decide ((N:Int)<0)=false:=by simp
 have FIN:Hid (EA N=strOfNums (bF N N [])):=by show _=_;simp only [EA,PW,Int.natAbs_natCast];rw [if_neg (by omega),if_neg (by omega)]
 have hv0:=PA (e:=5) (sz:=1) (R:=fU8) w;go_enter Tryz.func125,Tryz.ntmps125;go_wp2
 go_loopw [3,4] (fun s a w'=>∃(f m:Nat) (acc:List Int) (F:List Nat),m≤f∧a=.int .i64 m∧cA3 w' acc [s] F∧pA w.heap.size F∧Hid (bF f m acc.reverse=bF N N [])∧Hid (10 ^ acc.length*m≤N)∧acc.length≤20∧m≤N∧(acc.length=0→0<m)∧Bw w w') (fun s a _=>(intOf a).toNat)
 case atStart=>exact ⟨N,N,[],_,by omega,rfl,hv0,⟨by simp,by simp⟩,rfl,by show _≤_;simp,by simp,by simp,fun _=>h0,(Bw.refl _).alloc _⟩
 case round=>
  obtain ⟨f,m,acc,F,g1,rfl,hv,hF,HE,g2,g3,g4,g5,hb⟩:=hrel;by_cases hm:0<m
  ·have hmb:(m:Int)≤9223372036854775807:=by have:=h1.out;omega
   have hk:=TT hm g2.out (by have:=h1.out;omega);have hne:((m:Int) != 0)=true:=by simp;omega
   have HS:=Lib.hid (CG f m acc.reverse hm g1);have hvW:=(jE (B:=w.heap.size)).bw ((Bw.refl wr).alloc (.cells #[.int .u8 (48+(m:Int) % 10)] 5)) hb.size hv;have hFm:=(jE (B:=0)).lt hv;have hbW:=hb.alloc (.cells #[.int .u8 (48+(m:Int) % 10)] 5);have hcl:=cell_one_new wr (.int .u8 (48+(m:Int) % 10)) 5;clear hv hv0;go_wp2_with (at_builtin;refine rB _ rfl (.tmp 22) (.tmp 26) 22 rfl w 5 i0 _ 1 1 Tryz.underlying22 hi hz0 hz1 hz2 rfl (by omega) WG _ acc F rfl hvW hF ⟨wr.heap.size,0,none⟩ 1 rfl (48+(m:Int) % 10) [.int .u8 (48+(m:Int) % 10)] [] hcl ⟨rfl,rfl⟩ rfl wr.heap.size hFm pA.nil hb.size (by omega) (by omega) hbW ?_;intro v' w' F' hv' hF' hb')
   go_roundw
   case rel=>exact ⟨f-1,m / 10,_,F',by omega,by go_num,hv',hF',by show _=_;rw [← HE.out,HS.out];simp,by show _≤_;rw [List.length_append];exact SQ g2.out,by simp;omega,by omega,by simp,hb'⟩
   case measure=>simp [intOf];omega
  ·obtain rfl:m=0:=by omega
   rw [show (((0:Nat):Int))=0 from rfl];have hpos:0<acc.length:=by omega
   obtain ⟨g,L,c,rfl,HL,hc1,hc2,hL0⟩:=VG hv hpos;have RES:Hid (bF N N []=acc.reverse):=by show _=_;rw [← HE.out,qI]
   have hL2:L≤21:=by have:=HL.out;omega
   clear HE g2 g3 hpos g5;go_wp2
   go_loopw [6,7] (fun i j w'=>∃(k q:Nat) (ys:List Int) (F:List Nat),i=.int .i64 k∧j=.int .i64 q∧q+k+1≤L∧L≤q+k+1∧UL acc k ys∧cA3 w' ys [.slice (some ⟨g,0,none⟩) L c] F∧pA w.heap.size F∧Bw w w') (fun i j _=>L-(intOf i).toNat)
   case atStart=>exact ⟨0,L-1,acc,_,rfl,by go_num,by omega,by omega,CN _,hv,hF,hb⟩
   case round=>
    clear hv hF hb;obtain ⟨k,q,ys,F',rfl,rfl,q1,q2,hsw,hv,hF,hb⟩:=hrel;have hyl:ys.length=L:=hsw.1.trans HL.out;have HYL:=Lib.hid hyl;clear hyl;by_cases hlt:k<q
    ·obtain ⟨a,ha⟩:=rA (xs:=ys) (k:=k) (by rw [HYL.out];omega);obtain ⟨b,hbq⟩:=rA (xs:=ys) (k:=q) (by rw [HYL.out];omega);obtain ⟨_,_,e,_,ca⟩:=dI (TL (B:=0) hv) ha;injection e with e;injection e with e1 e2;subst e1 e2;obtain ⟨_,_,e,_,cb⟩:=dI (TL (B:=0) hv) hbq;injection e with e;injection e with e1 e2;subst e1 e2;have fa:=vD hv k;have fb:=vD hv q;obtain ⟨F1,hv1,hF1,hg1,hBg,_⟩:=IH (WG (B:=w.heap.size)) hv hF (k:=k) (y:=b) (u:=[.int .u8 b]) ⟨rfl,rfl⟩ rfl (m:=wr.heap.size) ((jE (B:=0)).lt hv) pA.nil hb.size (by rw [HYL.out];omega);obtain ⟨F2,hv2,hF2,hg2,_,_⟩:=IH (WG (B:=w.heap.size)) hv1 hF1 (k:=q) (y:=a) (u:=[.int .u8 a]) ⟨rfl,rfl⟩ rfl (m:=(aD wr g (k*1) [.int .u8 b]).heap.size) ((jE (B:=0)).lt hv1) pA.nil (by have:=hb.size;have:=hg1.size;omega) (by rw [List.length_set,HYL.out];omega);simp only [aD,Nat.mul_one] at hv2;simp only [Nat.zero_add] at ca cb;have e3:acc.length-1-k=q:=by rw [HL.out];omega
     have hst:=EN hsw (by rw [HL.out];omega) ha (by rw [e3];exact hbq);rw [e3] at hst;clear e3;have HA:=Lib.hid ha;have HB:=Lib.hid hbq;have hbb:Bw w ((wr.setCell ⟨g,k,none⟩ (.int .u8 b)).setCell ⟨g,q,none⟩ (.int .u8 a)):=(hb.set hBg _).set hBg _;clear ha hbq hv hv1 hF hF1 hg1 hg2;go_wp2
     go_region
     all_goals
      go_wp2
      go_roundw
      case rel=>exact ⟨k+1,q-1,_,F2,by go_num,by go_num,by omega,by omega,hst,hv2,hF2,hbb.drew⟩
      case measure=>simp [intOf];omega
    ·have e1:ys=acc.reverse:=DN hsw (by rw [HL.out];omega);subst e1;have hcv:=run_convert_bytes_arg (P:=Tryz.prog) wr 22 5 Tryz.underlying22 Tryz.underlying5 g 0 L c acc.reverse HYL.out (fun i hi=>by
      obtain ⟨x,hx⟩:=rA (xs:=acc.reverse) (k:=i) (by rw [HYL.out];exact hi);obtain ⟨_,_,e,_,ca⟩:=dI (TL (B:=0) hv) hx;injection e with e;injection e with e1 e2;subst e1 e2;rw [ca,List.getD,hx];rfl) 9 Tryz.underlying9
     clear hsw hv;go_wp2;go_ret;exact Ret.str (by rw [FIN.out,RES.out]) hb
set_option maxRecDepth 100000 in
set_option maxHeartbeats 800000 in
theorem qQ (w:World) (N:Nat) (h0:0<N) (h1:Hid ((N:Int)≤9223372036854775808)) :
  Calls Tryz.prog 125 #[.int .i64 (-(N:Int))] w (Ret w (.string (EA (-(N:Int))))):=by
 obtain ⟨i0,hi,hz0,hz1,hz2⟩:=info_parts bAd;have hne0:(-(N:Int)==0)=false:=by simp;omega
 have hge:decide (-(N:Int)<0)=true:=by simp;omega
 have FIN:Hid (EA (-(N:Int))=strOfNums (45::bF N N [])):=by show _=_;simp only [EA,PW,Int.natAbs_neg,Int.natAbs_natCast];rw [if_neg (by omega),if_pos (by omega)]
 have hv0:=PA (e:=5) (sz:=1) (R:=fU8) w;go_enter Tryz.func125,Tryz.ntmps125;go_wp2
 go_loopw [3,4] (fun s a w'=>∃(f m:Nat) (acc:List Int) (F:List Nat),m≤f∧a=.int .i64 (-(m:Int))∧cA3 w' acc [s] F∧pA w.heap.size F∧Hid (bF f m acc.reverse=bF N N [])∧Hid (10 ^ acc.length*m≤N)∧acc.length≤20∧m≤N∧(acc.length=0→0<m)∧Bw w w') (fun s a _=>(-(intOf a)).toNat)
 case atStart=>exact ⟨N,N,[],_,by omega,rfl,hv0,⟨by simp,by simp⟩,rfl,by show _≤_;simp,by simp,by simp,fun _=>h0,(Bw.refl _).alloc _⟩
 case round=>
  obtain ⟨f,m,acc,F,g1,rfl,hv,hF,HE,g2,g3,g4,g5,hb⟩:=hrel;by_cases hm:0<m
  ·have hmb:(m:Int)≤9223372036854775808:=by have:=h1.out;omega
   have hk:=TT hm g2.out (by have:=h1.out;omega);have hne:(-(m:Int) != 0)=true:=by simp;omega
   have HS:=Lib.hid (CG f m acc.reverse hm g1);by_cases hd:(m:Int) % 10=0
   ·have HD:=Lib.hid hd;rw [hd] at HS;rw [show (48:Int)+0=48 from rfl] at HS;have hvW:=(jE (B:=w.heap.size)).bw ((Bw.refl wr).alloc (.cells #[.int .u8 48] 5)) hb.size hv;have hFm:=(jE (B:=0)).lt hv;have hbW:=hb.alloc (.cells #[.int .u8 48] 5);have hcl:=cell_one_new wr (.int .u8 48) 5;clear hv hv0;go_wp2_with (at_builtin;refine rB _ rfl (.tmp 22) (.tmp 26) 22 rfl w 5 i0 _ 1 1 Tryz.underlying22 hi hz0 hz1 hz2 rfl (by omega) WG _ acc F rfl hvW hF ⟨wr.heap.size,0,none⟩ 1 rfl 48 [.int .u8 48] [] hcl ⟨rfl,rfl⟩ rfl wr.heap.size hFm pA.nil hb.size (by omega) (by omega) hbW ?_;intro v' w' F' hv' hF' hb')
    go_roundw
    case rel=>exact ⟨f-1,m / 10,_,F',by omega,by go_num,hv',hF',by show _=_;rw [← HE.out,HS.out];simp,by show _≤_;rw [List.length_append];exact SQ g2.out,by simp;omega,by omega,by simp,hb'⟩
    case measure=>simp [intOf];omega
   ·have hd':0<(m:Int) % 10:=by omega
    clear hd;have hvW:=(jE (B:=w.heap.size)).bw ((Bw.refl wr).alloc (.cells #[.int .u8 (48+(m:Int) % 10)] 5)) hb.size hv;have hFm:=(jE (B:=0)).lt hv;have hbW:=hb.alloc (.cells #[.int .u8 (48+(m:Int) % 10)] 5);have hcl:=cell_one_new wr (.int .u8 (48+(m:Int) % 10)) 5;clear hv hv0;go_wp2_with (at_builtin;refine rB _ rfl (.tmp 22) (.tmp 26) 22 rfl w 5 i0 _ 1 1 Tryz.underlying22 hi hz0 hz1 hz2 rfl (by omega) WG _ acc F rfl hvW hF ⟨wr.heap.size,0,none⟩ 1 rfl (48+(m:Int) % 10) [.int .u8 (48+(m:Int) % 10)] [] hcl ⟨rfl,rfl⟩ rfl wr.heap.size hFm pA.nil hb.size (by omega) (by omega) hbW ?_;intro v' w' F' hv' hF' hb')
    go_roundw
    case rel=>exact ⟨f-1,m / 10,_,F',by omega,by go_num,hv',hF',by show _=_;rw [← HE.out,HS.out];simp,by show _≤_;rw [List.length_append];exact SQ g2.out,by simp;omega,by omega,by simp,hb'⟩
    case measure=>simp [intOf];omega
  ·obtain rfl:m=0:=by omega
   rw [show (((0:Nat):Int))=0 from rfl];have hpos:0<acc.length:=by omega
   have RES:Hid (45::bF N N []=(acc++[45]).reverse):=by show _=_;rw [List.reverse_append,← HE.out,qI];rfl
   have hvW:=(jE (B:=w.heap.size)).bw ((Bw.refl wr).alloc (.cells #[.int .u8 45] 5)) hb.size hv;have hFm:=(jE (B:=0)).lt hv;have hbW:=hb.alloc (.cells #[.int .u8 45] 5);have hcl:=cell_one_new wr (.int .u8 45) 5;clear hv hv0 HE g2;go_wp2_with (at_builtin;refine rB _ rfl (.tmp 30) (.tmp 31) 22 rfl w 5 i0 _ 1 1 Tryz.underlying22 hi hz0 hz1 hz2 rfl (by omega) WG _ acc F rfl hvW hF ⟨wr.heap.size,0,none⟩ 1 rfl 45 [.int .u8 45] [] hcl ⟨rfl,rfl⟩ rfl wr.heap.size hFm pA.nil hb.size (by omega) (by omega) hbW ?_;intro v' w1 F1 hv1 hF1 hb1;obtain ⟨g,L,c,rfl,HL,hc1,hc2,hL0⟩:=VG hv1 (by simp);have hL2:L≤21:=by (have:=HL.out;rw [List.length_append,List.length_singleton] at this;omega));clear hvW hFm hbW hcl hF hb;have hF:=hF1;have hb:=hb1;have hv:=hv1;clear hF1 hb1 hv1;clear hpos g3 g5;generalize acc++[45]=acc at RES hv HL
   go_loopw [6,7] (fun i j w'=>∃(k q:Nat) (ys:List Int) (F:List Nat),i=.int .i64 k∧j=.int .i64 q∧q+k+1≤L∧L≤q+k+1∧UL acc k ys∧cA3 w' ys [.slice (some ⟨g,0,none⟩) L c] F∧pA w.heap.size F∧Bw w w') (fun i j _=>L-(intOf i).toNat)
   case atStart=>exact ⟨0,L-1,acc,_,rfl,by go_num,by omega,by omega,CN _,hv,hF,hb⟩
   case round=>
    clear hv hF hb;obtain ⟨k,q,ys,F',rfl,rfl,q1,q2,hsw,hv,hF,hb⟩:=hrel;have hyl:ys.length=L:=hsw.1.trans HL.out;have HYL:=Lib.hid hyl;clear hyl;by_cases hlt:k<q
    ·obtain ⟨a,ha⟩:=rA (xs:=ys) (k:=k) (by rw [HYL.out];omega);obtain ⟨b,hbq⟩:=rA (xs:=ys) (k:=q) (by rw [HYL.out];omega);obtain ⟨_,_,e,_,ca⟩:=dI (TL (B:=0) hv) ha;injection e with e;injection e with e1 e2;subst e1 e2;obtain ⟨_,_,e,_,cb⟩:=dI (TL (B:=0) hv) hbq;injection e with e;injection e with e1 e2;subst e1 e2;have fa:=vD hv k;have fb:=vD hv q;obtain ⟨F1,hv1,hF1,hg1,hBg,_⟩:=IH (WG (B:=w.heap.size)) hv hF (k:=k) (y:=b) (u:=[.int .u8 b]) ⟨rfl,rfl⟩ rfl (m:=wr.heap.size) ((jE (B:=0)).lt hv) pA.nil hb.size (by rw [HYL.out];omega);obtain ⟨F2,hv2,hF2,hg2,_,_⟩:=IH (WG (B:=w.heap.size)) hv1 hF1 (k:=q) (y:=a) (u:=[.int .u8 a]) ⟨rfl,rfl⟩ rfl (m:=(aD wr g (k*1) [.int .u8 b]).heap.size) ((jE (B:=0)).lt hv1) pA.nil (by have:=hb.size;have:=hg1.size;omega) (by rw [List.length_set,HYL.out];omega);simp only [aD,Nat.mul_one] at hv2;simp only [Nat.zero_add] at ca cb;have e3:acc.length-1-k=q:=by rw [HL.out];omega
     have hst:=EN hsw (by rw [HL.out];omega) ha (by rw [e3];exact hbq);rw [e3] at hst;clear e3;have HA:=Lib.hid ha;have HB:=Lib.hid hbq;have hbb:Bw w ((wr.setCell ⟨g,k,none⟩ (.int .u8 b)).setCell ⟨g,q,none⟩ (.int .u8 a)):=(hb.set hBg _).set hBg _;clear ha hbq hv hv1 hF hF1 hg1 hg2;go_wp2
     go_region
     all_goals
      go_wp2
      go_roundw
      case rel=>exact ⟨k+1,q-1,_,F2,by go_num,by go_num,by omega,by omega,hst,hv2,hF2,hbb.drew⟩
      case measure=>simp [intOf];omega
    ·have e1:ys=acc.reverse:=DN hsw (by rw [HL.out];omega);subst e1;have hcv:=run_convert_bytes_arg (P:=Tryz.prog) wr 22 5 Tryz.underlying22 Tryz.underlying5 g 0 L c acc.reverse HYL.out (fun i hi=>by
      obtain ⟨x,hx⟩:=rA (xs:=acc.reverse) (k:=i) (by rw [HYL.out];exact hi);obtain ⟨_,_,e,_,ca⟩:=dI (TL (B:=0) hv) hx;injection e with e;injection e with e1 e2;subst e1 e2;rw [ca,List.getD,hx];rfl) 9 Tryz.underlying9
     clear hsw hv;go_wp2;go_ret;exact Ret.str (by rw [FIN.out,RES.out]) hb
theorem OB (w:World) (n:Int) (hn:(Lit.int .i64 n).wf=true):Calls Tryz.prog 125 #[.int .i64 n] w (Ret w (.string (EA n))):=by
 have ⟨b1,b2⟩:=Go.bounds_i64 hn;rcases Int.lt_trichotomy n 0 with h | h | h
 ·obtain ⟨N,rfl⟩:∃N:Nat,n = -(N:Int):=⟨n.natAbs,by omega⟩;exact qQ w N (by omega) (by show (N:Int)≤9223372036854775808;omega)
 ·subst h;go_enter Tryz.func125,Tryz.ntmps125;go_wp2;go_ret;exact Ret.str DP.symm (Bw.refl _)
 ·obtain ⟨N,rfl⟩:∃N:Nat,n=(N:Int):=⟨n.natAbs,by omega⟩;exact pQ w N (by omega) (by show (N:Int)≤9223372036854775807;omega)
theorem QW:∀(f m:Nat) (acc:List Int) (k:Nat),m<10 ^ k→(bF f m acc).length≤acc.length+k
 | 0,_,acc,k,_=>by simp [bF]
 | f+1,m,acc,k,h=>by
  rw [bF];by_cases hm:m=0
  ·rw [if_pos hm];omega
  ·rw [if_neg hm]
   cases k with
   | zero=>simp at h;omega
   | succ k=>
    have:=QW f (m / 10) ((48+(m:Int) % 10)::acc) k (by rw [Nat.pow_succ] at h;omega);simp at this ⊢;omega
theorem bAe:∀(f m:Nat) (acc:List Int),acc.length≤(bF f m acc).length
 | 0,_,acc=>by simp [bF]
 | f+1,m,acc=>by
  rw [bF];by_cases hm:m=0
  ·rw [if_pos hm];omega
  ·rw [if_neg hm];have:=bAe f (m / 10) ((48+(m:Int) % 10)::acc);simp at this;omega
theorem eAl {m:Nat} (h:0<m):0<(bF m m []).length:=by
 rw [CG m m [] h (Nat.le_refl _)];have:=bAe (m-1) (m / 10) [48+(m:Int) % 10];simp at this;omega
theorem OA {n:Int} (hn:(Lit.int .i64 n).wf=true):1≤(EA n).size∧(EA n).size≤20:=by
 have ⟨b1,b2⟩:=Go.bounds_i64 hn;have hb:n.natAbs<10 ^ 19:=by
  have:(10:Nat) ^ 19=10000000000000000000:=by decide
  omega
 have h1:=QW n.natAbs n.natAbs [] 19 hb;unfold EA;rw [strOfNums_size];unfold PW;by_cases h0:n=0
 ·rw [if_pos h0];simp
 ·rw [if_neg h0];have h2:=eAl (m:=n.natAbs) (by omega);simp at h1;by_cases h3:n<0
  ·rw [if_pos h3];simp;omega
  ·rw [if_neg h3];omega
def gl (sep:ByteArray):Nat→ByteArray→List ByteArray→ByteArray
 | _,acc,[]=>acc
 | i,acc,t::ts=>gl sep (i+1) ((if 0<i then acc++sep else acc)++t) ts
def mE (l:List ByteArray) (sep:ByteArray):ByteArray:=gl sep 0 ⟨#[]⟩ l
theorem kV {sep acc:ByteArray} {l:List ByteArray} {k:Nat} {t:ByteArray} (h:l[k]? = some t):gl sep k acc (l.drop k)=gl sep (k+1) ((if 0<k then acc++sep else acc)++t) (l.drop (k+1)):=by rw [NB h,gl]
def TD (sep:ByteArray) (l:List ByteArray):Nat:=NH (fun t=>t.size+sep.size) l
theorem cA (a b:ByteArray):(a++b).size=a.size+b.size:=ByteArray.size_append
theorem iJ (sep:ByteArray):∀(l:List ByteArray) (i:Nat) (acc:ByteArray),(gl sep i acc l).size≤acc.size+TD sep l
 | [],_,acc=>by simp [gl,TD,NH]
 | t::ts,i,acc=>by
  have e:TD sep (t::ts)=t.size+sep.size+TD sep ts:=rfl;by_cases h:0<i
  ·have:=iJ sep ts (i+1) (acc++sep++t);rw [cA,cA] at this;rw [gl,if_pos h,e];omega
  ·have:=iJ sep ts (i+1) (acc++t);rw [cA] at this;rw [gl,if_neg h,e];omega
set_option maxHeartbeats 800000 in
theorem FQ (w:World) (l:List ByteArray) (sep:ByteArray) (v:Value) (h:Rd OQ w l [v]) (hs:TD sep l≤1099511627776) (hp:sep.size≤1024):Calls Tryz.prog 183 #[v,.string sep] w (Ret w (.string (mE l sep))):=by
 obtain ⟨A,n,c,rfl,a1,a2,a3⟩:=iA h;unfold maxLen at a3;have L1:=Lib.hid a1;clear a1;go_enter Tryz.func183,Tryz.ntmps183;go_wp2
 go_loopw [5,10] (fun s i w'=>∃(k:Nat) (acc:ByteArray),k≤n∧i=.int .i64 k∧s=.string acc∧Hid (mE l sep=gl sep k acc (l.drop k))∧acc.size+TD sep (l.drop k)≤1099511627776∧Bw w w') (fun s i _=>n-(intOf i).toNat)
 case atStart=>exact ⟨0,_,by omega,rfl,rfl,rfl,by simpa [ByteArray.size] using hs,Bw.refl _⟩
 case round=>
  obtain ⟨k,acc,hk,rfl,rfl,HE,g1,hb⟩:=hrel;by_cases hlt:k<n
  ·obtain ⟨t,hx⟩:=rA (xs:=l) (k:=k) (by rw [← L1.out];exact hlt);obtain ⟨ba,oa,rfl,_,hcx⟩:=cE (h.bw tG hb) hx;have HS:=Lib.hid (kV (sep:=sep) (acc:=acc) hx);have g2:TD sep (l.drop k)=t.size+sep.size+TD sep (l.drop (k+1)):=cA2 _ hx;rw [g2] at g1;clear g2 hx h hs;by_cases h0:0<k
   ·have hadd:∀W,(Op.stringOp .add acc sep).run Tryz.prog W=.ok (.string (acc++sep)) W:=fun W=>run_string_add_sum W _ _ (by omega)
    have hadd2:∀W,(Op.stringOp .add (acc++sep) t).run Tryz.prog W=.ok (.string (acc++sep++t)) W:=fun W=>run_string_add_sum W _ _ (by rw [cA];omega)
    go_wp2
    go_roundw
    case rel=>exact ⟨k+1,_,by omega,by go_num,rfl,by show _=_;rw [HE.out,HS.out,if_pos h0],by rw [cA,cA];omega,hb⟩
    case measure=>simp [intOf];omega
   ·have hadd2:∀W,(Op.stringOp .add acc t).run Tryz.prog W=.ok (.string (acc++t)) W:=fun W=>run_string_add_sum W _ _ (by omega)
    go_wp2
    go_roundw
    case rel=>exact ⟨k+1,_,by omega,by go_num,rfl,by show _=_;rw [HE.out,HS.out,if_neg (by omega)],by rw [cA];omega,hb⟩
    case measure=>simp [intOf];omega
  ·go_wp2;go_ret;exact Ret.str (by rw [HE.out,List.drop_of_length_le (by rw [← L1.out];omega),gl]) hb
end Go.Proofs.YtpihighajaeabaaGreat
