/- Lists of numbers as one text: numbers, IdLine. -/
import Derived.Test.YtpihighajaeabaaGreatXItems
import Derived.Test.YtpihighajaeabaaGreatXWishes
import Derived.Laws.BytesArg
import Derived.Laws.Concat
import Derived.OpenShut
namespace Go.Proofs.YtpihighajaeabaaGreat
open Go.RowKit Go.Proofs.Tryz
set_option linter.all false
set_option maxRecDepth 100000
set_option maxHeartbeats 16000000
theorem kV (W:World) (d:Int):(convert 22 9 (.slice (some ⟨W.heap.size,0,none⟩) 1 1)).run prog (W.alloc (.cells #[.int .u8 d] 5))=.ok (.string (strOfNums [d])) (W.alloc (.cells #[.int .u8 d] 5)):=
 run_convert_bytes_arg (P:=prog) _ 22 5 underlying22 underlying5 W.heap.size 0 1 1 [d] rfl (fun i hi=>by
  obtain rfl:i=0:=by omega
  go_simp) 9 underlying9
theorem aM (a b:List Int):strOfNums a++strOfNums b=strOfNums (a++b):=by
 apply ByteArray.ext;simp [strOfNums,ByteArray.data_append]
def KG:Nat->Nat->List Int->List Int
 | 0,_,acc=>acc
 | f+1,m,acc=>if m=0 then acc else KG f (m / 10) ((48+(m:Int) % 10)::acc)
theorem ZH (f m:Nat) (acc:List Int) (h:0<m) (hf:m<=f):KG f m acc=KG (f-1) (m / 10) ((48+(m:Int) % 10)::acc):=by
 obtain ⟨g,rfl⟩:∃g,f=g+1:=⟨f-1,by omega⟩;rw [KG,if_neg (by omega)];rfl
theorem jK (f:Nat) (acc:List Int):KG f 0 acc=acc:=by cases f<;>simp [KG]
def bAz (n:Int):List Int:=if n=0 then [48] else if n<0 then 45::KG n.natAbs n.natAbs [] else KG n.natAbs n.natAbs []
def QA (n:Int):ByteArray:=strOfNums (bAz n)
theorem zU (w:World) (N:Nat) (h0:0<N) (h1:Hid ((N:Int)<=9223372036854775807)) :
  Calls prog 64 #[.int .i64 N] w (Ret w (.string (QA N))):=by
 have hne0:((N:Int)==0)=false:=by simp;omega
 have hge:decide ((N:Int)<0)=false:=by simp
 have hcv:=kV;have bc:Hid (QA N=strOfNums (KG N N [])):=by show _=_;simp only [QA,bAz,Int.natAbs_natCast];rw [if_neg (by omega),if_neg (by omega)]
 go_enter func64,ntmps64;go_wp2
 go_loopw [0,3] (fun a s w'=>∃(f m:Nat) (bb:List Int),m<=f/\a=.int .i64 m/\s=.string (strOfNums bb)/\Hid (KG f m bb=KG N N [])/\bb.length+m<=N/\Bw w w') (fun a s _=>(intOf a).toNat)
 case atStart=>exact ⟨N,N,[],by omega,rfl,rfl,rfl,by simp,Bw.refl _⟩
 case round=>
  obtain ⟨f,m,bb,g1,rfl,rfl,HE,g2,hb⟩:=hrel;by_cases hm:0<m
  ·have hmb:(m:Int)<=9223372036854775807:=by have:=h1.out;omega
   have hne:((m:Int) != 0)=true:=by simp;omega
   have hadd:∀W,(Op.stringOp .add (strOfNums [48+(m:Int) % 10]) (strOfNums bb)).run prog W=.ok (.string (strOfNums ((48+(m:Int) % 10)::bb))) W:=fun W=>by
    rw [run_string_add_sum W _ _ (by rw [strOfNums_size,strOfNums_size];have:=h1.out;simp;omega),aM];rfl
   have HS:=pA6 (ZH f m bb hm g1);go_wp2
   go_roundw
   case rel=>exact ⟨f-1,m / 10,(48+(m:Int) % 10)::bb,by omega,by go_num,rfl,by show _=_;rw [<-HE.out,HS.out],by simp;omega,hb.alloc _⟩
   case measure=>simp [intOf];omega
  ·obtain rfl:m=0:=by omega
   go_wp2;go_ret;exact Ret.str (by rw [bc.out,<-HE.out,jK]) hb
theorem AU (w:World) (N:Nat) (h0:0<N) (h1:Hid ((N:Int)<=9223372036854775808)) :
  Calls prog 64 #[.int .i64 (-(N:Int))] w (Ret w (.string (QA (-(N:Int))))):=by
 have hne0:(-(N:Int)==0)=false:=by simp;omega
 have hge:decide (-(N:Int)<0)=true:=by simp;omega
 have hcv:=kV;have bd:Hid (QA (-(N:Int))=strOfNums (45::KG N N [])):=by show _=_;simp only [QA,bAz,Int.natAbs_neg,Int.natAbs_natCast];rw [if_neg (by omega),if_pos (by omega)]
 go_enter func64,ntmps64;go_wp2
 go_loopw [0,3] (fun a s w'=>∃(f m:Nat) (bb:List Int),m<=f/\a=.int .i64 (-(m:Int))/\s=.string (strOfNums bb)/\Hid (KG f m bb=KG N N [])/\2*bb.length<=N+3/\(0<m->2*bb.length+m<=N+1)/\m<=N/\Bw w w') (fun a s _=>(-(intOf a)).toNat)
 case atStart=>exact ⟨N,N,[],by omega,rfl,rfl,rfl,by simp,by simp,by omega,Bw.refl _⟩
 case round=>
  obtain ⟨f,m,bb,g1,rfl,rfl,HE,g2,g3,g4,hb⟩:=hrel;by_cases hm:0<m
  ·have g5:=g3 hm;clear g3;have hmb:(m:Int)<=9223372036854775808:=by have:=h1.out;omega
   have hne:(-(m:Int) != 0)=true:=by simp;omega
   have bc:∀W,(Op.stringOp .add (strOfNums [48+(m:Int) % 10]) (strOfNums bb)).run prog W=.ok (.string (strOfNums ((48+(m:Int) % 10)::bb))) W:=fun W=>by
    rw [run_string_add_sum W _ _ (by rw [strOfNums_size,strOfNums_size];have:=h1.out;simp;omega),aM];rfl
   have HS:=pA6 (ZH f m bb hm g1);by_cases hd:(m:Int) % 10=0
   ·rw [hd] at bc HS;rw [show (48:Int)+0=48 from rfl] at bc HS;go_wp2
    go_roundw
    case rel=>exact ⟨f-1,m / 10,48::bb,by omega,by go_num,rfl,by show _=_;rw [<-HE.out,HS.out],by simp;omega,by simp;omega,by omega,hb.alloc _⟩
    case measure=>simp [intOf];omega
   ·have hd':0<(m:Int) % 10:=by omega
    clear hd;go_wp2
    go_roundw
    case rel=>exact ⟨f-1,m / 10,(48+(m:Int) % 10)::bb,by omega,by go_num,rfl,by show _=_;rw [<-HE.out,HS.out],by simp;omega,by simp;omega,by omega,hb.alloc _⟩
    case measure=>simp [intOf];omega
  ·obtain rfl:m=0:=by omega
   have bc:∀W,(Op.stringOp .add ⟨#[45]⟩ (strOfNums bb)).run prog W=.ok (.string (strOfNums (45::bb))) W:=fun W=>by
    rw [run_string_add_sum W _ _ (by rw [strOfNums_size];have:=h1.out;simp [ByteArray.size];omega)];exact congrArg (fun b=>Result.ok (Value.string b) W) (aM [45] bb)
   go_wp2;go_ret;exact Ret.str (by rw [bd.out,<-HE.out,jK]) hb
theorem IT:QA 0=⟨#[48]⟩:=rfl
theorem yC (w:World) (n:Int) (hn:(Lit.int .i64 n).wf=true):Calls prog 64 #[.int .i64 n] w (Ret w (.string (QA n))):=by
 have ⟨b1,b2⟩:=Go.bounds_i64 hn;rcases Int.lt_trichotomy n 0 with h | h | h
 ·obtain ⟨N,rfl⟩:∃N:Nat,n = -(N:Int):=⟨n.natAbs,by omega⟩;exact AU w N (by omega) (by show (N:Int)<=9223372036854775808;omega)
 ·subst h;go_enter func64,ntmps64;go_wp2;go_ret;exact Ret.str IT.symm (Bw.refl _)
 ·obtain ⟨N,rfl⟩:∃N:Nat,n=(N:Int):=⟨n.natAbs,by omega⟩;exact zU w N (by omega) (by show (N:Int)<=9223372036854775807;omega)
def fU8:Fp Int:=fun _ n cs F=>cs=[.int .u8 n]/\F=[]
def rU8:Rep Int:=fun _ _ n cs=>cs=[.int .u8 n]
theorem aN:rK rU8:=⟨fun _ h=>h⟩
theorem zI {B:Nat}:tC B fU8:=⟨fun _ h=>h,fun h b hb=>by rw [h.2] at hb;simp at hb,fun h u hu=>by rw [h.1] at hu;simp at hu;rw [hu];rfl⟩
theorem oA8 {B:Nat} {w:World} {x:Int} {u:List Value} {f:List Nat} (h:fU8 w x u f):rU8 w (fun b=>b∈f\/b<B) x u:=h.1
abbrev iAi:Fp (List Int):=fSl 5 1 fU8
theorem DF {B:Nat}:tC B iAi:=CC zI
theorem mO {B:Nat} {w:World} {xs:List Int} {cs:List Value} {F:List Nat} (h:iAi w xs cs F):rSl 1 rU8 w (fun b=>b∈F\/b<B) xs cs:=sK aN (fun _ _ _ h=>oA8 h) h
theorem TJ {w:World} {S:JC} {A:Option Addr} {n c k:Nat} {xs:List Int} (h:rSl 1 rU8 w S xs [.slice A n c]) {x:Int} (hx:xs[k]? = some x):∃b o,A=some ⟨b,o,none⟩/\S b/\w.cell? ⟨b,o+k,none⟩=some (.int .u8 x):=by
 obtain ⟨b,o,us,e,hS,_,hc,rfl⟩:=YM h hx;exact ⟨b,o,e,hS,by simpa using hc 0 _ rfl⟩
theorem hAu:(prog.info? 5).map (fun i=>(i.zero,i.size,i.bytes))=some (some (.int .u8 0),1,1):=by kernel_rfl
def nO (l:List Int) (i:Nat) (ys:List Int):Prop:=ys.length=l.length/\∀p,p<l.length->ys[p]? = if p<i\/l.length-1-i<p then l[l.length-1-p]? else l[p]?
theorem EQ (l:List Int):nO l 0 l:=⟨rfl,fun p hp=>by rw [if_neg];omega⟩
theorem FQ {l ys:List Int} {i:Nat} (h:nO l i ys) (hi:l.length-1<=2*i):ys=l.reverse:=by
 apply List.ext_getElem?;intro p;by_cases hp:p<l.length
 ·rw [h.2 p hp,List.getElem?_reverse hp];by_cases h1:p<i\/l.length-1-i<p
  ·rw [if_pos h1]
  ·rw [if_neg h1];congr 1;omega
 ·rw [List.getElem?_eq_none (by rw [h.1];omega),List.getElem?_eq_none (by simp;omega)]
theorem GQ {l ys:List Int} {i:Nat} {a b:Int} (h:nO l i ys) (hi:2*i+1<l.length) (ha:ys[i]? = some a) (hb:ys[l.length-1-i]? = some b):nO l (i+1) ((ys.set i b).set (l.length-1-i) a):=by
 refine ⟨by simp [h.1],fun p hp=>?_⟩;have e1:=h.2 i (by omega);have e2:=h.2 (l.length-1-i) (by omega);rw [if_neg (by omega)] at e1;rw [if_neg (by omega)] at e2;have hl:=h.1;by_cases h1:l.length-1-i=p
 ·subst h1;rw [List.getElem?_set_self (by simp;omega),if_pos (by omega),<-ha,e1]
  congr 1;omega
 ·rw [List.getElem?_set_ne h1];by_cases h2:i=p
  ·subst h2;rw [List.getElem?_set_self (by omega),if_pos (by omega),<-hb,e2]
  ·rw [List.getElem?_set_ne h2,h.2 p hp];by_cases h3:p<i\/l.length-1-i<p
   ·rw [if_pos h3,if_pos (by omega)]
   ·rw [if_neg h3,if_neg (by omega)]
theorem NY {k m N:Nat} (hm:0<m) (h:10 ^ k*m<=N) (hN:N<=9223372036854775808):k<=18:=by
 rcases Nat.lt_or_ge 18 k with hk | hk
 ·have h1:10 ^ 19<=10 ^ k:=Nat.pow_le_pow_right (by omega) hk;have h2:10 ^ k*1<=10 ^ k*m:=Nat.mul_le_mul_left _ hm;have h3:(10:Nat) ^ 19=10000000000000000000:=by decide
  omega
 ·exact hk
theorem lV {k m N:Nat} (h:10 ^ k*m<=N):10 ^ (k+1)*(m / 10)<=N:=by
 have h1:10 ^ (k+1)*(m / 10)=10 ^ k*(10*(m / 10)):=by rw [Nat.pow_succ,Nat.mul_assoc]
 have h2:10 ^ k*(10*(m / 10))<=10 ^ k*m:=Nat.mul_le_mul_left _ (by omega);omega
theorem BU (w:World) (N:Nat) (h0:0<N) (h1:Hid ((N:Int)<=9223372036854775807)) :
  Calls prog 125 #[.int .i64 N] w (Ret w (.string (QA N))):=by
 obtain ⟨i0,hi,cq,cs,ct⟩:=info_parts hAu;have hne0:((N:Int)==0)=false:=by simp;omega
 have hge:decide ((N:Int)<0)=false:=by simp
 have bv:Hid (QA N=strOfNums (KG N N [])):=by show _=_;simp only [QA,bAz,Int.natAbs_natCast];rw [if_neg (by omega),if_neg (by omega)]
 have bq:=MA (e:=5) (sz:=1) (R:=fU8) w;go_enter func125,ntmps125;go_wp2
 go_loopw [3,4] (fun s a w'=>∃(f m:Nat) (bb:List Int) (F:List Nat),m<=f/\a=.int .i64 m/\iAi w' bb [s] F/\sA w.heap.size F/\Hid (KG f m bb.reverse=KG N N [])/\Hid (10 ^ bb.length*m<=N)/\bb.length<=20/\m<=N/\(bb.length=0->0<m)/\Bw w w') (fun s a _=>(intOf a).toNat)
 case atStart=>exact ⟨N,N,[],_,by omega,rfl,bq,⟨by simp,by simp⟩,rfl,by show _<=_;simp,by simp,by simp,fun _=>h0,(Bw.refl _).alloc _⟩
 case round=>
  obtain ⟨f,m,bb,F,g1,rfl,hv,hF,HE,g2,g3,g4,g5,hb⟩:=hrel;by_cases hm:0<m
  ·have hmb:(m:Int)<=9223372036854775807:=by have:=h1.out;omega
   have hk:=NY hm g2.out (by have:=h1.out;omega);have hne:((m:Int) != 0)=true:=by simp;omega
   have HS:=pA6 (ZH f m bb.reverse hm g1);have cp:=(DF (B:=w.heap.size)).bw ((Bw.refl wr).alloc (.cells #[.int .u8 (48+(m:Int) % 10)] 5)) hb.size hv;have cd:=(DF (B:=0)).lt hv;have cg:=hb.alloc (.cells #[.int .u8 (48+(m:Int) % 10)] 5);have ck:=cell_one_new wr (.int .u8 (48+(m:Int) % 10)) 5;clear hv bq;go_wp2_with (at_builtin;refine lB _ rfl (.tmp 22) (.tmp 26) 22 rfl w 5 i0 _ 1 1 underlying22 hi cq cs ct rfl (by omega) zI _ bb F rfl cp hF ⟨wr.heap.size,0,none⟩ 1 rfl (48+(m:Int) % 10) [.int .u8 (48+(m:Int) % 10)] [] ck ⟨rfl,rfl⟩ rfl wr.heap.size cd sA.nil hb.size (by omega) (by omega) cg ?_;intro v' w' F' cn bz cf)
   go_roundw
   case rel=>exact ⟨f-1,m / 10,_,F',by omega,by go_num,cn,bz,by show _=_;rw [<-HE.out,HS.out];simp,by show _<=_;rw [List.length_append];exact lV g2.out,by simp;omega,by omega,by simp,cf⟩
   case measure=>simp [intOf];omega
  ·obtain rfl:m=0:=by omega
   rw [show (((0:Nat):Int))=0 from rfl];have bd:0<bb.length:=by omega
   obtain ⟨g,L,c,rfl,HL,hc1,hc2,hL0⟩:=vK hv bd;have bx:Hid (KG N N []=bb.reverse):=by show _=_;rw [<-HE.out,jK]
   have hL2:L<=21:=by have:=HL.out;omega
   clear HE g2 g3 bd g5;go_wp2
   go_loopw [6,7] (fun i j w'=>∃(k q:Nat) (ys:List Int) (F:List Nat),i=.int .i64 k/\j=.int .i64 q/\q+k+1<=L/\L<=q+k+1/\nO bb k ys/\iAi w' ys [.slice (some ⟨g,0,none⟩) L c] F/\sA w.heap.size F/\Bw w w') (fun i j _=>L-(intOf i).toNat)
   case atStart=>exact ⟨0,L-1,bb,_,rfl,by go_num,by omega,by omega,EQ _,hv,hF,hb⟩
   case round=>
    clear hv hF hb;obtain ⟨k,q,ys,F',rfl,rfl,q1,q2,bg,hv,hF,hb⟩:=hrel;have bt:ys.length=L:=bg.1.trans HL.out;have bc:=pA6 bt;clear bt;by_cases hlt:k<q
    ·obtain ⟨a,ha⟩:=tA (xs:=ys) (k:=k) (by rw [bc.out];omega);obtain ⟨b,bf⟩:=tA (xs:=ys) (k:=q) (by rw [bc.out];omega);obtain ⟨_,_,e,_,ca⟩:=TJ (mO (B:=0) hv) ha;injection e with e;injection e with e1 e2;subst e1 e2;obtain ⟨_,_,e,_,cb⟩:=TJ (mO (B:=0) hv) bf;injection e with e;injection e with e1 e2;subst e1 e2;have fa:=TF hv k;have fb:=TF hv q;obtain ⟨F1,bj,bm,bn,bk,_⟩:=YK (zI (B:=w.heap.size)) hv hF (k:=k) (y:=b) (u:=[.int .u8 b]) ⟨rfl,rfl⟩ rfl (m:=wr.heap.size) ((DF (B:=0)).lt hv) sA.nil hb.size (by rw [bc.out];omega);obtain ⟨F2,bs,cc,cm,_,_⟩:=YK (zI (B:=w.heap.size)) bj bm (k:=q) (y:=a) (u:=[.int .u8 a]) ⟨rfl,rfl⟩ rfl (m:=(rE wr g (k*1) [.int .u8 b]).heap.size) ((DF (B:=0)).lt bj) sA.nil (by have:=hb.size;have:=bn.size;omega) (by rw [List.length_set,bc.out];omega);simp only [rE,Nat.mul_one] at bs;simp only [Nat.zero_add] at ca cb;have e3:bb.length-1-k=q:=by rw [HL.out];omega
     have bp:=GQ bg (by rw [HL.out];omega) ha (by rw [e3];exact bf);rw [e3] at bp;clear e3;have HA:=pA6 ha;have HB:=pA6 bf;have cj:Bw w ((wr.setCell ⟨g,k,none⟩ (.int .u8 b)).setCell ⟨g,q,none⟩ (.int .u8 a)):=(hb.set bk _).set bk _;clear ha bf hv bj hF bm bn cm;go_wp2
     go_region
     all_goals
      go_wp2
      go_roundw
      case rel=>exact ⟨k+1,q-1,_,F2,by go_num,by go_num,by omega,by omega,bp,bs,cc,cj.drew⟩
      case measure=>simp [intOf];omega
    ·have e1:ys=bb.reverse:=FQ bg (by rw [HL.out];omega);subst e1;have hcv:=run_convert_bytes_arg (P:=prog) wr 22 5 underlying22 underlying5 g 0 L c bb.reverse bc.out (fun i hi=>by
      obtain ⟨x,hx⟩:=tA (xs:=bb.reverse) (k:=i) (by rw [bc.out];exact hi);obtain ⟨_,_,e,_,ca⟩:=TJ (mO (B:=0) hv) hx;injection e with e;injection e with e1 e2;subst e1 e2;rw [ca,List.getD,hx];rfl) 9 underlying9
     clear bg hv;go_wp2;go_ret;exact Ret.str (by rw [bv.out,bx.out]) hb
theorem CU (w:World) (N:Nat) (h0:0<N) (h1:Hid ((N:Int)<=9223372036854775808)) :
  Calls prog 125 #[.int .i64 (-(N:Int))] w (Ret w (.string (QA (-(N:Int))))):=by
 obtain ⟨i0,hi,bt,bv,bx⟩:=info_parts hAu;have hne0:(-(N:Int)==0)=false:=by simp;omega
 have hge:decide (-(N:Int)<0)=true:=by simp;omega
 have cq:Hid (QA (-(N:Int))=strOfNums (45::KG N N [])):=by show _=_;simp only [QA,bAz,Int.natAbs_neg,Int.natAbs_natCast];rw [if_neg (by omega),if_pos (by omega)]
 have bq:=MA (e:=5) (sz:=1) (R:=fU8) w;go_enter func125,ntmps125;go_wp2
 go_loopw [3,4] (fun s a w'=>∃(f m:Nat) (bb:List Int) (F:List Nat),m<=f/\a=.int .i64 (-(m:Int))/\iAi w' bb [s] F/\sA w.heap.size F/\Hid (KG f m bb.reverse=KG N N [])/\Hid (10 ^ bb.length*m<=N)/\bb.length<=20/\m<=N/\(bb.length=0->0<m)/\Bw w w') (fun s a _=>(-(intOf a)).toNat)
 case atStart=>exact ⟨N,N,[],_,by omega,rfl,bq,⟨by simp,by simp⟩,rfl,by show _<=_;simp,by simp,by simp,fun _=>h0,(Bw.refl _).alloc _⟩
 case round=>
  obtain ⟨f,m,bb,F,g1,rfl,hv,hF,HE,g2,g3,g4,g5,hb⟩:=hrel;by_cases hm:0<m
  ·have hmb:(m:Int)<=9223372036854775808:=by have:=h1.out;omega
   have hk:=NY hm g2.out (by have:=h1.out;omega);have hne:(-(m:Int) != 0)=true:=by simp;omega
   have HS:=pA6 (ZH f m bb.reverse hm g1);by_cases hd:(m:Int) % 10=0;rotate_left
   focus
    have hd':0<(m:Int) % 10:=by omega
    clear hd;have bk:=(DF (B:=w.heap.size)).bw ((Bw.refl wr).alloc (.cells #[.int .u8 (48+(m:Int) % 10)] 5)) hb.size hv;have bf:=(DF (B:=0)).lt hv;have bg:=hb.alloc (.cells #[.int .u8 (48+(m:Int) % 10)] 5);have bj:=cell_one_new wr (.int .u8 (48+(m:Int) % 10)) 5;clear hv bq;go_wp2_with (at_builtin;refine lB _ rfl (.tmp 22) (.tmp 26) 22 rfl w 5 i0 _ 1 1 underlying22 hi bt bv bx rfl (by omega) zI _ bb F rfl bk hF ⟨wr.heap.size,0,none⟩ 1 rfl (48+(m:Int) % 10) [.int .u8 (48+(m:Int) % 10)] [] bj ⟨rfl,rfl⟩ rfl wr.heap.size bf sA.nil hb.size (by omega) (by omega) bg ?_;intro v' w' F' cm cd cf)
   rotate_right
   focus
    have HD:=pA6 hd;rw [hd] at HS;rw [show (48:Int)+0=48 from rfl] at HS;have bk:=(DF (B:=w.heap.size)).bw ((Bw.refl wr).alloc (.cells #[.int .u8 48] 5)) hb.size hv;have bf:=(DF (B:=0)).lt hv;have bg:=hb.alloc (.cells #[.int .u8 48] 5);have bj:=cell_one_new wr (.int .u8 48) 5;clear hv bq;go_wp2_with (at_builtin;refine lB _ rfl (.tmp 22) (.tmp 26) 22 rfl w 5 i0 _ 1 1 underlying22 hi bt bv bx rfl (by omega) zI _ bb F rfl bk hF ⟨wr.heap.size,0,none⟩ 1 rfl 48 [.int .u8 48] [] bj ⟨rfl,rfl⟩ rfl wr.heap.size bf sA.nil hb.size (by omega) (by omega) bg ?_;intro v' w' F' cm cd cf)
   all_goals
    go_roundw
    case rel=>exact ⟨f-1,m / 10,_,F',by omega,by go_num,cm,cd,by show _=_;rw [<-HE.out,HS.out];simp,by show _<=_;rw [List.length_append];exact lV g2.out,by simp;omega,by omega,by simp,cf⟩
    case measure=>simp [intOf];omega
  ·obtain rfl:m=0:=by omega
   rw [show (((0:Nat):Int))=0 from rfl];have bs:0<bb.length:=by omega
   have bz:Hid (45::KG N N []=(bb++[45]).reverse):=by show _=_;rw [List.reverse_append,<-HE.out,jK];rfl
   have bk:=(DF (B:=w.heap.size)).bw ((Bw.refl wr).alloc (.cells #[.int .u8 45] 5)) hb.size hv;have bf:=(DF (B:=0)).lt hv;have bg:=hb.alloc (.cells #[.int .u8 45] 5);have bj:=cell_one_new wr (.int .u8 45) 5;clear hv bq HE g2;go_wp2_with (at_builtin;refine lB _ rfl (.tmp 30) (.tmp 31) 22 rfl w 5 i0 _ 1 1 underlying22 hi bt bv bx rfl (by omega) zI _ bb F rfl bk hF ⟨wr.heap.size,0,none⟩ 1 rfl 45 [.int .u8 45] [] bj ⟨rfl,rfl⟩ rfl wr.heap.size bf sA.nil hb.size (by omega) (by omega) bg ?_;intro v' w1 F1 bc bm cg;obtain ⟨g,L,c,rfl,HL,hc1,hc2,hL0⟩:=vK bc (by simp);have hL2:L<=21:=by (have:=HL.out;rw [List.length_append,List.length_singleton] at this;omega));clear bk bf bg bj hF hb;have hF:=bm;have hb:=cg;have hv:=bc;clear bm cg bc;clear bs g3 g5;generalize bb++[45]=bb at bz hv HL
   go_loopw [6,7] (fun i j w'=>∃(k q:Nat) (ys:List Int) (F:List Nat),i=.int .i64 k/\j=.int .i64 q/\q+k+1<=L/\L<=q+k+1/\nO bb k ys/\iAi w' ys [.slice (some ⟨g,0,none⟩) L c] F/\sA w.heap.size F/\Bw w w') (fun i j _=>L-(intOf i).toNat)
   case atStart=>exact ⟨0,L-1,bb,_,rfl,by go_num,by omega,by omega,EQ _,hv,hF,hb⟩
   case round=>
    clear hv hF hb;obtain ⟨k,q,ys,F',rfl,rfl,q1,q2,bp,hv,hF,hb⟩:=hrel;have cp:ys.length=L:=bp.1.trans HL.out;have bd:=pA6 cp;clear cp;by_cases hlt:k<q
    ·obtain ⟨a,ha⟩:=tA (xs:=ys) (k:=k) (by rw [bd.out];omega);obtain ⟨b,bn⟩:=tA (xs:=ys) (k:=q) (by rw [bd.out];omega);obtain ⟨_,_,e,_,ca⟩:=TJ (mO (B:=0) hv) ha;injection e with e;injection e with e1 e2;subst e1 e2;obtain ⟨_,_,e,_,cb⟩:=TJ (mO (B:=0) hv) bn;injection e with e;injection e with e1 e2;subst e1 e2;have fa:=TF hv k;have fb:=TF hv q;obtain ⟨F1,bc,bm,cj,cc,_⟩:=YK (zI (B:=w.heap.size)) hv hF (k:=k) (y:=b) (u:=[.int .u8 b]) ⟨rfl,rfl⟩ rfl (m:=wr.heap.size) ((DF (B:=0)).lt hv) sA.nil hb.size (by rw [bd.out];omega);obtain ⟨F2,cn,cs,cv,_,_⟩:=YK (zI (B:=w.heap.size)) bc bm (k:=q) (y:=a) (u:=[.int .u8 a]) ⟨rfl,rfl⟩ rfl (m:=(rE wr g (k*1) [.int .u8 b]).heap.size) ((DF (B:=0)).lt bc) sA.nil (by have:=hb.size;have:=cj.size;omega) (by rw [List.length_set,bd.out];omega);simp only [rE,Nat.mul_one] at cn;simp only [Nat.zero_add] at ca cb;have e3:bb.length-1-k=q:=by rw [HL.out];omega
     have ck:=GQ bp (by rw [HL.out];omega) ha (by rw [e3];exact bn);rw [e3] at ck;clear e3;have HA:=pA6 ha;have HB:=pA6 bn;have ct:Bw w ((wr.setCell ⟨g,k,none⟩ (.int .u8 b)).setCell ⟨g,q,none⟩ (.int .u8 a)):=(hb.set cc _).set cc _;clear ha bn hv bc hF bm cj cv;go_wp2
     go_region
     all_goals
      go_wp2
      go_roundw
      case rel=>exact ⟨k+1,q-1,_,F2,by go_num,by go_num,by omega,by omega,ck,cn,cs,ct.drew⟩
      case measure=>simp [intOf];omega
    ·have e1:ys=bb.reverse:=FQ bp (by rw [HL.out];omega);subst e1;have hcv:=run_convert_bytes_arg (P:=prog) wr 22 5 underlying22 underlying5 g 0 L c bb.reverse bd.out (fun i hi=>by
      obtain ⟨x,hx⟩:=tA (xs:=bb.reverse) (k:=i) (by rw [bd.out];exact hi);obtain ⟨_,_,e,_,ca⟩:=TJ (mO (B:=0) hv) hx;injection e with e;injection e with e1 e2;subst e1 e2;rw [ca,List.getD,hx];rfl) 9 underlying9
     clear bp hv;go_wp2;go_ret;exact Ret.str (by rw [cq.out,bz.out]) hb
theorem dD (w:World) (n:Int) (hn:(Lit.int .i64 n).wf=true):Calls prog 125 #[.int .i64 n] w (Ret w (.string (QA n))):=by
 have ⟨b1,b2⟩:=Go.bounds_i64 hn;rcases Int.lt_trichotomy n 0 with h | h | h
 ·obtain ⟨N,rfl⟩:∃N:Nat,n = -(N:Int):=⟨n.natAbs,by omega⟩;exact CU w N (by omega) (by show (N:Int)<=9223372036854775808;omega)
 ·subst h;go_enter func125,ntmps125;go_wp2;go_ret;exact Ret.str IT.symm (Bw.refl _)
 ·obtain ⟨N,rfl⟩:∃N:Nat,n=(N:Int):=⟨n.natAbs,by omega⟩;exact BU w N (by omega) (by show (N:Int)<=9223372036854775807;omega)
theorem cA0:∀(f m:Nat) (acc:List Int) (k:Nat),m<10 ^ k->(KG f m acc).length<=acc.length+k
 | 0,_,acc,k,_=>by simp [KG]
 | f+1,m,acc,k,h=>by
  rw [KG];by_cases hm:m=0
  ·rw [if_pos hm];omega
  ·rw [if_neg hm]
   cases k with
   | zero=>simp at h;omega
   | succ k=>
    have:=cA0 f (m / 10) ((48+(m:Int) % 10)::acc) k (by rw [Nat.pow_succ] at h;omega);simp at this ⊢;omega
theorem hAv:∀(f m:Nat) (acc:List Int),acc.length<=(KG f m acc).length
 | 0,_,acc=>by simp [KG]
 | f+1,m,acc=>by
  rw [KG];by_cases hm:m=0
  ·rw [if_pos hm];omega
  ·rw [if_neg hm];have:=hAv f (m / 10) ((48+(m:Int) % 10)::acc);simp at this;omega
theorem kAp {m:Nat} (h:0<m):0<(KG m m []).length:=by
 rw [ZH m m [] h (Nat.le_refl _)];have:=hAv (m-1) (m / 10) [48+(m:Int) % 10];simp at this;omega
theorem mB {n:Int} (hn:(Lit.int .i64 n).wf=true):1<=(QA n).size/\(QA n).size<=20:=by
 have ⟨b1,b2⟩:=Go.bounds_i64 hn;have hb:n.natAbs<10 ^ 19:=by
  have:(10:Nat) ^ 19=10000000000000000000:=by decide
  omega
 have h1:=cA0 n.natAbs n.natAbs [] 19 hb;unfold QA;rw [strOfNums_size];unfold bAz;by_cases h0:n=0
 ·rw [if_pos h0];simp
 ·rw [if_neg h0];have h2:=kAp (m:=n.natAbs) (by omega);simp at h1;by_cases h3:n<0
  ·rw [if_pos h3];simp;omega
  ·rw [if_neg h3];omega
def gl (sep:ByteArray):Nat->ByteArray->List ByteArray->ByteArray
 | _,acc,[]=>acc
 | i,acc,t::ts=>gl sep (i+1) ((if 0<i then acc++sep else acc)++t) ts
def dF (l:List ByteArray) (sep:ByteArray):ByteArray:=gl sep 0 ⟨#[]⟩ l
theorem SU {sep acc:ByteArray} {l:List ByteArray} {k:Nat} {t:ByteArray} (h:l[k]? = some t):gl sep k acc (l.drop k)=gl sep (k+1) ((if 0<k then acc++sep else acc)++t) (l.drop (k+1)):=by rw [nC h,gl]
def wE (sep:ByteArray) (l:List ByteArray):Nat:=JH (fun t=>t.size+sep.size) l
theorem lA (a b:ByteArray):(a++b).size=a.size+b.size:=ByteArray.size_append
theorem bM (sep:ByteArray):∀(l:List ByteArray) (i:Nat) (acc:ByteArray),(gl sep i acc l).size<=acc.size+wE sep l
 | [],_,acc=>by simp [gl,wE,JH]
 | t::ts,i,acc=>by
  have e:wE sep (t::ts)=t.size+sep.size+wE sep ts:=rfl;by_cases h:0<i
  ·have:=bM sep ts (i+1) (acc++sep++t);rw [lA,lA] at this;rw [gl,if_pos h,e];omega
  ·have:=bM sep ts (i+1) (acc++t);rw [lA] at this;rw [gl,if_neg h,e];omega
theorem TU (w:World) (l:List ByteArray) (sep:ByteArray) (v:Value) (h:Rd DT w l [v]) (hs:wE sep l<=1099511627776) (hp:sep.size<=1024):Calls prog 183 #[v,.string sep] w (Ret w (.string (dF l sep))):=by
 obtain ⟨A,n,c,rfl,a1,a2,a3⟩:=qA h;unfold maxLen at a3;have L1:=pA6 a1;clear a1;go_enter func183,ntmps183;go_wp2
 go_loopw [5,10] (fun s i w'=>∃(k:Nat) (acc:ByteArray),k<=n/\i=.int .i64 k/\s=.string acc/\Hid (dF l sep=gl sep k acc (l.drop k))/\acc.size+wE sep (l.drop k)<=1099511627776/\Bw w w') (fun s i _=>n-(intOf i).toNat)
 case atStart=>exact ⟨0,_,by omega,rfl,rfl,rfl,by simpa [ByteArray.size] using hs,Bw.refl _⟩
 case round=>
  obtain ⟨k,acc,hk,rfl,rfl,HE,g1,hb⟩:=hrel;by_cases hlt:k<n
  ·obtain ⟨t,hx⟩:=tA (xs:=l) (k:=k) (by rw [<-L1.out];exact hlt);obtain ⟨ba,oa,rfl,_,hcx⟩:=BC (h.bw pF hb) hx;have HS:=pA6 (SU (sep:=sep) (acc:=acc) hx);have g2:wE sep (l.drop k)=t.size+sep.size+wE sep (l.drop (k+1)):=MY _ hx;rw [g2] at g1;clear g2 hx h hs;by_cases h0:0<k
   ·have hadd:∀W,(Op.stringOp .add acc sep).run prog W=.ok (.string (acc++sep)) W:=fun W=>run_string_add_sum W _ _ (by omega)
    have bb:∀W,(Op.stringOp .add (acc++sep) t).run prog W=.ok (.string (acc++sep++t)) W:=fun W=>run_string_add_sum W _ _ (by rw [lA];omega)
    go_wp2
    go_roundw
    case rel=>exact ⟨k+1,_,by omega,by go_num,rfl,by show _=_;rw [HE.out,HS.out,if_pos h0],by rw [lA,lA];omega,hb⟩
    case measure=>simp [intOf];omega
   ·have bb:∀W,(Op.stringOp .add acc t).run prog W=.ok (.string (acc++t)) W:=fun W=>run_string_add_sum W _ _ (by omega)
    go_wp2
    go_roundw
    case rel=>exact ⟨k+1,_,by omega,by go_num,rfl,by show _=_;rw [HE.out,HS.out,if_neg (by omega)],by rw [lA];omega,hb⟩
    case measure=>simp [intOf];omega
  ·go_wp2;go_ret;exact Ret.str (by rw [HE.out,List.drop_of_length_le (by rw [<-L1.out];omega),gl]) hb
theorem wK:(prog.info? 9).map (fun i=>(i.zero,i.size,i.bytes))=some (some (.string ⟨#[]⟩),1,16):=by kernel_rfl
abbrev RJ:Fp (List ByteArray):=fSl 9 1 RX
theorem iB {B:Nat}:tC B RJ:=CC JE
theorem cA1 {B:Nat} {w:World} {xs:List ByteArray} {cs:List Value} {F:List Nat} (h:RJ w xs cs F):DT w (fun b=>b∈F\/b<B) xs cs:=sK JY (fun _ _ _ h=>mAx h) h
theorem DC {w:World} {xs:List ByteArray} {cs:List Value} {F:List Nat} (h:RJ w xs cs F):Rd DT w xs cs:=Rd.of pF (B:=0) (cA1 h) ((iB (B:=0)).lt h) (Nat.zero_le _)
def UD (l:List Int):List ByteArray:=l.map QA
theorem aAb {l:List Int} {k:Nat} {x:Int} (h:l[k]? = some x):UD (l.take (k+1))=UD (l.take k)++[QA x]:=by
 rw [List.take_add_one,h];simp [UD]
theorem cM {l:List Int} (sep:ByteArray) (hw:∀x∈l,(Lit.int .i64 x).wf=true):wE sep (UD l)<=l.length*(20+sep.size):=by
 induction l with
 | nil=>simp [UD,wE,JH]
 | cons x l ih=>
  have h1:=(mB (hw x (by simp))).2;have h2:=ih (fun y hy=>hw y (by simp [hy]));simp only [UD,List.map_cons,wE,JH,List.length_cons,Nat.succ_mul] at h2 ⊢;omega
def GC (l:List Int) (sep:ByteArray):ByteArray:=dF (UD l) sep
theorem CL (w:World) (l:List Int) (sep:ByteArray) (v:Value) (h:Rd aB w l [v]) (hw:∀x∈l,(Lit.int .i64 x).wf=true) (hn:l.length<=1048576) (hp:sep.size<=1024) :
  Calls prog 132 #[v,.string sep] w (Ret w (.string (GC l sep))):=by
 obtain ⟨i0,hi,bx,bz,cb⟩:=info_parts wK;obtain ⟨A,n,c,rfl,a1,a2,a3⟩:=qA h;have L1:=pA6 a1;rw [<-a1] at hn;clear a1;have bg:=MA (e:=9) (sz:=1) (R:=RX) w;go_enter func132,ntmps132;go_wp2
 go_loopw [5,11] (fun s i w'=>∃(k:Nat) (F:List Nat),k<=n/\i=.int .i64 k/\RJ w' (UD (l.take k)) [s] F/\sA w.heap.size F/\Bw w w') (fun s i _=>n-(intOf i).toNat)
 case atStart=>exact ⟨0,_,by omega,rfl,bg,⟨by simp,by simp⟩,(Bw.refl _).alloc _⟩
 case round=>
  obtain ⟨k,F,hk,rfl,hv,hF,hb⟩:=hrel;by_cases hlt:k<n
  ·obtain ⟨x,hx⟩:=tA (xs:=l) (k:=k) (by rw [<-L1.out];exact hlt);obtain ⟨ba,oa,rfl,_,hcx⟩:=KB (h.bw dA hb) hx;have bj:=hw x (List.mem_of_getElem? hx);have HS:=pA6 (aAb hx);have bf:(UD (l.take k)).length=k:=by rw [UD,List.length_map,List.length_take];have:=L1.out;omega
   have HK:=pA6 bf;clear hx h hw bg bf;go_wp2_with fail;refine (dD _ x bj).mono ?_;rintro e w1 ⟨rfl,bb⟩;have bd:=(iB (B:=w.heap.size)).bw bb hb.size hv;have bc:=hb.then bb;have bv:=(iB (B:=w.heap.size)).bw ((Bw.refl w1).alloc (.cells #[.string (QA x)] 9)) bc.size bd;have bm:=(iB (B:=0)).lt bd;have bp:=bc.alloc (.cells #[.string (QA x)] 9);have bq:=cell_one_new w1 (.string (QA x)) 9;clear hv bd bj;go_wp2_with (at_builtin;refine lB _ rfl (.tmp 15) (.tmp 18) 58 rfl w 9 i0 _ 1 16 underlying58 hi bx bz cb rfl (by omega) JE _ (UD (l.take k)) F rfl bv hF ⟨w1.heap.size,0,none⟩ 1 rfl (QA x) [.string (QA x)] [] bq ⟨rfl,rfl⟩ rfl w1.heap.size bm sA.nil bc.size (by rw [HK.out];omega) (by rw [HK.out];omega) bp ?_;intro v' w' F' bt bk bn)
   go_roundw
   case rel=>exact ⟨k+1,F',by omega,by go_num,by rw [HS.out];exact bt,bk,bn⟩
   case measure=>simp [intOf];omega
  ·obtain rfl:k=n:=by omega
   rw [List.take_of_length_le (by rw [<-L1.out];exact Nat.le_refl _)] at hv;have bs:=cM sep hw;rw [<-L1.out] at bs;have hm:k*(20+sep.size)<=1048576*1044:=Nat.mul_le_mul hn (by omega);go_wp2_with fail;refine (TU _ (UD l) sep _ (DC hv) (by omega) hp).mono ?_;rintro e w1 ⟨rfl,bb⟩;go_wp2;go_ret;exact Ret.str rfl (hb.then bb)
def sp:ByteArray:=⟨#[32]⟩
def fD (l:List Int):ByteArray:=if l=[] then ⟨#[110,111,110,101]⟩ else GC l ⟨#[32]⟩
theorem bN (w:World) (l:List Int) (v:Value) (h:Rd aB w l [v]) (hw:∀x∈l,(Lit.int .i64 x).wf=true) (hn:l.length<=1048576) :
  Calls prog 51 #[v] w (Ret w (.string (fD l))):=by
 obtain ⟨A,n,c,rfl,a1,a2,a3⟩:=qA h;have L1:=pA6 a1;clear a1;by_cases h0:n=0
 ·have ht:((n:Int)==0)=true:=by simp [h0]
  have e:fD l=⟨#[110,111,110,101]⟩:=by rw [fD,if_pos (List.eq_nil_of_length_eq_zero (by rw [<-L1.out];exact h0))]
  have E:=pA6 e;clear e h0;go_enter func51,ntmps51;go_wp2;go_ret;exact Ret.str E.out.symm (Bw.refl _)
 ·have ht:((n:Int)==0)=false:=by simp;omega
  have e:fD l=GC l ⟨#[32]⟩:=by rw [fD,if_neg (fun hl=>h0 (by rw [L1.out,hl];rfl))]
  have E:=pA6 e;clear e h0;go_enter func51,ntmps51;go_wp2_with fail;refine (CL _ l ⟨#[32]⟩ _ h hw hn (by show (1:Nat)<=1024;omega)).mono ?_;rintro e w1 ⟨rfl,bb⟩;go_wp2;go_ret;exact Ret.str E.out.symm bb
theorem LG {s:ByteArray} (h:0<s.size):s.toList.isEmpty=false:=by
 rw [ByteArray.toList_eq];have:s.data.toList.length=s.size:=by rw [Array.length_toList];rfl
 cases e:s.data.toList with
 | nil=>rw [e] at this;simp at this;omega
 | cons=>rfl
theorem kAq (sep:ByteArray):∀(l:List ByteArray) (i:Nat) (acc:ByteArray),acc.size<=(gl sep i acc l).size
 | [],_,_=>Nat.le_refl _
 | t::ts,i,acc=>by
  rw [gl];by_cases h:0<i
  ·have:=kAq sep ts (i+1) (acc++sep++t);rw [lA,lA] at this;rw [if_pos h];omega
  ·have:=kAq sep ts (i+1) (acc++t);rw [lA] at this;rw [if_neg h];omega
theorem fAe {l:List Int} (sep:ByteArray) (hw:∀x∈l,(Lit.int .i64 x).wf=true) (h:l≠[]):0<(GC l sep).size:=by
 cases l with
 | nil=>exact absurd rfl h
 | cons x l=>
  have h1:=mB (hw x (by simp));have h2:=kAq sep (UD l) 1 (⟨#[]⟩++QA x);rw [lA] at h2;have e:GC (x::l) sep=gl sep 1 (⟨#[]⟩++QA x) (UD l):=rfl;rw [e];omega
theorem IQ {sep acc:ByteArray} {l:List Int} {k:Nat} {x:Int} (h:l[k]? = some x):gl sep k acc (UD (l.drop k))=gl sep (k+1) ((if 0<k then acc++sep else acc)++QA x) (UD (l.drop (k+1))):=by
 rw [nC h];rfl
theorem cN (w:World) (l:List Int) (v:Value) (h:Rd aB w l [v]) (hw:∀x∈l,(Lit.int .i64 x).wf=true) (hn:l.length<=1048576) :
  Calls prog 52 #[v] w (Ret w (.string (fD l))):=by
 obtain ⟨A,n,c,rfl,a1,a2,a3⟩:=qA h;have L1:=pA6 a1;rw [<-a1] at hn;clear a1;go_enter func52,ntmps52;go_wp2
 go_loopw [3,4] (fun s i w'=>∃(k:Nat) (acc:ByteArray),k<=n/\i=.int .i64 k/\s=.string acc/\Hid (GC l ⟨#[32]⟩=gl ⟨#[32]⟩ k acc (UD (l.drop k)))/\acc.size<=21*k/\Bw w w') (fun s i _=>n-(intOf i).toNat)
 case atStart=>exact ⟨0,_,by omega,rfl,rfl,rfl,Nat.zero_le _,Bw.refl _⟩
 case round=>
  obtain ⟨k,acc,hk,rfl,rfl,HE,g1,hb⟩:=hrel;by_cases hlt:k<n
  ·obtain ⟨x,hx⟩:=tA (xs:=l) (k:=k) (by rw [<-L1.out];exact hlt);obtain ⟨ba,oa,rfl,_,hcx⟩:=KB (h.bw dA hb) hx;have bg:=hw x (List.mem_of_getElem? hx);have HS:=pA6 (IQ (sep:=⟨#[32]⟩) (acc:=acc) hx);have ⟨hsz1,hsz⟩:=mB bg;clear hx h hw hsz1;by_cases h0:0<k
   ·have hadd:∀W,(Op.stringOp .add acc ⟨#[32]⟩).run prog W=.ok (.string (acc++⟨#[32]⟩)) W:=fun W=>run_string_add_sum W _ _ (by have e:(⟨#[32]⟩:ByteArray).size=1:=rfl;omega)
    have bc:∀W,(Op.stringOp .add (acc++⟨#[32]⟩) (QA x)).run prog W=.ok (.string (acc++⟨#[32]⟩++QA x)) W:=fun W=>run_string_add_sum W _ _ (by have e:(⟨#[32]⟩:ByteArray).size=1:=rfl;rw [lA];omega)
    go_wp2_with fail;refine (yC _ x bg).mono ?_;rintro e w1 ⟨rfl,bf⟩;go_wp2
    go_roundw
    case rel=>exact ⟨k+1,_,by omega,by go_num,rfl,by show _=_;rw [HE.out,HS.out,if_pos h0],by have e:(⟨#[32]⟩:ByteArray).size=1:=rfl;rw [lA,lA];omega,hb.then bf⟩
    case measure=>simp [intOf];omega
   ·have bc:∀W,(Op.stringOp .add acc (QA x)).run prog W=.ok (.string (acc++QA x)) W:=fun W=>run_string_add_sum W _ _ (by omega)
    go_wp2_with fail;refine (yC _ x bg).mono ?_;rintro e w1 ⟨rfl,bf⟩;go_wp2
    go_roundw
    case rel=>exact ⟨k+1,_,by omega,by go_num,rfl,by show _=_;rw [HE.out,HS.out,if_neg (by omega)],by rw [lA];omega,hb.then bf⟩
    case measure=>simp [intOf];omega
  ·have bb:Hid (acc=GC l ⟨#[32]⟩):=by show _=_;rw [HE.out,List.drop_of_length_le (by rw [<-L1.out];omega)];rfl
   by_cases hl:l=[]
   ·have ha:acc=⟨#[]⟩:=by rw [bb.out,hl];rfl
    have e:fD l=⟨#[110,111,110,101]⟩:=by rw [fD,if_pos hl]
    have E:=pA6 e;clear e hl;subst ha;go_wp2;go_ret;exact Ret.str E.out.symm hb
   ·have bd:=fAe (l:=l) ⟨#[32]⟩ hw hl;rw [<-bb.out] at bd;have e:fD l=acc:=by rw [fD,if_neg hl,bb.out]
    have E:=pA6 e;clear e hl;have bj:acc.toList.isEmpty=false:=LG bd;have hne':(!acc.toList.isEmpty)=true:=by rw [bj];rfl
    go_wp2;go_ret;exact Ret.str E.out.symm hb
end Go.Proofs.YtpihighajaeabaaGreat
