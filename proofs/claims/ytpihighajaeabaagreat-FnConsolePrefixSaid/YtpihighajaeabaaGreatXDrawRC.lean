/- Draws: a script of the console (l1Pick, l1Spoil, l19Draw, DrawRunConsole). -/
import Derived.Test.YtpihighajaeabaaGreatXConS
import Derived.Test.YtpihighajaeabaaGreatXOpenB
import Derived.Test.YtpihighajaeabaaGreatXParseI
import Derived.Test.YtpihighajaeabaaGreatXDrawB
namespace Go.Proofs.YtpihighajaeabaaGreat
open Go.RowKit Go.Proofs.Tryz
set_option linter.all false
set_option maxRecDepth 100000
set_option maxHeartbeats 16000000
def NL (s:ByteArray):Prop:=∀x∈bl s,x≠10
theorem NL.app {a b:ByteArray} (ha:NL a) (hb:NL b):NL (a++b):=fun x hx=>by
 rw [IB,List.mem_append] at hx;exact hx.elim (ha x) (hb x)
theorem wJ (n:Int):NL (QA n):=fun x hx=>by
 obtain ⟨ds,_,h2,_,h4⟩:=SS n;rw [h4] at hx
 split at hx
 ·rcases List.mem_cons.1 hx with rfl | hx
  ·decide
  ·exact JI (h2 x hx) (by decide)
 ·exact JI (h2 x hx) (by decide)
theorem pS {l:List ByteArray} {sep:ByteArray} (hl:∀t∈l,NL t) (hs:NL sep):NL (dF l sep):=fun x hx=>by
 rw [EK] at hx;rcases aR hx with h | ⟨p,hp,hx⟩
 ·exact hs x h
 ·obtain ⟨t,ht,rfl⟩:=List.mem_map.1 hp;exact hl t ht x hx
theorem bAt (l:List Int) {sep:ByteArray} (hs:NL sep):NL (GC l sep):=pS (fun t ht=>by
 obtain ⟨v,_,rfl⟩:=List.mem_map.1 (show t∈l.map QA from ht);exact wJ v) hs
theorem fA8 (l:List Int):NL (fD l):=by
 unfold fD
 split
 ·unfold NL;decide
 ·exact bAt l (by unfold NL;decide)
theorem zT:NL ⟨#[]⟩:=by unfold NL;decide
theorem mAi (l:List EB):NL (UB l):=by
 unfold UB
 split
 ·split
  ·unfold NL;decide
  ·refine pS (fun t ht=>?_) (by unfold NL;decide);obtain ⟨p,_,rfl⟩:=List.mem_map.1 (show t∈l.map WE from ht);exact ((wJ _).app (by unfold NL;decide)).app (wJ _)
 ·exact zT
theorem nAq (x:AB):NL (tB x):=by
 have hh:NL (bE x):=by
  refine NL.app (NL.app ?_ (by unfold NL;decide)) (wJ _);unfold PB
  repeat' split
  all_goals (unfold NL;decide)
 have hs:NL ⟨#[32]⟩:=by unfold NL;decide
 unfold tB
 repeat' split
 ·exact (hh.app hs).app (wJ _)
 ·exact (hh.app hs).app (bAt _ (by unfold NL;decide))
 ·exact (hh.app hs).app (mAi _)
 ·exact hh
 ·exact zT
theorem nAr (n:mA):NL (kD n):=by
 unfold kD
 split
 ·exact nAq _
 ·unfold GE
  repeat' split
  all_goals (unfold NL;decide)
theorem iAf (e:List mA):NL (fC e):=by
 unfold fC
 split
 ·refine pS (fun t ht=>?_) (by unfold NL;decide);obtain ⟨n,_,rfl⟩:=List.mem_map.1 (show t∈e.map kD from ht);exact nAr n
 ·exact zT
theorem mAj (l:List iA) (e:List mA):NL (dF (mG l e) ⟨#[59,32]⟩):=pS (fun t ht=>by
 obtain ⟨j,b,_,_,rfl⟩:=xQ (show t∈GH (mD l e) (mD l e).length from ht);exact ((wJ _).app (by unfold NL;decide)).app (fA8 b)) (by unfold NL;decide)
theorem mAk (s:zA):NL (NE s):=by
 unfold NE
 split
 ·exact (((((NL.app (by unfold NL;decide) (wJ _)).app (by unfold NL;decide)).app (fA8 _)).app (by unfold NL;decide)).app (wJ _))
 ·exact zT
theorem nAs (l:List iA) (g:List (List mA)):NL (vE l g):=by
 unfold vE
 split
 ·exact (((((NL.app (by unfold NL;decide) (wJ _)).app (by unfold NL;decide)).app (wJ _)).app (by unfold NL;decide)).app (wJ _))
 ·exact zT
theorem nAt (l:List iA) (e:List mA) (id:Int):NL (TC l e id):=by
 unfold TC
 split
 ·split
  ·unfold NL;decide
  ·exact (((((NL.app (by unfold NL;decide) (bAt _ (by unfold NL;decide))).app (by unfold NL;decide)).app (bAt _ (by unfold NL;decide))).app (by unfold NL;decide)).app (wJ _))
 ·exact zT
theorem hAo (m:CS) (s:zA) (ok:Bool):NL (SK m s ok).1:=by
 cases ok
 ·exact (by unfold NL;decide:NL wNo)
 ·exact (by unfold NL;decide:NL wOk)
theorem nAu (m:CS) (word rest:ByteArray):NL (ZI m word rest).1:=by
 unfold ZI
 repeat' split
 ·exact hAo _ _ _
 ·exact hAo _ _ _
 ·exact hAo _ _ _
 ·dsimp only;unfold AY
  split
  ·exact (by unfold NL;decide:NL JM)
  ·exact nAt _ _ _
 ·exact fA8 _
 ·unfold YI
  split
  ·exact (by unfold NL;decide:NL wNo)
  ·exact wJ _
 ·exact (by unfold NL;decide:NL lH)
theorem oAg (m:CS) (l:ByteArray):NL (ED m l):=by
 unfold ED
 repeat' split
 ·exact (by unfold NL;decide:NL vT)
 ·exact nAs _ _
 ·exact fA8 _
 ·exact (by unfold NL;decide:NL mAa)
 ·exact mAj _ _
 ·exact fA8 _
 ·exact mAk _
 ·exact iAf _
 ·exact iAf _
 ·exact (by unfold NL;decide:NL lH)
theorem oAh (m:CS) (l:ByteArray):NL (PJ m l).1:=by
 unfold PJ
 split
 ·split
  ·exact (by unfold NL;decide:NL wOk)
  ·split
   ·exact (by unfold NL;decide:NL qE)
   ·exact nAu _ _ _
 ·split
  ·exact (by unfold NL;decide:NL qE)
  ·exact oAg _ _
def SJ (l:List UInt8):Nat:=(l.filter (fun x=>x==10)).length
theorem AT (a b:List UInt8):SJ (a++b)=SJ a+SJ b:=by unfold SJ;rw [List.filter_append,List.length_append]
theorem mAl {s:ByteArray} (h:NL s):SJ (bl s)=0:=by
 unfold SJ;rw [List.length_eq_zero_iff,List.filter_eq_nil_iff];intro x hx e;exact h x hx (by simpa using e)
def aA0 (ls:List ByteArray):Nat:=(ls.filter (fun t=>decide (¬t.size=0))).length
theorem AQ:∀(ls:List ByteArray) (m:CS),SJ (bl (XF m ls))=aA0 ls
 | [],m=>rfl
 | l::ls,m=>by
  rw [XF];by_cases h:l.size=0
  ·rw [if_pos h,AQ ls m];unfold aA0;rw [List.filter_cons_of_neg (by simp [h])]
  ·rw [if_neg h,IB,IB,AT,AT,mAl (oAh m l),AQ ls _];unfold aA0;rw [List.filter_cons_of_pos (by simp [h]),List.length_cons];show 0+1+_=_+1
   omega
noncomputable def mAm:CS->List ByteArray->CS
 | m,[]=>m
 | m,l::ls=>if l.size=0 then mAm m ls else mAm (PJ m l).2 ls
theorem CX:∀(a b:List ByteArray) (m:CS),XF m (a++b)=XF m a++XF (mAm m a) b
 | [],b,m=>(WL _).symm
 | l::a,b,m=>by
  rw [List.cons_append,XF,XF,mAm];by_cases h:l.size=0
  ·rw [if_pos h,if_pos h,if_pos h,CX a b m]
  ·rw [if_neg h,if_neg h,if_neg h,CX a b _];exact EH (by simp only [IB,List.append_assoc])
theorem gV {c:UInt8}:∀(a b pre:List UInt8) (done:List (List UInt8)) (p:List UInt8),TD c pre a=done++[p]->TD c pre (a++b)=done++TD c p b
 | [],b,pre,done,p,h=>by
  rw [TD] at h;have h2:=congrArg List.length h;simp at h2;subst h2;simp at h;subst h;rfl
 | x::a,b,pre,done,p,h=>by
  rw [List.cons_append,TD];rw [TD] at h;by_cases hx:x=c
  ·rw [if_pos hx] at h ⊢
   cases done with
   | nil=>
    have h2:=congrArg List.length h;have:=List.length_pos_iff.2 (ZQ c [] a);simp at h2;rw [h2] at this;simp at this
   | cons d done=>
    rw [List.cons_append,List.cons.injEq] at h;rw [gV a b [] done p h.2,h.1];rfl
  ·rw [if_neg hx] at h ⊢;exact gV a b _ done p h
def DX (d:List (List UInt8)):Nat:=(d.filter (fun t=>decide (¬t=[]))).length
theorem EX (d:List (List UInt8)) (p:List UInt8):DX (d++[p])=if p=[] then DX d else DX d+1:=by
 unfold DX;rw [List.filter_append,List.length_append];by_cases h:p=[]
 ·simp [h]
 ·simp [h]
theorem aA1 (d:List (List UInt8)):aA0 (d.map mkS)=DX d:=by
 unfold aA0 DX;rw [List.filter_map,List.length_map]
 congr 2
 funext t
 have h:(mkS t).size=0↔t=[]:=by rw [IJ];exact List.length_eq_zero_iff
 exact decide_eq_decide.2 (not_congr h)
def YO (L:List UInt8) (k i lines full frm cut:Nat):Prop:=∃(done:List (List UInt8)) (pre:List UInt8),TD 10 [] (L.take i)=done++[pre]/\lines=done.length/\full=DX done/\frm+pre.length=i /\
 ((lines<k/\cut=0)\/(k<=lines/\cut<=i/\TD 10 [] (L.take cut)=done.take k++[[]]))
theorem YO.start (L:List UInt8) {k:Nat} (hk:0<k):YO L k 0 0 0 0 0:=⟨[],[],rfl,rfl,rfl,rfl,.inl ⟨hk,rfl⟩⟩
theorem YO.sizes {L:List UInt8} {k i lines full frm cut:Nat} (h:YO L k i lines full frm cut) (hi:i<=L.length):lines<=i/\full<=lines/\frm<=i/\cut<=i:=by
 obtain ⟨done,pre,h1,h2,h3,h4,h5⟩:=h;have hf:full<=lines:=by rw [h3,h2];exact List.length_filter_le _ _
 have bb:∀(l p:List UInt8),(TD 10 p l).length<=l.length+1:=by
  intro l
  induction l with
  | nil=>intro p;exact Nat.le_refl _
  | cons x l ih=>
   intro p;rw [TD]
   split
   ·have:=ih [];simp only [List.length_cons];omega
   ·have:=ih (p++[x]);simp only [List.length_cons];omega
 have h6:=bb (L.take i) [];rw [h1,List.length_append,List.length_take] at h6;simp at h6;refine ⟨by omega,hf,by omega,?_⟩;rcases h5 with ⟨_,h⟩ | ⟨_,h,_⟩<;>omega
theorem YO.skip {L:List UInt8} {k i lines full frm cut:Nat} {x:UInt8} (h:YO L k i lines full frm cut) (hx:L[i]? = some x) (hn:¬x=10):YO L k (i+1) lines full frm cut:=by
 obtain ⟨bb,bc,h1,h2,h3,h4,h5⟩:=h;refine ⟨bb,bc++[x],?_,h2,h3,by rw [List.length_append,List.length_singleton];omega,?_⟩
 ·rw [List.take_add_one,hx];show TD 10 [] (L.take i++[x])=_
  rw [gV _ _ _ _ _ h1,TD,if_neg hn,TD]
 ·rcases h5 with h | ⟨a,b,c⟩
  ·exact .inl h
  ·exact .inr ⟨a,by omega,c⟩
theorem YO.line {L:List UInt8} {k i lines full frm cut:Nat} (h:YO L k i lines full frm cut) (hx:L[i]? = some 10):YO L k (i+1) (lines+1) (if frm<i then full+1 else full) (i+1) (if lines+1=k then i+1 else cut):=by
 obtain ⟨bb,bc,h1,h2,h3,h4,h5⟩:=h;have e:TD 10 [] (L.take (i+1))=bb++[bc]++[[]]:=by
  rw [List.take_add_one,hx];show TD 10 [] (L.take i++[10])=_
  rw [gV _ _ _ _ _ h1,TD,if_pos rfl,TD,List.append_assoc];rfl
 refine ⟨bb++[bc],[],e,by rw [List.length_append,h2];rfl,?_,by simp,?_⟩
 ·rw [EX,<-h3];by_cases hp:bc=[]
  ·rw [if_pos hp,if_neg (by rw [hp] at h4;simp at h4;omega)]
  ·rw [if_neg hp,if_pos (by have:=List.length_pos_iff.2 hp;omega)]
 ·rcases h5 with ⟨a,b⟩ | ⟨a,b,c⟩
  ·by_cases hk:lines+1=k
   ·rw [if_pos hk];refine .inr ⟨by omega,Nat.le_refl _,?_⟩;rw [e,List.take_of_length_le (l:=bb++[bc]) (by rw [List.length_append];simp;omega)]
   ·rw [if_neg hk];exact .inl ⟨by omega,b⟩
  ·rw [if_neg (by omega)];refine .inr ⟨by omega,by omega,?_⟩;rw [c,List.take_append_of_le_length (by omega)]
theorem BJ {s:ByteArray} {done:List (List UInt8)} {pre:List UInt8} (h:TD 10 [] (bl s)=done++[pre]):qD s=if pre=[] then done.map mkS else (done++[pre]).map mkS:=by
 unfold qD MD;rw [h];simp only [List.map_append,List.map_cons,List.map_nil,List.getLast?_concat,List.dropLast_concat];have e:(mkS pre).size=0↔pre=[]:=by rw [IJ];exact List.length_eq_zero_iff
 by_cases hp:pre=[]
 ·rw [if_pos (e.2 hp),if_pos hp]
 ·rw [if_neg (fun x=>hp (e.1 x)),if_neg hp]
structure FY (s:ByteArray) (k lines full cut:Nat):Prop where
 lines:lines=(qD s).length
 full:full=aA0 (qD s)
 le:cut<=s.size
 cut:cut=0\/qD (s.extract 0 cut)=(qD s).take k
theorem FY.mk' {s:ByteArray} {k lines full cut:Nat} {done rest:List (List UInt8)} (hl:qD s=(done++rest).map mkS) (h5:(lines<k/\cut=0)\/(k<=lines/\cut<=s.size/\TD 10 [] ((bl s).take cut)=done.take k++[[]])) (hd:lines=done.length):cut<=s.size/\(cut=0\/qD (s.extract 0 cut)=(qD s).take k):=by
 rcases h5 with ⟨_,h⟩ | ⟨a,b,c⟩
 ·exact ⟨by omega,.inl h⟩
 ·refine ⟨b,.inr ?_⟩;rw [BJ (s:=s.extract 0 cut) (done:=done.take k) (pre:=[]) (by rw [jD,List.drop_zero];exact c),if_pos rfl,hl,<-List.map_take,List.take_append_of_le_length (by omega)]
theorem YO.done {s:ByteArray} {k lines full frm cut:Nat} (h:YO (bl s) k s.size lines full frm cut) (hf:frm=s.size):FY s k lines full cut:=by
 obtain ⟨done,bb,h1,h2,h3,h4,h5⟩:=h;rw [List.take_of_length_le (by rw [RB];exact Nat.le_refl _)] at h1;have hp:bb=[]:=List.length_eq_zero_iff.1 (by omega);have hl:=BJ h1;rw [if_pos hp] at hl;have:=FY.mk' (full:=full) (rest:=[]) (by rw [hl,List.append_nil]) h5 h2;exact ⟨by rw [hl,List.length_map,h2],by rw [hl,aA1,h3],this.1,this.2⟩
theorem YO.more {s:ByteArray} {k lines full frm cut:Nat} (h:YO (bl s) k s.size lines full frm cut) (hf:¬frm=s.size):FY s k (lines+1) (full+1) cut/\frm<s.size:=by
 obtain ⟨done,bb,h1,h2,h3,h4,h5⟩:=h;rw [List.take_of_length_le (by rw [RB];exact Nat.le_refl _)] at h1;have hp:¬bb=[]:=fun e=>hf (by rw [e] at h4;simpa using h4)
 have hl:=BJ h1;rw [if_neg hp] at hl;have:=FY.mk' (full:=full) (rest:=[bb]) hl h5 h2;exact ⟨⟨by rw [hl,List.length_map,List.length_append,h2];rfl,by rw [hl,aA1,EX,if_neg hp,h3],this.1,this.2⟩,by have:=List.length_pos_iff.2 hp;omega⟩
theorem GY {s:ByteArray} (h:s.size=0):qD s=[]:=by
 have e:bl s=[]:=DK.2 h;rw [BJ (done:=[]) (pre:=[]) (by rw [e,TD];rfl),if_pos rfl];rfl
theorem mAn {s:ByteArray} {k lines full cut:Nat} (h:FY s k lines full cut) (hb:60<lines\/3000<s.size):yI s=⟨#[]⟩:=by
 unfold yI
 split
 ·rfl
 ·rename_i h1
  rw [if_pos (by rw [<-h.lines];exact hb.resolve_right h1)]
theorem hAp {s:ByteArray} {k lines full cut:Nat} (h:FY s k lines full cut) (h1:¬60<lines) (h2:¬3000<s.size):SJ (bl (yI s))=full/\∃r,yI s=yI (s.extract 0 cut)++r:=by
 have e:yI s=XF st0 (qD s):=by unfold yI;rw [if_neg h2,if_neg (by rw [<-h.lines];exact h1)]
 rw [e];refine ⟨by rw [AQ,h.full],?_⟩;have hs:(s.extract 0 cut).size<=s.size:=by rw [<-RB,<-RB,jD,List.drop_zero,List.length_take];omega
 rcases h.cut with h0 | h0
 ·have hz:(s.extract 0 cut).size=0:=by rw [<-RB,jD,h0];rfl
  refine ⟨_,(?_:_=_++XF st0 (qD s))⟩;have:yI (s.extract 0 cut)=⟨#[]⟩:=by
   unfold yI;rw [if_neg (by omega),GY hz,if_neg (by simp)];rfl
  rw [this,WL]
 ·have hl:=congrArg List.length h0;rw [List.length_take,<-h.lines] at hl;have:yI (s.extract 0 cut)=XF st0 ((qD s).take k):=by
   unfold yI;rw [if_neg (by omega),if_neg (by omega),h0]
  rw [this];refine ⟨XF (mAm st0 ((qD s).take k)) ((qD s).drop k),?_⟩;rw [<-CX,List.take_append_drop]
theorem mAo {m:CS} {l:ByteArray} (h:okS m.s) (h5:m.voters.length<=5):okS (PJ m l).2.s/\(PJ m l).2.voters.length<=5:=by
 have bb:∀(s:zA) (ok:Bool),okS s->okS (SK m s ok).2.s/\(SK m s ok).2.voters.length<=5:=fun s ok hs=>by
  cases ok
  ·exact ⟨h,h5⟩
  ·exact ⟨hs,h5⟩
 unfold PJ
 split
 ·split
  ·rename_i hw
   exact ⟨eV h.1.1 (Nat.le_trans (wF (CN hw.2).1) (by decide)),h5⟩
  ·split
   ·exact ⟨h,h5⟩
   ·unfold ZI
    repeat' split
    ·exact bb _ _ (iS h)
    ·exact bb _ _ (dV h)
    ·exact bb _ _ (cV h)
    ·exact ⟨h,h5⟩
    ·exact ⟨h,h5⟩
    ·unfold YI
     split
     ·exact ⟨h,h5⟩
     ·refine ⟨h,?_⟩;show (m.voters++[_]).length<=5
      rw [List.length_append,List.length_singleton];omega
    ·exact ⟨h,h5⟩
 ·split
  ·exact ⟨h,h5⟩
  ·exact ⟨h,h5⟩
theorem BT:∀(ls:List ByteArray) (m:CS),okS m.s->m.voters.length<=5->(XF m ls).size<=10001*ls.length
 | [],m,_,_=>by rw [XF];decide
 | l::ls,m,h,h5=>by
  rw [XF,List.length_cons]
  split
  ·have:=BT ls m h h5;omega
  ·have h1:=YN m l h h5;have h2:=BT ls _ (mAo (l:=l) h h5).1 (mAo (l:=l) h h5).2;have e:(⟨#[10]⟩:ByteArray).size=1:=rfl;rw [lA,lA];omega
theorem kAi (s:ByteArray):(yI s).size<=1048576:=by
 unfold yI
 split
 ·decide
 ·split
  ·decide
  ·have:=BT (qD s) st0 fA3 (by decide);omega
def oA5 (n:Nat) (_:World) (v:Value):Prop:=∃s:ByteArray,v=.string s/\s.size<=n
theorem fAb (w0 w:World) (p:Nat) (hA:At w0 p w) (g n c:Nat) (xs:List ByteArray) (hn:n=xs.length) (hc:∀(k:Nat) (x:ByteArray),xs[k]? = some x->w.cell? ⟨g,k,none⟩=some (.string x)) (hg:g≠p) (h0:0<n) (h1:n<=1048576) (hcap:n<=c):Calls prog 204 #[.pointer (some ⟨p,0,none⟩),.slice (some ⟨g,0,none⟩) n c] w (WM w0 p w (fun _ v=>∃x∈xs,v=.string x)):=by
 have HL:=pA6 hn;have HK:=pA6 hc;have bb:=pAm w0 w p hA n (by omega) (by omega);clear hc hn;go_enter func204,ntmps204;go_wp2_with fail;refine bb.mono ?_;rintro e w1 ⟨v,rfl,⟨x,rfl,x1,x2⟩,hO,bc⟩;obtain ⟨k,rfl⟩:∃k:Nat,x=(k:Int):=⟨x.toNat,by omega⟩;obtain ⟨y,hy⟩:=tA (xs:=xs) (k:=k) (by have:=HL.out;omega);have c0:=hO.cell (HK.out k y hy) (by simpa using hg);have HM:=pA6 (List.mem_of_getElem? hy);clear hy bb;go_wp2;go_ret;exact ⟨_,rfl,⟨y,HM.out,rfl⟩,hO,bc⟩
theorem nAw {s:ByteArray} {b:Nat} (hb:b<=s.size) (W:World):(Instr.slice 9 (.string s) none (some (.int .i64 (b:Int))) none).run prog W=.ok (.string (s.extract 0 b)) W:=by
 rw [run_slice_string_to_if W 9 s .i64 b underlying9,if_pos ⟨by omega,by omega⟩];rfl
theorem PX (W:World) (d:Int):(strOfNums [d]).size=1:=by rw [strOfNums_size];rfl
theorem oAi {s:ByteArray} {k:Nat} (h:k<=s.size):(s.extract 0 k).size=k:=by rw [<-RB,jD,List.drop_zero,List.length_take,RB];omega
theorem fAc {s:ByteArray} {k:Nat} (h:k<=s.size):(s.extract k s.size).size=s.size-k:=by rw [<-RB,jD,List.length_drop,List.length_take,RB];omega
theorem aA5 (w0 w:World) (p:Nat) (hA:At w0 p w) (s:ByteArray) (h0:0<s.size) (h1:s.size<=1000000):Calls prog 153 #[.pointer (some ⟨p,0,none⟩),.string s] w
  (WM w0 p w (oA5 (s.size+1))):=by
 have D0:=Dn.start hA;have e0:((s.size:Int)==0)=false:=by rw [beq_eq_false_iff_ne];omega
 go_enter func153,ntmps153;have bb:=pAm w0 w p hA s.size (by omega) (by omega);go_wp2_with fail;refine bb.mono ?_;rintro e w1 ⟨v1,rfl,⟨k0,rfl,k1,k2⟩,bs,bg⟩;clear bb;obtain ⟨k,rfl⟩:∃k:Nat,k0=(k:Int):=⟨k0.toNat,by omega⟩;have D1:=D0.call bs bg;have hk:k<s.size:=by omega
 have bb:=pAm w0 w1 p bg 4 (by omega) (by omega);go_wp2_with fail;refine bb.mono ?_;rintro e w2 ⟨v2,rfl,⟨sw,rfl,s1,s2⟩,bt,bq⟩;clear bb;have D2:=D1.call bt bq;have hwk:IntKind.i64.wrap ((k:Int)+1)=(k:Int)+1:=by simp [IntKind.wrap,IntKind.bits,IntKind.signed];omega
 have t1:=nAw (s:=s) (b:=k) (by omega);have t2:∀W,(Instr.slice 9 (.string s) (some (.int .i64 ((k:Int)+1))) none none).run prog W=.ok (.string (s.extract (k+1) s.size)) W:=fun W=>by
  have:=fL (s:=s) (a:=k+1) (by omega) W
  rwa [Int.natCast_add] at this
 have t3:=fL (s:=s) (a:=k) (by omega);have z1:=oAi (s:=s) (k:=k) (by omega);have z2:=fAc (s:=s) (k:=k+1) (by omega);have z3:=fAc (s:=s) (k:=k) (by omega);obtain ⟨x,hx⟩:=tA (xs:=bl s) (k:=k) (by rw [RB];exact hk);have bf:=TH hx;obtain ⟨P,hP⟩:=pA7 (s.extract 0 k);obtain ⟨Q,hQ⟩:=pA7 (s.extract (k+1) s.size);obtain ⟨R,hR⟩:=pA7 (s.extract k s.size);simp only [<-hP,<-hQ,<-hR] at t1 t2 t3;rw [<-hP] at z1;rw [<-hQ] at z2;rw [<-hR] at z3;clear hP hQ hR hx;obtain ⟨xi,bj⟩:=pA7 ((x.toNat:Int):Int);rw [<-bj] at bf;clear bj;have hone:=kV;have i1:(0:Int)<=(k:Int):=by omega
 have i2:(k:Int)<(s.size:Int):=by omega
 have bk:=pA6 (show (P++Q).size<=s.size+1 by rw [lA];omega);have bm:=pA6 (fun d:Int=>show (P++strOfNums [d]++R).size<=s.size+1 by rw [lA,lA,PX w];omega);have bn:=pA6 (show P.size<=s.size+1 by omega);have bp:=pA6 (fun d:Int=>show (P++strOfNums [d]++Q).size<=s.size+1 by rw [lA,lA,PX w];omega);have a0:∀W,(Op.stringOp .add P Q).run prog W=.ok (.string (P++Q)) W:=fun W=>run_string_add_sum W _ _ (by omega)
 have a1:∀(d:Int) W,(Op.stringOp .add P (strOfNums [d])).run prog W=.ok (.string (P++strOfNums [d])) W:=fun d W=>run_string_add_sum W _ _ (by rw [PX W];omega)
 have a2:∀(d:Int) W,(Op.stringOp .add (P++strOfNums [d]) R).run prog W=.ok (.string (P++strOfNums [d]++R)) W:=fun d W=>run_string_add_sum W _ _ (by rw [lA,PX W];omega)
 have a3:∀(d:Int) W,(Op.stringOp .add (P++strOfNums [d]) Q).run prog W=.ok (.string (P++strOfNums [d]++Q)) W:=fun d W=>run_string_add_sum W _ _ (by rw [lA,PX W];omega)
 clear z1 z2 z3;have Dd:=D2.drew;by_cases g0:sw=0
 ·subst g0;go_wp2_with fail;refine IA (by kernel_rfl) ?_
  repeat (first | go_big_quiet_skip | (go_big_quiet_want;go_big_quiet_op;go_big_quiet_on))
  refine JA fun wq hbq=>?_
  try dsimp only at *
  go_wp2;go_ret;exact (D2.bw hbq).ret ⟨_,rfl,bk.out⟩
 ·have g0':(sw==0)=false:=by simpa using g0
  by_cases g1:sw=1
  ·subst g1;go_wp2_with fail
   go_region_law
    (first
     | (go_simp;go_at_call 156;(with_reducible refine (XL w0 _ p Dd.at').mono ?_);rintro e' w5 ⟨v5,rfl,⟨b,rfl,b1,b2⟩,bd,bc⟩;replace Dd:=Dd.call bd bc;go_wp2_with fail))
   all_goals
    go_wp2;go_ret;exact (Dd.alloc _).ret ⟨_,rfl,bm.out _⟩
  ·have g1':(sw==1)=false:=by simpa using g1
   by_cases g2:sw=2
   ·subst g2;go_wp2;go_ret;exact D2.ret ⟨_,rfl,bn.out⟩
   ·have g2':(sw==2)=false:=by simpa using g2
    go_wp2_with fail
    go_region_law
     (first
      | (go_simp;go_at_call 74;(with_reducible refine (pAm w0 _ p Dd.at' 255 (by omega) (by omega)).mono ?_);rintro e' w5 ⟨v5,rfl,⟨b,rfl,b1,b2⟩,bd,bc⟩;replace Dd:=Dd.call bd bc;go_wp2_with fail))
    all_goals
     go_wp2;go_ret;exact (Dd.alloc _).ret ⟨_,rfl,bp.out _⟩
theorem aA6 {W:World} {g k:Nat} {v:Value} (h:W.cell? ((⟨g,0,none⟩:Addr).add k)=some v):W.cell? ⟨g,k,none⟩=some v:=by
 rw [Addr.add_lit,Nat.zero_add] at h;exact h
theorem QX {l:List ByteArray} {k:Nat} {x:ByteArray} (h:l[k]? = some x):(l.map Value.string)[k]? = some (.string x):=by rw [List.getElem?_map,h];rfl
theorem aA7 (w0 w:World) (p:Nat) (hA:At w0 p w):Calls prog 152 #[.pointer (some ⟨p,0,none⟩)] w
  (WM w0 p w (oA5 5000)):=by
 have D0:=Dn.start hA;go_enter func152,ntmps152;have bb:=pAm w0 w p hA 9 (by omega) (by omega);go_wp2_with fail;refine bb.mono ?_;rintro e w1 ⟨v1,rfl,⟨sw,rfl,s1,s2⟩,bs,bn⟩;clear bb;have D1:=D0.call bs bn;by_cases g0:sw=0
 ·subst g0;have bb:=pAm w0 w1 p bn 9 (by omega) (by omega);go_wp2_with fail;refine bb.mono ?_;rintro e w2 ⟨v2,rfl,⟨id,rfl,i1,i2⟩,bm,bf⟩;clear bb;have D2:=D1.call bm bf;have bb:=qS w0 w2 p bf id 4 (by omega) (by omega);go_wp2_with fail;refine bb.mono ?_;rintro e w3 ⟨v3,rfl,⟨x,u,F,rfl,hu,hF,hx⟩,bj,bg⟩;clear bb;have D3:=D2.call bj bg;obtain ⟨A,n,c,rfl,l1,_⟩:=qA (xA hu);have bc:=sH w3 x _ (xA hu);have bd:=xJ x;obtain ⟨T,hT⟩:=pA7 (FC x);rw [<-hT] at bc bd;have ad:∀W,(Op.stringOp .add ⟨#[97,100,100,32]⟩ T).run prog W=.ok (.string (⟨#[97,100,100,32]⟩++T)) W:=fun W=>run_string_add_sum W _ _ (by have h9:(⟨#[97,100,100,32]⟩:ByteArray).size<=10:=(by decide);omega)
  have HZ:=pA6 (show (⟨#[97,100,100,32]⟩++T:ByteArray).size<=5000 by
   have:(⟨#[97,100,100,32]⟩:ByteArray).size<=10:=by decide
   rw [lA];omega)
  clear hT bd l1 hx hu;go_wp2_with fail;refine bc.mono ?_;rintro e w4 ⟨rfl,bk⟩;clear bc;go_wp2;go_ret;exact (D3.bw bk).ret ⟨_,rfl,HZ.out⟩
 have g0':(sw==0)=false:=by simpa using g0
 by_cases g1:sw=1
 ·subst g1;have bb:=pAm w0 w1 p bn 9 (by omega) (by omega);go_wp2_with fail;refine bb.mono ?_;rintro e w2 ⟨v2,rfl,⟨id,rfl,i1,i2⟩,bm,bf⟩;clear bb;have D2:=D1.call bm bf;have bb:=qS w0 w2 p bf id 4 (by omega) (by omega);go_wp2_with fail;refine bb.mono ?_;rintro e w3 ⟨v3,rfl,⟨x,u,F,rfl,hu,hF,hx⟩,bj,bg⟩;clear bb;have D3:=D2.call bj bg;obtain ⟨A,n,c,rfl,l1,_⟩:=qA (xA hu);have bc:=sH w3 x _ (xA hu);have bd:=xJ x;obtain ⟨T,hT⟩:=pA7 (FC x);rw [<-hT] at bc bd;have ad:∀W,(Op.stringOp .add ⟨#[97,100,100,32]⟩ T).run prog W=.ok (.string (⟨#[97,100,100,32]⟩++T)) W:=fun W=>run_string_add_sum W _ _ (by have h9:(⟨#[97,100,100,32]⟩:ByteArray).size<=10:=(by decide);omega)
  have HZ:=pA6 (show (⟨#[97,100,100,32]⟩++T:ByteArray).size<=5000 by
   have:(⟨#[97,100,100,32]⟩:ByteArray).size<=10:=by decide
   rw [lA];omega)
  clear hT bd l1 hx hu;go_wp2_with fail;refine bc.mono ?_;rintro e w4 ⟨rfl,bk⟩;clear bc;go_wp2;go_ret;exact (D3.bw bk).ret ⟨_,rfl,HZ.out⟩
 have g1':(sw==1)=false:=by simpa using g1
 by_cases g2:sw=2
 ·subst g2;have bb:=pAm w0 w1 p bn 9 (by omega) (by omega);go_wp2_with fail;refine bb.mono ?_;rintro e w2 ⟨v2,rfl,⟨id,rfl,i1,i2⟩,bm,bf⟩;clear bb;have D2:=D1.call bm bf;have bb:=qS w0 w2 p bf id 4 (by omega) (by omega);go_wp2_with fail;refine bb.mono ?_;rintro e w3 ⟨v3,rfl,⟨x,u,F,rfl,hu,hF,hx⟩,bj,bg⟩;clear bb;have D3:=D2.call bj bg;obtain ⟨A,n,c,rfl,l1,_⟩:=qA (xA hu);have bc:=sH w3 x _ (xA hu);have bd:=xJ x;obtain ⟨T,hT⟩:=pA7 (FC x);rw [<-hT] at bc bd;have ad:∀W,(Op.stringOp .add ⟨#[97,100,100,32]⟩ T).run prog W=.ok (.string (⟨#[97,100,100,32]⟩++T)) W:=fun W=>run_string_add_sum W _ _ (by have h9:(⟨#[97,100,100,32]⟩:ByteArray).size<=10:=(by decide);omega)
  have HZ:=pA6 (show (⟨#[97,100,100,32]⟩++T:ByteArray).size<=5000 by
   have:(⟨#[97,100,100,32]⟩:ByteArray).size<=10:=by decide
   rw [lA];omega)
  clear hT bd l1 hx hu;go_wp2_with fail;refine bc.mono ?_;rintro e w4 ⟨rfl,bk⟩;clear bc;go_wp2;go_ret;exact (D3.bw bk).ret ⟨_,rfl,HZ.out⟩
 have g2':(sw==2)=false:=by simpa using g2
 by_cases g3:sw=3
 ·subst g3;have bb:=pAm w0 w1 p bn 9 (by omega) (by omega);go_wp2_with fail;refine bb.mono ?_;rintro e w2 ⟨v2,rfl,⟨id,rfl,i1,i2⟩,bm,bf⟩;clear bb;have D2:=D1.call bm bf;have bb:=qS w0 w2 p bf id 4 (by omega) (by omega);go_wp2_with fail;refine bb.mono ?_;rintro e w3 ⟨v3,rfl,⟨x,u,F,rfl,hu,hF,hx⟩,bj,bg⟩;clear bb;have D3:=D2.call bj bg;obtain ⟨A,n,c,rfl,l1,_⟩:=qA (xA hu);have bc:=sH w3 x _ (xA hu);have bd:=xJ x;obtain ⟨T,hT⟩:=pA7 (FC x);rw [<-hT] at bc bd;have ad:∀W,(Op.stringOp .add ⟨#[99,104,97,110,103,101,32]⟩ T).run prog W=.ok (.string (⟨#[99,104,97,110,103,101,32]⟩++T)) W:=fun W=>run_string_add_sum W _ _ (by have h9:(⟨#[99,104,97,110,103,101,32]⟩:ByteArray).size<=10:=(by decide);omega)
  have HZ:=pA6 (show (⟨#[99,104,97,110,103,101,32]⟩++T:ByteArray).size<=5000 by
   have:(⟨#[99,104,97,110,103,101,32]⟩:ByteArray).size<=10:=by decide
   rw [lA];omega)
  clear hT bd l1 hx hu;go_wp2_with fail;refine bc.mono ?_;rintro e w4 ⟨rfl,bk⟩;clear bc;go_wp2;go_ret;exact (D3.bw bk).ret ⟨_,rfl,HZ.out⟩
 have g3':(sw==3)=false:=by simpa using g3
 by_cases g4:sw=4
 ·subst g4;have DW:=D1.alloc (.cells #[.string ⟨#[100,114,111,112,32]⟩,.string ⟨#[119,104,121,32]⟩,.string ⟨#[98,97,110,100,32]⟩] 9);have bp:=fAb w0 _ p DW.at' w1.heap.size 3 3 [⟨#[100,114,111,112,32]⟩,⟨#[119,104,121,32]⟩,⟨#[98,97,110,100,32]⟩] rfl (fun k x hx=>aA6 (World.news_of_block (cs:=#[.string ⟨#[100,114,111,112,32]⟩,.string ⟨#[119,104,121,32]⟩,.string ⟨#[98,97,110,100,32]⟩]) (t:=9) (fr:=(0,0)) (heap_alloc_new w1 _) k (.string x) (by exact QX (l:=[⟨#[100,114,111,112,32]⟩,⟨#[119,104,121,32]⟩,⟨#[98,97,110,100,32]⟩]) hx))) (by have:=D1.at'.lt;omega) (by omega) (by omega) (Nat.le_refl _);go_wp2_with fail;refine bp.mono ?_;rintro e w2 ⟨v2,rfl,⟨t,ht,rfl⟩,bm,bf⟩;have D2:=DW.call bm bf;have HT:=pA6 (fun (N:Nat) (h:∀x∈[⟨#[100,114,111,112,32]⟩,⟨#[119,104,121,32]⟩,⟨#[98,97,110,100,32]⟩],x.size<=N)=>h t ht);clear bp ht;have bq:t.size<=8:=HT.out 8 (by decide);have bb:=pAm w0 w2 p bf 9 (by omega) (by omega);go_wp2_with fail;refine bb.mono ?_;rintro e w3 ⟨v3,rfl,⟨q,rfl,q1,q2⟩,bj,bg⟩;clear bb;have D3:=D2.call bj bg;have bc:=yC w3 q (fH (by omega));have bd:=(mB (n:=q) (fH (by omega))).2;obtain ⟨T,hT⟩:=pA7 (QA q);rw [<-hT] at bc bd;have ad:∀W,(Op.stringOp .add t T).run prog W=.ok (.string (t++T)) W:=fun W=>run_string_add_sum W _ _ (by omega)
  have HZ:=pA6 (show (t++T).size<=5000 by rw [lA];omega);clear hT bd;go_wp2_with fail;refine bc.mono ?_;rintro e w4 ⟨rfl,bk⟩;clear bc;go_wp2;go_ret;exact (D3.bw bk).ret ⟨_,rfl,HZ.out⟩
 have g4':(sw==4)=false:=by simpa using g4
 by_cases g5:sw=5
 ·subst g5;have bb:=WK w0 w1 p bn;go_wp2_with fail;refine bb.mono ?_;rintro e w3 ⟨v3,rfl,⟨x,F,hu,hF,hx⟩,bj,bg⟩;clear bb;have D3:=D1.call bj bg;obtain ⟨A,n,c,rfl,l1,_⟩:=qA (bB hu);have bc:=xE w3 x _ (bB hu);have bd:=RH x;obtain ⟨T,hT⟩:=pA7 (fC x);rw [<-hT] at bc bd;have ad:∀W,(Op.stringOp .add ⟨#[119,105,115,104,32]⟩ T).run prog W=.ok (.string (⟨#[119,105,115,104,32]⟩++T)) W:=fun W=>run_string_add_sum W _ _ (by have h9:(⟨#[119,105,115,104,32]⟩:ByteArray).size<=10:=(by decide);omega)
  have HZ:=pA6 (show (⟨#[119,105,115,104,32]⟩++T:ByteArray).size<=5000 by
   have:(⟨#[119,105,115,104,32]⟩:ByteArray).size<=10:=by decide
   rw [lA];omega)
  clear hT bd l1 hx hu;go_wp2_with fail;refine bc.mono ?_;rintro e w4 ⟨rfl,bk⟩;clear bc;go_wp2;go_ret;exact (D3.bw bk).ret ⟨_,rfl,HZ.out⟩
 have g5':(sw==5)=false:=by simpa using g5
 by_cases g6:sw=6
 ·subst g6;have bb:=WK w0 w1 p bn;go_wp2_with fail;refine bb.mono ?_;rintro e w3 ⟨v3,rfl,⟨x,F,hu,hF,hx⟩,bj,bg⟩;clear bb;have D3:=D1.call bj bg;obtain ⟨A,n,c,rfl,l1,_⟩:=qA (bB hu);have bc:=xE w3 x _ (bB hu);have bd:=RH x;obtain ⟨T,hT⟩:=pA7 (fC x);rw [<-hT] at bc bd;have ad:∀W,(Op.stringOp .add ⟨#[118,111,116,101,114,32]⟩ T).run prog W=.ok (.string (⟨#[118,111,116,101,114,32]⟩++T)) W:=fun W=>run_string_add_sum W _ _ (by have h9:(⟨#[118,111,116,101,114,32]⟩:ByteArray).size<=10:=(by decide);omega)
  have HZ:=pA6 (show (⟨#[118,111,116,101,114,32]⟩++T:ByteArray).size<=5000 by
   have:(⟨#[118,111,116,101,114,32]⟩:ByteArray).size<=10:=by decide
   rw [lA];omega)
  clear hT bd l1 hx hu;go_wp2_with fail;refine bc.mono ?_;rintro e w4 ⟨rfl,bk⟩;clear bc;go_wp2;go_ret;exact (D3.bw bk).ret ⟨_,rfl,HZ.out⟩
 have g6':(sw==6)=false:=by simpa using g6
 clear g0 g1 g2 g3 g4 g5 g6;have DW:=D1.alloc (.cells #[.string ⟨#[98,101,115,116]⟩,.string ⟨#[108,97,121,101,114,115]⟩,.string ⟨#[119,105,115,104]⟩,.string ⟨#[110,111,114,109,97,108]⟩,.string ⟨#[112,114,111,103,114,101,115,115]⟩,.string ⟨#[115,116,97,116,101]⟩,.string ⟨#[118,111,116,101]⟩,.string ⟨#[119,104,97,116]⟩,.string ⟨#[]⟩,.string ⟨#[97,100,100,32,49,58,50,44,51]⟩,.string ⟨#[100,114,111,112,32,120]⟩,.string ⟨#[119,105,115,104,32,108,111,119,32,102,48,59,32,97,110,100]⟩] 9);have bp:=fAb w0 _ p DW.at' w1.heap.size 12 12 [⟨#[98,101,115,116]⟩,⟨#[108,97,121,101,114,115]⟩,⟨#[119,105,115,104]⟩,⟨#[110,111,114,109,97,108]⟩,⟨#[112,114,111,103,114,101,115,115]⟩,⟨#[115,116,97,116,101]⟩,⟨#[118,111,116,101]⟩,⟨#[119,104,97,116]⟩,⟨#[]⟩,⟨#[97,100,100,32,49,58,50,44,51]⟩,⟨#[100,114,111,112,32,120]⟩,⟨#[119,105,115,104,32,108,111,119,32,102,48,59,32,97,110,100]⟩] rfl (fun k x hx=>aA6 (World.news_of_block (cs:=#[.string ⟨#[98,101,115,116]⟩,.string ⟨#[108,97,121,101,114,115]⟩,.string ⟨#[119,105,115,104]⟩,.string ⟨#[110,111,114,109,97,108]⟩,.string ⟨#[112,114,111,103,114,101,115,115]⟩,.string ⟨#[115,116,97,116,101]⟩,.string ⟨#[118,111,116,101]⟩,.string ⟨#[119,104,97,116]⟩,.string ⟨#[]⟩,.string ⟨#[97,100,100,32,49,58,50,44,51]⟩,.string ⟨#[100,114,111,112,32,120]⟩,.string ⟨#[119,105,115,104,32,108,111,119,32,102,48,59,32,97,110,100]⟩]) (t:=9) (fr:=(0,0)) (heap_alloc_new w1 _) k (.string x) (by exact QX (l:=[⟨#[98,101,115,116]⟩,⟨#[108,97,121,101,114,115]⟩,⟨#[119,105,115,104]⟩,⟨#[110,111,114,109,97,108]⟩,⟨#[112,114,111,103,114,101,115,115]⟩,⟨#[115,116,97,116,101]⟩,⟨#[118,111,116,101]⟩,⟨#[119,104,97,116]⟩,⟨#[]⟩,⟨#[97,100,100,32,49,58,50,44,51]⟩,⟨#[100,114,111,112,32,120]⟩,⟨#[119,105,115,104,32,108,111,119,32,102,48,59,32,97,110,100]⟩]) hx))) (by have:=D1.at'.lt;omega) (by omega) (by omega) (Nat.le_refl _)
 go_wp2_with fail;refine bp.mono ?_;rintro e w2 ⟨v2,rfl,⟨t,ht,rfl⟩,bm,bf⟩;have D2:=DW.call bm bf;have HT:=pA6 (fun (N:Nat) (h:∀x∈[⟨#[98,101,115,116]⟩,⟨#[108,97,121,101,114,115]⟩,⟨#[119,105,115,104]⟩,⟨#[110,111,114,109,97,108]⟩,⟨#[112,114,111,103,114,101,115,115]⟩,⟨#[115,116,97,116,101]⟩,⟨#[118,111,116,101]⟩,⟨#[119,104,97,116]⟩,⟨#[]⟩,⟨#[97,100,100,32,49,58,50,44,51]⟩,⟨#[100,114,111,112,32,120]⟩,⟨#[119,105,115,104,32,108,111,119,32,102,48,59,32,97,110,100]⟩],x.size<=N)=>h t ht);clear bp ht;have bq:t.size<=5000:=HT.out 5000 (by decide);have HZ:=pA6 bq;clear bq;go_wp2;go_ret;exact D2.ret ⟨_,rfl,HZ.out⟩
theorem CT (w:World) (xs:List Int) (v:Value) (h:Rd aO w xs [v]) (hx:MM xs):Calls prog 67 #[v] w fun e W=>
  ∃s:ByteArray,e=.returned (.string s)/\s.size<=200000/\Bw w W:=by
 have bc:=nAv w xs v h hx;clear h;go_enter func67,ntmps67;go_wp2_with fail;refine bc.mono ?_;rintro e w1 ⟨p,rfl,bp⟩;clear bc;have bb:=WK w w1 p bp;go_wp2_with fail;refine bb.mono ?_;rintro e w2 ⟨v2,rfl,⟨x,F,hu,hF,hx⟩,hO2,bq⟩;clear bb;obtain ⟨A,n,c,rfl,l1,_⟩:=qA (bB hu);have bf:=xE w2 x _ (bB hu);have bj:=RH x;obtain ⟨T,hT⟩:=pA7 (fC x);rw [<-hT] at bf bj;have ez:(⟨#[119,105,115,104,32]⟩:ByteArray).size=5:=rfl;have en:(⟨#[10]⟩:ByteArray).size=1:=rfl;have ad:∀W,(Op.stringOp .add ⟨#[119,105,115,104,32]⟩ T).run prog W=.ok (.string (⟨#[119,105,115,104,32]⟩++T)) W:=fun W=>run_string_add_sum W _ _ (by omega)
 have ad2:∀W,(Op.stringOp .add (⟨#[119,105,115,104,32]⟩++T) ⟨#[10]⟩).run prog W=.ok (.string (⟨#[119,105,115,104,32]⟩++T++⟨#[10]⟩)) W:=fun W=>run_string_add_sum W _ _ (by rw [lA];omega)
 have HZ:=pA6 (show (⟨#[119,105,115,104,32]⟩++T++⟨#[10]⟩:ByteArray).size<=5000 by rw [lA,lA];omega);clear hT bj l1 hx hu ez;go_wp2_with fail;refine bf.mono ?_;rintro e w3 ⟨rfl,cb⟩;have bs:=bq.bwStep cb;clear bf;have bb:=ZN w w3 p bs 10 (by omega) (by omega);go_wp2_with fail;refine bb.mono ?_;rintro e w4 ⟨v4,rfl,⟨q,rfl⟩,hO4,bt⟩;clear bb
 cases q
 rotate_left
 focus
  have HU:=pA6 (show ((⟨#[]⟩:ByteArray)).size<=5000 from (by decide))
 rotate_right
 focus
  have HU:=pA6 (show ((⟨#[119,105,115,104,32]⟩++T++⟨#[10]⟩:ByteArray)).size<=5000 from HZ.out)
 all_goals
  have bb:=pAm w w4 p bt 16 (by omega) (by omega);go_wp2_with fail;refine bb.mono ?_;rintro e w5 ⟨v5,rfl,⟨N0,rfl,N1,N2⟩,hO5,bv⟩;clear bb;obtain ⟨N,rfl⟩:∃N:Nat,N0=(N:Int):=⟨N0.toNat,by omega⟩;have HN:=pA6 (show N<=15 by omega);have hwN:IntKind.i64.wrap (2+(N:Int))=((2+N:Nat):Int):=by simp [IntKind.wrap,IntKind.bits,IntKind.signed];omega
  clear N1 N2;go_wp2
  go_loopg [4,5] (N+3) (fun g t z w'=>∃(k:Nat) (s:ByteArray),k<=N+2/\g=k+1/\z=.int .i64 k/\t=.string s/\Hid (s.size<=5000+5001*(N+2-k))/\Hid (k<N+2->0<s.size)/\At w p w')
  ·exact ⟨N+2,_,by omega,rfl,by go_num,rfl,pA6 (by have:=HU.out;omega),pA6 (fun h=>by omega),bv⟩
  ·obtain ⟨k,s,hk,rfl,rfl,rfl,HS,HP,hA⟩:=hrel;by_cases h0:0<k
   ·have i1:(0:Int)<(k:Int):=by omega
    have cc:IntKind.i64.wrap ((k:Int)-1)=((k-1:Nat):Int):=by
     have:=HN.out;simp [IntKind.wrap,IntKind.bits,IntKind.signed];omega
    have bb:=aA7 w wr p hA;go_wp2_with fail;refine bb.mono ?_;rintro e w6 ⟨v6,rfl,⟨t,rfl,ht⟩,bz,bd⟩;have hs:=HS.out;have hn:=HN.out;have a1:∀W,(Op.stringOp .add s t).run prog W=.ok (.string (s++t)) W:=fun W=>run_string_add_sum W _ _ (by omega)
    have a2:∀W,(Op.stringOp .add (s++t) ⟨#[10]⟩).run prog W=.ok (.string (s++t++⟨#[10]⟩)) W:=fun W=>run_string_add_sum W _ _ (by rw [lA];omega)
    have bm:=pA6 (show (s++t++⟨#[10]⟩:ByteArray).size<=5000+5001*(N+2-(k-1)) by rw [lA,lA,en];omega);have bk:=pA6 (show 0<(s++t++⟨#[10]⟩:ByteArray).size by rw [lA,en];omega);clear bb hs hn HS HP;go_wp2
    go_roundg (k-1+1)
    ·exact ⟨k-1,_,by omega,rfl,by first | rfl | go_num | (rw [<-cc];rfl),rfl,bm,pA6 (fun _=>bk.out),bd⟩
    ·omega
   ·obtain rfl:k=0:=by omega
    have hs:=HS.out;have hn:=HN.out;have hp:=HP.out (by omega);have bg:s.size<=100000:=by omega
    have bn:=pA6 bg;have bb:=ZN w wr p hA 14 (by omega) (by omega);clear hs hn HS HP;go_wp2_with fail;refine bb.mono ?_;rintro e w6 ⟨v6,rfl,⟨q2,rfl⟩,bz,bd⟩;clear bb
    cases q2 with
    | true=>
     have bb:=aA5 w w6 p bd s hp (by omega);go_wp2_with fail;refine bb.mono ?_;rintro e w7 ⟨v7,rfl,⟨t,rfl,ht⟩,hO7,bx⟩;clear bb;have HT:=pA6 (show t.size<=200000 by omega);clear ht hp bg;go_wp2;go_ret;exact ⟨_,rfl,HT.out,bx.bw⟩
    | false=>
     clear hp bg;go_wp2;go_ret;exact ⟨_,rfl,by have:=bn.out;omega,bd.bw⟩
end Go.Proofs.YtpihighajaeabaaGreat
