/- Draws: one step of the cursor. -/
import Derived.Test.YtpihighajaeabaaGreatXParseT
import Derived.Test.YtpihighajaeabaaGreatXSortP
import Derived.Test.YtpihighajaeabaaGreatXVoteL
import Derived.Test.YtpihighajaeabaaGreatXDelA
import Derived.Test.YtpihighajaeabaaGreatXLines3
import Derived.Test.YtpihighajaeabaaGreatProg
import Derived.Test.YtpihighajaeabaaGreatXCodes
import Derived.Test.YtpihighajaeabaaGreatXLines
namespace Go.Proofs.YtpihighajaeabaaGreat
open Go.RowKit Go.Proofs.Tryz
set_option linter.all false
set_option maxRecDepth 100000
set_option maxHeartbeats 16000000
def jR (a:ByteArray):Int:=if a=PB 0 then 0 else if a=PB 1 then 1 else if a=PB 2 then 2 else if a=PB 3 then 3 else if a=PB 4 then 4 else -1
def UT (a:ByteArray):Int:=if a=PB 1 then 1 else if a=PB 2 then 2 else if a=PB 3 then 3 else if a=PB 4 then 4 else 0
def tW (b:ByteArray):Int:=oJ (b.extract 1 b.size)
def zN (b:ByteArray):Int:=if b.size<2\/(bl b).head?≠some 102 then -1 else tG (b.extract 1 b.size)
def dAd (a b c:ByteArray):AB:=⟨jR a,tW b,if jR a=2 then oJ c else 0,if jR a=3 then JJ c else [],if jR a=4 then (yE c).1 else []⟩
def jI (a b c:ByteArray):AB:=⟨UT a,zN b,if UT a=2 then tG c else 0,if UT a=3 then lP c else [],if UT a=4 then (yE c).1 else []⟩
def MG (s:ByteArray):Option AB:=match rH s ⟨#[32]⟩ with
 | [a,b]=>if b.size<2 then none else some ⟨jR a,tW b,0,[],[]⟩
 | [a,b,c]=>if b.size<2 then none else some (dAd a b c)
 | _=>none
def sF (s:ByteArray):Option AB:=match MD s 32 with
 | [a,b]=>some (jI a b ⟨#[]⟩)
 | [a,b,c]=>some (jI a b c)
 | _=>none
def ZF (s:ByteArray):AB×Bool:=pOf tB MG KA s
theorem wW (x:AB) (h:(tB x).size≠0):DB x=true:=by
 cases hx:DB x with
 | true=>rfl
 | false=>unfold tB at h;rw [hx,if_neg (by simp)] at h;exact absurd rfl h
theorem VT {x:AB} (h:DB x=true):(x.kind≠2->x.value=0)/\(x.kind=3↔0<x.list.length)/\(x.kind≠4->x.pairs=[])/\∀v∈x.list,0<=v/\v<=9:=by
 unfold DB at h;simp only [Bool.and_eq_true,Bool.or_eq_true,decide_eq_true_eq,beq_iff_eq] at h;obtain ⟨_,_,_,h4,h5,h6,h7⟩:=h;refine ⟨fun hk=>h5.resolve_left hk,?_,fun hk=>?_,fun v hv=>cL h4 hv⟩
 ·exact decide_eq_decide.1 h6
 ·rw [if_neg hk] at h7;exact List.length_eq_zero_iff.1 (of_decide_eq_true h7)
theorem dAe (c:UInt8) (t:ByteArray):((⟨#[c]⟩:ByteArray)++t).extract 1 ((⟨#[c]⟩:ByteArray)++t).size=t:=by
 apply EH;rw [jD,List.take_of_length_le (by rw [RB];exact Nat.le_refl _),IB];rfl
theorem rM (x:AB):bE x=PB x.kind++⟨#[32]⟩++(⟨#[102]⟩++QA x.field):=by
 apply EH;unfold bE;rw [IB,IB,IB,IB,IB,List.append_assoc,List.append_assoc];rfl
theorem AN {x:AB} (h:DB x=true):∀y∈bl (⟨#[102]⟩++QA x.field:ByteArray),y=102\/UC y=true:=fun y hy=>by
 rw [IB,List.mem_append] at hy;rcases hy with hy | hy
 ·have e:bl ⟨#[102]⟩=[102]:=rfl;rw [e,List.mem_singleton] at hy;exact .inl hy
 ·exact .inr (II (by have:=NF h;omega) y hy)
theorem iQ {k:Int} (h:0<=k/\k<=4):∀y∈bl (PB k),97<=y.toNat/\y.toNat<=122:=by
 rcases (show k=0\/k=1\/k=2\/k=3\/k=4 by omega) with rfl | rfl | rfl | rfl | rfl<;>decide
theorem xW {k:Int} (h:0<=k/\k<=4):jR (PB k)=k/\UT (PB k)=k:=by
 rcases (show k=0\/k=1\/k=2\/k=3\/k=4 by omega) with rfl | rfl | rfl | rfl | rfl<;>decide
theorem dAf {x:AB} (h:DB x=true):tW (⟨#[102]⟩++QA x.field)=x.field/\zN (⟨#[102]⟩++QA x.field)=x.field/\¬(⟨#[102]⟩++QA x.field:ByteArray).size<2:=by
 have hf:=NF h;have hs:¬(⟨#[102]⟩++QA x.field:ByteArray).size<2:=by
  rw [lA];have h1:=(mB (bC (n:=x.field) (by omega))).1;have e:(⟨#[102]⟩:ByteArray).size=1:=rfl;omega
 have hh:(bl (⟨#[102]⟩++QA x.field:ByteArray)).head? = some 102:=by rw [IB];rfl
 refine ⟨?_,?_,hs⟩
 ·unfold tW;rw [dAe,KL (by omega)]
 ·unfold zN;rw [if_neg (fun e=>e.elim hs (fun e=>e hh)),dAe,ML (by omega)]
theorem jQ {x:AB} (h:DB x=true) (T:ByteArray) (hT:∀y∈bl T,y≠32):MD (bE x++⟨#[32]⟩++T) 32=[PB x.kind,⟨#[102]⟩++QA x.field,T]:=by
 rw [rM];exact cAy (fun y hy e=>by have:=iQ (ZG h) y hy;rw [e] at this;exact absurd this.1 (by decide))
  (fun y hy e=>by rcases AN h y hy with h1 | h1<;>rw [e] at h1<;>revert h1<;>decide) hT
theorem dAg {x:AB} (h:DB x=true):MD (bE x) 32=[PB x.kind,⟨#[102]⟩++QA x.field]:=by
 rw [rM];exact XS (fun y hy e=>by have:=iQ (ZG h) y hy;rw [e] at this;exact absurd this.1 (by decide))
  (fun y hy e=>by rcases AN h y hy with h1 | h1<;>rw [e] at h1<;>revert h1<;>decide)
theorem kQ (x:AB) (h:DB x=true):MG (tB x)=some x/\sF (tB x)=some x:=by
 have hk:=ZG h;obtain ⟨r1,r2,r3,r4⟩:=VT h;obtain ⟨f1,f2,f3⟩:=dAf h;obtain ⟨k1,k2⟩:=xW hk;have hv:=aF h;have hx:x=⟨x.kind,x.field,x.value,x.list,x.pairs⟩:=rfl;unfold MG sF;rw [IL];unfold tB;rw [if_pos h];by_cases h2:x.kind=2
 ·rw [if_pos h2,jQ h _ (fun y hy=>JI (II (by omega) y hy) (by decide))];dsimp only;rw [if_neg f3];have hl:x.list=[]:=by
   cases hl:x.list with
   | nil=>rfl
   | cons a l=>have:=r2.2 (by rw [hl];simp);omega
  have e:(⟨x.kind,x.field,x.value,[],[]⟩:AB)=x:=by rw [AB.eq_iff];exact ⟨rfl,rfl,rfl,hl.symm,(r3 (by omega)).symm⟩
  have n3:¬x.kind=3:=by omega
  have n4:¬x.kind=4:=by omega
  unfold dAd jI;simp only [k1,k2,f1,f2,if_pos h2,if_neg n3,if_neg n4,KL (show 0<=x.value/\x.value<=99 by omega),ML (show 0<=x.value/\x.value<=99 by omega)];exact ⟨congrArg some e,congrArg some e⟩
 ·rw [if_neg h2];by_cases h3:x.kind=3
  ·have hl:x.list≠[]:=fun e=>by have:=r2.1 h3;rw [e] at this;simp at this
   have hr:=WP hl (fun v hv=>by have:=r4 v hv;omega);rw [if_pos h3,jQ h _ (fun y hy=>by
    rcases tL (fun v hv=>by have:=r4 v hv;omega) y hy with h1 | rfl
    ·exact JI h1 (by decide)
    ·decide)]
   dsimp only;rw [if_neg f3];have e:(⟨x.kind,x.field,0,x.list,[]⟩:AB)=x:=by rw [AB.eq_iff];exact ⟨rfl,rfl,(r1 h2).symm,rfl,(r3 (by omega)).symm⟩
   have n4:¬x.kind=4:=by omega
   unfold dAd jI;simp only [k1,k2,f1,f2,if_neg h2,if_pos h3,if_neg n4,hr.1,hr.2];exact ⟨congrArg some e,congrArg some e⟩
  ·rw [if_neg h3];have hl:x.list=[]:=by
    cases hl:x.list with
    | nil=>rfl
    | cons a l=>have:=r2.2 (by rw [hl];simp);omega
   by_cases h4:x.kind=4
   ·have hp:=oH h h4;rw [if_pos h4,jQ h _ (fun y hy=>by
     rcases QM hp y hy with h1 | rfl | rfl | h1
     ·exact JI h1 (by decide)
     ·decide
     ·decide
     ·intro e;rw [e] at h1;revert h1;decide)]
    dsimp only;rw [if_neg f3];have e:(⟨x.kind,x.field,0,[],x.pairs⟩:AB)=x:=by rw [AB.eq_iff];exact ⟨rfl,rfl,(r1 h2).symm,hl.symm,rfl⟩
    unfold dAd jI;simp only [k1,k2,f1,f2,if_neg h2,if_neg h3,if_pos h4,dA3 hp];exact ⟨congrArg some e,congrArg some e⟩
   ·rw [if_neg h4,dAg h];dsimp only;rw [if_neg f3];have e:(⟨x.kind,x.field,0,[],[]⟩:AB)=x:=by rw [AB.eq_iff];exact ⟨rfl,rfl,(r1 h2).symm,hl.symm,(r3 h4).symm⟩
    unfold jI;simp only [k1,k2,f1,f2,if_neg h2,if_neg h3,if_neg h4];exact ⟨congrArg some e,congrArg some e⟩
theorem iA3 (s:ByteArray):pOf tB sF KA s=ZF s:=aAi wW (fun x h=>(kQ x h).1) (fun x h=>(kQ x h).2) s
theorem dAh {x:AB} (h:DB x=true):(tB x).size≠0:=by
 have h1:=(fP h).1;unfold tB;rw [if_pos h]
 repeat' split
 all_goals (repeat rw [lA]);omega
theorem gA0 {x:AB} (h:DB x=true):ZF (tB x)=(x,true):=ZV (dAh h) (kQ x h).1
theorem nAa {x:AB} (h:DB x=true):(32:UInt8)∈bl (tB x):=by
 have h1:(32:UInt8)∈bl (bE x):=by rw [rM,IB,IB];exact List.mem_append_left _ (List.mem_append_right _ (by decide))
 unfold tB;rw [if_pos h]
 repeat' split
 ·rw [IB,IB];simp [h1]
 ·rw [IB,IB];simp [h1]
 ·rw [IB,IB];simp [h1]
 ·exact h1
def opI (t:ByteArray):Int:=if t=GE 1 then 1 else if t=GE 2 then 2 else if t=GE 3 then 3 else if t=GE 4 then 4 else 0
def KK (t:ByteArray):mA:=if opI t=0 then ⟨0,(ZF t).1⟩ else ⟨opI t,KA⟩
def AH (t:ByteArray):mA:=if opI t=0 then (if (ZF t).2 then ⟨0,(ZF t).1⟩ else ⟨-1,KA⟩) else ⟨opI t,KA⟩
def RM (t:ByteArray):ByteArray:=if t.size=0 then t else t.extract 1 t.size
def aAn (s:ByteArray):Option (List mA):=some ((rH s ⟨#[59,32]⟩).map KK)
def zW (s:ByteArray):Option (List mA):=some (match MD s 59 with | p::ps=>AH p::ps.map (fun t=>AH (RM t)) | []=>[])
def jF (s:ByteArray):List mA×Bool:=pOf fC aAn [] s
theorem BN (e:List mA) (h:(fC e).size≠0):pB e=true:=by
 cases hx:pB e with
 | true=>rfl
 | false=>unfold fC at h;rw [hx,if_neg (by simp)] at h;exact absurd rfl h
theorem WT:∀ {e:List mA} {d r:Int},qC e d=some r->∀n∈e,(n.op=0/\DB n.wish=true)\/(1<=n.op/\n.op<=4/\n.wish=KA)
 | [],_,_,_,n,hn=>by simp at hn
 | m::e,d,r,h,n,hn=>by
  rw [qC] at h
  split at h
  ·rename_i hk
   rcases List.mem_cons.1 hn with h1 | h1
   ·subst h1;unfold vD at hk;simp only [Bool.and_eq_true] at hk;have h2:=pD.1 hk.1;have h3:=hk.2.2;by_cases h0:n.op=0
    ·rw [if_pos h0] at h3;exact .inl ⟨h0,h3⟩
    ·rw [if_neg h0] at h3;exact .inr ⟨by omega,by omega,of_decide_eq_true h3⟩
   ·exact WT h n h1
  ·cases h
theorem EW {e:List mA} (h:pB e=true):e≠[]/\∀n∈e,(n.op=0/\DB n.wish=true)\/(1<=n.op/\n.op<=4/\n.wish=KA):=by
 unfold pB at h;rw [Bool.and_eq_true,decide_eq_true_eq,decide_eq_true_eq] at h;refine ⟨fun e0=>?_,WT h.1⟩;rw [e0] at h;have:=h.1;unfold qC at this;simp at this
theorem FW {k:Int} (h:1<=k/\k<=4):∀y∈bl (GE k),97<=y.toNat/\y.toNat<=122:=by
 rcases (show k=1\/k=2\/k=3\/k=4 by omega) with rfl | rfl | rfl | rfl<;>decide
theorem dAj {k:Int} (h:1<=k/\k<=4):opI (GE k)=k:=by
 rcases (show k=1\/k=2\/k=3\/k=4 by omega) with rfl | rfl | rfl | rfl<;>decide
theorem lAh {x:AB} (h:DB x=true):opI (tB x)=0:=by
 have h32:=nAa h;have key:∀k:Int,1<=k/\k<=4->tB x≠GE k:=fun k hk e=>by
  rw [e] at h32;have:=FW hk 32 h32;exact absurd this.1 (by decide)
 unfold opI;rw [if_neg (key 1 (by omega)),if_neg (key 2 (by omega)),if_neg (key 3 (by omega)),if_neg (key 4 (by omega))]
theorem lQ {n:mA} (h:(n.op=0/\DB n.wish=true)\/(1<=n.op/\n.op<=4/\n.wish=KA)):KK (kD n)=n/\AH (kD n)=n:=by
 unfold KK AH kD;rcases h with ⟨h0,hw⟩ | ⟨h1,h2,h3⟩
 ·rw [if_pos h0,lAh hw,if_pos rfl,if_pos rfl,gA0 hw];rw [if_pos rfl,<-h0];exact ⟨rfl,rfl⟩
 ·have h0:¬n.op=0:=by omega
  have e:(⟨n.op,KA⟩:mA)=n:=by rw [<-h3]
  simp only [if_neg h0,dAj ⟨h1,h2⟩];exact ⟨e,e⟩
theorem gA5 {x:AB} (h:DB x=true):∀y∈bl (tB x),y≠59:=by
 have hh:∀y∈bl (bE x),y≠59:=fun y hy e=>by
  rw [rM,IB,IB,List.mem_append,List.mem_append] at hy;rcases hy with (hy | hy) | hy
  ·have:=iQ (ZG h) y hy;rw [e] at this;exact absurd this.1 (by decide)
  ·rw [e] at hy;revert hy;decide
  ·rcases AN h y hy with h1 | h1<;>rw [e] at h1<;>revert h1<;>decide
 obtain ⟨r1,r2,r3,r4⟩:=VT h;have hv:=aF h;have bb:∀T:ByteArray,(∀y∈bl T,y≠59)->∀y∈bl (bE x++⟨#[32]⟩++T),y≠59:=fun T hT y hy=>by
  rw [IB,IB,List.mem_append,List.mem_append] at hy;rcases hy with (hy | hy) | hy
  ·exact hh y hy
  ·intro e;rw [e] at hy;revert hy;decide
  ·exact hT y hy
 unfold tB;rw [if_pos h];by_cases h2:x.kind=2
 ·rw [if_pos h2];exact bb _ (fun y hy=>JI (II (by omega) y hy) (by decide))
 ·rw [if_neg h2];by_cases h3:x.kind=3
  ·rw [if_pos h3];exact bb _ (fun y hy=>by
    rcases tL (fun v hv=>by have:=r4 v hv;omega) y hy with h1 | rfl
    ·exact JI h1 (by decide)
    ·decide)
  ·rw [if_neg h3];by_cases h4:x.kind=4
   ·rw [if_pos h4];exact bb _ (fun y hy=>by
     rcases QM (oH h h4) y hy with h1 | rfl | rfl | h1
     ·exact JI h1 (by decide)
     ·decide
     ·decide
     ·intro e;rw [e] at h1;revert h1;decide)
   ·rw [if_neg h4];exact hh
theorem mQ {n:mA} (h:(n.op=0/\DB n.wish=true)\/(1<=n.op/\n.op<=4/\n.wish=KA)):∀y∈bl (kD n),y≠59:=by
 unfold kD;rcases h with ⟨h0,hw⟩ | ⟨h1,h2,_⟩
 ·rw [if_pos h0];exact gA5 hw
 ·rw [if_neg (by omega)];exact fun y hy e=>by have:=FW ⟨h1,h2⟩ y hy;rw [e] at this;exact absurd this.1 (by decide)
theorem gA6 (c:UInt8) (l:List UInt8):RM (mkS (c::l))=mkS l:=by
 unfold RM;rw [if_neg (by rw [IJ];simp)];apply EH;rw [jD,List.take_of_length_le (by rw [RB];exact Nat.le_refl _),RS,RS];rfl
theorem dAk (e:List mA) (h:pB e=true):aAn (fC e)=some e:=by
 obtain ⟨hne,hn⟩:=EW h;unfold aAn fC;rw [if_pos h,XV (l:=KC e) (c:=59) (r:=[32]) rfl (fun e0=>hne (List.map_eq_nil_iff.1 e0)) (fun t ht y hy=>by
  obtain ⟨n,hm,rfl⟩:=List.mem_map.1 ht;exact mQ (hn n hm) y hy)]
 unfold KC;rw [List.map_map]
 congr 1
 exact (List.map_congr_left (fun n hm=>(lQ (hn n hm)).1)).trans (List.map_id _)
theorem dAl (e:List mA) (h:pB e=true):zW (fC e)=some e:=by
 obtain ⟨bb,hn⟩:=EW h;obtain ⟨n,ns,rfl⟩:∃n ns,e=n::ns:=by
  cases e with
  | nil=>exact absurd rfl bb
  | cons n ns=>exact ⟨n,ns,rfl⟩
 have hc:MD (fC (n::ns)) 59=kD n::ns.map (fun m=>mkS (32::bl (kD m))):=by
  unfold MD fC KC;rw [if_pos h,EK,List.map_cons,List.map_cons];have e1:bl ⟨#[59,32]⟩=[59,32]:=rfl;rw [e1,gZ (by decide) _ _ _ (fun q hq x hx=>by
   rcases List.mem_cons.1 hq with rfl | hq
   ·exact mQ (hn n (by simp)) x hx
   ·obtain ⟨t,ht,rfl⟩:=List.mem_map.1 hq;obtain ⟨m,hm,rfl⟩:=List.mem_map.1 ht;exact mQ (hn m (by simp [hm])) x hx),List.nil_append,List.map_cons,nJ,List.map_map,List.map_map,List.map_map]
  rfl
 unfold zW;rw [hc];dsimp only;rw [List.map_map,(lQ (hn n (by simp))).2]
 congr 2
 refine (List.map_congr_left (fun m hm=>?_)).trans (List.map_id _);show AH (RM (mkS (32::bl (kD m))))=m
 rw [gA6,nJ];exact (lQ (hn m (by simp [hm]))).2
theorem nAb (s:ByteArray):pOf fC zW [] s=jF s:=aAi BN dAk dAl s
theorem CN {s:ByteArray} (h:(jF s).2=true):pB (jF s).1=true/\fC (jF s).1=s:=by
 obtain ⟨h1,h2⟩:=WS h;exact ⟨BN _ (by rw [show fC (jF s).1=s from h2];exact h1),h2⟩
def bU (c:Int->Nat) (b:List Int):Nat->List Int
 | 0=>[]
 | m+1=>b.filter (fun x=>decide (c x=m))++bU c b m
def RI (c:Int->Nat) (b:List Int):Nat->List Int
 | 0=>[]
 | m+1=>RI c b m++(b.filter (fun x=>decide (c x=m))).reverse
theorem xZ (c:Int->Nat) (b:List Int):∀m,(RI c b m).reverse=bU c b m
 | 0=>rfl
 | m+1=>by rw [RI,bU,List.reverse_append,List.reverse_reverse,xZ c b m]
theorem dAz (c:Int->Nat) (b:List Int):∀m,∀x∈RI c b m,c x<m
 | 0,x,h=>by simp [RI] at h
 | m+1,x,h=>by
  rw [RI,List.mem_append] at h;rcases h with h | h
  ·have:=dAz c b m x h;omega
  ·rw [List.mem_reverse,List.mem_filter] at h;have:=of_decide_eq_true h.2;omega
theorem yZ {c:Int->Nat} {x:Int}:∀ {p q:List Int},(∀y∈p,c y<c x)->MJ c x (p++q)=p++MJ c x q
 | [],q,_=>rfl
 | y::p,q,h=>by
  rw [List.cons_append,MJ,if_pos (h y (by simp)),yZ (fun z hz=>h z (by simp [hz]))];rfl
theorem zZ {c:Int->Nat} {x:Int} {q:List Int} (h:∀y∈q,c x<=c y):MJ c x q=x::q:=by
 cases q with
 | nil=>rfl
 | cons y q=>rw [MJ,if_neg (by have:=h y (by simp);omega)]
theorem cU {c:Int->Nat} {b:List Int} {x:Int}:∀ {m:Nat},m<=c x->RI c (b++[x]) m=RI c b m
 | 0,_=>rfl
 | m+1,h=>by
  rw [RI,RI,cU (by omega),List.filter_append];have:[x].filter (fun x=>decide (c x=m))=[]:=by rw [List.filter_cons,if_neg (by simp;omega)];rfl
  rw [this,List.append_nil]
theorem AZ {c:Int->Nat} {b:List Int} {x:Int}:∀ {m:Nat},c x<m->MJ c x (RI c b m)=RI c (b++[x]) m
 | 0,h=>by omega
 | m+1,h=>by
  rw [RI,RI];by_cases hx:c x=m
  ·have e1:[x].filter (fun x=>decide (c x=m))=[x]:=by rw [List.filter_cons,if_pos (by simpa using hx)];rfl
   rw [yZ (fun y hy=>by have:=dAz c b m y hy;omega),zZ (fun y hy=>by
    rw [List.mem_reverse,List.mem_filter] at hy;have:=of_decide_eq_true hy.2;omega),List.filter_append,e1,List.reverse_append,cU (by omega)]
   rfl
  ·have e1:[x].filter (fun x=>decide (c x=m))=[]:=by rw [List.filter_cons,if_neg (by simpa using hx)];rfl
   rw [List.filter_append,e1,List.append_nil,<-AZ (m:=m) (by omega)];have bb:∀(p q:List Int),(∃y∈p,c x<=c y)\/(∀y∈q,c x<=c y)->MJ c x (p++q)=MJ c x p++q:=by
    intro p q
    induction p with
    | nil=>
     intro h;rcases h with ⟨y,hy,_⟩ | h
     ·simp at hy
     ·rw [List.nil_append,zZ h];rfl
    | cons y p ih=>
     intro h;rw [List.cons_append,MJ,MJ];by_cases hc:c y<c x
     ·rw [if_pos hc,if_pos hc,ih (h.imp (fun ⟨z,hz,hzc⟩=>by
       rcases List.mem_cons.1 hz with rfl | hz
       ·omega
       ·exact ⟨z,hz,hzc⟩) id)]
      rfl
     ·rw [if_neg hc,if_neg hc];rfl
   exact bb _ _ (.inr fun y hy=>by
    rw [List.mem_reverse,List.mem_filter] at hy;have:=of_decide_eq_true hy.2;omega)
theorem eA0 (c:Int->Nat) (N:Nat) (hc:∀x,c x<N) (b:List Int):jL c b=RI c b N:=by
 have bc:∀(b bb:List Int) (r:List Int),r=RI c bb N->b.foldl (fun r x=>MJ c x r) r=RI c (bb++b) N:=by
  intro b
  induction b with
  | nil=>intro bb r h;rw [List.append_nil];exact h
  | cons x b ih=>
   intro bb r h;rw [List.foldl_cons,ih (bb++[x]) _ (by rw [h];exact AZ (hc x)),List.append_assoc];rfl
 have h0:∀N,RI c [] N=[]:=by
  intro N
  induction N with
  | zero=>rfl
  | succ n ih=>rw [RI,ih];rfl
 exact bc b [] [] (h0 N).symm
theorem nAf (l:List iA) (e:List mA):NJ l e=bU (VO l e) (eB l e) (l.length+1):=by
 unfold NJ;rw [eA0 (VO l e) (l.length+1) (fun x=>by unfold VO;have:=fG l e x (-1);omega),xZ]
theorem yO (l:List iA) (e:List mA):(NJ l e).length<=16:=by
 unfold NJ;rw [List.length_reverse];have h:∀xs:List Int,(jL (VO l e) xs).length=xs.length:=fun xs=>by have:=tZ (VO l e) xs xs.length (Nat.le_refl _);rwa [List.take_length] at this
 rw [h];exact vM l e
def tE (c:Int->Nat) (b:List Int) (m k:Nat):List Int:=(b.take k).filter (fun x=>decide (c x=m))
theorem bA0 {c:Int->Nat} {b:List Int} {m k:Nat} {x:Int} (hx:b[k]? = some x) (h:c x=m):tE c b m (k+1)=tE c b m k++[x]:=by
 unfold tE;rw [List.take_add_one,hx,List.filter_append]
 congr 1
 show [x].filter _=[x]
 rw [List.filter_cons,if_pos (by simpa using h)];rfl
theorem eA3 {c:Int->Nat} {b:List Int} {m k:Nat} {x:Int} (hx:b[k]? = some x) (h:¬c x=m):tE c b m (k+1)=tE c b m k:=by
 unfold tE;rw [List.take_add_one,hx,List.filter_append];have:[x].filter (fun x=>decide (c x=m))=[]:=by rw [List.filter_cons,if_neg (by simpa using h)];rfl
 show _++[x].filter _=_
 rw [this,List.append_nil]
theorem bA1 {c:Int->Nat} {b:List Int} {m k:Nat} (h:b.length<=k):tE c b m k=b.filter (fun x=>decide (c x=m)):=by unfold tE;rw [List.take_of_length_le h]
theorem DR (w:World) (l:List iA) (e:List mA) (v u:Value) (h:Rd LA w l [v]) (h':Rd OA w e [u]) (hl:l.length<=1048576) :
  Calls prog 282 #[v,u] w (WB w (nE WA w.heap.size (NJ l e))):=by
 obtain ⟨i0,hi,dm,dn,dp⟩:=info_parts xC;have bx:=MA (e:=3) (sz:=1) (R:=IF) w;have A0:Bw w (w.alloc (.cells #[] 3)):=(Bw.refl w).alloc _;have bb:=aU _ l e _ _ (h.bw gA A0) (h'.bw jA A0);have bk:=vM l e;obtain ⟨Y,hY⟩:=pA7 (NJ l e);have HY:=pA6 (show Y=bU (VO l e) (eB l e) (l.length+1) by rw [hY];exact nAf l e);have ck:=pA6 (show Y.length<=16 by rw [hY];exact yO l e);have cc:=pA6 (fun (id:Int) (W:World) (B:Bw w W)=>BP W l e id v u (h.bw gA B) (h'.bw jA B));rw [<-hY];obtain ⟨b,bm⟩:=pA7 (eB l e);obtain ⟨cn,bp⟩:=pA7 (VO l e);rw [<-bm,<-bp] at HY;rw [<-bm] at bb bk;have cd:=pA6 bp;obtain ⟨Al,nl,cl,rfl,ll,_⟩:=qA h;rw [<-ll] at HY hl;have LL:=pA6 ll;clear hY bm bp h h' ll;go_enter func282,ntmps282;go_wp2_with fail;refine bb.mono ?_;rintro e1 w2 ⟨v1,rfl,⟨FX,oX,fX⟩,bn⟩;have B2:=A0.then bn;have bz:=nA bn aA bx;have zX:∀z∈FX,z∉[w.heap.size]:=fun z hz=>by have h1:=fX.ge z hz;simp at h1;simp only [List.mem_singleton];omega
 have rl:=xA oX;obtain ⟨A,n,c,rfl,L,Lc,Lm⟩:=yA rl;have OX:=pA6 oX;have ZX:=pA6 zX;have n16:n<=16:=by rw [L.out];exact bk
 clear oX zX rl bx fX bb bk;go_wp2
 go_loopg [5,7,8] (nl+2) (fun gg s z x8 w'=>∃(m:Nat) (F:List Nat) (out:List Int),m<=nl+1/\gg=m+1/\z=.int .i64 ((m:Int)-1)/\Hid (out++bU cn b m=Y)/\WA w' out [s] F/\sA w.heap.size F/\Bw w w'/\TB [w.heap.size] w2 w'/\Hid (∀z∈F,z=w.heap.size\/w2.heap.size<=z))
 ·exact ⟨nl+1,_,[],Nat.le_refl _,rfl,by go_num,pA6 HY.out.symm,bz,⟨by simp,by simp⟩,B2,TB.refl _ _,pA6 (fun z hz=>.inl (by simpa using hz))⟩
 ·clear bz B2 bn A0;obtain ⟨m,F,out,hm,rfl,rfl,HI,hv,hF,hb,hO,HF⟩:=hrel;by_cases hm0:0<m
  ·obtain ⟨q,rfl⟩:∃q,m=q+1:=⟨m-1,by omega⟩;have bt:((q+1:Nat):Int)-1=(q:Int):=by omega
   rw [bt];have dq:(0:Int)<=(q:Int):=by omega
   clear bt hm0;go_wp2
   go_loopg [5,8] n (fun gg s i w'=>∃(k:Nat) (F:List Nat),k<=n/\gg=n-k/\i=.int .i64 k/\WA w' (out++tE cn b q k) [s] F/\sA w.heap.size F/\Bw w w'/\TB [w.heap.size] w2 w'/\Hid (∀z∈F,z=w.heap.size\/w2.heap.size<=z))
   ·exact ⟨0,F,by omega,rfl,rfl,by simpa [tE] using hv,hF,hb,hO,HF⟩
   ·clear hv hF hb hO HF;obtain ⟨k,F,hk,rfl,rfl,hv,hF,hb,hO,HF⟩:=hrel;by_cases hlt:k<n
    ·obtain ⟨x,hx⟩:=tA (xs:=b) (k:=k) (by have:=L.out;omega);obtain ⟨ba,oa,rfl,_,dd⟩:=KB (xA (hO.keeps aA OX.out ZX.out)) hx;have bj:=pA6 (fun hc=>bA0 (c:=cn) (m:=q) hx hc);have cj:=pA6 (fun hc=>eA3 (c:=cn) (m:=q) hx hc);have bb:=cc.out x wr hb;have i1:(0:Int)<=(k:Int):=by omega
     have i2:(k:Int)<(n:Int):=by omega
     have cm:=pA6 (show cn x=(xD l e x (-1)).length by rw [cd.out];rfl);have bq:=pA6 (show (out++tE cn b q k).length<=1048576 by
      have h1:=HI.out;have h2:=ck.out;rw [<-h1,List.length_append] at h2;have h3:(tE cn b q k).length<=k:=by unfold tE;exact Nat.le_trans (List.length_filter_le _ _) (by rw [List.length_take];omega)
      rw [List.length_append];omega)
     clear hx;go_wp2_with fail;refine bb.mono ?_;rintro e3 w4 ⟨v4,rfl,⟨F4,o4,f4⟩,bd⟩;obtain ⟨A4,n4,c4,rfl,cb,_⟩:=qA (xA o4);have bs:=pA6 (show n4=cn x by rw [cb,cm.out]);have bg:=nA bd aA hv;have bc:=hb.then bd;have hcx4:=bd.cell dd;have db:=bc.size;have cq:=(aA (B:=0)).lt bg;clear bb o4 f4 cb hv;by_cases hq:n4=q
     ·have i3:((n4:Int)==(q:Int))=true:=by simp;omega
      have HS:=pA6 (show out++tE cn b q (k+1)=out++tE cn b q k++[x] by rw [bj.out (by rw [<-bs.out];exact hq),List.append_assoc]);have bf:=(Bw.refl w4).alloc (.cells #[.int .i64 x] 3);have dk:=nA bf aA bg;have cz:=bc.then bf;have dc:=cell_one_new w4 (.int .i64 x) 3;have bv:=pA6 (hO.then ((bd.then bf).only []) (by simp));clear bg bf bd hq hO;go_wp2_with (at_builtin;refine iC _ rfl (.tmp 35) (.tmp 40) 26 rfl w 3 i0 _ 1 8 underlying26 hi dm dn dp rfl (by omega) YA _ (out++tE cn b q k) F rfl dk hF ⟨w4.heap.size,0,none⟩ 1 rfl x [.int .i64 x] [] dc ⟨rfl,rfl⟩ rfl w4.heap.size cq sA.nil db (by have:=bq.out;omega) (by have:=bq.out;omega) cz ?_;intro v' w' F' dj cp cx cs df);have cv:=TB.push bv.out cs HF.out;have cf:=pA6 (show ∀z∈F',z=w.heap.size\/w2.heap.size<=z from fun z hz=>(df z hz).elim (fun h=>HF.out z h) (fun h=>h.elim (fun h=>by simp at h) (fun h=>.inr (Nat.le_trans bv.out.1 h))))
      go_roundg (n-(k+1))
      ·exact ⟨k+1,F',by omega,rfl,by go_num,by rw [HS.out];exact dj,cp,cx,cv,cf⟩
      ·omega
     ·have i3:((n4:Int)==(q:Int))=false:=by simp;omega
      have HS:=pA6 (show tE cn b q (k+1)=tE cn b q k from cj.out (by rw [<-bs.out];exact hq));have ct:=hO.bwNext bd;clear hq;go_wp2
      go_roundg (n-(k+1))
      ·exact ⟨k+1,F,by omega,rfl,by go_num,by rw [HS.out];exact bg,hF,bc,ct,HF⟩
      ·omega
    ·obtain rfl:k=n:=by omega
     rw [bA1 (by rw [<-L.out];exact Nat.le_refl _)] at hv;have cg:=pA6 (show (out++b.filter (fun x=>decide (cn x=q)))++bU cn b q=Y by rw [List.append_assoc];exact HI.out);clear hlt;go_wp2
     go_roundg (q+1)
     ·exact ⟨q,F,_,by omega,rfl,by go_num,cg,hv,hF,hb,hO,HF⟩
     ·omega
  ·obtain rfl:m=0:=by omega
   have HE:=pA6 (show out=Y by have:=HI.out;simpa [bU] using this);have dq:¬(0:Int)<=((0:Nat):Int)-1:=by omega
   clear hm0 HI;go_wp2;go_ret;exact ⟨_,rfl,⟨F,by rw [<-HE.out];exact hv,hF⟩,hb⟩
def qK (k:Nat) (b:List Int):ByteArray:=QA (k:Int)++⟨#[58,32]⟩++fD b
def GH (X:List (List Int)):Nat->List ByteArray
 | 0=>[]
 | k+1=>GH X k++(match X[k]? with | some b=>[qK k b] | none=>[])
def mG (l:List iA) (e:List mA):List ByteArray:=GH (mD l e) (mD l e).length
theorem qU {X:List (List Int)} {k:Nat} {b:List Int} (h:X[k]? = some b):GH X (k+1)=GH X k++[qK k b]:=by rw [GH,h]
theorem GM (X:List (List Int)):∀k,(GH X k).length<=k
 | 0=>Nat.le_refl _
 | k+1=>by
  have:=GM X k;rw [GH,List.length_append]
  cases X[k]?<;>simp<;>omega
theorem pX (l:List iA) (e:List mA):(mG l e).length<=16:=Nat.le_trans (GM _ _) (tI l e)
theorem rU {e:List mA}:∀(n:Nat) (l:List iA) (b:List Int),dB l=true->b∈aG e n l->∀v∈b,0<=v/\v<=99
 | 0,_,_,_,h=>by simp [aG] at h
 | n+1,l,b,hi,h=>by
  simp only [aG] at h
  split at h
  ·simp at h
  ·rcases List.mem_cons.1 h with h1 | h1
   ·subst h1;exact lK hi
   ·exact rU n (TN l e) b (QK hi) h1
theorem WN {l:List iA} {e:List mA} {b:List Int} (h:b∈mD l e):∀v∈b,0<=v/\v<=99:=by
 unfold mD at h;split at h
 ·rename_i h2;exact rU _ l b (AA h2) h
 ·simp at h
theorem SZ {k:Nat} (hk:k<=16) {b:List Int} (hw:∀x∈b,(Lit.int .i64 x).wf=true) (hl:b.length<=16) :
  (∀W,(Op.stringOp .add (QA (k:Int)) ⟨#[58,32]⟩).run prog W=.ok (.string (QA (k:Int)++⟨#[58,32]⟩)) W) /\
  (∀W,(Op.stringOp .add (QA (k:Int)++⟨#[58,32]⟩) (fD b)).run prog W=.ok (.string (QA (k:Int)++⟨#[58,32]⟩++fD b)) W):=by
 have h1:=(mB (bC (n:=(k:Int)) (by omega))).2;have h2:=FJ hw;have e2:(⟨#[58,32]⟩:ByteArray).size=2:=rfl;refine ⟨fun W=>run_string_add_sum W _ _ (by omega),fun W=>run_string_add_sum W _ _ (by rw [lA];omega)⟩
theorem bAj (w:World) (l:List iA) (e:List mA) (v u:Value) (h:Rd LA w l [v]) (h':Rd OA w e [u]) :
  Calls prog 44 #[v,u] w (WB w (nE RJ w.heap.size (mG l e))):=by
 obtain ⟨i0,hi,cx,cz,db⟩:=info_parts wK;have bv:=MA (e:=9) (sz:=1) (R:=RX) w;have A0:Bw w (w.alloc (.cells #[] 9)):=(Bw.refl w).alloc _;obtain ⟨Y,hY⟩:=pA7 (mG l e);rw [<-hY];have HY:=pA6 hY;clear hY;go_enter func44,ntmps44;go_wp2_with fail;refine (gAy _ l e _ _ (h.bw gA A0) (h'.bw jA A0)).mono ?_;rintro e w2 ⟨vX,rfl,⟨FX,oX,fX⟩,bg⟩;have B2:=A0.then bg;have bx:=(iB (B:=w.heap.size)).bw bg A0.size bv;have zX:∀z∈FX,z∉[w.heap.size]:=fun z hz=>by have h1:=fX.ge z hz;simp at h1;simp only [List.mem_singleton];omega
 have HL:=pA6 (tI l e);have bp:=pA6 (fun b (hb:b∈mD l e)=>And.intro (UN hb) (WN hb));obtain ⟨X,hX⟩:=pA7 (mD l e);have HE:=pA6 (show Y=GH X X.length by rw [HY.out,hX];rfl);rw [<-hX] at oX HL bp;have hl:=GO oX;obtain ⟨A,n,c,rfl,L,Lc,Lm⟩:=yA hl;have n16:n<=16:=by rw [L.out];exact HL.out
 have OX:=pA6 oX;have ZX:=pA6 zX;have ZS:=pA6 (show w.heap.size<w2.heap.size by have:=bg.size;simp at this;omega);clear hX oX zX hl bv HY fX;go_wp2
 go_loopg [5,13] n (fun g s i w'=>∃(k:Nat) (F:List Nat),k<=n/\g=n-k/\i=.int .i64 k/\RJ w' (GH X k) [s] F/\sA w.heap.size F/\Bw w w'/\TB [w.heap.size] w2 w'/\Hid (∀z∈F,z=w.heap.size\/w2.heap.size<=z))
 ·exact ⟨0,_,by omega,rfl,rfl,bx,⟨by simp,by simp⟩,B2,TB.refl _ _,pA6 (fun z hz=>.inl (by simpa using hz))⟩
 ·clear bx B2 bg A0;obtain ⟨k,F,hk,rfl,rfl,hv,hF,hb,hO,HF⟩:=hrel;by_cases hlt:k<n
  ·obtain ⟨b,bj⟩:=tA (xs:=X) (k:=k) (by have:=L.out;omega);obtain ⟨ba,oa,Ab,cb,rfl,_,hc0,bt⟩:=rS (GO (hO.keeps YC OX.out ZX.out)) bj;have i1:(0:Int)<=(k:Int):=by omega
   have i2:(k:Int)<(n:Int):=by omega
   obtain ⟨m1,m2⟩:=bp.out b (List.mem_of_getElem? bj);have hw:∀x∈b,(Lit.int .i64 x).wf=true:=fun x hx=>bC (by have:=m2 x hx;omega)
   obtain ⟨a1,a2⟩:=SZ (k:=k) (by omega) hw m1;have HS:=pA6 (qU bj);have bf:=pA6 (GM X k);have bc:=dD wr (k:Int) (bC (by omega));have bb:=fun W (B:Bw wr W)=>bN W b _ (Rd.bw dA bt B) hw (by omega)
   obtain ⟨P,hP⟩:=pA7 (QA (k:Int));obtain ⟨Q,hQ⟩:=pA7 (fD b);have cc:=pA6 (show qK k b=P++⟨#[58,32]⟩++Q by rw [hP,hQ];rfl);rw [<-hP] at bc a1 a2;rw [<-hQ] at a2 bb;have bn:=pA6 bb;clear bj bt m1 m2 hw hP hQ bb;go_wp2_with fail;refine (bc).mono ?_;rintro e w3 ⟨rfl,bs⟩;go_wp2_with fail;refine (bn.out _ bs).mono ?_;rintro e' w4 ⟨rfl,cm⟩;have bd:=bs.then cm;have bk:=hb.then bd;have bm:=(iB (B:=w.heap.size)).bw bd hb.size hv;have hA:=(Bw.refl w4).alloc (.cells #[.string (P++⟨#[58,32]⟩++Q)] 9);have cv:=(iB (B:=w.heap.size)).bw hA bk.size bm;have cf:=(iB (B:=0)).lt bm;have cn:=bk.then hA;have cq:=cell_one_new w4 (.string (P++⟨#[58,32]⟩++Q)) 9;have bq:=pA6 (hO.then ((bd.then hA).only []) (by simp));have cp:=bk.size;clear hv bm bc bn hO;go_wp2_with (at_builtin;refine iC _ rfl (.tmp 18) (.tmp 25) 58 rfl w 9 i0 _ 1 16 underlying58 hi cx cz db rfl (by omega) JE _ (GH X k) F rfl cv hF ⟨w4.heap.size,0,none⟩ 1 rfl (P++⟨#[58,32]⟩++Q) [.string (P++⟨#[58,32]⟩++Q)] [] cq ⟨rfl,rfl⟩ rfl w4.heap.size cf sA.nil cp (by have:=bf.out;omega) (by have:=bf.out;omega) cn ?_;intro v' w' F' ct cd ck cg cs);have cj:=TB.push bq.out cg HF.out;have bz:=pA6 (show ∀z∈F',z=w.heap.size\/w2.heap.size<=z from fun z hz=>(cs z hz).elim (fun h=>HF.out z h) (fun h=>h.elim (fun h=>by simp at h) (fun h=>.inr (Nat.le_trans bq.out.1 h))))
   go_roundg (n-(k+1))
   ·exact ⟨k+1,F',by omega,rfl,by go_num,by rw [HS.out,cc.out];exact ct,cd,ck,cj,bz⟩
   ·omega
  ·obtain rfl:k=n:=by omega
   rw [L.out,<-HE.out] at hv;go_wp2;go_ret;exact ⟨_,rfl,⟨F,hv,hF⟩,hb⟩
theorem bAk (w:World) (l:List iA) (e:List mA) (v u:Value) (h:Rd LA w l [v]) (h':Rd OA w e [u]) :
  Calls prog 45 #[v,u] w (WB w (nE RJ w.heap.size (mG l e))):=by
 obtain ⟨i0,hi,dj,dk,dm⟩:=info_parts wK;have cc:=MA (e:=9) (sz:=1) (R:=RX) w;have A0:Bw w (w.alloc (.cells #[] 9)):=(Bw.refl w).alloc _;obtain ⟨Y,hY⟩:=pA7 (mG l e);rw [<-hY];have HY:=pA6 hY;clear hY;go_enter func45,ntmps45;go_wp2_with fail;refine (gAz _ l e _ _ (h.bw gA A0) (h'.bw jA A0)).mono ?_;rintro e w2 ⟨vX,rfl,⟨FX,oX,fX⟩,bj⟩;have B2:=A0.then bj;have cd:=(iB (B:=w.heap.size)).bw bj A0.size cc;have zX:∀z∈FX,z∉[w.heap.size]:=fun z hz=>by have h1:=fX.ge z hz;simp at h1;simp only [List.mem_singleton];omega
 have HL:=pA6 (tI l e);have bs:=pA6 (fun b (hb:b∈mD l e)=>And.intro (UN hb) (WN hb));obtain ⟨X,hX⟩:=pA7 (mD l e);have HE:=pA6 (show Y=GH X X.length by rw [HY.out,hX];rfl);rw [<-hX] at oX HL bs;have hl:=GO oX;obtain ⟨A,n,c,rfl,L,Lc,Lm⟩:=yA hl;have n16:n<=16:=by rw [L.out];exact HL.out
 have OX:=pA6 oX;have ZX:=pA6 zX;have ZS:=pA6 (show w.heap.size<w2.heap.size by have:=bj.size;simp at this;omega);clear hX oX zX hl cc HY fX;go_wp2
 go_loopg [5,7] n (fun g s i w'=>∃(k:Nat) (F:List Nat),k<=n/\g=n-k/\i=.int .i64 k/\RJ w' (GH X k) [s] F/\sA w.heap.size F/\Bw w w'/\TB [w.heap.size] w2 w'/\Hid (∀z∈F,z=w.heap.size\/w2.heap.size<=z))
 ·exact ⟨0,_,by omega,rfl,rfl,cd,⟨by simp,by simp⟩,B2,TB.refl _ _,pA6 (fun z hz=>.inl (by simpa using hz))⟩
 ·clear cd B2 bj A0;obtain ⟨k,F,hk,rfl,rfl,hv,hF,hb,hO,HF⟩:=hrel;by_cases hlt:k<n
  ·obtain ⟨b,bf⟩:=tA (xs:=X) (k:=k) (by have:=L.out;omega);have bm:=hO.keeps YC OX.out ZX.out;have ct:=(YC (B:=0)).lt bm;obtain ⟨ba,oa,Ab,cb,rfl,_,bx,bz⟩:=rS (GO bm) bf;have bp:ba∉F:=fun hf=>by
    obtain ⟨b2,o2,A2,c2,eA,hS,_⟩:=rS (OZ (B:=0) OX.out) bf;injection eA with eA;injection eA with e1 e2;subst e1;rcases hS with hS | hS
    ·rcases HF.out _ hf with h | h
     ·exact ZX.out _ hS (by simp [h])
     ·have:=(YC (B:=0)).lt OX.out _ hS;omega
    ·omega
   have i1:(0:Int)<=(k:Int):=by omega
   have i2:(k:Int)<(n:Int):=by omega
   obtain ⟨m1,m2⟩:=bs.out b (List.mem_of_getElem? bf);have hw:∀x∈b,(Lit.int .i64 x).wf=true:=fun x hx=>bC (by have:=m2 x hx;omega)
   obtain ⟨a1,a2⟩:=SZ (k:=k) (by omega) hw m1;have HS:=pA6 (qU bf);have bd:=pA6 (GM X k);have cg:=bC (n:=(k:Int)) (by omega);have bc:=fun W=>yC W (k:Int) cg
   have bb:=fun W (B:Bw wr.drew W)=>cN W b (.slice Ab b.length cb) (Rd.bw dA bz ((Bw.refl wr).drew.then B)) hw (by omega)
   obtain ⟨P,hP⟩:=pA7 (QA (k:Int));obtain ⟨Q,hQ⟩:=pA7 (fD b);obtain ⟨M,hM⟩:=pA7 b.length;have cm:=pA6 (show qK k b=P++⟨#[58,32]⟩++Q by rw [hP,hQ];rfl);simp only [<-hP] at bc;rw [<-hP] at a1 a2;rw [<-hQ] at a2;simp only [<-hQ,<-hM] at bb;rw [<-hM] at bx;have HC:=pA6 bc;have cj:=pA6 bb;have hB:=Bw.refl wr.drew;have bk:wr.drew.cell? ⟨ba,oa+k,none⟩=some (.slice Ab M cb):=bx;have D1:Bw wr wr.drew:=(Bw.refl wr).drew;have cf:=(iB (B:=w.heap.size)).bw D1 hb.size hv;have bq:=hb.then D1;have cq:=pA6 (hO.then (D1.only []) (by simp));clear bf bz m1 m2 hw hP hQ hM bc bb hv bm ct hO cg;go_wp2_with fail
   go_region_held3 (fun w'=>w'.cell? ⟨ba,oa+k,none⟩=some (.slice Ab M cb)) (first | exact bk | exact hB.cell bk | exact (hB.then ((Bw.refl _).alloc _)).cell bk | exact db)
    (first
     | (go_at_call 64;refine (HC.out _).mono ?_;rintro e' w5 ⟨rfl,bn⟩;replace hB:=hB.then bn)
     | (go_at_call 52;refine (cj.out _ hB).mono ?_;rintro e' w5 ⟨rfl,bn⟩;replace hB:=hB.then bn)
     | (have hA:=(Bw.refl w5).alloc (.cells #[.string (P++⟨#[58,32]⟩++Q)] 9);have bg:=hB.then hA;have df:=(iB (B:=w.heap.size)).bw bg bq.size cf;have cp:=(iB (B:=0)).lt cf;have cx:=bq.then bg;have cz:=cell_one_new w5 (.string (P++⟨#[58,32]⟩++Q)) 9;have bv:=pA6 (cq.out.then (bg.only []) (by simp));refine RE _ (by rfl) (.tmp 18) (.tmp 28) 58 (by rfl) w 9 i0 _ 1 16 underlying58 hi dj dk dm rfl (by omega) JE _ (GH X k) F (by rfl) df hF ⟨w5.heap.size,0,none⟩ 1 (by rfl) (P++⟨#[58,32]⟩++Q) [.string (P++⟨#[58,32]⟩++Q)] [] cz ⟨rfl,rfl⟩ rfl wr.drew.heap.size cp sA.nil bq.size (by have:=bd.out;omega) (by have:=bd.out;omega) cx ?_;intro v' w' F' dd cn cv bt dc;have db:=bt.cell (bg.cell bk) bp)
     | fail)
   all_goals
    have cs:=TB.push bv.out bt HF.out;have ck:=pA6 (show ∀z∈F',z=w.heap.size\/w2.heap.size<=z from fun z hz=>(dc z hz).elim (fun h=>HF.out z h) (fun h=>h.elim (fun h=>by simp at h) (fun h=>.inr (Nat.le_trans bv.out.1 h))));go_wp2
    go_roundg (n-(k+1))
    ·exact ⟨k+1,F',by omega,rfl,by go_num,by rw [HS.out,cm.out];exact dd,cn,cv,cs,ck⟩
    ·omega
  ·obtain rfl:k=n:=by omega
   rw [L.out,<-HE.out] at hv;go_wp2;go_ret;exact ⟨_,rfl,⟨F,hv,hF⟩,hb⟩
theorem RH (e:List mA):(fC e).size<=4000:=by
 unfold fC
 split
 ·rename_i h
  have h1:=bM ⟨#[59,32]⟩ (KC e) 0 ⟨#[]⟩;have h2:=rN e;have h3:=(sN h).1;have e0:(⟨#[]⟩:ByteArray).size=0:=rfl;unfold dF;omega
 ·show 0<=4000;omega
theorem GX (x:Int):0<=bits .and .i64 x 255/\bits .and .i64 x 255<=255:=by
 have h:((BitVec.ofInt 64 x &&& BitVec.ofInt 64 255).toNat)<=255:=by
  rw [BitVec.toNat_and];exact Nat.le_trans Nat.and_le_right (by decide)
 have e:bits .and .i64 x 255=IntKind.i64.wrap ((BitVec.ofInt 64 x &&& BitVec.ofInt 64 255).toNat:Int):=rfl;rw [e];obtain ⟨m,hm⟩:=pA7 ((BitVec.ofInt 64 x &&& BitVec.ofInt 64 255).toNat);rw [<-hm] at h ⊢;simp [IntKind.wrap,IntKind.bits,IntKind.signed];omega
def Cur (W:World) (p:Nat):Prop:=∃(xs:List Int) (A:Option Addr) (n c i:Nat) (h:Int),W.cell? ⟨p,0,none⟩=some (.slice A n c)/\W.cell? ⟨p,1,none⟩=some (.int .i64 (i:Int))/\W.cell? ⟨p,2,none⟩=some (.int .i64 h) /\
 (∀o,W.frozen? ⟨p,o,none⟩=false)/\i<=n/\rSl 1 rU8 W (fun b=>b<p) xs [.slice A n c]/\∀x∈xs,0<=x/\x<=255
structure At (w0:World) (p:Nat) (w:World):Prop where
 bw:Bw w0 w
 ge:w0.heap.size<=p
 cur:Cur w p
theorem At.lt {w0 w:World} {p:Nat} (h:At w0 p w):p<w.heap.size:=by
 obtain ⟨_,_,_,_,_,_,h0,_⟩:=h.cur;exact World.block_lt_of_cell? _ _ h0
def WM (w0:World) (p:Nat) (w:World) (R:World->Value->Prop) (e:Ending) (w':World):Prop:=∃v,e=.returned v/\R w' v/\TB [p] w w'/\At w0 p w'
def mAp (a b:Int) (_:World) (v:Value):Prop:=∃n,v=.int .i64 n/\a<=n/\n<b
theorem Cur.same {w w':World} {p:Nat} (h:Cur w p) (hb:∀b,b<=p->w'.heap[b]? = w.heap[b]?):Cur w' p:=by
 obtain ⟨xs,A,n,c,i,k,h0,h1,h2,hf,hi,hr,hx⟩:=h;exact ⟨xs,A,n,c,i,k,(World.cell?_of_block (hb _ (Nat.le_refl _))).trans h0,(World.cell?_of_block (hb _ (Nat.le_refl _))).trans h1,(World.cell?_of_block (hb _ (Nat.le_refl _))).trans h2,
  fun o=>(World.frozen?_of_block (hb _ (Nat.le_refl _))).trans (hf o),hi,(TG aN).step ⟨fun _ h=>h,fun q hq=>World.cell?_of_block (hb _ (Nat.le_of_lt hq))⟩ hr,hx⟩
theorem At.bwStep {w0 w w':World} {p:Nat} (h:At w0 p w) (hb:Bw w w'):At w0 p w':=⟨h.bw.then hb,h.ge,h.cur.same fun b hb2=>Below.block hb b (Nat.lt_of_le_of_lt hb2 h.lt)⟩
theorem At.onlyStep {w0 w w':World} {p:Nat} {F:List Nat} (h:At w0 p w) (hO:TB F w w') (hF:∀b∈F,p<b) (hb:Bw w0 w'):At w0 p w':=
 ⟨hb,h.ge,h.cur.same fun b hb2=>hO.2 b (Nat.lt_of_le_of_lt hb2 h.lt) fun e=>by have:=hF b e;omega⟩
theorem XL (w0 w:World) (p:Nat) (hA:At w0 p w):Calls prog 156 #[.pointer (some ⟨p,0,none⟩)] w (WM w0 p w (mAp 0 256)):=by
 obtain ⟨xs,A,n,c,i,k,h0,h1,h2,hf,hi,hr,hx⟩:=hA.cur;have bm:=hA.bw;have hlt:=hA.lt;obtain ⟨L,l1,l2⟩:=ZL hr;have HL:=pA6 L;clear L;unfold maxLen at l2;have HX:=pA6 hx;have HR:=pA6 hr;have bf:=hA.ge;clear hx hr bm;go_enter func156,ntmps156;go_wp2_with fail;obtain ⟨X,hX⟩:=pA7 (wrap64 (wrap64 (k*6364136223846793005)+1442695040888963407));rw [<-hX];clear hX;have c0:(w.setCell ⟨p,2,none⟩ (.int .i64 X)).cell? ⟨p,0,none⟩=some (.slice A n c):=by go_simp
 have c1:(w.setCell ⟨p,2,none⟩ (.int .i64 X)).cell? ⟨p,1,none⟩=some (.int .i64 (i:Int)):=by go_simp
 have c2:(w.setCell ⟨p,2,none⟩ (.int .i64 X)).cell? ⟨p,2,none⟩=some (.int .i64 X):=by go_simp
 have f1:∀o,(w.setCell ⟨p,2,none⟩ (.int .i64 X)).frozen? ⟨p,o,none⟩=false:=fun o=>by go_simp
 have z1:(w.setCell ⟨p,2,none⟩ (.int .i64 X)).heap.size=w.heap.size:=by go_simp
 have O1:TB [p] w (w.setCell ⟨p,2,none⟩ (.int .i64 X)):=GA _ _ _ _;have B1:Bw w0 (w.setCell ⟨p,2,none⟩ (.int .i64 X)):=hA.bw.set bf _;obtain ⟨W1,bg⟩:=pA7 (w.setCell ⟨p,2,none⟩ (.int .i64 X));rw [<-bg] at c0 c1 c2 f1 O1 B1 z1 ⊢;clear bg;have s0:=pA c0;have s1:=pA c1;have s2:=pA c2;refine IA (by kernel_rfl) ?_
 repeat (first | go_big_quiet_skip | (go_big_quiet_want;go_big_quiet_op;go_big_quiet_on))
 refine JA fun wq hbq=>?_
 try dsimp only at *
 have d0:=hbq.cell c0;have d1:=hbq.cell c1;have d2:=hbq.cell c2;clear s0 s1 s2;have s0:=pA d0;have s1:=pA d1;have Bq:=hbq;clear hbq;by_cases bm:i<n
 ·obtain ⟨x,hx⟩:=tA (xs:=xs) (k:=i) (by have:=HL.out;omega);obtain ⟨bx,ox,rfl,bj,bc⟩:=TJ HR.out hx;have hxb:=HX.out x (List.mem_of_getElem? hx);have i1:(0:Int)<=(i:Int):=by omega
  have i2:(i:Int)<(n:Int):=by omega
  have hbx':bx<p:=bj;replace bc:=Bq.cell (O1.cell bc (by simp;omega));clear hx bj;go_wp2_with fail;refine IA (by kernel_rfl) ?_
  repeat (first | go_big_quiet_skip | (go_big_quiet_want;go_big_quiet_op;go_big_quiet_on))
  refine JA fun wq hbq=>?_
  try dsimp only at *
  have e0:=hbq.cell d0;have e1:=hbq.cell d1;have e2:=hbq.cell d2;have hB:=Bq.then hbq;replace bc:=hbq.cell bc;clear s0 s1;have s0:=pA e0;have s1:=pA e1;have s3:=pA bc;clear hbq;go_wp2_with fail;refine IA (by kernel_rfl) ?_
  repeat (first | go_big_quiet_skip | (go_big_quiet_want;go_big_quiet_op;go_big_quiet_on))
  refine JA fun wq hbq=>?_
  try dsimp only at *
  have b1:=hbq.cell e1;have b0:=hbq.cell e0;have b2:=hbq.cell e2;have bb:=hB.then hbq;clear s0 s1 s3 bc hbq;have bk:∀o,wq.frozen? ⟨p,o,none⟩=false:=fun o=>(oC bb p o (by omega)).trans (f1 o)
  go_wp2;go_ret;have bd:=GX;refine ⟨_,rfl,⟨_,rfl,(bd _).1,by have:=(bd (wrap64 (bits BinOp.and IntKind.i64 (bits BinOp.xor IntKind.i64 (X / 8589934592) (X / 35184372088832)) 255+x))).2;omega⟩,?_,?_⟩
  ·exact (O1.bwNext bb).then (GA _ _ _ _) (fun _ h=>h)
  ·refine ⟨(B1.then bb).set bf _,bf,xs,some ⟨bx,ox,none⟩,n,c,i+1,X,?_,?_,?_,?_,by omega,?_,HX.out⟩
   ·go_simp
   ·go_simp
   ·go_simp
   ·intro o;go_simp
   ·exact (TG aN).step ⟨fun _ h=>h,fun q hq=>by
     have bn:q.block<p:=hq;rw [World.cell?_of_block (Below.heap_setCell _ _ _ _ (by simp;omega))];exact World.cell?_of_block (((O1.bwNext bb)).2 _ (by omega) (by simp;omega))⟩ HR.out
 ·go_wp2_with fail;refine IA (by kernel_rfl) ?_
  repeat (first | go_big_quiet_skip | (go_big_quiet_want;go_big_quiet_op;go_big_quiet_on))
  refine JA fun wq hbq=>?_
  try dsimp only at *
  have e0:=hbq.cell d0;have e1:=hbq.cell d1;have e2:=hbq.cell d2;have bb:=Bq.then hbq;clear s0 s1 hbq;go_wp2;go_ret;have bk:∀o,wq.frozen? ⟨p,o,none⟩=false:=fun o=>(oC bb p o (by omega)).trans (f1 o)
  refine ⟨_,rfl,⟨_,rfl,(GX _).1,by have:=(GX (bits BinOp.xor IntKind.i64 (X / 8589934592) (X / 35184372088832))).2;omega⟩,O1.bwNext bb,?_⟩;refine ⟨B1.then bb,bf,xs,A,n,c,i,X,e0,e1,e2,bk,hi,?_,HX.out⟩;exact (TG aN).step ⟨fun _ h=>h,fun q hq=>by
   have bn:q.block<p:=hq;exact World.cell?_of_block ((O1.bwNext bb).2 _ (by omega) (by simp;omega))⟩ HR.out
theorem WM.int {w0 w w':World} {p:Nat} {a b n:Int} (h1:a<=n) (h2:n<b) (hO:TB [p] w w') (hA:At w0 p w'):WM w0 p w (mAp a b) (.returned (.int .i64 n)) w':=⟨_,rfl,⟨n,rfl,h1,h2⟩,hO,hA⟩
theorem pAm (w0 w:World) (p:Nat) (hA:At w0 p w) (N:Int) (h1:0<N) (h2:N<=1073741824):Calls prog 74 #[.pointer (some ⟨p,0,none⟩),.int .i64 N] w (WM w0 p w (mAp 0 N)):=by
 by_cases h256:N<=256
 ·have bb:=XL w0 w p hA;go_enter func74,ntmps74;go_wp2_with fail;refine bb.mono ?_;rintro e w1 ⟨v,rfl,⟨x,rfl,x1,x2⟩,hO,bc⟩;have r1:=Int.emod_nonneg x (show N≠0 by omega);have r2:=Int.emod_lt_of_pos x h1;have hr:Int.tmod x N=x % N:=Int.tmod_eq_emod_of_nonneg x1;go_wp2;go_ret
  first
   | exact WM.int r1 r2 hO bc
   | (rw [hr];exact WM.int r1 r2 hO bc)
 ·have bb:=XL w0 w p hA;go_enter func74,ntmps74;go_wp2_with fail;refine bb.mono ?_;rintro e w1 ⟨v,rfl,⟨x1,rfl,x11,x12⟩,bj,bc⟩;have bb:=XL w0 w1 p bc;go_wp2_with fail;refine bb.mono ?_;rintro e w2 ⟨v,rfl,⟨x2,rfl,x21,x22⟩,bk,bd⟩;have bb:=XL w0 w2 p bd;go_wp2_with fail;refine bb.mono ?_;rintro e w3 ⟨v,rfl,⟨x3,rfl,x31,x32⟩,bm,bf⟩;have bb:=XL w0 w3 p bf;go_wp2_with fail;refine bb.mono ?_;rintro e w4 ⟨v,rfl,⟨x4,rfl,x41,x42⟩,bn,bg⟩;have hO:=((bj.two bk).two bm).two bn;clear bb bj bk bm bn bc bd bf hA;have r1:=Int.emod_nonneg (x1*16777216+x2*65536+x3*256+x4) (show N≠0 by omega);have r2:=Int.emod_lt_of_pos (x1*16777216+x2*65536+x3*256+x4) h1;have hr:Int.tmod (x1*16777216+x2*65536+x3*256+x4) N=(x1*16777216+x2*65536+x3*256+x4) % N:=Int.tmod_eq_emod_of_nonneg (by omega);go_wp2;go_ret
  first
   | exact WM.int r1 r2 hO bg
   | (rw [hr];exact WM.int r1 r2 hO bg)
theorem ZN (w0 w:World) (p:Nat) (hA:At w0 p w) (N:Int) (h1:0<N) (h2:N<=1073741824):Calls prog 71 #[.pointer (some ⟨p,0,none⟩),.int .i64 N] w (WM w0 p w (fun _ v=>∃b,v=.bool b)):=by
 have hcall:=pAm w0 w p hA N h1 h2;go_enter func71,ntmps71;go_wp2_with fail;refine hcall.mono ?_;rintro e w1 ⟨v,rfl,⟨x,rfl,x1,x2⟩,hO,hA1⟩;go_wp2;go_ret;exact ⟨_,rfl,⟨_,rfl⟩,hO,hA1⟩
end Go.Proofs.YtpihighajaeabaaGreat
