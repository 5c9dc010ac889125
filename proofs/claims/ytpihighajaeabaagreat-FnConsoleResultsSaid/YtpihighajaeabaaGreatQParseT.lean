/- Texts that are read as items, pairs, wishes and expressions: what is computed, in plain Lean. -/
import Derived.Test.YtpihighajaeabaaGreatQFmtE
namespace Go.Proofs.YtpihighajaeabaaGreat
open Go.RowKit
set_option linter.unusedVariables false
def bl (s:ByteArray):List UInt8:=s.data.toList
def mkS (l:List UInt8):ByteArray:=⟨l.toArray⟩
theorem tV (l:List UInt8):bl (mkS l)=l:=by simp [bl,mkS]
theorem BJ (s:ByteArray):mkS (bl s)=s:=by cases s;simp [bl,mkS]
theorem yH {a b:ByteArray} (h:bl a=bl b):a=b:=by rw [← BJ a,h,BJ]
theorem VC (s:ByteArray):(bl s).length=s.size:=by unfold bl;rw [Array.length_toList];rfl
theorem cB (a b:ByteArray):bl (a++b)=bl a++bl b:=by simp [bl,ByteArray.data_append]
theorem BF (s:ByteArray) (a b:Nat):bl (s.extract a b)=((bl s).take b).drop a:=by
 unfold bl;rw [ByteArray.data_extract,Array.toList_extract,List.extract_eq_take_drop,List.drop_take]
theorem dP (s:ByteArray):s.toList=bl s:=ByteArray.toList_eq s
theorem OZ (s:ByteArray) (k:Nat) (h:k<s.size):(bl s)[k]? = some s[k]:=by
 unfold bl;rw [Array.getElem?_toList];exact Array.getElem?_eq_getElem h
theorem gAz (s:ByteArray) {k:Nat} (h:k<s.size):(bl s).drop k=s[k]::(bl s).drop (k+1):=NB (OZ s k h)
theorem hAa (s:ByteArray) {k:Nat} (h:k<s.size):(bl s).take (k+1)=(bl s).take k++[s[k]]:=by rw [List.take_add_one,OZ s k h];rfl
theorem YN (l:List UInt8):(mkS l).size=l.length:=by rw [← VC,tV]
theorem wR {s:ByteArray}:bl s=[]↔s.size=0:=by rw [← VC];exact List.length_eq_zero_iff.symm
def u8 (n:Int):UInt8:=UInt8.ofNat n.toNat
theorem rX (l:List Int):bl (strOfNums l)=l.map u8:=rfl
def yD (c:UInt8):Bool:=decide (48≤c.toNat∧c.toNat≤57)
def dvi (n:Int) (l:List UInt8):Int:=l.foldl (fun n c=>n*10+((c.toNat:Int)-48)) n
theorem sX (n:Int) (l:List UInt8) (c:UInt8):dvi n (l++[c])=dvi n l*10+((c.toNat:Int)-48):=by unfold dvi;rw [List.foldl_append];rfl
theorem tX {d:Int} (h:0≤d∧d≤255):((u8 d).toNat:Int)=d:=by
 unfold u8;rw [UInt8.toNat_ofNat'];have:d.toNat % 2 ^ 8=d.toNat:=Nat.mod_eq_of_lt (by omega);rw [this];omega
theorem iAl {d:Int} (h:48≤d∧d≤57):yD (u8 d)=true:=by
 have:=tX (d:=d) (by omega);unfold yD;rw [decide_eq_true_eq];omega
theorem wX:∀(f m:Nat) (acc:List Int),(∀d∈acc,48≤d∧d≤57)→∀d∈bF f m acc,48≤d∧d≤57
 | 0,_,acc,h=>h
 | f+1,m,acc,h=>by
  rw [bF];by_cases hm:m=0
  ·rw [if_pos hm];exact h
  ·rw [if_neg hm];refine wX f (m / 10) _ (fun d hd=>?_);rcases List.mem_cons.1 hd with rfl | hd
   ·omega
   ·exact h d hd
theorem xX:∀(f m:Nat) (acc:List Int),m≤f→dvi 0 ((bF f m acc).map u8)=dvi m (acc.map u8)
 | 0,m,acc,h=>by
  obtain rfl:m=0:=by omega
  rfl
 | f+1,m,acc,h=>by
  rw [bF];by_cases hm:m=0
  ·rw [if_pos hm,hm];rfl
  ·rw [if_neg hm,xX f (m / 10) _ (by omega)];have h1:=tX (d:=48+(m:Int) % 10) (by omega);show dvi (((m / 10:Nat):Int)*10+(((u8 (48+(m:Int) % 10)).toNat:Int)-48)) (acc.map u8)=dvi m (acc.map u8)
   rw [h1]
   congr 1
   omega
theorem bAm:∀(f m:Nat) (acc:List Int),acc.length≤(bF f m acc).length
 | 0,_,acc=>Nat.le_refl _
 | f+1,m,acc=>by
  rw [bF]
  split
  ·exact Nat.le_refl _
  ·have:=bAm f (m / 10) ((48+(m:Int) % 10)::acc);simp only [List.length_cons] at this;omega
theorem fP (n:Int):∃ds:List UInt8,ds≠[]∧(∀c∈ds,yD c=true)∧dvi 0 ds=(n.natAbs:Int)∧bl (EA n)=if n<0 then 45::ds else ds:=by
 have hall:∀l:List Int,(∀d∈l,48≤d∧d≤57)→∀c∈l.map u8,yD c=true:=fun l h c hc=>by
  obtain ⟨d,hd,rfl⟩:=List.mem_map.1 hc;exact iAl (h d hd)
 have hne:∀m:Nat,0<m→(bF m m []).map u8≠[]:=fun m hm h=>by
  have h1:=bAm (m-1) (m / 10) [48+(m:Int) % 10];rw [← CG m m [] hm (Nat.le_refl _)] at h1;have h2:=congrArg List.length h;simp at h1 h2;rw [h2] at h1;simp at h1
 unfold EA PW;rw [rX];by_cases h0:n=0
 ·subst h0;exact ⟨[48],by simp,by simp [yD],by decide,by simp [u8]⟩
 ·rw [if_neg h0];refine ⟨(bF n.natAbs n.natAbs []).map u8,hne _ (by omega),hall _ (wX _ _ [] (by simp)),by rw [xX _ _ _ (Nat.le_refl _)];rfl,?_⟩;by_cases h:n<0
  ·rw [if_pos h,if_pos h];rfl
  ·rw [if_neg h,if_neg h]
def dg (s:ByteArray):List UInt8:=((bl s).take 11).filter yD
def cAq (s:ByteArray):Int:=if (bl s).head? = some 45 then -(dvi 0 (dg s)) else dvi 0 (dg s)
def okI (s:ByteArray):Bool:=decide ((dg s).length≤9) && (decide (s.size≤10) && decide (EA (cAq s)=s))
def pI (s:ByteArray):Int×Bool:=if okI s then (cAq s,true) else (0,false)
theorem nJ {ds:List UInt8} (h:∀c∈ds,yD c=true):ds.filter yD=ds:=List.filter_eq_self.2 h
def CJ (s:ByteArray) (ds:List UInt8):Prop:=ds≠[]∧ds.length≤9∧(∀c∈ds,yD c=true)∧(bl s=45::ds∨bl s=ds)
theorem yX {c:UInt8} (h:yD c=true):c≠45:=fun e=>by subst e;simp [yD] at h
theorem CJ.head {s:ByteArray} {ds:List UInt8} (h:CJ s ds):(bl s).head? = some 45↔bl s=45::ds:=by
 obtain ⟨h1,_,h3,h4⟩:=h;constructor
 ·intro he;rcases h4 with h4 | h4
  ·exact h4
  ·rw [h4] at he
   cases ds with
   | nil=>simp at he
   | cons c l=>
    simp at he;exact absurd he (yX (h3 c (by simp)))
 ·intro he;rw [he];rfl
theorem CJ.dg {s:ByteArray} {ds:List UInt8} (h:CJ s ds):dg s=ds:=by
 obtain ⟨h1,h2,h3,h4⟩:=h;unfold Proofs.YtpihighajaeabaaGreat.dg;rcases h4 with h4 | h4
 ·rw [h4,List.take_of_length_le (by simp;omega),List.filter_cons];have:yD 45=false:=by decide
  rw [this,if_neg (by simp),nJ h3]
 ·rw [h4,List.take_of_length_le (by omega),nJ h3]
theorem PZ {s:ByteArray} (h:okI s=true):∃ds,CJ s ds:=by
 unfold okI at h;simp only [Bool.and_eq_true,decide_eq_true_iff] at h;obtain ⟨h1,h2,h3⟩:=h;obtain ⟨ds,d1,d2,_,d4⟩:=fP (cAq s);rw [h3] at d4;have hl:(bl s).length≤10:=by rw [VC];exact h2
 have hdg:Proofs.YtpihighajaeabaaGreat.dg s=ds:=by
  unfold Proofs.YtpihighajaeabaaGreat.dg;rw [List.take_of_length_le (by omega),d4]
  split
  ·rw [List.filter_cons];have:yD 45=false:=by decide
   rw [this,if_neg (by simp),nJ d2]
  ·exact nJ d2
 rw [hdg] at h1;refine ⟨ds,d1,h1,d2,?_⟩;by_cases hn:cAq s<0
 ·rw [if_pos hn] at d4;exact .inl d4
 ·rw [if_neg hn] at d4;exact .inr d4
theorem iAu {s:ByteArray} (h:∀ds,¬CJ s ds):pI s=(0,false):=by
 unfold pI
 cases hk:okI s with
 | false=>rfl
 | true=>obtain ⟨ds,hd⟩:=PZ hk;exact absurd hd (h ds)
theorem gP {s:ByteArray} {ds:List UInt8} (h:CJ s ds):pI s=if EA (if bl s=45::ds then -(dvi 0 ds) else dvi 0 ds)=s then (if bl s=45::ds then -(dvi 0 ds) else dvi 0 ds,true) else (0,false):=by
 have hd:=h.dg;have hr:cAq s=if bl s=45::ds then -(dvi 0 ds) else dvi 0 ds:=by
  unfold cAq;rw [hd];by_cases hh:bl s=45::ds
  ·rw [if_pos (h.head.2 hh),if_pos hh]
  ·rw [if_neg (fun e=>hh (h.head.1 e)),if_neg hh]
 have hsz:s.size≤10:=by
  rw [← VC];rcases h.2.2.2 with e | e<;>rw [e]<;>have:=h.2.1
  ·simp;omega
  ·omega
 unfold pI okI;rw [hd,decide_eq_true h.2.1,decide_eq_true hsz,hr,Bool.true_and,Bool.true_and];by_cases hf:EA (if bl s=45::ds then -(dvi 0 ds) else dvi 0 ds)=s
 ·rw [decide_eq_true hf,if_pos rfl,if_pos hf]
 ·rw [decide_eq_false hf,if_neg (by simp),if_neg hf]
theorem hAb {n:Int} (h:0≤n∧n≤99):(bl (EA n)).length≤2:=by
 obtain ⟨m,rfl⟩:∃m:Nat,n=(m:Int):=⟨n.toNat,by omega⟩;unfold EA PW;rw [rX,List.length_map,Int.natAbs_natCast];by_cases h0:(m:Int)=0
 ·rw [if_pos h0];simp
 ·rw [if_neg h0,if_neg (by omega),CG _ _ _ (by omega) (Nat.le_refl _)];by_cases h1:m / 10=0
  ·rw [h1,qI];simp
  ·rw [CG _ _ _ (by omega) (by omega)];have h2:m / 10 / 10=0:=by omega
   rw [h2,qI];simp
theorem xR {n:Int} (h:0≤n∧n≤99):∃ds,CJ (EA n) ds∧bl (EA n)=ds∧dvi 0 ds=n:=by
 obtain ⟨ds,d1,d2,d3,d4⟩:=fP n;rw [if_neg (by omega)] at d4;have h1:=hAb h;rw [d4] at h1;exact ⟨ds,⟨d1,by omega,d2,.inr d4⟩,d4,by rw [d3];omega⟩
theorem vV {n:Int} (h:0≤n∧n≤99):pI (EA n)=(n,true):=by
 obtain ⟨ds,d1,d2,d3⟩:=xR h;have hne:¬bl (EA n)=45::ds:=fun e=>by
  rw [d2] at e;have:=congrArg List.length e;simp at this
 rw [gP d1,if_neg hne,d3,if_pos rfl]
theorem gH {n:Int} (h:0≤n∧n≤99):∀c∈bl (EA n),yD c=true:=by
 obtain ⟨ds,d1,d2,d3⟩:=xR h;rw [d2];exact d1.2.2.1
end Go.Proofs.YtpihighajaeabaaGreat
namespace Go.Proofs.YtpihighajaeabaaGreat
open Go.RowKit
set_option linter.unusedVariables false
def SG (sep:List UInt8):Nat→List UInt8→List UInt8→List (List UInt8)
 | 0,pre,l=>[pre++l]
 | f+1,pre,l=>if sep.length≤l.length then (if l.take sep.length=sep then pre::SG sep f [] (l.drop sep.length) else SG sep f (pre++l.take 1) (l.drop 1)) else [pre++l]
def PF (s sep:ByteArray):List ByteArray:=(SG (bl sep) (s.size+1) [] (bl s)).map mkS
def WE (c:UInt8):List UInt8→List UInt8→List (List UInt8)
 | pre,[]=>[pre]
 | pre,x::l=>if x=c then pre::WE c [] l else WE c (pre++[x]) l
def mG (s:ByteArray) (c:UInt8):List ByteArray:=(WE c [] (bl s)).map mkS
theorem iP (c:UInt8):∀(f:Nat) (pre l:List UInt8),l.length<f→SG [c] f pre l=WE c pre l
 | 0,_,_,h=>by omega
 | f+1,pre,[],h=>by simp [SG,WE]
 | f+1,pre,x::l,h=>by
  have hl:l.length<f:=by simp at h;omega
  rw [SG,if_pos (by simp),WE];by_cases hx:x=c
  ·rw [if_pos (by simp [hx]),if_pos hx];show pre::SG [c] f [] l=_
   rw [iP c f [] l hl]
  ·rw [if_neg (by simp [hx]),if_neg hx];show SG [c] f (pre++[x]) l=_
   rw [iP c f _ l hl]
theorem OJ (s:ByteArray) (c:UInt8):PF s ⟨#[c]⟩=mG s c:=by
 unfold PF mG;have e:bl ⟨#[c]⟩=[c]:=rfl;rw [e,iP c _ _ _ (by rw [VC];omega)]
theorem jP {c:UInt8}:∀(p pre l:List UInt8),(∀x∈p,x≠c)→WE c pre (p++l)=WE c (pre++p) l
 | [],pre,l,_=>by simp
 | x::p,pre,l,h=>by
  rw [List.cons_append,WE,if_neg (h x (by simp)),jP p _ l (fun y hy=>h y (by simp [hy]))];simp
theorem yR {c:UInt8} {p pre:List UInt8} (h:∀x∈p,x≠c):WE c pre p=[pre++p]:=by
 have:=jP p pre [] h;rw [List.append_nil] at this;rw [this,WE]
theorem PJ {c:UInt8} {p pre l:List UInt8} (h:∀x∈p,x≠c):WE c pre (p++c::l)=(pre++p)::WE c [] l:=by
 rw [jP p pre _ h,WE,if_pos rfl]
def glL (sep:List UInt8):List (List UInt8)→List UInt8
 | []=>[]
 | [p]=>p
 | p::q::l=>p++sep++glL sep (q::l)
theorem AX {c:UInt8}:∀(p:List UInt8) (ps:List (List UInt8)) (pre:List UInt8),(∀q∈p::ps,∀x∈q,x≠c)→WE c pre (glL [c] (p::ps))=(pre++p)::ps
 | p,[],pre,h=>by rw [glL];exact yR (h p (by simp))
 | p,q::ps,pre,h=>by
  rw [glL,List.append_assoc];show WE c pre (p++c::glL [c] (q::ps))=_
  rw [PJ (h p (by simp)),AX q ps [] (fun r hr=>h r (by simp only [List.mem_cons] at hr ⊢;exact .inr hr))];rfl
theorem hAc (sep:List UInt8):∀(p:List UInt8) (ps:List (List UInt8)),p.length≤(glL sep (p::ps)).length
 | p,[]=>by rw [glL];exact Nat.le_refl _
 | p,q::ps=>by rw [glL];simp only [List.length_append];omega
theorem mU {c:UInt8} {r:List UInt8}:∀(p:List UInt8) (f:Nat) (pre l:List UInt8),(∀x∈p,x≠c)→(c::r).length≤(p++l).length-p.length→SG (c::r) (f+p.length) pre (p++l)=SG (c::r) f (pre++p) l
 | [],f,pre,l,_,_=>by simp
 | x::p,f,pre,l,h,hl=>by
  have hl':(c::r).length≤l.length:=by simpa using hl
  have e:f+(x::p).length=(f+p.length)+1:=by simp;omega
  rw [e,SG,if_pos (by simp only [List.cons_append,List.length_cons,List.length_append] at hl' ⊢;omega)];have hx:x≠c:=h x (by simp);rw [if_neg (by
   intro e2;simp only [List.cons_append,List.length_cons,List.take_succ_cons,List.cons.injEq] at e2;exact hx e2.1)]
  show SG (c::r) (f+p.length) (pre++[x]) (p++l)=_
  rw [mU p f _ l (fun y hy=>h y (by simp [hy])) (by simpa using hl')];simp
theorem CX {c:UInt8} {r:List UInt8}:∀(p:List UInt8) (f:Nat) (pre:List UInt8),(∀x∈p,x≠c)→SG (c::r) f pre p=[pre++p]
 | p,0,pre,_=>rfl
 | [],f+1,pre,_=>by rw [SG,if_neg (by simp)]
 | x::p,f+1,pre,h=>by
  rw [SG]
  split
  ·rw [if_neg (by
    intro e2;simp only [List.length_cons,List.take_succ_cons,List.cons.injEq] at e2;exact h x (by simp) e2.1)]
   show SG (c::r) f (pre++[x]) p=_
   rw [CX p f _ (fun y hy=>h y (by simp [hy]))];simp
  ·rfl
theorem DX {c:UInt8} {r:List UInt8}:∀(p:List UInt8) (ps:List (List UInt8)) (f:Nat) (pre:List UInt8),(∀q∈p::ps,∀x∈q,x≠c)→(glL (c::r) (p::ps)).length<f→SG (c::r) f pre (glL (c::r) (p::ps))=(pre++p)::ps
 | p,[],f,pre,h,_=>by rw [glL];exact CX p f pre (h p (by simp))
 | p,q::ps,f,pre,h,hf=>by
  rw [glL,List.append_assoc] at hf ⊢;obtain ⟨g,rfl⟩:∃g,f=g+1+p.length:=⟨f-p.length-1,by simp only [List.length_append] at hf;omega⟩;rw [mU p (g+1) pre _ (h p (by simp)) (by simp)];rw [SG,if_pos (by simp),if_pos (by simp)];have e:((c::r)++glL (c::r) (q::ps)).drop (c::r).length=glL (c::r) (q::ps):=by simp
  rw [e,DX q ps g [] (fun r hr=>h r (by simp only [List.mem_cons] at hr ⊢;exact .inr hr)) (by simp only [List.length_append] at hf;simp only [List.length_cons] at hf;omega)];rfl
theorem wV (c:UInt8):∀(pre l:List UInt8),WE c pre l≠[]
 | _,[]=>by simp [WE]
 | pre,x::l=>by
  rw [WE]
  split
  ·simp
  ·exact wV c _ l
theorem iAb (sep:ByteArray):∀(l:List ByteArray) (i:Nat) (acc:ByteArray),0<i→bl (gl sep i acc l)=bl acc++(l.map fun t=>bl sep++bl t).flatten
 | [],_,acc,_=>by simp [gl]
 | t::ts,i,acc,h=>by
  rw [gl,if_pos h,iAb sep ts (i+1) _ (by omega),cB,cB];simp
theorem EX (sep:List UInt8):∀(p:List UInt8) (ps:List (List UInt8)),glL sep (p::ps)=p++(ps.map fun q=>sep++q).flatten
 | p,[]=>by simp [glL]
 | p,q::ps=>by
  rw [glL,EX sep q ps];simp
theorem QI (sep:ByteArray) (l:List ByteArray):bl (mE l sep)=glL (bl sep) (l.map bl):=by
 cases l with
 | nil=>rfl
 | cons t ts=>
  unfold mE;rw [gl,if_neg (by omega),iAb sep ts 1 _ (by omega),List.map_cons,EX,cB];have e:bl (⟨#[]⟩:ByteArray)=[]:=rfl;rw [e,List.nil_append,List.map_map];rfl
theorem AR (l:List ByteArray):(l.map bl).map mkS=l:=by
 rw [List.map_map];have:(mkS ∘ bl)=id:=by funext s;exact BJ s
 rw [this,List.map_id]
theorem BR {sep:ByteArray} {c:UInt8} {r:List UInt8} (hs:bl sep=c::r) {l:List ByteArray} (hl:l≠[]) (h:∀t∈l,∀x∈bl t,x≠c):PF (mE l sep) sep=l:=by
 unfold PF;obtain ⟨t,ts,rfl⟩:∃t ts,l=t::ts:=by cases l with | nil=>exact absurd rfl hl | cons t ts=>exact ⟨t,ts,rfl⟩
 rw [← VC,QI,hs,List.map_cons];rw [DX _ _ _ _ (fun q hq x hx=>by
  rw [← List.map_cons] at hq;obtain ⟨u,hu,rfl⟩:=List.mem_map.1 hq;exact h u hu x hx) (by omega),List.nil_append,← List.map_cons,AR]
theorem CR {sep:ByteArray} {c:UInt8} (hs:bl sep=[c]) {l:List ByteArray} (hl:l≠[]) (h:∀t∈l,∀x∈bl t,x≠c):mG (mE l sep) c=l:=by
 unfold mG;obtain ⟨t,ts,rfl⟩:∃t ts,l=t::ts:=by cases l with | nil=>exact absurd rfl hl | cons t ts=>exact ⟨t,ts,rfl⟩
 rw [QI,hs,List.map_cons];rw [AX _ _ _ (fun q hq x hx=>by
  rw [← List.map_cons] at hq;obtain ⟨u,hu,rfl⟩:=List.mem_map.1 hq;exact h u hu x hx),List.nil_append,← List.map_cons,AR]
end Go.Proofs.YtpihighajaeabaaGreat
namespace Go.Proofs.YtpihighajaeabaaGreat
open Go.RowKit
set_option linter.unusedVariables false
def zH (s:ByteArray):Int:=(pI s).1
def QZ (s:ByteArray):Int:=if (pI s).2 then (pI s).1 else -100000
def RH (s:ByteArray):List Int:=(PF s ⟨#[44]⟩).map zH
def fA5 (s:ByteArray):List Int:=(mG s 44).map QZ
def pOf {α:Type} (T:α→ByteArray) (r:ByteArray→Option α) (z:α) (s:ByteArray):α×Bool:=
 match r s with
 | some x=>if s.size≠0∧T x=s then (x,true) else (z,false)
 | none=>(z,false)
theorem ZN {α:Type} {T:α→ByteArray} {r:ByteArray→Option α} {z x:α} (hx:(T x).size≠0) (h:r (T x)=some x):pOf T r z (T x)=(x,true):=by
 unfold pOf;rw [h];exact if_pos ⟨hx,rfl⟩
theorem nU {α:Type} {T:α→ByteArray} {r:ByteArray→Option α} {z:α} {s:ByteArray} (h:(pOf T r z s).2=true):s.size≠0∧T (pOf T r z s).1=s:=by
 unfold pOf at h ⊢
 cases hr:r s with
 | none=>rw [hr] at h;cases h
 | some x=>
  rw [hr] at h;dsimp only at h ⊢
  split at h
  ·rename_i hc;rw [if_pos hc];exact hc
  ·cases h
theorem QJ {n:Int} (h:0≤n∧n≤99):zH (EA n)=n:=by unfold zH;rw [vV h]
theorem lL {n:Int} (h:0≤n∧n≤99):QZ (EA n)=n:=by unfold QZ;rw [vV h];rfl
theorem iH {c d:UInt8} (h:yD c=true) (hd:yD d=false):c≠d:=fun e=>by rw [e,hd] at h;cases h
theorem oU {l:List Int} (h:∀v∈l,0≤v∧v≤99):∀t∈SC l,∀x∈bl t,yD x=true:=fun t ht x hx=>by
 obtain ⟨v,hv,rfl⟩:=List.mem_map.1 ht;exact gH (h v hv) x hx
theorem ER {l:List Int} (hl:l≠[]) (h:∀v∈l,0≤v∧v≤99):RH (MB l ⟨#[44]⟩)=l∧fA5 (MB l ⟨#[44]⟩)=l:=by
 have hne:SC l≠[]:=fun e=>hl (List.map_eq_nil_iff.1 e)
 have hp:∀t∈SC l,∀x∈bl t,x≠44:=fun t ht x hx=>iH (oU h t ht x hx) (by decide)
 unfold RH fA5 MB;rw [BR (c:=44) (r:=[]) rfl hne hp,CR (c:=44) rfl hne hp];unfold SC;rw [List.map_map,List.map_map];exact ⟨(List.map_congr_left (fun v hv=>QJ (h v hv))).trans (List.map_id _),(List.map_congr_left (fun v hv=>lL (h v hv))).trans (List.map_id _)⟩
theorem aO {sep:List UInt8}:∀ {ps:List (List UInt8)} {x:UInt8},x∈glL sep ps→x∈sep∨∃p∈ps,x∈p
 | [],x,h=>by simp [glL] at h
 | [p],x,h=>.inr ⟨p,by simp,h⟩
 | p::q::l,x,h=>by
  rw [glL,List.mem_append,List.mem_append] at h;rcases h with (h | h) | h
  ·exact .inr ⟨p,by simp,h⟩
  ·exact .inl h
  ·rcases aO h with h | ⟨r,hr,hx⟩
   ·exact .inl h
   ·exact .inr ⟨r,List.mem_cons_of_mem _ hr,hx⟩
theorem DJ {l:List Int} (h:∀v∈l,0≤v∧v≤99):∀x∈bl (MB l ⟨#[44]⟩),yD x=true∨x=44:=fun x hx=>by
 unfold MB at hx;rw [QI] at hx;rcases aO hx with h1 | ⟨p,hp,hx⟩
 ·have e:bl ⟨#[44]⟩=[44]:=rfl;rw [e,List.mem_singleton] at h1;exact .inr h1
 ·obtain ⟨t,ht,rfl⟩:=List.mem_map.1 hp;exact .inl (oU h t ht x hx)
theorem kP {a b:ByteArray} {c:UInt8} (ha:∀x∈bl a,x≠c) (hb:∀x∈bl b,x≠c):mG (a++⟨#[c]⟩++b) c=[a,b]:=by
 unfold mG;have e:bl (a++⟨#[c]⟩++b)=bl a++c::bl b:=by
  rw [cB,cB,List.append_assoc];rfl
 rw [e,PJ ha,yR hb];simp [BJ]
theorem GX {a b d:ByteArray} {c:UInt8} (ha:∀x∈bl a,x≠c) (hb:∀x∈bl b,x≠c) (hd:∀x∈bl d,x≠c):mG (a++⟨#[c]⟩++b++⟨#[c]⟩++d) c=[a,b,d]:=by
 unfold mG;have e:bl (a++⟨#[c]⟩++b++⟨#[c]⟩++d)=bl a++c::(bl b++c::bl d):=by
  rw [cB,cB,cB,cB];have e2:bl ⟨#[c]⟩=[c]:=rfl;rw [e2];simp
 rw [e,PJ ha,PJ hb,yR hd];simp [BJ]
def LB (x:gA):ByteArray:=if LA x then EA x.id++⟨#[58]⟩++MB x.vals ⟨#[44]⟩ else ⟨#[]⟩
def FR:gA:=⟨0,[]⟩
def ZM (s:ByteArray):Option gA:=match PF s ⟨#[58]⟩ with | [a,b]=>some ⟨zH a,RH b⟩ | _=>none
def KG (s:ByteArray):gA×Bool:=pOf LB ZM FR s
theorem GR (x:gA) (h:(LB x).size≠0):LA x=true:=by
 cases hx:LA x with
 | true=>rfl
 | false=>unfold LB at h;rw [hx,if_neg (by simp)] at h;exact absurd rfl h
theorem fA6 {x:gA} (h:LA x=true):mG (LB x) 58=[EA x.id,MB x.vals ⟨#[44]⟩]:=by
 unfold LB;rw [if_pos h];refine kP (fun y hy=>iH (gH (wD h) y hy) (by decide)) (fun y hy=>?_);rcases DJ (fun v hv=>by have:=dE h hv;omega) y hy with h1 | rfl
 ·exact iH h1 (by decide)
 ·decide
theorem hAd {x:gA} (h:LA x=true):x.vals≠[]:=fun e=>by have:=YA h;rw [e] at this;simp at this
theorem IX (x:gA) (h:LA x=true):ZM (LB x)=some x:=by
 unfold ZM;rw [OJ,fA6 h];dsimp only;rw [QJ (wD h),(ER (hAd h) (fun v hv=>by have:=dE h hv;omega)).1]
theorem JX {x:gA} (h:LA x=true):(LB x).size≠0:=by
 unfold LB;rw [if_pos h,cA,cA];have:(⟨#[58]⟩:ByteArray).size=1:=rfl;omega
theorem oK {x:gA} (h:LA x=true):KG (LB x)=(x,true):=ZN (JX h) (IX x h)
theorem fA7 {s:ByteArray} (h:(KG s).2=true):LA (KG s).1=true∧LB (KG s).1=s:=by
 obtain ⟨h1,h2⟩:=nU h;exact ⟨GR _ (by rw [show LB (KG s).1=s from h2];exact h1),h2⟩
def BM (t:ByteArray):Option lB:=match PF t ⟨#[62]⟩ with | [a,b]=>some ⟨zH a,zH b⟩ | _=>none
def fA8 (t:ByteArray):Option lB:=match mG t 62 with | [a,b]=>some ⟨QZ a,QZ b⟩ | _=>none
def IR:ByteArray:=⟨#[110,111,110,101]⟩
def SH {α β:Type} (f:α→Option β):List α→Option (List β)
 | []=>some []
 | x::l=>match f x with | none=>none | some y=>match SH f l with | none=>none | some ys=>some (y::ys)
theorem lP {α β:Type} {f:α→Option β} {g:β→α}:∀ {l:List β},(∀y∈l,f (g y)=some y)→SH f (l.map g)=some l
 | [],_=>rfl
 | y::l,h=>by
  rw [List.map_cons,SH,h y (by simp)];dsimp only;rw [lP (fun z hz=>h z (by simp [hz]))]
def KH (s:ByteArray):Option (List lB):=if s=IR then some [] else SH BM (PF s ⟨#[44]⟩)
def xV (s:ByteArray):Option (List lB):=if s=IR then some [] else SH fA8 (mG s 44)
def jH (s:ByteArray):List lB×Bool:=pOf sB KH [] s
theorem RJ {l:List lB} (h:yB l=true):∀p∈l,(0≤p.fst∧p.fst≤99)∧0≤p.snd∧p.snd≤99:=fun p hp=>by
 have h1:=wF h;unfold rD at h1;have h2:=List.all_eq_true.1 h1 p hp;unfold mV at h2;rw [Bool.and_eq_true] at h2;have h3:=qC.1 h2.1;have h4:=qC.1 h2.2;omega
theorem RI {p:lB} (h:(0≤p.fst∧p.fst≤99)∧0≤p.snd∧p.snd≤99):∀x∈bl (sD p),yD x=true∨x=62:=fun x hx=>by
 unfold sD at hx;rw [cB,cB,List.mem_append,List.mem_append] at hx;rcases hx with (hx | hx) | hx
 ·exact .inl (gH h.1 x hx)
 ·have e:bl ⟨#[62]⟩=[62]:=rfl;rw [e,List.mem_singleton] at hx;exact .inr hx
 ·exact .inl (gH h.2 x hx)
theorem JR {p:lB} (h:(0≤p.fst∧p.fst≤99)∧0≤p.snd∧p.snd≤99):BM (sD p)=some p∧fA8 (sD p)=some p:=by
 have hc:mG (sD p) 62=[EA p.fst,EA p.snd]:=by
  unfold sD;exact kP (fun y hy=>iH (gH h.1 y hy) (by decide)) (fun y hy=>iH (gH h.2 y hy) (by decide))
 unfold BM fA8;rw [OJ,hc];dsimp only;rw [QJ h.1,QJ h.2,lL h.1,lL h.2];exact ⟨rfl,rfl⟩
theorem CM {l:List lB} (h:yB l=true) (hl:l≠[]):mE (jC l) ⟨#[44]⟩≠IR:=fun e=>by
 have hb:bl (mE (jC l) ⟨#[44]⟩)=bl IR:=by rw [e]
 rw [QI] at hb;have hm:(110:UInt8)∈bl IR:=by decide
 rw [← hb] at hm;rcases aO hm with h1 | ⟨p,hp,h1⟩
 ·revert h1;decide
 ·obtain ⟨t,ht,rfl⟩:=List.mem_map.1 hp;obtain ⟨q,hq,rfl⟩:=List.mem_map.1 ht;rcases RI (RJ h q hq) _ h1 with h2 | h2<;>revert h2<;>decide
theorem pU {l:List lB} (h:yB l=true) (hl:l≠[]):mG (mE (jC l) ⟨#[44]⟩) 44=jC l:=
 CR (c:=44) rfl (fun e=>hl (List.map_eq_nil_iff.1 e)) (fun t ht x hx=>by
  obtain ⟨q,hq,rfl⟩:=List.mem_map.1 ht;rcases RI (RJ h q hq) x hx with h2 | rfl
  ·exact iH h2 (by decide)
  ·decide)
theorem yV (l:List lB) (h:yB l=true):KH (sB l)=some l:=by
 unfold KH sB;rw [if_pos h];by_cases hl:l=[]
 ·subst hl;rfl
 ·rw [if_neg hl,if_neg (CM h hl),OJ,pU h hl];exact lP (fun y hy=>(JR (RJ h y hy)).1)
theorem DV (l:List lB) (h:yB l=true):xV (sB l)=some l:=by
 unfold xV sB;rw [if_pos h];by_cases hl:l=[]
 ·subst hl;rfl
 ·rw [if_neg hl,if_neg (CM h hl),pU h hl];exact lP (fun y hy=>(JR (RJ h y hy)).2)
theorem JK {l:List lB} (h:yB l=true):∀x∈bl (sB l),yD x=true∨x=62∨x=44∨x∈bl IR:=fun x hx=>by
 unfold sB at hx;rw [if_pos h] at hx;by_cases hl:l=[]
 ·rw [if_pos hl] at hx;exact .inr (.inr (.inr hx))
 ·rw [if_neg hl,QI] at hx;rcases aO hx with h1 | ⟨p,hp,h1⟩
  ·have e:bl ⟨#[44]⟩=[44]:=rfl;rw [e,List.mem_singleton] at h1;exact .inr (.inr (.inl h1))
  ·obtain ⟨t,ht,rfl⟩:=List.mem_map.1 hp;obtain ⟨q,hq,rfl⟩:=List.mem_map.1 ht;rcases RI (RJ h q hq) _ h1 with h2 | h2
   ·exact .inl h2
   ·exact .inr (.inl h2)
theorem EV {l:List lB} (h:yB l=true):(sB l).size≠0:=fun e=>by
 have h1:=DV l h;have h2:sB l=⟨#[]⟩:=yH (by rw [wR.2 e];rfl);rw [h2] at h1
 revert h1
 have:xV ⟨#[]⟩=none:=by decide
 rw [this];simp
theorem KX {l:List lB} (h:yB l=true):jH (sB l)=(l,true):=ZN (EV h) (yV l h)
end Go.Proofs.YtpihighajaeabaaGreat
