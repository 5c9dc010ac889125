/- Lists of lists of integers: the laws' helpers, SameAnswers. -/
import Derived.Test.YtpihighajaeabaaGreatXModel
import Derived.Test.YtpihighajaeabaaGreatXWishes
import Derived.WalkSmall
import Derived.Test.YtpihighajaeabaaGreatProg
import Derived.Test.YtpihighajaeabaaGreatXItems
import Derived.Deep.Slices
import Derived.OpenShut
import Derived.ShutString
import Derived.ChangeOld
import Derived.Carry
namespace Go.Proofs.YtpihighajaeabaaGreat
open Go.RowKit Go.ChangeShapes Go.WideShapes Go.Deep Go.Proofs.Tryz
set_option linter.all false
set_option maxRecDepth 100000
set_option maxHeartbeats 16000000
def VC:Option Int->List Int->Bool
 | _,[]=>true
 | none,v::l=>inB v 0 9 && VC (some v) l
 | some p,v::l=>(inB v 0 9 && decide (p<v)) && VC (some v) l
def xK (l:List Int) (k:Nat):Option Int:=match k with | 0=>none | k+1=>l[k]?
theorem OP {l:List Int} {k:Nat} {x:Int} (h:l[k]? = some x):xK l (k+1)=some x:=h
theorem PY {l:List Int} {x:Int} (h:l[0]? = some x):VC (xK l 0) (l.drop 0)=(inB x 0 9 && VC (xK l 1) (l.drop 1)):=by
 rw [OP h,nC h];rfl
theorem kAv {l:List Int} {k:Nat} {x y:Int} (hy:l[k]? = some y) (h:l[k+1]? = some x):VC (xK l (k+1)) (l.drop (k+1))=((inB x 0 9 && decide (y<x)) && VC (xK l (k+1+1)) (l.drop (k+1+1))):=by
 rw [OP hy,OP h,nC h];rfl
theorem cL:∀ {l:List Int} {p:Option Int} {v:Int},VC p l=true->v∈l->0<=v/\v<=9
 | u::l,none,v,h,hv=>by
  simp only [VC,Bool.and_eq_true] at h;rcases List.mem_cons.1 hv with rfl | hv
  ·exact pD.1 h.1
  ·exact cL h.2 hv
 | u::l,some p,v,h,hv=>by
  simp only [VC,Bool.and_eq_true] at h;rcases List.mem_cons.1 hv with rfl | hv
  ·exact pD.1 h.1.1
  ·exact cL h.2 hv
def DB (w:AB):Bool:=
 inB w.field 0 2 && (inB w.kind 0 4 && (inB w.value 0 9 && (VC none w.list && ((decide (w.kind=2) || decide (w.value=0)) && ((decide (w.kind=3)==decide (0<w.list.length)) &&
  (if w.kind=4 then ZB w.pairs else decide (w.pairs.length=0)))))))
def YD (w:AB) (v:Int):Int:=
 if w.kind=0 then v else if w.kind=1 then 9-v else if w.kind=2 then max (v-w.value) (w.value-v) else if w.list.contains v then 0 else 1
def AF (w:AB) (a b:Int):Int:=
 if w.kind=4 then (if a=b then 0 else if iD w.pairs a b then 1 else if iD w.pairs b a then -1 else 2)
 else if YD w a<YD w b then 1 else if YD w b<YD w a then -1 else 0
def PG (w:AB) (x y:iA):Int:=AF w (LF x w.field) (LF y w.field)
theorem QY (w:AB) (a b:Int) : -1<=AF w a b/\AF w a b<=2:=by
 unfold AF;repeat' split
 all_goals omega
def KA:AB:=⟨0,0,0,[],[]⟩
def aD (op:Int):Int:=if op=0 then 0 else if op=3 then 1 else 2
def vD (n:mA) (d:Int):Bool:=inB n.op 0 4 && (decide (aD n.op<=d) && if n.op=0 then DB n.wish else decide (n.wish=KA))
def qC:List mA->Int->Option Int
 | [],d=>some d
 | n::l,d=>if vD n d then qC l (d-aD n.op+1) else none
def pB (e:List mA):Bool:=decide (qC e 0=some 1) && decide (e.length<=9)
def UE (op a b:Int):Int:=
 if op=1 then (if a=2\/b=2\/a*b<0 then 2 else if a=0 then b else a) else if op=2 then (if a=0 then b else a) else if a=b then a else 2
def bJ (a:Int):Int:=if a=2 then 2 else -a
def EF (x y:iA) (st:List Int) (n:mA):List Int:=
 if n.op=0 then st++[PG n.wish x y]
 else if n.op=3 then st.take (st.length-1)++[bJ (st.getD (st.length-1) 0)]
 else st.take (st.length-2)++[UE n.op (st.getD (st.length-2) 0) (st.getD (st.length-1) 0)]
def zC (e:List mA) (x y:iA):Int:=(e.foldl (EF x y) []).getD 0 0
theorem yS {op a b:Int} (ha : -1<=a/\a<=2) (hb : -1<=b/\b<=2) : -1<=UE op a b/\UE op a b<=2:=by
 unfold UE;repeat' split
 all_goals omega
theorem zS {a:Int} (ha : -1<=a/\a<=2) : -1<=bJ a/\bJ a<=2:=by
 unfold bJ;split<;>omega
theorem SY {w:World}:∀ {xs:List Int} {us:List (List Value)} {Fs:List (List Nat)},IH (fun x u f=>IF w x u f/\u.length=1) xs us Fs->us.flatten=xs.map (Value.int .i64)/\Fs.flatten=[]
 | [],[],[],_=>⟨rfl,rfl⟩
 | x::xs,u::us,f::Fs,h=>by
  obtain ⟨h1,h2⟩:=h;have ih:=SY h2;obtain ⟨⟨rfl,rfl⟩,_⟩:=h1;simp [ih.1,ih.2]
 | [],_::_,_,h=>by cases h
 | [],[],_::_,h=>by cases h
 | _::_,[],_,h=>by cases h
 | _::_,_::_,[],h=>by cases h
theorem OQ {w:World}:∀xs:List Int,IH (fun x u f=>IF w x u f/\u.length=1) xs (xs.map fun x=>[Value.int .i64 x]) (xs.map fun _=>[])
 | []=>trivial
 | x::xs=>⟨⟨⟨rfl,rfl⟩,rfl⟩,OQ xs⟩
theorem aAd {α β:Type}:∀xs:List α,(xs.map fun _=>([]:List β)).flatten=[]
 | []=>rfl
 | _::xs=>by simp
theorem PQ:∀xs:List Int,(xs.map fun x=>[Value.int .i64 x]).flatten=xs.map (Value.int .i64)
 | []=>rfl
 | x::xs=>by rw [List.map_cons,List.flatten_cons,PQ xs];rfl
theorem iAs {w:World} {xs:List Int} {v:Value} {F:List Nat}:WA w xs [v] F↔w.ownsRow 0 3 1 v xs.length (xs.map (Value.int .i64))/\F=v.ownBlock.toList:=by
 constructor
 ·rintro ⟨v',us,Fs,e,hown,hall,rfl⟩;injection e with e;subst e;have:=SY hall;rw [this.1] at hown;exact ⟨hown,by rw [this.2];simp⟩
 ·rintro ⟨h,rfl⟩;exact ⟨v,_,_,rfl,by rw [PQ];exact h,OQ xs,by rw [aAd];simp⟩
theorem AS {w:World} {xs:List Int} {x:Int} {g n c:Nat} {F:List Nat} (h:WA w (xs++[x]) [.slice (some ⟨g,0,none⟩) n c] F):WA w xs [.slice (some ⟨g,0,none⟩) xs.length c] F:=by
 rw [iAs] at h ⊢;obtain ⟨h1,h2⟩:=h;refine ⟨?_,h2⟩;have hn:n=xs.length+1:=by
  rcases h1.2 with ⟨h,_⟩ | ⟨g',cap,cur,h,_⟩
  ·cases h
  ·injection h with _ h _;simpa using h
 subst hn;refine ownsRow_pop (last:=[.int .i64 x]) (by simp) ?_
 simpa using h1
theorem TY {l:List Int} (h:0<l.length):∃T a,l=T++[a]:=⟨l.dropLast,l.getLast (fun e=>by rw [e] at h;simp at h),(List.dropLast_concat_getLast _).symm⟩
theorem nAy {l:List Int} (h:2<=l.length):∃T a b,l=T++[a,b]:=by
 obtain ⟨T,b,rfl⟩:=TY (l:=l) (by omega);obtain ⟨T',a,rfl⟩:=TY (l:=T) (by simp at h;omega);exact ⟨T',a,b,by simp⟩
theorem PP {x y:iA} {st:List Int} {n:mA} (h:n.op=0):EF x y st n=st++[PG n.wish x y]:=by unfold EF;rw [if_pos h]
theorem QP {x y:iA} {T:List Int} {a:Int} {n:mA} (h:n.op=3):EF x y (T++[a]) n=T++[bJ a]:=by
 unfold EF;rw [if_neg (by omega),if_pos h];simp
theorem BS {x y:iA} {T:List Int} {a b:Int} {n:mA} (h:n.op≠0) (h3:n.op≠3):EF x y (T++[a,b]) n=T++[UE n.op a b]:=by
 unfold EF;rw [if_neg h,if_neg h3];simp [List.getD_eq_getElem?_getD]
theorem SP {e:List mA} {k:Nat} {d:Int} {n:mA} (h:qC (e.drop k) d=some 1) (hn:e[k]? = some n):vD n d=true/\qC (e.drop (k+1)) (d-aD n.op+1)=some 1:=by
 rw [nC hn] at h;unfold qC at h
 split at h
 ·rename_i hk;exact ⟨hk,h⟩
 ·cases h
theorem UY {n:mA} {d:Int} (h:vD n d=true):0<=n.op/\n.op<=4:=by
 unfold vD at h;simp only [Bool.and_eq_true] at h;exact pD.1 h.1
theorem DS {n:mA} {d:Int} (h:vD n d=true):aD n.op<=d:=by
 unfold vD at h;simp only [Bool.and_eq_true,decide_eq_true_iff] at h;exact h.2.1
theorem iN {n:mA} {d:Int} (h:vD n d=true) (h0:n.op=0):DB n.wish=true:=by
 unfold vD at h;simp only [Bool.and_eq_true,decide_eq_true_iff] at h;have:=h.2.2;rw [if_pos h0] at this;exact this
theorem VJ {e:List mA} (h:pB e=true):qC e 0=some 1:=by
 unfold pB at h;simp only [Bool.and_eq_true,decide_eq_true_iff] at h;exact h.1
theorem vV {e:List mA} (h:pB e=true):e.length<=9:=by
 unfold pB at h;simp only [Bool.and_eq_true,decide_eq_true_iff] at h;exact h.2
def MF (e:List mA) (x y:iA) (k:Nat):List Int:=(e.take k).foldl (EF x y) []
theorem AI {e:List mA} {x y:iA} {k:Nat} {n:mA} (hn:e[k]? = some n):MF e x y (k+1)=EF x y (MF e x y k) n:=by
 unfold MF;rw [List.take_add_one,hn,List.foldl_append];rfl
theorem jN {e:List mA} {x y:iA} {k:Nat} (hk:e.length<=k):(MF e x y k).getD 0 0=zC e x y:=by
 unfold MF zC;rw [List.take_of_length_le hk]
def NT (st:List Int):Prop:=∀v∈st,-1<=v/\v<=2
theorem iJ {st:List Int} {v:Int} (h:NT st) (hv : -1<=v/\v<=2):NT (st++[v]):=fun u hu=>by
 rcases List.mem_append.1 hu with hu | hu
 ·exact h u hu
 ·simp at hu;rw [hu];exact hv
theorem gM {st l:List Int} (h:NT (st++l)):NT st:=fun u hu=>h u (List.mem_append_left _ hu)
theorem QQ (w:AB) (x y:iA) : -1<=PG w x y/\PG w x y<=2:=QY _ _ _
theorem NF {w:AB} (h:DB w=true):0<=w.field/\w.field<=2:=by
 unfold DB at h;simp only [Bool.and_eq_true] at h;exact pD.1 h.1
theorem ZG {w:AB} (h:DB w=true):0<=w.kind/\w.kind<=4:=by
 unfold DB at h;simp only [Bool.and_eq_true] at h;exact pD.1 h.2.1
theorem aF {w:AB} (h:DB w=true):0<=w.value/\w.value<=9:=by
 unfold DB at h;simp only [Bool.and_eq_true] at h;exact pD.1 h.2.2.1
theorem oH {w:AB} (h:DB w=true) (h4:w.kind=4):ZB w.pairs=true:=by
 unfold DB at h;simp only [Bool.and_eq_true] at h;have:=h.2.2.2.2.2.2;rw [if_pos h4] at this;exact this
theorem dI {l:List EB} (h:ZB l=true):pE l=true:=by
 unfold ZB at h;simp only [Bool.and_eq_true] at h;exact h.1
theorem WJ {l:List EB} (h:ZB l=true):l.length<=8:=by
 unfold ZB at h;simp only [Bool.and_eq_true,decide_eq_true_iff] at h;exact h.2.1
theorem RQ {w:AB} {v:Int} (hw:DB w=true) (hv:0<=v/\v<=9):0<=YD w v/\YD w v<=9:=by
 have:=aF hw;unfold YD;repeat' split
 all_goals omega
theorem Bw.only {a b:World} (F:List Nat) (h:Bw a b):TB F a b:=⟨h.size,fun x hx _=>Below.block h x hx⟩
theorem TB.push {g:Nat} {F:List Nat} {a b c:World} (h:TB [g] a b) (k:TB F b c) (hF:∀x∈F,x=g\/a.heap.size<=x):TB [g] a c:=⟨Nat.le_trans h.1 k.1,fun x hx hn=>(k.2 x (Nat.lt_of_lt_of_le hx h.1) (fun e=>(hF x e).elim (fun e=>hn (by simp [e])) (fun e=>by omega))).trans (h.2 x hx hn)⟩
def Two {α:Type} (f:Fp α) (B:Nat) (x:α) (z:Value) (w:World) (u:Value):Prop:=∃v,u=.tuple #[v,z]/\nE f B x w v
theorem WB.two {α:Type} {f:Fp α} {w w':World} {x:α} {v z z':Value} {F:List Nat} (h:f w' x [v] F) (hF:sA w.heap.size F) (hz:z=z') (hb:Bw w w'):WB w (Two f w.heap.size x z') (.returned (.tuple #[v,z])) w':=⟨_,rfl,⟨v,by rw [hz],F,h,hF⟩,hb⟩
theorem lA3:ownKnob prog.godebug=none:=by kernel_rfl
theorem lA4:laidOutB prog=true:=by kernel_rfl
def I64 (n:Int):Prop:=(Lit.int .i64 n).wf=true
theorem I64.bd {n:Int} (h:I64 n) : -9223372036854775808<=n/\n<=9223372036854775807:=
 bounds_i64 h
section
variable {H:Type} {enc:TypeId×Value->H} {w:World} {sp:Nat->Bool} {held:Bool}
theorem nA3 {α:Type} {t e:TypeId} {sz:Nat} {R:Rep α} {Q:α->Prop} (ht:prog.underlying t=some (.slice e)) (hC:prog.cellsOf e=sz) (hsz:0<sz)
  (hE:∀n cs y,DataW.trod enc prog w 0 sp held n e cs=some y->cs.length=sz->∃x,R w (lt w) x cs/\Q x) {fuel:Nat} {cs:List Value} {x:DataW H×List MemPlace}
  (h:DataW.trod enc prog w 0 sp held fuel t cs=some x):∃xs,Rd (rSl sz R) w xs cs/\∀x∈xs,Q x:=by
 rcases open_slice ht h with ⟨rfl,_⟩ | ⟨a,bc,bj,m,n,D,Pl,rfl,_,hl,hm,bs,_,hi⟩
 ·exact ⟨[],CQ,fun x hx=>by simp at hx⟩
 ·have hml:bc<=m:=by rw [bs];split<;>omega
  by_cases hl0:bc=0
  ·subst hl0;exact ⟨[],⟨some a,bj,rfl,Nat.zero_le _,hm,fun k x hx=>by simp at hx⟩,fun x hx=>by simp at hx⟩
  obtain ⟨b,o,bg⟩:=a;have bt:bg=none:=by
   obtain ⟨bk,hc,bn⟩:=hi 0 (by omega);obtain ⟨_,bb,bd⟩:=World.cells?_some hc;rw [hC] at bb bd;have h0:=bd 0 hsz;rw [List.getElem?_eq_getElem (by omega),Nat.zero_mul] at h0;exact World.cell?_spot h0
  subst bt;have bx:∀i:Nat,∃x:Option α,i<bc->∃x' us,x=some x'/\b<w.heap.size/\us.length=sz/\(∀j u,us[j]? = some u->w.cell? ⟨b,o+i*sz+j,none⟩=some u)/\R w (lt w) x' us/\Q x':=by
   intro i;by_cases hil:i<bc
   ·obtain ⟨bk,hc,bn⟩:=hi i (by omega);obtain ⟨_,bb,bd⟩:=World.cells?_some hc;rw [hC] at bb bd;obtain ⟨x,hR,hQ⟩:=hE _ _ _ bn bb;have h0:=bd 0 hsz;rw [List.getElem?_eq_getElem (by omega)] at h0;have hb:=World.block_lt_of_cell? _ _ h0;refine ⟨some x,fun _=>⟨x,bk,rfl,by rw [Go.Proofs.YtpihighajaeabaaGreat.oAj,Go.Proofs.YtpihighajaeabaaGreat.oAj] at hb;exact hb,bb,fun j u hu=>?_,hR,hQ⟩⟩;have hj:j<sz:=by rw [<-bb];exact (List.getElem?_eq_some_iff.1 hu).1
    have:=bd j hj;have ea:((⟨b,o,none⟩:Addr).add (i*sz)).add j=⟨b,o+i*sz+j,none⟩:=by
     rw [Go.Proofs.YtpihighajaeabaaGreat.pA1,Nat.add_assoc];unfold Addr.add
     split
     ·rename_i h;rw [h];rfl
     ·rfl
    rw [ea,hu] at this;exact this
   ·exact ⟨none,fun h=>absurd h hil⟩
  obtain ⟨f,hf⟩:=Classical.axiomOfChoice bx;refine ⟨(List.range bc).filterMap f,?_,?_⟩
  ·have bb:((List.range bc).filterMap f).length=bc:=by
    have:∀k,k<=bc->((List.range k).filterMap f).length=k:=by
     intro k hk
     induction k with
     | zero=>rfl
     | succ k ih=>
      rw [List.range_succ,List.filterMap_append,List.length_append,ih (by omega)];obtain ⟨x',_,e,_⟩:=hf k (by omega);simp [e]
    exact this bc (Nat.le_refl _)
   have bf:∀k,k<bc->((List.range bc).filterMap f)[k]? = f k:=by
    have:∀m,m<=bc->∀k,k<m->((List.range m).filterMap f)[k]? = f k/\((List.range m).filterMap f).length=m:=by
     intro m hm'
     induction m with
     | zero=>intro k hk;omega
     | succ m ih=>
      intro k hk;have bm:((List.range m).filterMap f).length=m:=by
       rcases Nat.eq_zero_or_pos m with rfl | hp
       ·rfl
       ·exact (ih (by omega) 0 hp).2
      obtain ⟨x',_,e,_⟩:=hf m (by omega);rw [List.range_succ,List.filterMap_append];have es:[m].filterMap f=[x']:=by simp [e]
      rw [es];refine ⟨?_,by simp [bm]⟩;by_cases hkm:k<m
      ·rw [List.getElem?_append_left (by omega)];exact (ih (by omega) k hkm).1
      ·obtain rfl:k=m:=by omega
       rw [List.getElem?_append_right (by omega),bm,Nat.sub_self,e];rfl
    exact fun k hk=>(this bc (Nat.le_refl _) k hk).1
   refine ⟨some ⟨b,o,none⟩,bj,by rw [bb],by rw [bb];exact hl,hm,fun k x hx=>?_⟩;have hk:k<bc:=by
    have:=(List.getElem?_eq_some_iff.1 hx).1;omega
   rw [bf k hk] at hx;obtain ⟨x',us,e,hb,bv,hc,hR,_⟩:=hf k hk;rw [hx] at e;injection e with e;subst e;exact ⟨b,o,us,rfl,hb,bv,hc,hR⟩
  ·intro x hx;obtain ⟨i,bq,bp⟩:=List.mem_filterMap.1 hx;obtain ⟨x',_,e,_,_,_,_,hQ⟩:=hf i (by simpa using bq);rw [bp] at e;injection e with e;rw [e];exact hQ
end
theorem fY {α:Type} {P:Program} {o:Oper} {a:Act} {K:Act->World->Prop} {Q:Exit->Act->World->Prop} (W:World) (s x:Operand) (t:TypeId)
  (ho:o.op=.call { callee:=.builtin .append,args:=#[s,x],argTypes:=#[t,t] })
  (w0:World) (e:TypeId) (i:TypeInfo) (z:Value) (sz bytes:Nat) (ht:P.underlying t=some (.slice e)) (hi:P.info? e=some i) (hz:i.zero=some z)
  (hsize:i.size=sz) (hby:i.bytes=bytes) (hzs:z.cells.size=sz) (hsz:0<sz)
  {R:Fp α} (hR:tC w0.heap.size R) (v:Value) (xs:List α) (F:List Nat) (hs:a.eval s=v) (hv:fSl e sz R W xs [v] F) (hF:sA w0.heap.size F)
  (sv:Value) (hx:a.eval x=sv) {R':Rep α} {S:JC} (ys:List α) (hsrc:rSl sz R' W S ys [sv]) (hRR:∀y u,R' W S y u->R W y u [])
  (hbytes:(xs.length+ys.length)*bytes<=140737488355328) (hlen:xs.length+ys.length<4611686018427387904) (hbw:Bw w0 W)
  (h:∀v' w' F',fSl e sz R w' (xs++ys) [v'] F'->sA w0.heap.size F'->Bw w0 w'->TB F W w'->(∀b∈F',b∈F\/W.heap.size<=b)->K (a.put o.dst v') w'):o.wp P a W K Q:=
 pAg W s x t ho w0 e i z sz bytes ht hi hz hsize hby hzs hsz hR v xs F hs hv hF sv hx ys hsrc hRR hbytes hlen hbw (fun v' w' F' h1 h2 h3 h4 h5 _=>h v' w' F' h1 h2 h3 h4 h5)
theorem QD {α:Type} {P:Program} {ops:Array Oper} {o:Oper} {a:Act} {K:Act->World->Prop} {Q:Exit->Act->World->Prop} {E:Prop} (W:World) (hgd:o.guard=none) (s x:Operand) (t:TypeId)
  (ho:o.op=.call { callee:=.builtin .append,args:=#[s,x],argTypes:=#[t,t] })
  (w0:World) (e:TypeId) (i:TypeInfo) (z:Value) (sz bytes:Nat) (ht:P.underlying t=some (.slice e)) (hi:P.info? e=some i) (hz:i.zero=some z)
  (hsize:i.size=sz) (hby:i.bytes=bytes) (hzs:z.cells.size=sz) (hsz:0<sz)
  {R:Fp α} (hR:tC w0.heap.size R) (v:Value) (xs:List α) (F:List Nat) (hs:a.eval s=v) (hv:fSl e sz R W xs [v] F) (hF:sA w0.heap.size F)
  (sv:Value) (hx:a.eval x=sv) {R':Rep α} {S:JC} (ys:List α) (hsrc:rSl sz R' W S ys [sv]) (hRR:∀y u,R' W S y u->R W y u [])
  (hbytes:(xs.length+ys.length)*bytes<=140737488355328) (hlen:xs.length+ys.length<4611686018427387904) (hbw:Bw w0 W)
  (h:∀v' w' F',fSl e sz R w' (xs++ys) [v'] F'->sA w0.heap.size F'->Bw w0 w'->TB F W w'->(∀b∈F',b∈F\/W.heap.size<=b)->K (a.put o.dst v') w'):if Region.wanted o (yielded ops a.tmps)=true then Oper.wp P o a W K Q else E:=by
 have hw:Region.wanted o (yielded ops a.tmps)=true:=by simp [Region.wanted,hgd]
 rw [if_pos hw];exact fY W s x t ho w0 e i z sz bytes ht hi hz hsize hby hzs hsz hR v xs F hs hv hF sv hx ys hsrc hRR hbytes hlen hbw h
theorem RW {α:Type} {P:Program} {o:Oper} {a:Act} {K:Act->World->Prop} {Q:Exit->Act->World->Prop} (W:World) (s x:Operand) (t:TypeId)
  (ho:o.op=.call { callee:=.builtin .append,args:=#[s,x],argTypes:=#[t,t] })
  (w0:World) (e:TypeId) (i:TypeInfo) (z:Value) (sz bytes:Nat) (ht:P.underlying t=some (.slice e)) (hi:P.info? e=some i) (hz:i.zero=some z)
  (hsize:i.size=sz) (hby:i.bytes=bytes) (hzs:z.cells.size=sz) (hsz:0<sz)
  {R:Fp α} (hR:tC w0.heap.size R) (v:Value) (xs:List α) (F:List Nat) (hs:a.eval s=v) (hv:fSl e sz R W xs [v] F) (hF:sA w0.heap.size F)
  (sv:Value) (hx:a.eval x=sv) (ys:List α) (G:List Nat) (hw:fSl e sz R W ys [sv] G) (hdis:∀b∈F,b∉G) (hG:sA w0.heap.size G)
  (hbytes:(xs.length+ys.length)*bytes<=140737488355328) (hlen:xs.length+ys.length<4611686018427387904) (hbw:Bw w0 W)
  (h:∀v' w' F',fSl e sz R w' (xs++ys) [v'] F'->sA w0.heap.size F'->Bw w0 w'->TB F W w'->(∀b∈F',b∈F\/b∈G\/W.heap.size<=b)->K (a.put o.dst v') w'):o.wp P a W K Q:=by
 have cz:=hw;obtain ⟨v0,us,Fs,cf,bj,bg,bf⟩:=hv;injection cf with cf;subst cf;obtain ⟨v1,vs,Gs,cg,bk,bc,bn⟩:=hw;injection cg with cg;subst cg;have hl:=qF bg;have cv:=qF bc;have cj:∀k,v.ownBlock=some k->w0.heap.size<=k:=fun k hk=>hF.ge k (by rw [bf];simp [hk])
 rcases bk.2 with ⟨rfl,dc⟩ | ⟨g,cq,cur,rfl,hb,hg,hnc,hcm,hcs,_⟩
 ·have db:ys=[]:=List.eq_nil_of_length_eq_zero dc;subst db;have bm:=JF (P:=P) W 0 t o.type e i sz ht hi v xs.length us.flatten bj 0;unfold Oper.wp execOp;simp only [ho,resolve,invoke,builtin,Sem.run_bind,Sem.run_pure,Result.andThen_ok,List.map_toArray,List.map_cons,List.map_nil,hs,hx];rw [bm];exact (h v W F (by rw [List.append_nil];exact ⟨v,us,Fs,rfl,bj,bg,bf⟩) hF hbw (TB.refl F W) (fun b hb=>.inl hb))
 ·have ck:∀u∈vs,u.length=sz:=fun u hu=>by obtain ⟨x,f,hr⟩:=bF bc hu;exact hr.2
  have cc:∀u∈vs.flatten,u.oneCell'=true:=fun u hu=>by
   obtain ⟨l,ct,cx⟩:=List.mem_flatten.1 hu;obtain ⟨x,f,hr⟩:=bF bc ct;exact hR.one hr.1 u cx
  have bs:∀j u,vs.flatten[j]? = some u->W.cell? ((⟨g,0,none⟩:Addr).add j)=some u:=fun j u hj=>bk.cells (g:=g) rfl j u hj
  obtain ⟨v',w',bm,bv,bb,_,bz⟩:=run_append_own_at (P:=P) W 0 t o.type e i z sz bytes ht hi hz hsize hby hzs hsz v xs.length us.flatten bj ⟨g,0,none⟩ ys.length cq vs.flatten (by rw [KF ck,cv.1]) bs cc
   (by simp only [maxLen];omega) hbytes (Nat.zero_le _)
  have cb:Bw w0 w':=hbw.grown bb cj;have cn:∀b,b∈Fs.flatten->some b≠v.ownBlock:=by
   intro b hb e;have hn:=hF.nodup;rw [bf,List.nodup_append] at hn;exact hn.2.2 b (by simp [<-e]) b hb rfl
  have bx:∀b∈Gs.flatten,w0.heap.size<=b:=fun b hb=>hG.ge b (by rw [bn];exact List.mem_append_right _ hb)
  have cs:∀b∈Fs.flatten,b∉Gs.flatten:=fun b hb hb2=>hdis b (by rw [bf];exact List.mem_append_right _ hb) (by rw [bn];exact List.mem_append_right _ hb2)
  have cp:∀b,b∈Gs.flatten->some b≠v.ownBlock:=by
   intro b hb e;exact hdis b (by rw [bf];simp [<-e]) (by rw [bn];exact List.mem_append_right _ hb)
  have bq:∀b∈Fs.flatten,b<W.heap.size:=fun b hb=>(CC hR).lt (⟨v,us,Fs,rfl,bj,bg,rfl⟩:fSl e sz R W xs [v] _) b (List.mem_append_right _ hb)
  have bp:∀b∈Gs.flatten,b<W.heap.size:=fun b hb=>(CC hR).lt cz b (by rw [bn];exact List.mem_append_right _ hb)
  have bt:∀b,b<w0.heap.size->w'.heap[b]? = W.heap[b]?:=fun b hb=>bb.block b (Nat.lt_of_lt_of_le hb hbw.size) (fun e=>by have:=cj b e.symm;omega)
  unfold Oper.wp execOp;simp only [ho,resolve,invoke,builtin,Sem.run_bind,Sem.run_pure,Result.andThen_ok,List.map_toArray,List.map_cons,List.map_nil,hs,hx,bm];refine (h v' w' (v'.ownBlock.toList++(Fs++Gs).flatten) ⟨v',us++vs,Fs++Gs,rfl,?_,?_,rfl⟩ ⟨?_,?_⟩ cb ⟨bb.size,fun b hb hn=>bb.block b hb (fun e=>hn (by rw [bf];simp [<-e]))⟩ ?_)
  ·rw [List.length_append,List.flatten_append];exact bv
  ·refine WG (bG (fun x u f' hf' hx=>⟨hR.step (fun b hb=>?_) hx.1,hx.2⟩) bg) (bG (fun x u f' hf' hx=>⟨hR.step (fun b hb=>?_) hx.1,hx.2⟩) bc)
   ·rcases hb with hb | hb
    ·have bd:b∈Fs.flatten:=List.mem_flatten.2 ⟨_,hf',hb⟩;exact bb.block b (bq b bd) (cn b bd)
    ·exact bt b hb
   ·rcases hb with hb | hb
    ·have bd:b∈Gs.flatten:=List.mem_flatten.2 ⟨_,hf',hb⟩;exact bb.block b (bp b bd) (cp b bd)
    ·exact bt b hb
  ·rw [List.flatten_append,List.nodup_append];have hn:=hF.nodup;rw [bf,List.nodup_append] at hn;have cm:=hG.nodup;rw [bn,List.nodup_append] at cm;refine ⟨by cases v'.ownBlock<;>simp,List.nodup_append.2 ⟨hn.2.1,cm.2.1,fun p hp q hq e=>?_⟩,fun p hp q hq e=>?_⟩
   ·exact cs p hp (e▸hq)
   ·subst e;have cd:v'.ownBlock=some p:=by simpa using hp
    rcases bz with e | e
    ·rcases List.mem_append.1 hq with hq | hq
     ·exact cn p hq (by rw [<-e,cd])
     ·exact cp p hq (by rw [<-e,cd])
    ·rw [cd] at e;injection e with e;rcases List.mem_append.1 hq with hq | hq
     ·have:=bq p hq;omega
     ·have:=bp p hq;omega
  ·intro b hb;rcases List.mem_append.1 hb with hb | hb
   ·have bd:v'.ownBlock=some b:=by simpa using hb
    rcases bz with e | e
    ·exact cj b (by rw [<-e,bd])
    ·rw [bd] at e;injection e with e;have:=hbw.size;omega
   ·rw [List.flatten_append] at hb;rcases List.mem_append.1 hb with hb | hb
    ·exact hF.ge b (by rw [bf];exact List.mem_append_right _ hb)
    ·exact bx b hb
  ·intro b hb;rcases List.mem_append.1 hb with hb | hb
   ·have bd:v'.ownBlock=some b:=by simpa using hb
    rcases bz with e | e
    ·exact .inl (by rw [bf];simp [<-e,bd])
    ·rw [bd] at e;injection e with e;exact .inr (.inr (by omega))
   ·rw [List.flatten_append] at hb;rcases List.mem_append.1 hb with hb | hb
    ·exact .inl (by rw [bf];exact List.mem_append_right _ hb)
    ·exact .inr (.inl (by rw [bn];exact List.mem_append_right _ hb))
theorem pY {α:Type} {P:Program} {o:Oper} {a:Act} {K:Act->World->Prop} {Q:Exit->Act->World->Prop} (W:World) (s x:Operand) (t:TypeId)
  (ho:o.op=.call { callee:=.builtin .append,args:=#[s,x],argTypes:=#[t,t] })
  (w0:World) (e:TypeId) (i:TypeInfo) (z:Value) (sz bytes:Nat) (ht:P.underlying t=some (.slice e)) (hi:P.info? e=some i) (hz:i.zero=some z)
  (hsize:i.size=sz) (hby:i.bytes=bytes) (hzs:z.cells.size=sz) (hsz:0<sz)
  {R:Fp α} (hR:tC w0.heap.size R) (v:Value) (xs:List α) (F:List Nat) (hs:a.eval s=v) (hv:fSl e sz R W xs [v] F) (hF:sA w0.heap.size F)
  (sv:Value) (hx:a.eval x=sv) (ys:List α) (G:List Nat) (hw:fSl e sz R W ys [sv] G) (m:Nat) (hFm:∀b∈F,b<m) (hG:sA m G) (hm:w0.heap.size<=m)
  (hbytes:(xs.length+ys.length)*bytes<=140737488355328) (hlen:xs.length+ys.length<4611686018427387904) (hbw:Bw w0 W)
  (h:∀v' w' F',fSl e sz R w' (xs++ys) [v'] F'->sA w0.heap.size F'->Bw w0 w'->TB F W w'->(∀b∈F',b∈F\/b∈G\/W.heap.size<=b)->K (a.put o.dst v') w'):o.wp P a W K Q:=
 RW W s x t ho w0 e i z sz bytes ht hi hz hsize hby hzs hsz hR v xs F hs hv hF sv hx ys G hw (fun b h1 h2=>Nat.not_le.2 (hFm b h1) (hG.ge b h2)) (hG.mono hm) hbytes hlen hbw h
theorem QF {α:Type} {P:Program} {ops:Array Oper} {rest:List Oper} {o:Oper} {a:Act} {Q:Exit->Act->World->Prop} (W:World) (hgd:o.guard=none) (s x:Operand) (t:TypeId)
  (ho:o.op=.call { callee:=.builtin .append,args:=#[s,x],argTypes:=#[t,t] })
  (w0:World) (e:TypeId) (i:TypeInfo) (z:Value) (sz bytes:Nat) (ht:P.underlying t=some (.slice e)) (hi:P.info? e=some i) (hz:i.zero=some z)
  (hsize:i.size=sz) (hby:i.bytes=bytes) (hzs:z.cells.size=sz) (hsz:0<sz)
  {R:Fp α} (hR:tC w0.heap.size R) (v:Value) (xs:List α) (F:List Nat) (hs:a.eval s=v) (hv:fSl e sz R W xs [v] F) (hF:sA w0.heap.size F)
  (sv:Value) (hx:a.eval x=sv) (ys:List α) (G:List Nat) (hw:fSl e sz R W ys [sv] G) (m:Nat) (hFm:∀b∈F,b<m) (hG:sA m G) (hm:w0.heap.size<=m)
  (hbytes:(xs.length+ys.length)*bytes<=140737488355328) (hlen:xs.length+ys.length<4611686018427387904) (hbw:Bw w0 W)
  (h:∀v' w' F',fSl e sz R w' (xs++ys) [v'] F'->sA w0.heap.size F'->Bw w0 w'->TB F W w'->(∀b∈F',b∈F\/b∈G\/W.heap.size<=b)->wpList P ops Q rest (a.put o.dst v') w'):wpList P ops Q (o::rest) a W:=
 wpList_plain hgd fun _ hK=>pY W s x t ho w0 e i z sz bytes ht hi hz hsize hby hzs hsz hR v xs F hs hv hF sv hx ys G hw m hFm hG hm hbytes hlen hbw fun v' w' F' h1 h2 h3 h4 h5=>hK _ _ (h v' w' F' h1 h2 h3 h4 h5)
abbrev zL:Fp (List (List Int)):=fSl 26 1 WA
theorem YC {B:Nat}:tC B zL:=CC aA
theorem OZ {B:Nat} {w:World} {xs:List (List Int)} {cs:List Value} {F:List Nat} (h:zL w xs cs F):aA8 w (fun b=>b∈F\/b<B) xs cs:=sK dA (fun _ _ _ h=>ZM h) h
theorem GO {w:World} {xs:List (List Int)} {cs:List Value} {F:List Nat} (h:zL w xs cs F):Rd aA8 w xs cs:=Rd.of bAu (B:=0) (OZ h) ((YC (B:=0)).lt h) (Nat.zero_le _)
end Go.Proofs.YtpihighajaeabaaGreat
