/- Items: the laws' helpers, copies, tests, look-ups. -/
import Derived.WalkKit
import Derived.ProofKit
import Derived.Below
import Derived.Lib.Hide
import Derived.Deep.QuietTactic
import Derived.BigQuiet
import Derived.Outline
import Derived.Deep.LoopGhost
import Derived.WalkSpells
import Derived.WalkLawsBesides
import Derived.Deep.RegionHeld3
import Derived.StillTailTactics
import Derived.Deep.OwnRows
import Derived.Deep.AppendLies
import Derived.Maps.AppendAt
import Derived.Test.YtpihighajaeabaaGreatProg
namespace Go.Proofs.YtpihighajaeabaaGreat
open Go.RowKit Go.Proofs.Tryz
set_option linter.all false
set_option maxRecDepth 100000
set_option maxHeartbeats 16000000
def Bw (w w':World):Prop:=Below w.heap.size w w'
theorem Bw.refl (w:World):Bw w w:=Below.refl _ _
theorem Bw.size {w w':World} (h:Bw w w'):w.heap.size<=w'.heap.size:=Below.size h
theorem Bw.then {a b c:World} (h:Bw a b) (k:Bw b c):Bw a c:=Below.trans h (Below.mono k h.size)
theorem Bw.alloc {a w:World} (h:Bw a w) (o:Obj):Bw a (w.alloc o):=Below.alloc h h.size o
theorem Bw.drew {a w:World} (h:Bw a w):Bw a w.drew:=Below.drew h
theorem Bw.drewN {a w:World} (h:Bw a w) (n:Nat):Bw a (w.drewN n):=have k:Below a.heap.size a w:=h;⟨k.os,k.tape,k.output,k.size,k.block⟩
theorem Bw.set {a w:World} (h:Bw a w) {p:Addr} (hp:a.heap.size<=p.block) (u:Value):Bw a (w.setCell p u):=Below.setCell h hp u
theorem Bw.grown {a w w':World} (h:Bw a w) {row:Option Nat} (hg:w.grownBy w' row) (hr:∀k,row=some k->a.heap.size<=k):Bw a w':=Below.grown h hg h.size hr
theorem Bw.cell {a w:World} (h:Bw a w) {p:Addr} {u:Value} (hc:a.cell? p=some u):w.cell? p=some u:=(Below.cell h (World.block_lt_of_cell? a p hc)).trans hc
def Ret (w:World) (v:Value) (e:Ending) (w':World):Prop:=e=.returned v/\Bw w w'
theorem Ret.int {w w':World} {k:IntKind} {a b:Int} (h:a=b) (hb:Bw w w'):Ret w (.int k b) (.returned (.int k a)) w':=⟨by rw [h],hb⟩
theorem Ret.bool {w w':World} {a b:Bool} (h:a=b) (hb:Bw w w'):Ret w (.bool b) (.returned (.bool a)) w':=⟨by rw [h],hb⟩
theorem Ret.str {w w':World} {a b:ByteArray} (h:a=b) (hb:Bw w w'):Ret w (.string b) (.returned (.string a)) w':=⟨by rw [h],hb⟩
def WB (w:World) (R:World->Value->Prop) (e:Ending) (w':World):Prop:=∃v,e=.returned v/\R w' v/\Bw w w'
abbrev JC:=Nat->Prop
abbrev Rep (α:Type):=World->JC->α->List Value->Prop
abbrev lt (w:World):JC:=fun b=>b<w.heap.size
structure BQ (S S':JC) (w w':World):Prop where
 sub:∀b,S b->S' b
 cell:∀p:Addr,S p.block->w'.cell? p=w.cell? p
structure rK {α:Type} (R:Rep α):Prop where
 step:∀ {w w':World} {S S':JC} {x:α} {cs:List Value},BQ S S' w w'->R w S x cs->R w' S' x cs
theorem BQ.bw {w w':World} (h:Bw w w'):BQ (lt w) (lt w') w w':=⟨fun _ hb=>Nat.lt_of_lt_of_le hb h.size,fun _ hp=>Below.cell h hp⟩
def Rd {α:Type} (R:Rep α) (w:World) (x:α) (cs:List Value):Prop:=R w (lt w) x cs
theorem Rd.bw {α:Type} {R:Rep α} (hR:rK R) {w w':World} {x:α} {cs:List Value} (h:Rd R w x cs) (hb:Bw w w'):Rd R w' x cs:=hR.step (BQ.bw hb) h
def mAv:Rep Int:=fun _ _ n cs=>cs=[.int .i64 n]
def oA6:Rep ByteArray:=fun _ _ s cs=>cs=[.string s]
theorem IY:rK mAv:=⟨fun _ h=>h⟩
theorem JY:rK oA6:=⟨fun _ h=>h⟩
def rSl {α:Type} (sz:Nat) (R:Rep α):Rep (List α):=fun w S xs cs=>
 ∃A c,cs=[.slice A xs.length c]/\xs.length<=c/\c<=maxLen /\
  ∀k x,xs[k]? = some x->∃b o us,A=some ⟨b,o,none⟩/\S b/\us.length=sz/\(∀j u,us[j]? = some u->w.cell? ⟨b,o+k*sz+j,none⟩=some u)/\R w S x us
theorem oAj (a:Addr) (n:Nat):(a.add n).block=a.block:=by unfold Addr.add;split<;>rfl
theorem pA1 (a:Addr) (i j:Nat):(a.add i).add j=a.add (i+j):=by
 unfold Addr.add;by_cases hi:i=0<;>by_cases hj:j=0<;>simp [hi,hj,Nat.add_assoc]
theorem TG {α:Type} {sz:Nat} {R:Rep α} (hR:rK R):rK (rSl sz R):=by
 refine ⟨fun {w w' S S' xs cs} hA ⟨A,c,hcs,hl,hm,hk⟩=>⟨A,c,hcs,hl,hm,fun k x hx=>?_⟩⟩;obtain ⟨b,o,us,e,hS,hlen,hc,hr⟩:=hk k x hx;exact ⟨b,o,us,e,hA.sub _ hS,hlen,fun j u hu=>(hA.cell _ hS).trans (hc j u hu),hR.step hA hr⟩
theorem CQ {α:Type} {sz:Nat} {R:Rep α} {w:World} {S:JC}:rSl sz R w S [] [.slice none 0 0]:=
 ⟨none,0,rfl,Nat.le_refl _,by simp [maxLen],fun k x hx=>by simp at hx⟩
structure iA where
 id:Int
 vals:List Int
structure EB where
 fst:Int
 snd:Int
structure AB where
 kind:Int
 field:Int
 value:Int
 list:List Int
 pairs:List EB
structure mA where
 op:Int
 wish:AB
structure zA where
 items:List iA
 wanted:List mA
 best:List Int
 tests:Int
structure YL where
 rule:Int
 pos:Int
 after:List mA
theorem iA.eq_iff (a b:iA):a=b↔a.id=b.id/\a.vals=b.vals:=by cases a;cases b;simp
theorem EB.eq_iff (a b:EB):a=b↔a.fst=b.fst/\a.snd=b.snd:=by cases a;cases b;simp
instance:DecidableEq iA:=fun a b=>decidable_of_iff _ (iA.eq_iff a b).symm
instance:DecidableEq EB:=fun a b=>decidable_of_iff _ (EB.eq_iff a b).symm
theorem AB.eq_iff (a b:AB):a=b↔a.kind=b.kind/\a.field=b.field/\a.value=b.value/\a.list=b.list/\a.pairs=b.pairs:=by cases a;cases b;simp
instance:DecidableEq AB:=fun a b=>decidable_of_iff _ (AB.eq_iff a b).symm
theorem mA.eq_iff (a b:mA):a=b↔a.op=b.op/\a.wish=b.wish:=by cases a;cases b;simp
instance:DecidableEq mA:=fun a b=>decidable_of_iff _ (mA.eq_iff a b).symm
theorem zA.eq_iff (a b:zA):a=b↔a.items=b.items/\a.wanted=b.wanted/\a.best=b.best/\a.tests=b.tests:=by cases a;cases b;simp
instance:DecidableEq zA:=fun a b=>decidable_of_iff _ (zA.eq_iff a b).symm
theorem YL.eq_iff (a b:YL):a=b↔a.rule=b.rule/\a.pos=b.pos/\a.after=b.after:=by cases a;cases b;simp
instance:DecidableEq YL:=fun a b=>decidable_of_iff _ (YL.eq_iff a b).symm
def aB:Rep (List Int):=rSl 1 mAv
def kAk:Rep EB:=fun _ _ p cs=>cs=[.int .i64 p.fst,.int .i64 p.snd]
def MC:Rep (List EB):=rSl 2 kAk
def XM:Rep iA:=fun w S x cs=>∃v,cs=[.int .i64 x.id,v]/\aB w S x.vals [v]
def LA:Rep (List iA):=rSl 2 XM
def kAl:Rep AB:=fun w S x cs=>∃v u,cs=[.int .i64 x.kind,.int .i64 x.field,.int .i64 x.value,v,u]/\aB w S x.list [v]/\MC w S x.pairs [u]
def OM:Rep mA:=fun w S x cs=>∃us,cs=.int .i64 x.op::us/\kAl w S x.wish us
def OA:Rep (List mA):=rSl 6 OM
def aA8:Rep (List (List Int)):=rSl 1 aB
def kC:Rep (List (List mA)):=rSl 1 OA
def DT:Rep (List ByteArray):=rSl 1 oA6
theorem dA:rK aB:=TG IY
theorem iV:rK kAk:=⟨fun _ h=>h⟩
theorem RA:rK MC:=TG iV
theorem qG:rK XM:=⟨fun hA ⟨v,e,h⟩=>⟨v,e,dA.step hA h⟩⟩
theorem gA:rK LA:=TG qG
theorem fAd:rK kAl:=⟨fun hA ⟨v,u,e,h,k⟩=>⟨v,u,e,dA.step hA h,RA.step hA k⟩⟩
theorem SD:rK OM:=⟨fun hA ⟨us,e,h⟩=>⟨us,e,fAd.step hA h⟩⟩
theorem jA:rK OA:=TG SD
theorem bAu:rK aA8:=TG dA
theorem xB:rK kC:=TG jA
theorem pF:rK DT:=TG JY
section
variable {w:World} {S:JC} {A:Option Addr} {n c k:Nat}
theorem XA {α:Type} {sz:Nat} {R:Rep α} {xs:List α} {v:Value} (h:rSl sz R w S xs [v]):∃A c,v=.slice A xs.length c/\xs.length<=c/\c<=maxLen:=by
 obtain ⟨A,c,e,h1,h2,_⟩:=h;injection e with e;exact ⟨A,c,e,h1,h2⟩
theorem qA {α:Type} {sz:Nat} {R:Rep α} {xs:List α} {v:Value} (h:rSl sz R w S xs [v]):∃A n c,v=.slice A n c/\n=xs.length/\n<=c/\c<=maxLen:=by
 obtain ⟨A,c,e,h1,h2,_⟩:=h;injection e with e;exact ⟨A,_,c,e,rfl,h1,h2⟩
theorem ZL {α:Type} {sz:Nat} {R:Rep α} {xs:List α} (h:rSl sz R w S xs [.slice A n c]):n=xs.length/\n<=c/\c<=maxLen:=by
 obtain ⟨A',c',e,h1,h2,_⟩:=h;injection e with e;injection e with e1 e2 e3;subst e1 e2 e3;exact ⟨rfl,h1,h2⟩
theorem YM {α:Type} {sz:Nat} {R:Rep α} {xs:List α} (h:rSl sz R w S xs [.slice A n c]) {x:α} (hx:xs[k]? = some x) :
  ∃b o us,A=some ⟨b,o,none⟩/\S b/\us.length=sz/\(∀j u,us[j]? = some u->w.cell? ⟨b,o+k*sz+j,none⟩=some u)/\R w S x us:=by
 obtain ⟨A',c',e,h1,h2,h3⟩:=h;injection e with e;injection e with e1 e2 e3;subst e1 e2 e3;exact h3 k x hx
theorem KB {xs:List Int} (h:aB w S xs [.slice A n c]) {x:Int} (hx:xs[k]? = some x):∃b o,A=some ⟨b,o,none⟩/\S b/\w.cell? ⟨b,o+k,none⟩=some (.int .i64 x):=by
 obtain ⟨b,o,us,e,hS,_,hc,rfl⟩:=YM h hx;exact ⟨b,o,e,hS,by simpa using hc 0 _ rfl⟩
theorem BC {xs:List ByteArray} (h:DT w S xs [.slice A n c]) {x:ByteArray} (hx:xs[k]? = some x):∃b o,A=some ⟨b,o,none⟩/\S b/\w.cell? ⟨b,o+k,none⟩=some (.string x):=by
 obtain ⟨b,o,us,e,hS,_,hc,rfl⟩:=YM h hx;exact ⟨b,o,e,hS,by simpa using hc 0 _ rfl⟩
theorem FG {xs:List EB} (h:MC w S xs [.slice A n c]) {x:EB} (hx:xs[k]? = some x):∃b o,A=some ⟨b,o,none⟩/\S b /\
  w.cell? ⟨b,o+k*2,none⟩=some (.int .i64 x.fst)/\w.cell? ⟨b,o+k*2+1,none⟩=some (.int .i64 x.snd):=by
 obtain ⟨b,o,us,e,hS,_,hc,rfl⟩:=YM h hx;exact ⟨b,o,e,hS,hc 0 _ rfl,hc 1 _ rfl⟩
theorem qB {xs:List iA} (h:LA w S xs [.slice A n c]) {x:iA} (hx:xs[k]? = some x):∃b o A' c',A=some ⟨b,o,none⟩/\S b /\
  w.cell? ⟨b,o+k*2,none⟩=some (.int .i64 x.id)/\w.cell? ⟨b,o+k*2+1,none⟩=some (.slice A' x.vals.length c')/\aB w S x.vals [.slice A' x.vals.length c']:=by
 obtain ⟨b,o,us,e,hS,_,hc,v,rfl,hv⟩:=YM h hx;obtain ⟨A',c',rfl,_⟩:=XA hv;exact ⟨b,o,A',c',e,hS,hc 0 _ rfl,hc 1 _ rfl,hv⟩
theorem rS {xs:List (List Int)} (h:aA8 w S xs [.slice A n c]) {x:List Int} (hx:xs[k]? = some x):∃b o A' c',A=some ⟨b,o,none⟩/\S b /\
  w.cell? ⟨b,o+k,none⟩=some (.slice A' x.length c')/\aB w S x [.slice A' x.length c']:=by
 obtain ⟨b,o,us,e,hS,_,hc,hv⟩:=YM h hx;obtain ⟨A',c',e',_⟩:=hv;subst e';exact ⟨b,o,A',c',e,hS,by simpa using hc 0 _ rfl,⟨A',c',rfl,by assumption⟩⟩
end
def eC (w:World):Type:={ w':World // Bw w w' }
instance (w:World):Nonempty (eC w):=⟨⟨w,Bw.refl w⟩⟩
theorem eC.bw {w:World} (s:eC w):Bw w s.1:=s.2
theorem xU {P:Program} {id:Nat} {Q:Exit->Act->World->Prop} {a:Act} {w:World} {l:List Oper} (hm:P.follows .mixedOrders=true) (hB:Region.lexB .any l.toArray=true)
  (h:wpQuiet P l.toArray (fun w'=>∃s:eC w,w'=s.1) (fun a'=>∀s:eC w,Q .normal a' s.1) l a):(Code.region id l.toArray true).wp P Q a w:=by
 refine wp_region_quiet (C:=fun w'=>∃s:eC w,w'=s.1) hm hB ⟨⟨w.drewN 1,(Bw.refl w).drewN 1⟩,rfl⟩ ?_;have e:(fun a'=>∀w',(∃s:eC w,w'=s.1)->Q .normal a' w')=(fun a'=>∀s:eC w,Q .normal a' s.1):=by
  funext a'
  exact propext ⟨fun h s=>h _ ⟨s,rfl⟩,fun h w' ⟨s,e⟩=>e▸h s⟩
 rw [e]
 simpa using h
theorem DA {P:Program} {f:FuncId} {args:Array Value} {w:World} {s:eC w} {v:Value} (h:Calls P f args s.1 (Ret s.1 v)) :
  Calls P f args s.1 fun e w''=>e=.returned v/\∃t:eC w,w''=t.1:=
 h.mono fun _ w' h=>⟨h.1,⟨w',s.2.then h.2⟩,rfl⟩
theorem pA {w:World} {p:Addr} {u:Value} (h:w.cell? p=some u):∀s:eC w,s.1.cell? p=some u:=fun s=>s.2.cell h
theorem pA6 {p:Prop} (h:p):Hid p:=Lib.hid h
theorem pA7 {α:Type} (a:α):∃x,x=a:=⟨a,rfl⟩
theorem pA8 (b:Bool):b=true\/b=false:=Bool.eq_false_or_eq_true b
theorem yA {α:Type} {sz:Nat} {R:Rep α} {w:World} {S:JC} {xs:List α} {v:Value} (h:rSl sz R w S xs [v]):∃A n c,v=.slice A n c/\Hid (n=xs.length)/\n<=c/\c<=2 ^ 63-1:=qA h
def C2 (W:World) (b:Nat) (v0 v1:Value):Prop:=W.cell? ⟨b,0,none⟩=some v0/\W.cell? ⟨b,1,none⟩=some v1
theorem Bw.c2 {a W:World} {b:Nat} {v0 v1:Value} (h:Bw a W) (k:C2 a b v0 v1):C2 W b v0 v1:=have ⟨k0,k1⟩:=k;⟨h.cell k0,h.cell k1⟩
def C3 (W:World) (b:Nat) (v0 v1 v2:Value):Prop:=W.cell? ⟨b,0,none⟩=some v0/\W.cell? ⟨b,1,none⟩=some v1/\W.cell? ⟨b,2,none⟩=some v2
theorem Bw.c3 {a W:World} {b:Nat} {v0 v1 v2:Value} (h:Bw a W) (k:C3 a b v0 v1 v2):C3 W b v0 v1 v2:=have ⟨k0,k1,k2⟩:=k;⟨h.cell k0,h.cell k1,h.cell k2⟩
def C4 (W:World) (b:Nat) (v0 v1 v2 v3:Value):Prop:=W.cell? ⟨b,0,none⟩=some v0/\W.cell? ⟨b,1,none⟩=some v1/\W.cell? ⟨b,2,none⟩=some v2/\W.cell? ⟨b,3,none⟩=some v3
theorem Bw.c4 {a W:World} {b:Nat} {v0 v1 v2 v3:Value} (h:Bw a W) (k:C4 a b v0 v1 v2 v3):C4 W b v0 v1 v2 v3:=have ⟨k0,k1,k2,k3⟩:=k;⟨h.cell k0,h.cell k1,h.cell k2,h.cell k3⟩
def C5 (W:World) (b:Nat) (v0 v1 v2 v3 v4:Value):Prop:=W.cell? ⟨b,0,none⟩=some v0/\W.cell? ⟨b,1,none⟩=some v1/\W.cell? ⟨b,2,none⟩=some v2/\W.cell? ⟨b,3,none⟩=some v3/\W.cell? ⟨b,4,none⟩=some v4
theorem Bw.c5 {a W:World} {b:Nat} {v0 v1 v2 v3 v4:Value} (h:Bw a W) (k:C5 a b v0 v1 v2 v3 v4):C5 W b v0 v1 v2 v3 v4:=have ⟨k0,k1,k2,k3,k4⟩:=k;⟨h.cell k0,h.cell k1,h.cell k2,h.cell k3,h.cell k4⟩
def C6 (W:World) (b:Nat) (v0 v1 v2 v3 v4 v5:Value):Prop:=W.cell? ⟨b,0,none⟩=some v0/\W.cell? ⟨b,1,none⟩=some v1/\W.cell? ⟨b,2,none⟩=some v2/\W.cell? ⟨b,3,none⟩=some v3/\W.cell? ⟨b,4,none⟩=some v4/\W.cell? ⟨b,5,none⟩=some v5
theorem Bw.c6 {a W:World} {b:Nat} {v0 v1 v2 v3 v4 v5:Value} (h:Bw a W) (k:C6 a b v0 v1 v2 v3 v4 v5):C6 W b v0 v1 v2 v3 v4 v5:=have ⟨k0,k1,k2,k3,k4,k5⟩:=k;⟨h.cell k0,h.cell k1,h.cell k2,h.cell k3,h.cell k4,h.cell k5⟩
theorem IA {P:Program} {id:Nat} {Q:Exit->Act->World->Prop} {a:Act} {w:World} {l:List Oper} (hB:(P.follows .mixedOrders && Region.lexB .any l.toArray)=true)
  (h:wpQuiet P l.toArray (fun w'=>∃s:eC w,w'=s.1) (fun a'=>∀s:eC w,Q .normal a' s.1) l a):(Code.region id l.toArray true).wp P Q a w:=
 xU ((Bool.and_eq_true _ _).mp hB).1 ((Bool.and_eq_true _ _).mp hB).2 h
theorem JA {P:Program} {ops:Array Oper} {C:World->Prop} {w:World} {Q:Exit->Act->World->Prop} {a:Act} (h:∀wq,Bw w wq->Q .normal a wq):wpQuiet P ops C (fun a'=>∀s:eC w,Q .normal a' s.1) [] a:=wpQuiet_nil fun s=>h s.1 s.2
theorem RC {P:Program} {md:Region.Mode} {ops:Array Oper} {Q:Exit->Act->World->Prop} {S:World->Prop} (i:Nat) {oi:Oper} {v:Value} {fuel:Nat} {listed:Array Bool} {a:Act} {w:World} (hi:ops[i]? = some oi)
  (hk:(Region.noSelect ops && Region.free md ops listed i && (Region.ready md ops listed).contains i)=true) (hw:Region.wanted oi (yielded ops a.tmps)=true) (hS:S w)
  (hQ:∀c a w,Q (.panic c) (a.put oi.dst v) w->Q (.panic c) a w) (hy:∀w,S w->(execOp a.eval oi).run P w=.ok (.value v) w)
  (h:wpAnyH P md ops Q S fuel (listed.setIfInBounds i true) (a.put oi.dst v) w):wpAnyH P md ops Q S (fuel+1) listed a w:=
 have h1:=(Bool.and_eq_true _ _).mp hk;have h2:=(Bool.and_eq_true _ _).mp h1.1
 wpAnyH_take hi h2.1 h2.2 h1.2 hQ (Or.inl ⟨hw,hy⟩) hS h
theorem aE:(∀(a:Act) (d:Tmp) (v:Value),a.put (some d) v = { a with tmps:=a.tmps.setIfInBounds d v })/\(∀(a:Act) (v:Value),a.put none v=a)/\(∀(α:Type) (l:List α) (i:Nat) (h:i<l.toArray.size),l.toArray[i]=l[i])/\(∀(α:Type) (a:α) (l:List α) (h:0<(a::l).length),(a::l)[0]=a)/\(∀(α:Type) (a:α) (l:List α) (i:Nat) (h:i+1<(a::l).length),(a::l)[i+1]=l[i]'(Nat.lt_of_succ_lt_succ h)) /\
  (∀(α:Type) (l:List α) (i:Nat) (a:α),l.toArray.setIfInBounds i a=(l.set i a).toArray)/\(∀(α:Type) (x:α) (l:List α) (b:α),(x::l).set 0 b=b::l)/\(∀(α:Type) (x:α) (l:List α) (b:α) (n:Nat),(x::l).set (n+1) b=x::l.set n b):=
 ⟨fun _ _ _=>rfl,fun _ _=>rfl,fun _ _ _ _=>rfl,fun _ _ _ _=>rfl,fun _ _ _ _ _=>rfl,fun _ _ _ _=>by simp,fun _ _ _ _=>rfl,fun _ _ _ _ _=>rfl⟩
abbrev Fp (α:Type):=World->α->List Value->List Nat->Prop
structure tC {α:Type} (B:Nat) (R:Fp α):Prop where
 step:∀ {w w':World} {x:α} {cs:List Value} {F:List Nat},(∀b,b∈F\/b<B->w'.heap[b]? = w.heap[b]?)->R w x cs F->R w' x cs F
 lt:∀ {w:World} {x:α} {cs:List Value} {F:List Nat},R w x cs F->∀b∈F,b<w.heap.size
 one:∀ {w:World} {x:α} {cs:List Value} {F:List Nat},R w x cs F->∀u∈cs,u.oneCell'=true
structure sA (B:Nat) (F:List Nat):Prop where
 nodup:F.Nodup
 ge:∀b∈F,B<=b
theorem sA.nil {B:Nat}:sA B []:=⟨List.nodup_nil,fun _ h=>by simp at h⟩
theorem sA.mono {B B':Nat} {F:List Nat} (h:sA B F) (hB:B'<=B):sA B' F:=⟨h.nodup,fun b hb=>Nat.le_trans hB (h.ge b hb)⟩
def IH {α:Type} (R:α->List Value->List Nat->Prop):List α->List (List Value)->List (List Nat)->Prop
 | [],[],[]=>True
 | x::xs,u::us,f::fs=>R x u f/\IH R xs us fs
 | _,_,_=>False
section
variable {α:Type} {R R':α->List Value->List Nat->Prop}
theorem qF:∀ {xs:List α} {us:List (List Value)} {fs:List (List Nat)},IH R xs us fs->us.length=xs.length/\fs.length=xs.length
 | [],[],[],_=>⟨rfl,rfl⟩
 | _::xs,_::us,_::fs,h=>by have:=qF (xs:=xs) h.2;simp [this]
 | [],_::_,_,h | [],[],_::_,h | _::_,[],_,h | _::_,_::_,[],h=>h.elim
theorem sS {x:α} {u:List Value} {f:List Nat} (hx:R x u f):∀ {xs:List α} {us:List (List Value)} {fs:List (List Nat)},IH R xs us fs->IH R (xs++[x]) (us++[u]) (fs++[f])
 | [],[],[],_=>⟨hx,trivial⟩
 | _::xs,_::us,_::fs,h=>⟨h.1,sS hx (xs:=xs) h.2⟩
 | [],_::_,_,h | [],[],_::_,h | _::_,[],_,h | _::_,_::_,[],h=>h.elim
theorem bG:∀ {xs:List α} {us:List (List Value)} {fs:List (List Nat)},(∀x u f,f∈fs->R x u f->R' x u f)->IH R xs us fs->IH R' xs us fs
 | [],[],[],_,_=>trivial
 | _::xs,_::us,_::fs,hi,h=>⟨hi _ _ _ (by simp) h.1,bG (xs:=xs) (fun x u f hf=>hi x u f (by simp [hf])) h.2⟩
 | [],_::_,_,_,h | [],[],_::_,_,h | _::_,[],_,_,h | _::_,_::_,[],_,h=>h.elim
theorem QU:∀ {xs:List α} {us:List (List Value)} {fs:List (List Nat)} {k:Nat} {x:α},IH R xs us fs->xs[k]? = some x->∃u f,us[k]? = some u/\fs[k]? = some f/\R x u f
 | _::xs,u::us,f::fs,0,_,h,e=>by simp at e;subst e;exact ⟨u,f,rfl,rfl,h.1⟩
 | _::xs,_::us,_::fs,k+1,_,h,e=>by simpa using QU (xs:=xs) h.2 (by simpa using e)
 | [],[],[],_,_,_,e=>by simp at e
 | [],_::_,_,_,_,h,_ | [],[],_::_,_,_,h,_ | _::_,[],_,_,_,h,_ | _::_,_::_,[],_,_,h,_=>h.elim
theorem bAv:∀ {xs:List α} {us:List (List Value)} {fs:List (List Nat)} {k:Nat} {x:α} {u:List Value} {f:List Nat},IH R xs us fs->R x u f->IH R (xs.set k x) (us.set k u) (fs.set k f)
 | [],[],[],_,_,_,_,_,_=>trivial
 | _::_,_::_,_::_,0,_,_,_,h,hx=>⟨hx,h.2⟩
 | _::xs,_::us,_::fs,k+1,_,_,_,h,hx=>⟨h.1,bAv (xs:=xs) h.2 hx⟩
 | [],_::_,_,_,_,_,_,h,_ | [],[],_::_,_,_,_,_,h,_ | _::_,[],_,_,_,_,_,h,_ | _::_,_::_,[],_,_,_,_,h,_=>h.elim
theorem bF:∀ {xs:List α} {us:List (List Value)} {fs:List (List Nat)} {u:List Value},IH R xs us fs->u∈us->∃x f,R x u f
 | _::xs,_::us,_::fs,u,h,hm=>by
  rcases List.mem_cons.1 hm with rfl | hm
  ·exact ⟨_,_,h.1⟩
  ·exact bF (xs:=xs) h.2 hm
 | [],[],[],_,_,hm=>by simp at hm
 | [],_::_,_,_,h,_ | [],[],_::_,_,h,_ | _::_,[],_,_,h,_ | _::_,_::_,[],_,h,_=>h.elim
end
theorem UG {sz:Nat}:∀ {us:List (List Value)} {k j:Nat} {u:List Value},(∀u∈us,u.length=sz)->us[k]? = some u->j<sz->us.flatten[k*sz+j]? = u[j]?
 | v::us,0,j,u,hl,e,hj=>by
  simp at e;subst e;rw [List.flatten_cons,Nat.zero_mul,Nat.zero_add,List.getElem?_append_left (by rw [hl v (by simp)];exact hj)]
 | v::us,k+1,j,u,hl,e,hj=>by
  have hv:=hl v (by simp);have ih:=UG (us:=us) (k:=k) (j:=j) (u:=u) (fun u hu=>hl u (by simp [hu])) (by simpa using e) hj;rw [List.flatten_cons,List.getElem?_append_right (by rw [hv,Nat.succ_mul];omega),<-ih]
  congr 1
  rw [hv,Nat.succ_mul];omega
def fSl {α:Type} (e:TypeId) (sz:Nat) (R:Fp α):Fp (List α):=fun w xs cs F=>
 ∃v us Fs,cs=[v]/\w.ownsRow 0 e sz v xs.length us.flatten/\IH (fun x u f=>R w x u f/\u.length=sz) xs us Fs/\F=v.ownBlock.toList++Fs.flatten
def fSh {α:Type} (B:Nat) (R:Rep α):Fp α:=fun w x cs F=>F=[]/\R w (fun b=>b<B) x cs/\∀u∈cs,u.oneCell'=true
def IF:Fp Int:=fun _ n cs F=>cs=[.int .i64 n]/\F=[]
def RX:Fp ByteArray:=fun _ s cs F=>cs=[.string s]/\F=[]
def ET:Fp EB:=fun _ p cs F=>cs=[.int .i64 p.fst,.int .i64 p.snd]/\F=[]
theorem YA {B:Nat}:tC B IF:=⟨fun _ h=>h,fun h b hb=>by rw [h.2] at hb;simp at hb,fun h u hu=>by rw [h.1] at hu;simp at hu;rw [hu];rfl⟩
theorem JE {B:Nat}:tC B RX:=⟨fun _ h=>h,fun h b hb=>by rw [h.2] at hb;simp at hb,fun h u hu=>by rw [h.1] at hu;simp at hu;rw [hu];rfl⟩
theorem SF {B:Nat}:tC B ET:=⟨fun _ h=>h,fun h b hb=>by rw [h.2] at hb;simp at hb,fun h u hu=>by rw [h.1] at hu;simp at hu;rcases hu with rfl | rfl<;>rfl⟩
theorem VG {α:Type} {B B':Nat} {R:Rep α} (hR:rK R) (hB:B'<=B):tC B (fSh B' R):=
 ⟨fun hw ⟨hF,h,h1⟩=>⟨hF,hR.step ⟨fun _ hb=>hb,fun p hp=>World.cell?_of_block (hw _ (.inr (by have:p.block<B':=hp;omega)))⟩ h,h1⟩,fun h b hb=>by rw [h.1] at hb;simp at hb,fun h=>h.2.2⟩
theorem tC.mono {α:Type} {B B':Nat} {R:Fp α} (h:tC B R) (hB:B<=B'):tC B' R:=
 ⟨fun hw hr=>h.step (fun b hb=>hw b (hb.imp id fun h=>by omega)) hr,h.lt,h.one⟩
theorem aA9 {w w':World} {base:Nat} {e:TypeId} {sz:Nat} {v:Value} {n:Nat} {xs:List Value} (h:w.ownsRow base e sz v n xs) (hw:∀b,v.ownBlock=some b->w'.heap[b]? = w.heap[b]?):w'.ownsRow base e sz v n xs:=by
 refine ⟨h.1,?_⟩;rcases h.2 with h' | ⟨g,cap,cur,rfl,hb,hg,rest⟩
 ·exact .inl h'
 ·exact .inr ⟨g,cap,cur,rfl,hb,by rw [hw g rfl];exact hg,rest⟩
theorem bAw {w:World} {base:Nat} {e:TypeId} {sz:Nat} {v:Value} {n:Nat} {xs:List Value} (h:w.ownsRow base e sz v n xs):v.oneCell'=true:=by
 rcases h.2 with ⟨rfl,_⟩ | ⟨g,cap,cur,rfl,_⟩<;>rfl
theorem CC {α:Type} {B:Nat} {e:TypeId} {sz:Nat} {R:Fp α} (hR:tC B R):tC B (fSl e sz R):=by
 refine ⟨?_,?_,?_⟩
 ·rintro w w' xs cs F hw ⟨v,us,Fs,rfl,bc,bb,rfl⟩;refine ⟨v,us,Fs,rfl,aA9 bc (fun b hb=>hw b (.inl (by simp [hb]))),bG (fun x u f hf hx=>⟨hR.step (fun b hb=>hw b ?_) hx.1,hx.2⟩) bb,rfl⟩;rcases hb with hb | hb
  ·exact .inl (List.mem_append_right _ (List.mem_flatten.2 ⟨f,hf,hb⟩))
  ·exact .inr hb
 ·rintro w xs cs F ⟨v,us,Fs,rfl,bc,bb,rfl⟩ b hb;rcases List.mem_append.1 hb with hb | hb
  ·exact (bc.lt b (by simpa using hb)).2
  ·obtain ⟨f,hf,hb⟩:=List.mem_flatten.1 hb;obtain ⟨k,hk⟩:=List.mem_iff_getElem?.1 hf;have hl:=qF bb;have bf:k<xs.length:=by rw [<-hl.2];exact (List.getElem?_eq_some_iff.1 hk).1
   obtain ⟨u,f',_,bd,hr⟩:=QU bb (List.getElem?_eq_getElem bf);rw [hk] at bd;injection bd with bd;subst bd;exact hR.lt hr.1 b hb
 ·rintro w xs cs F ⟨v,us,Fs,rfl,bc,bb,rfl⟩ u hu;simp at hu;subst hu;exact bAw bc
theorem TF {α:Type} {e:TypeId} {sz g n c:Nat} {R:Fp α} {w:World} {xs:List α} {F:List Nat} (h:fSl e sz R w xs [.slice (some ⟨g,0,none⟩) n c] F) (j:Nat):w.frozen? ⟨g,j,none⟩=false:=by
 obtain ⟨v,us,Fs,hv,hown,_⟩:=h;injection hv with hv;subst hv;have hn:n=xs.length:=by
  rcases hown.2 with ⟨h,_⟩ | ⟨g',cap,cur,h,_⟩
  ·cases h
  ·injection h
 subst hn;exact hown.frozenAt j
theorem XB {α:Type} {e:TypeId} {sz:Nat} {R:Fp α} (w:World):fSl e sz R w [] [.slice none 0 0] []:=
 ⟨_,[],[],rfl,World.ownsRow_nil _ _ _ _,trivial,rfl⟩
theorem FT {w:World} {base:Nat} {e:TypeId} {sz n:Nat} {v:Value} {us:List (List Value)} (h:w.ownsRow base e sz v n us.flatten) (hl:us.length=n) (hu:∀u∈us,u.length=sz) :
  ∃A c,v=.slice A n c/\n<=c/\c<=maxLen/\∀k u,us[k]? = some u->∃b,A=some ⟨b,0,none⟩/\v.ownBlock=some b/\∀j t,u[j]? = some t->w.cell? ⟨b,0+k*sz+j,none⟩=some t:=by
 rcases h.2 with ⟨rfl,rfl⟩ | ⟨g,cap,cur,rfl,_,hg,bd,bc,hcs,_⟩
 ·exact ⟨none,0,rfl,Nat.le_refl _,by simp [maxLen],fun k u hk=>by rw [List.eq_nil_of_length_eq_zero hl] at hk;simp at hk⟩
 ·refine ⟨_,_,rfl,bd,bc,fun k u hk=>⟨_,rfl,rfl,fun j t ht=>?_⟩⟩;have hj:j<sz:=by rw [<-hu u (List.mem_iff_getElem?.2 ⟨k,hk⟩)];exact (List.getElem?_eq_some_iff.1 ht).1
  have:=h.cells (g:=g) rfl (k*sz+j) t (by rw [UG hu hk hj];exact ht);have bb:(⟨g,0,none⟩:Addr).add (k*sz+j)=⟨g,k*sz+j,none⟩:=by unfold Addr.add;split<;>simp_all
  rw [bb] at this;rw [Nat.zero_add];exact this
theorem sK {α:Type} {B:Nat} {e:TypeId} {sz:Nat} {R:Fp α} {R':Rep α} (hg:rK R') {w:World} {xs:List α} {cs:List Value} {F:List Nat}
  (hR:∀x u f,R w x u f->R' w (fun b=>b∈f\/b<B) x u) (h:fSl e sz R w xs cs F):rSl sz R' w (fun b=>b∈F\/b<B) xs cs:=by
 obtain ⟨v,us,Fs,rfl,bc,bb,rfl⟩:=h;have hl:=qF bb;have bd:∀u∈us,u.length=sz:=fun u hu=>by obtain ⟨x,f,hr⟩:=bF bb hu;exact hr.2
 obtain ⟨A,c,rfl,h1,h2,h3⟩:=FT bc hl.1 bd;refine ⟨A,c,rfl,h1,h2,fun k x hx=>?_⟩;obtain ⟨u,f,hu,hf,hr⟩:=QU bb hx;obtain ⟨b,rfl,hb,hc⟩:=h3 k u hu;refine ⟨b,0,u,rfl,.inl (by simp [hb]),hr.2,hc,hg.step ⟨fun b hb=>?_,fun _ _=>rfl⟩ (hR x u f hr.1)⟩;rcases hb with hb | hb
 ·exact .inl (List.mem_append_right _ (List.mem_flatten.2 ⟨f,List.mem_iff_getElem?.2 ⟨k,hf⟩,hb⟩))
 ·exact .inr hb
theorem oA7 {α:Type} {B:Nat} {R:Rep α} (hg:rK R) {w:World} {x:α} {u:List Value} {f:List Nat} (h:fSh B R w x u f):R w (fun b=>b∈f\/b<B) x u:=
 hg.step ⟨fun _ hb=>.inr hb,fun _ _=>rfl⟩ h.2.1
theorem mAw {B:Nat} {w:World} {x:Int} {u:List Value} {f:List Nat} (h:IF w x u f):mAv w (fun b=>b∈f\/b<B) x u:=h.1
theorem mAx {B:Nat} {w:World} {x:ByteArray} {u:List Value} {f:List Nat} (h:RX w x u f):oA6 w (fun b=>b∈f\/b<B) x u:=h.1
theorem kAm {B:Nat} {w:World} {x:EB} {u:List Value} {f:List Nat} (h:ET w x u f):kAk w (fun b=>b∈f\/b<B) x u:=h.1
theorem Rd.of {α:Type} {R:Rep α} (hg:rK R) {w:World} {x:α} {cs:List Value} {F:List Nat} {B:Nat} (h:R w (fun b=>b∈F\/b<B) x cs) (hF:∀b∈F,b<w.heap.size) (hB:B<=w.heap.size):Rd R w x cs:=
 hg.step ⟨fun b hb=>hb.elim (hF b) fun h=>Nat.lt_of_lt_of_le h hB,fun _ _=>rfl⟩ h
section
variable {α:Type} {P:Program}
theorem JP {F f:List Nat} {m:Nat} (hF:F.Nodup) (hf:sA m f) (hlt:∀b∈F,b<m):(F++f).Nodup:=by
 rw [List.nodup_append];refine ⟨hF,hf.nodup,fun a ha b hb e=>?_⟩;have:=hlt a ha;have:=hf.ge b hb;omega
theorem pAh (W:World) (w0:World) (t ty e:TypeId) (i:TypeInfo) (z:Value) (sz bytes:Nat) (ht:P.underlying t=some (.slice e)) (hi:P.info? e=some i) (hz:i.zero=some z)
  (hsize:i.size=sz) (hby:i.bytes=bytes) (hzs:z.cells.size=sz) (hsz:0<sz)
  {R:Fp α} (hR:tC w0.heap.size R) (v:Value) (xs:List α) (F:List Nat) (hv:fSl e sz R W xs [v] F) (hF:sA w0.heap.size F)
  (ad:Addr) (c:Nat) (y:α) (u:List Value) (f:List Nat) (hu:∀j t,u[j]? = some t->W.cell? (ad.add j)=some t)
  (hy:R W y u f) (hul:u.length=sz) (m:Nat) (hFm:∀b∈F,b<m) (hf:sA m f) (hm:w0.heap.size<=m) (hbytes:(xs.length+1)*bytes<=140737488355328) (hlen:xs.length<4611686018427387904) (hbw:Bw w0 W) :
  ∃v' w' F',(Builtin.append_ #[t,t] ty #[v,.slice (some ad) 1 c]).run P W=.ok v' w'/\fSl e sz R w' (xs++[y]) [v'] F'/\sA w0.heap.size F'/\Bw w0 w'/\(W.heap.size<=w'.heap.size/\(∀b,b<W.heap.size->b∉F->w'.heap[b]? = W.heap[b]?))/\∀b∈F',b∈F\/b∈f\/W.heap.size<=b:=by
 obtain ⟨v0,us,Fs,bv,bm,bf,bc⟩:=hv;injection bv with bv;subst bv;have hl:=qF bf;obtain ⟨v',w',bt,bn,bb,_,bp⟩:=run_append_own_at (P:=P) W 0 t ty e i z sz bytes ht hi hz hsize hby hzs hsz v xs.length us.flatten bm ad 1 c u (by omega) hu
  (hR.one hy) (by simp only [maxLen];omega) hbytes (Nat.zero_le _)
 have bx:∀k,v.ownBlock=some k->w0.heap.size<=k:=fun k hk=>hF.ge k (by rw [bc];simp [hk])
 have bq:Bw w0 w':=hbw.grown bb bx;have bz:∀b,b∈Fs.flatten->some b≠v.ownBlock:=by
  intro b hb e;have hn:=hF.nodup;rw [bc,List.nodup_append] at hn;exact hn.2.2 b (by simp [<-e]) b hb rfl
 have cb:∀b,b∈f->some b≠v.ownBlock:=by
  intro b hb e;have h1:=hf.ge b hb;have h2:=hFm b (by rw [bc];simp [<-e]);omega
 have bj:∀b∈Fs.flatten,b<W.heap.size:=fun b hb=>(CC hR).lt (⟨v,us,Fs,rfl,bm,bf,rfl⟩:fSl e sz R W xs [v] _) b (List.mem_append_right _ hb)
 have bg:∀b∈f,b<W.heap.size:=hR.lt hy;have bk:∀b,b<w0.heap.size->w'.heap[b]? = W.heap[b]?:=fun b hb=>bb.block b (Nat.lt_of_lt_of_le hb hbw.size) (fun e=>by have:=bx b e.symm;omega)
 refine ⟨v',w',v'.ownBlock.toList++(Fs++[f]).flatten,bt,⟨v',us++[u],Fs++[f],rfl,?_,?_,rfl⟩,⟨?_,?_⟩,bq,⟨?_,?_⟩,?_⟩
 ·rw [List.length_append,List.flatten_append,List.flatten_singleton];exact bn
 ·have cc:R w' y u f:=hR.step (fun b hb=>hb.elim (fun hb=>bb.block b (bg b hb) (cb b hb)) (bk b)) hy;refine sS ⟨cc,hul⟩ (bG (fun x u f' hf' hx=>⟨hR.step (fun b hb=>?_) hx.1,hx.2⟩) bf);rcases hb with hb | hb
  ·have bd:b∈Fs.flatten:=List.mem_flatten.2 ⟨_,hf',hb⟩;exact bb.block b (bj b bd) (bz b bd)
  ·exact bk b hb
 ·rw [List.flatten_append,List.flatten_singleton,List.nodup_append];have hn:=hF.nodup;rw [bc,List.nodup_append] at hn;refine ⟨by cases v'.ownBlock<;>simp,JP hn.2.1 hf fun b hb=>hFm b (by rw [bc];exact List.mem_append_right _ hb),fun p hp q hq e=>?_⟩;subst e;have bs:v'.ownBlock=some p:=by simpa using hp
  rcases bp with e | e
  ·rcases List.mem_append.1 hq with hq | hq
   ·exact bz p hq (by rw [<-e,bs])
   ·exact cb p hq (by rw [<-e,bs])
  ·rw [bs] at e;injection e with e;rcases List.mem_append.1 hq with hq | hq
   ·have:=bj p hq;omega
   ·have:=bg p hq;omega
 ·intro b hb;rcases List.mem_append.1 hb with hb | hb
  ·have bd:v'.ownBlock=some b:=by simpa using hb
   rcases bp with e | e
   ·exact bx b (by rw [<-e,bd])
   ·rw [bd] at e;injection e with e;have:=hbw.size;omega
  ·rw [List.flatten_append,List.flatten_singleton] at hb;rcases List.mem_append.1 hb with hb | hb
   ·exact hF.ge b (by rw [bc];exact List.mem_append_right _ hb)
   ·exact Nat.le_trans hm (hf.ge b hb)
 ·exact bb.size
 ·intro b hb hn;exact bb.block b hb (fun e=>hn (by rw [bc];simp [<-e]))
 ·intro b hb;rcases List.mem_append.1 hb with hb | hb
  ·have bd:v'.ownBlock=some b:=by simpa using hb
   rcases bp with e | e
   ·exact .inl (by rw [bc];simp [<-e,bd])
   ·rw [bd] at e;injection e with e;exact .inr (.inr (by omega))
  ·rw [List.flatten_append,List.flatten_singleton] at hb;rcases List.mem_append.1 hb with hb | hb
   ·exact .inl (by rw [bc];exact List.mem_append_right _ hb)
   ·exact .inr (.inl hb)
theorem kAn (W:World) (w0:World) (t ty e:TypeId) (i:TypeInfo) (z:Value) (sz bytes:Nat) (ht:P.underlying t=some (.slice e)) (hi:P.info? e=some i) (hz:i.zero=some z)
  (hsize:i.size=sz) (hby:i.bytes=bytes) (hzs:z.cells.size=sz) (hsz:0<sz)
  {R:Fp α} (hR:tC w0.heap.size R) (v:Value) (xs:List α) (F:List Nat) (hv:fSl e sz R W xs [v] F) (hF:sA w0.heap.size F)
  (ad:Addr) (c:Nat) (y:α) (u:List Value) (f:List Nat) (hu:∀j t,u[j]? = some t->W.cell? (ad.add j)=some t)
  (hy:R W y u f) (hul:u.length=sz) (m:Nat) (hFm:∀b∈F,b<m) (hf:sA m f) (hm:w0.heap.size<=m) (hbytes:(xs.length+1)*bytes<=140737488355328) (hlen:xs.length<4611686018427387904) (hbw:Bw w0 W) :
  ∃v' w' F',(Builtin.append_ #[t,t] ty #[v,.slice (some ad) 1 c]).run P W=.ok v' w'/\fSl e sz R w' (xs++[y]) [v'] F'/\sA w0.heap.size F'/\Bw w0 w':=
 have ⟨v',w',F',h1,h2,h3,h4,_⟩:=pAh W w0 t ty e i z sz bytes ht hi hz hsize hby hzs hsz hR v xs F hv hF ad c y u f hu hy hul m hFm hf hm hbytes hlen hbw
 ⟨v',w',F',h1,h2,h3,h4⟩
theorem hAs {o:Oper} {a:Act} {K:Act->World->Prop} {Q:Exit->Act->World->Prop} (W:World) (s x:Operand) (t:TypeId)
  (ho:o.op=.call { callee:=.builtin .append,args:=#[s,x],argTypes:=#[t,t] })
  (w0:World) (e:TypeId) (i:TypeInfo) (z:Value) (sz bytes:Nat) (ht:P.underlying t=some (.slice e)) (hi:P.info? e=some i) (hz:i.zero=some z)
  (hsize:i.size=sz) (hby:i.bytes=bytes) (hzs:z.cells.size=sz) (hsz:0<sz)
  {R:Fp α} (hR:tC w0.heap.size R) (v:Value) (xs:List α) (F:List Nat) (hs:a.eval s=v) (hv:fSl e sz R W xs [v] F) (hF:sA w0.heap.size F)
  (ad:Addr) (c:Nat) (hx:a.eval x=.slice (some ad) 1 c) (y:α) (u:List Value) (f:List Nat) (hu:∀j t,u[j]? = some t->W.cell? (ad.add j)=some t)
  (hy:R W y u f) (hul:u.length=sz) (m:Nat) (hFm:∀b∈F,b<m) (hf:sA m f) (hm:w0.heap.size<=m) (hbytes:(xs.length+1)*bytes<=140737488355328) (hlen:xs.length<4611686018427387904) (hbw:Bw w0 W)
  (h:∀v' w' F',fSl e sz R w' (xs++[y]) [v'] F'->sA w0.heap.size F'->Bw w0 w'->K (a.put o.dst v') w'):o.wp P a W K Q:=by
 obtain ⟨v',w',F',bb,h1,h2,h3⟩:=kAn (P:=P) W w0 t o.type e i z sz bytes ht hi hz hsize hby hzs hsz hR v xs F hv hF ad c y u f hu hy hul m hFm hf hm hbytes hlen hbw;unfold Oper.wp execOp;simp only [ho,resolve,invoke,builtin,Sem.run_bind,Sem.run_pure,Result.andThen_ok,List.map_toArray,List.map_cons,List.map_nil,hs,hx,bb];exact h v' w' F' h1 h2 h3
theorem lB {ops:Array Oper} {rest:List Oper} {o:Oper} {a:Act} {Q:Exit->Act->World->Prop} (W:World) (hgd:o.guard=none) (s x:Operand) (t:TypeId)
  (ho:o.op=.call { callee:=.builtin .append,args:=#[s,x],argTypes:=#[t,t] })
  (w0:World) (e:TypeId) (i:TypeInfo) (z:Value) (sz bytes:Nat) (ht:P.underlying t=some (.slice e)) (hi:P.info? e=some i) (hz:i.zero=some z)
  (hsize:i.size=sz) (hby:i.bytes=bytes) (hzs:z.cells.size=sz) (hsz:0<sz)
  {R:Fp α} (hR:tC w0.heap.size R) (v:Value) (xs:List α) (F:List Nat) (hs:a.eval s=v) (hv:fSl e sz R W xs [v] F) (hF:sA w0.heap.size F)
  (ad:Addr) (c:Nat) (hx:a.eval x=.slice (some ad) 1 c) (y:α) (u:List Value) (f:List Nat) (hu:∀j t,u[j]? = some t->W.cell? (ad.add j)=some t)
  (hy:R W y u f) (hul:u.length=sz) (m:Nat) (hFm:∀b∈F,b<m) (hf:sA m f) (hm:w0.heap.size<=m) (hbytes:(xs.length+1)*bytes<=140737488355328) (hlen:xs.length<4611686018427387904) (hbw:Bw w0 W)
  (h:∀v' w' F',fSl e sz R w' (xs++[y]) [v'] F'->sA w0.heap.size F'->Bw w0 w'->wpList P ops Q rest (a.put o.dst v') w'):wpList P ops Q (o::rest) a W:=by
 exact wpList_plain hgd fun _ hK=>hAs W s x t ho w0 e i z sz bytes ht hi hz hsize hby hzs hsz hR v xs F hs hv hF ad c hx y u f hu hy hul m hFm hf hm hbytes hlen hbw fun v' w' F' h1 h2 h3=>hK _ _ (h v' w' F' h1 h2 h3)
theorem eJ {ops:Array Oper} {o:Oper} {a:Act} {K:Act->World->Prop} {Q:Exit->Act->World->Prop} {E:Prop} (W:World) (hgd:o.guard=none) (s x:Operand) (t:TypeId)
  (ho:o.op=.call { callee:=.builtin .append,args:=#[s,x],argTypes:=#[t,t] })
  (w0:World) (e:TypeId) (i:TypeInfo) (z:Value) (sz bytes:Nat) (ht:P.underlying t=some (.slice e)) (hi:P.info? e=some i) (hz:i.zero=some z)
  (hsize:i.size=sz) (hby:i.bytes=bytes) (hzs:z.cells.size=sz) (hsz:0<sz)
  {R:Fp α} (hR:tC w0.heap.size R) (v:Value) (xs:List α) (F:List Nat) (hs:a.eval s=v) (hv:fSl e sz R W xs [v] F) (hF:sA w0.heap.size F)
  (ad:Addr) (c:Nat) (hx:a.eval x=.slice (some ad) 1 c) (y:α) (u:List Value) (f:List Nat) (hu:∀j t,u[j]? = some t->W.cell? (ad.add j)=some t)
  (hy:R W y u f) (hul:u.length=sz) (m:Nat) (hFm:∀b∈F,b<m) (hf:sA m f) (hm:w0.heap.size<=m) (hbytes:(xs.length+1)*bytes<=140737488355328) (hlen:xs.length<4611686018427387904) (hbw:Bw w0 W)
  (h:∀v' w' F',fSl e sz R w' (xs++[y]) [v'] F'->sA w0.heap.size F'->Bw w0 w'->K (a.put o.dst v') w'):if Region.wanted o (yielded ops a.tmps)=true then Oper.wp P o a W K Q else E:=by
 have hw:Region.wanted o (yielded ops a.tmps)=true:=by simp [Region.wanted,hgd]
 rw [if_pos hw];exact hAs W s x t ho w0 e i z sz bytes ht hi hz hsize hby hzs hsz hR v xs F hs hv hF ad c hx y u f hu hy hul m hFm hf hm hbytes hlen hbw h
end
theorem TM (n:Nat):(List.replicate n ([]:List Nat)).flatten=[]:=by induction n<;>simp_all [List.replicate_succ]
def rE (w:World) (g:Nat):Nat->List Value->World
 | _,[]=>w
 | i,a::u=>rE (w.setCell ⟨g,i,none⟩ a) g (i+1) u
def lO:List Value->Nat->List Value->List Value
 | l,_,[]=>l
 | l,i,a::u=>lO (l.set i a) (i+1) u
theorem jV:∀(u l:List Value) (i j:Nat),i+u.length<=l.length->(lO l i u)[j]? = if i<=j/\j<i+u.length then u[j-i]? else l[j]?
 | [],l,i,j,_=>by simp only [lO];rw [if_neg (fun h=>by have h2:=h.2;simp at h2;omega)]
 | a::u,l,i,j,h=>by
  rw [lO,jV u _ _ _ (by simp at h ⊢;omega)];simp only [List.length_cons] at h ⊢;by_cases h1:i=j
  ·subst h1;rw [if_neg (by omega),if_pos (by omega)];simp [show i<l.length by omega]
  ·by_cases h2:i+1<=j/\j<i+1+u.length
   ·rw [if_pos h2,if_pos (by omega)];have:j-i=(j-(i+1))+1:=by omega
    rw [this];rfl
   ·rw [if_neg h2,if_neg (by omega),List.getElem?_set,if_neg h1]
theorem yU {sz:Nat} {us:List (List Value)} {k:Nat} {u:List Value} (hl:∀u∈us,u.length=sz) (hu:u.length=sz) (hk:k<us.length):lO us.flatten (k*sz) u=(us.set k u).flatten:=by
 have bb:∀(vs:List (List Value)),(∀v∈vs,v.length=sz)->vs.flatten.length=vs.length*sz:=by
  intro vs hv
  induction vs with
  | nil=>simp
  | cons v vs ih=>rw [List.flatten_cons,List.length_append,hv v (by simp),ih (fun v h=>hv v (by simp [h])),List.length_cons,Nat.succ_mul];omega
 have bc:∀v∈us.set k u,v.length=sz:=fun v hv=>by
  rcases List.mem_or_eq_of_mem_set hv with h | h
  ·exact hl v h
  ·rw [h,hu]
 have bg:(k+1)*sz<=us.length*sz:=Nat.mul_le_mul_right _ hk;rw [Nat.succ_mul] at bg;apply List.ext_getElem?;intro j;rw [jV _ _ _ _ (by rw [bb us hl,hu];omega)];by_cases hsz:sz=0
 ·subst hsz;rw [if_neg (by rw [hu];omega),List.getElem?_eq_none (by rw [bb us hl];omega),List.getElem?_eq_none (by rw [bb _ bc];omega)]
 have bf:j=j / sz*sz+j % sz:=by rw [Nat.mul_comm];exact (Nat.div_add_mod j sz).symm
 have hm:j % sz<sz:=Nat.mod_lt _ (by omega);by_cases hj:j / sz<us.length
 ·have e1:=UG (us:=us) (k:=j / sz) (j:=j % sz) hl (List.getElem?_eq_getElem hj) hm;have e2:=UG (us:=us.set k u) (k:=j / sz) (j:=j % sz) (u:=if k=j / sz then u else us[j / sz]) bc (by
   rw [List.getElem?_set];by_cases h:k=j / sz
   ·rw [if_pos h,if_pos hk,if_pos h]
   ·rw [if_neg h,if_neg h];exact List.getElem?_eq_getElem hj) hm
  rw [<-bf] at e1 e2;rw [e1,e2];by_cases hkj:k=j / sz
  ·rw [if_pos hkj,if_pos (by rw [hu,hkj];omega)]
   congr 1
   rw [hkj];omega
  ·rw [if_neg hkj,if_neg];rw [hu];rintro ⟨h1,h2⟩;apply hkj;have:j / sz=k:=by
    apply Nat.div_eq_of_lt_le
    ·exact h1
    ·rw [Nat.succ_mul];exact h2
   exact this.symm
 ·have bd:us.length*sz<=j:=by
   have:=Nat.mul_le_mul_right sz (Nat.le_of_not_lt hj);omega
  rw [if_neg (by rw [hu];omega),List.getElem?_eq_none (by rw [bb us hl];exact bd),List.getElem?_eq_none (by rw [bb _ bc,List.length_set];exact bd)]
theorem GT {base:Nat} {e:TypeId} {sz g n cap:Nat}:∀(u:List Value) (w:World) (xs:List Value) (i:Nat),w.ownsRow base e sz (.slice (some ⟨g,0,none⟩) n cap) n xs ->
  (rE w g i u).ownsRow base e sz (.slice (some ⟨g,0,none⟩) n cap) n (lO xs i u)/\w.grownBy (rE w g i u) (some g)
 | [],w,xs,i,h=>⟨h,World.grownBy.refl w _⟩
 | a::u,w,xs,i,h=>by
  obtain ⟨h1,h2⟩:=h.stored i a;obtain ⟨h3,h4⟩:=GT u _ _ (i+1) h1;exact ⟨h3,h2.trans h4⟩
theorem KY {f:List Nat}:∀ {Fs:List (List Nat)} {k:Nat},Fs.flatten.Nodup->f.Nodup->(∀b∈f,b∉Fs.flatten)->(Fs.set k f).flatten.Nodup
 | [],_,_,_,_=>by simp
 | g::Fs,0,h,hf,hd=>by
  rw [List.set_cons_zero,List.flatten_cons];rw [List.flatten_cons,List.nodup_append] at h;rw [List.nodup_append];exact ⟨hf,h.2.1,fun a ha b hb e=>hd a ha (by rw [e];simp only [List.flatten_cons];exact List.mem_append_right _ hb)⟩
 | g::Fs,k+1,h,hf,hd=>by
  rw [List.set_cons_succ,List.flatten_cons];rw [List.flatten_cons,List.nodup_append] at h;rw [List.nodup_append];refine ⟨h.1,KY h.2.1 hf (fun b hb hm=>hd b hb (by rw [List.flatten_cons];exact List.mem_append_right _ hm)),fun a ha b hb e=>?_⟩;obtain ⟨l,hl,hbl⟩:=List.mem_flatten.1 hb;rcases List.mem_or_eq_of_mem_set hl with h' | h'
  ·exact h.2.2 a ha b (List.mem_flatten.2 ⟨l,h',hbl⟩) e
  ·subst h' e;exact hd a hbl (by rw [List.flatten_cons];exact List.mem_append_left _ ha)
theorem YK {α:Type} {B:Nat} {e:TypeId} {sz g n c k:Nat} {R:Fp α} (hR:tC B R) {w:World} {xs:List α} {F:List Nat} (hv:fSl e sz R w xs [.slice (some ⟨g,0,none⟩) n c] F) (hF:sA B F)
  {y:α} {u:List Value} {f:List Nat} (hy:R w y u f) (hu:u.length=sz) {m:Nat} (hFm:∀b∈F,b<m) (hf:sA m f) (hm:B<=m) (hk:k<xs.length) :
  ∃F',fSl e sz R (rE w g (k*sz) u) (xs.set k y) [.slice (some ⟨g,0,none⟩) n c] F'/\sA B F'/\w.grownBy (rE w g (k*sz) u) (some g)/\B<=g/\∀b∈F',b∈F\/b∈f:=by
 have cb:=(CC hR).lt hv;obtain ⟨v,us,Fs,bt,bp,bf,bg⟩:=hv;injection bt with bt;subst bt;have hl:=qF bf;have cc:∀u∈us,u.length=sz:=fun u hu=>by obtain ⟨x,f,hr⟩:=bF bf hu;exact hr.2
 have hn:n=xs.length:=by
  rcases bp.2 with ⟨h,_⟩ | ⟨g',cap,cur,h,_⟩
  ·cases h
  ·injection h
 subst hn;obtain ⟨bd,bb⟩:=GT u w us.flatten (k*sz) bp;rw [yU cc hu (by rw [hl.1];exact hk)] at bd;have bq:g∈F:=by rw [bg];simp [Value.ownBlock]
 have bs:=hF.nodup;rw [bg,List.nodup_append] at bs;have bk:∀b∈Fs.flatten,b≠g:=fun b hb e=>bs.2.2 g (by simp [Value.ownBlock]) b hb e.symm
 have bv:∀b∈f,b≠g:=fun b hb e=>by have:=hf.ge b hb;have:=hFm g bq;omega
 have bx:B<=g:=hF.ge g bq;have bn:∀b,b<B->(rE w g (k*sz) u).heap[b]? = w.heap[b]?:=fun b hb=>bb.block b (by have:=cb g bq;omega) (fun e=>by injection e with e;omega)
 have cd:R (rE w g (k*sz) u) y u f:=hR.step (fun b hb=>hb.elim (fun hb=>bb.block b (hR.lt hy b hb) (fun e=>by injection e with e;exact bv b hb e)) (bn b)) hy;have hall':IH (fun x u f=>R (rE w g (k*sz) u) x u f/\u.length=sz) xs us Fs->True:=fun _=>trivial
 have bj:IH (fun x u' f'=>R (rE w g (k*sz) u) x u' f'/\u'.length=sz) xs us Fs:=bG (fun x u' f' hf' hx=>⟨hR.step (fun b hb=>hb.elim (fun hb=>by
  have bz:b∈Fs.flatten:=List.mem_flatten.2 ⟨_,hf',hb⟩;exact bb.block b (hR.lt hx.1 b hb) (fun e=>by injection e with e;exact bk b bz e)) (bn b)) hx.1,hx.2⟩) bf
 refine ⟨[g]++(Fs.set k f).flatten,⟨_,us.set k u,Fs.set k f,rfl,by rw [List.length_set];exact bd,bAv bj ⟨cd,hu⟩,by simp [Value.ownBlock]⟩,⟨?_,?_⟩,bb,bx,?_⟩
 ·rw [List.nodup_append];refine ⟨by simp,KY bs.2.1 hf.nodup (fun b hb hm'=>?_),fun a ha b hb e=>?_⟩
  ·have:=hf.ge b hb;have:=hFm b (by rw [bg];exact List.mem_append_right _ hm');omega
  ·simp at ha;subst ha e;obtain ⟨l,bm,bc⟩:=List.mem_flatten.1 hb;rcases List.mem_or_eq_of_mem_set bm with h' | h'
   ·exact bk _ (List.mem_flatten.2 ⟨l,h',bc⟩) rfl
   ·subst h';exact bv _ bc rfl
 ·intro b hb;rcases List.mem_append.1 hb with hb | hb
  ·simp at hb;omega
  ·obtain ⟨l,bm,bc⟩:=List.mem_flatten.1 hb;rcases List.mem_or_eq_of_mem_set bm with h' | h'
   ·exact hF.ge b (by rw [bg];exact List.mem_append_right _ (List.mem_flatten.2 ⟨l,h',bc⟩))
   ·subst h';exact Nat.le_trans hm (hf.ge b bc)
 ·intro b hb;rcases List.mem_append.1 hb with hb | hb
  ·simp at hb;subst hb;exact .inl bq
  ·obtain ⟨l,bm,bc⟩:=List.mem_flatten.1 hb;rcases List.mem_or_eq_of_mem_set bm with h' | h'
   ·exact .inl (by rw [bg];exact List.mem_append_right _ (List.mem_flatten.2 ⟨l,h',bc⟩))
   ·subst h';exact .inr bc
theorem ZK {α:Type} {P:Nat->α->List Value->Prop}:∀ {ys:List α},(∀k x,ys[k]? = some x->∃u,P k x u)->∃us:List (List Value),us.length=ys.length/\∀k x,ys[k]? = some x->∃u,us[k]? = some u/\P k x u
 | [],_=>⟨[],rfl,fun k x h=>by simp at h⟩
 | y::ys,h=>by
  obtain ⟨u0,h0⟩:=h 0 y rfl;obtain ⟨us,hl,bb⟩:=ZK (P:=fun k x u=>P (k+1) x u) (ys:=ys) (fun k x hk=>h (k+1) x (by simpa using hk));refine ⟨u0::us,by simp [hl],fun k x hk=>?_⟩
  cases k with
  | zero=>simp at hk;subst hk;exact ⟨u0,rfl,h0⟩
  | succ k=>simpa using bb k x (by simpa using hk)
theorem WG {α:Type} {R:α->List Value->List Nat->Prop}:∀ {xs:List α} {us:List (List Value)} {fs:List (List Nat)} {ys:List α} {vs:List (List Value)} {gs:List (List Nat)},IH R xs us fs->IH R ys vs gs->IH R (xs++ys) (us++vs) (fs++gs)
 | [],[],[],_,_,_,_,h=>h
 | _::xs,_::us,_::fs,_,_,_,h,k=>⟨h.1,WG (xs:=xs) h.2 k⟩
 | [],_::_,_,_,_,_,h,_ | [],[],_::_,_,_,_,h,_ | _::_,[],_,_,_,_,h,_ | _::_,_::_,[],_,_,_,h,_=>h.elim
theorem RU {α:Type} {R:α->List Value->List Nat->Prop}:∀ {ys:List α} {us:List (List Value)},us.length=ys.length->(∀(k:Nat) (x:α) (u:List Value),ys[k]? = some x->us[k]? = some u->R x u [])->IH R ys us (List.replicate ys.length [])
 | [],[],_,_=>trivial
 | y::ys,u::us,hl,h=>⟨h 0 y u rfl rfl,RU (ys:=ys) (by simpa using hl) fun k x u hx hu=>h (k+1) x u (by simpa using hx) (by simpa using hu)⟩
theorem JF {P:Program} (w:World) (base:Nat) (t ty e:TypeId) (i:TypeInfo) (size:Nat) (ht:P.underlying t=some (.slice e)) (hi:P.info? e=some i)
  (v:Value) (n:Nat) (xs:List Value) (hown:w.ownsRow base e size v n xs) (c:Nat):(Builtin.append_ #[t,t] ty #[v,.slice none 0 c]).run P w=.ok v w:=by
 rcases hown.2 with ⟨rfl,rfl⟩ | ⟨g,cap,cur,rfl,_,_,bb,_⟩
 ·simp [Builtin.append_,run_underlying ht,sizeOf,typeInfo,hi,Builtin.lenOf,Builtin.firstCells]
 ·simp [Builtin.append_,run_underlying ht,sizeOf,typeInfo,hi,Builtin.lenOf,Builtin.firstCells,bb,storeCells]
theorem KF {sz:Nat}:∀ {us:List (List Value)},(∀u∈us,u.length=sz)->us.flatten.length=us.length*sz
 | [],_=>by simp
 | u::us,h=>by rw [List.flatten_cons,List.length_append,h u (by simp),KF (fun v hv=>h v (by simp [hv])),List.length_cons,Nat.succ_mul];omega
theorem pAg {α:Type} {P:Program} {o:Oper} {a:Act} {K:Act->World->Prop} {Q:Exit->Act->World->Prop} (W:World) (s x:Operand) (t:TypeId)
  (ho:o.op=.call { callee:=.builtin .append,args:=#[s,x],argTypes:=#[t,t] })
  (w0:World) (e:TypeId) (i:TypeInfo) (z:Value) (sz bytes:Nat) (ht:P.underlying t=some (.slice e)) (hi:P.info? e=some i) (hz:i.zero=some z)
  (hsize:i.size=sz) (hby:i.bytes=bytes) (hzs:z.cells.size=sz) (hsz:0<sz)
  {R:Fp α} (hR:tC w0.heap.size R) (v:Value) (xs:List α) (F:List Nat) (hs:a.eval s=v) (hv:fSl e sz R W xs [v] F) (hF:sA w0.heap.size F)
  (sv:Value) (hx:a.eval x=sv) {R':Rep α} {S:JC} (ys:List α) (hsrc:rSl sz R' W S ys [sv]) (hRR:∀y u,R' W S y u->R W y u [])
  (hbytes:(xs.length+ys.length)*bytes<=140737488355328) (hlen:xs.length+ys.length<4611686018427387904) (hbw:Bw w0 W)
  (h:∀v' w' F',fSl e sz R w' (xs++ys) [v'] F'->sA w0.heap.size F'->Bw w0 w'->(W.heap.size<=w'.heap.size/\(∀b,b<W.heap.size->b∉F->w'.heap[b]? = W.heap[b]?))->(∀b∈F',b∈F\/W.heap.size<=b)->(v'=.slice none 0 0->v=.slice none 0 0)->K (a.put o.dst v') w'):o.wp P a W K Q:=by
 obtain ⟨v0,us,Fs,cm,bf,bd,bj⟩:=hv;injection cm with cm;subst cm;obtain ⟨A,c,ck,hc1,hc2,hk⟩:=hsrc;injection ck with ck;subst ck;have hl:=qF bd;have cn:∀k,v.ownBlock=some k->w0.heap.size<=k:=fun k hk=>hF.ge k (by rw [bj];simp [hk])
 by_cases hy0:ys=[]/\A=none
 ·obtain ⟨rfl,rfl⟩:=hy0;have bn:=JF (P:=P) W 0 t o.type e i sz ht hi v xs.length us.flatten bf c;unfold Oper.wp execOp;simp only [ho,resolve,invoke,builtin,Sem.run_bind,Sem.run_pure,Result.andThen_ok,List.map_toArray,List.map_cons,List.map_nil,hs,hx];rw [show (List.length ([]:List α))=0 from rfl,bn];exact (h v W F (by rw [List.append_nil];exact ⟨v,us,Fs,rfl,bf,bd,bj⟩) hF hbw ⟨Nat.le_refl _,fun _ _ _=>rfl⟩ (fun b hb=>.inl hb) (fun e=>e))
 ·obtain ⟨vs,cb,cp⟩:=ZK (P:=fun k y u=>∃b o,A=some ⟨b,o,none⟩/\u.length=sz/\(∀j t,u[j]? = some t->W.cell? ⟨b,o+k*sz+j,none⟩=some t)/\R' W S y u) (ys:=ys) (fun k y hy=>by
   obtain ⟨b,o,u,e,_,bp,cf,hr⟩:=hk k y hy;exact ⟨u,b,o,e,bp,cf,hr⟩)
  have bg:∀u∈vs,u.length=sz:=fun u hu=>by
   obtain ⟨k,bs⟩:=List.mem_iff_getElem?.1 hu;obtain ⟨y,hy⟩:∃y,ys[k]? = some y:=⟨_,List.getElem?_eq_getElem (by rw [<-cb];exact (List.getElem?_eq_some_iff.1 bs).1)⟩;obtain ⟨u',bc,_,_,_,bp,_⟩:=cp k y hy;rw [bs] at bc;injection bc with bc;rw [bc];exact bp
  have cq:∀k y u,ys[k]? = some y->vs[k]? = some u->R W y u []:=fun k y u hy hu=>by
   obtain ⟨u',bc,_,_,_,_,_,hr⟩:=cp k y hy;rw [hu] at bc;injection bc with bc;subst bc;exact hRR _ _ hr
  obtain ⟨ad,bq⟩:∃ad,A=some ad:=by
   cases hA:A with
   | some ad=>exact ⟨ad,rfl⟩
   | none=>
    exfalso
    apply hy0;refine ⟨?_,hA⟩
    cases hys:ys with
    | nil=>rfl
    | cons y l=>
     obtain ⟨b,o,_,e,_⟩:=hk 0 y (by rw [hys];rfl);rw [hA] at e;cases e
  have bv:∀j u,vs.flatten[j]? = some u->W.cell? (ad.add j)=some u:=by
   intro j u hj;have cx:j<vs.length*sz:=by rw [<-KF bg];exact (List.getElem?_eq_some_iff.1 hj).1
   have cz:j / sz<vs.length:=Nat.div_lt_of_lt_mul (by rw [Nat.mul_comm];exact cx);obtain ⟨y,hy⟩:∃y,ys[j / sz]? = some y:=⟨_,List.getElem?_eq_getElem (by rw [<-cb];exact cz)⟩;obtain ⟨u',bc,b,o,e,bp,cf,_⟩:=cp _ y hy;have hm:j % sz<sz:=Nat.mod_lt _ hsz;have hf:=UG bg bc hm;have cv:j / sz*sz+j % sz=j:=by rw [Nat.mul_comm];exact Nat.div_add_mod j sz
   rw [cv,hj] at hf;have:=cf _ _ hf.symm;rw [e] at bq;injection bq with bq;subst bq;have ea:(⟨b,o,none⟩:Addr).add j=⟨b,o+j / sz*sz+j % sz,none⟩:=by
    unfold Addr.add
    split
    ·rename_i h0;subst h0;simp
    ·simp only [Addr.mk.injEq,true_and,and_true];omega
   rw [ea];exact this
  have cj:∀u∈vs.flatten,u.oneCell'=true:=fun u hu=>by
   obtain ⟨l,db,bp⟩:=List.mem_flatten.1 hu;obtain ⟨k,bs⟩:=List.mem_iff_getElem?.1 db;obtain ⟨y,hy⟩:∃y,ys[k]? = some y:=⟨_,List.getElem?_eq_getElem (by rw [<-cb];exact (List.getElem?_eq_some_iff.1 bs).1)⟩;exact hR.one (cq k y l hy bs) u bp
  obtain ⟨v',w',bn,bz,bb,cg,cc⟩:=run_append_own_at (P:=P) W 0 t o.type e i z sz bytes ht hi hz hsize hby hzs hsz v xs.length us.flatten bf ad ys.length c vs.flatten (by rw [KF bg,cb]) bv cj
   (by simp only [maxLen];omega) hbytes (Nat.zero_le _)
  have cd:Bw w0 w':=hbw.grown bb cn;have ct:∀b,b∈Fs.flatten->some b≠v.ownBlock:=by
   intro b hb e;have hn:=hF.nodup;rw [bj,List.nodup_append] at hn;exact hn.2.2 b (by simp [<-e]) b hb rfl
  have bt:∀b∈Fs.flatten,b<W.heap.size:=fun b hb=>(CC hR).lt (⟨v,us,Fs,rfl,bf,bd,rfl⟩:fSl e sz R W xs [v] _) b (List.mem_append_right _ hb)
  have bx:∀b,b<w0.heap.size->w'.heap[b]? = W.heap[b]?:=fun b hb=>bb.block b (Nat.lt_of_lt_of_le hb hbw.size) (fun e=>by have:=cn b e.symm;omega)
  unfold Oper.wp execOp;simp only [ho,resolve,invoke,builtin,Sem.run_bind,Sem.run_pure,Result.andThen_ok,List.map_toArray,List.map_cons,List.map_nil,hs,hx,bq,bn];have bm:(List.replicate ys.length ([]:List Nat)).flatten=[]:=by simp
  refine (h v' w' (v'.ownBlock.toList++(Fs++List.replicate ys.length []).flatten) ⟨v',us++vs,Fs++List.replicate ys.length [],rfl,?_,?_,rfl⟩ ⟨?_,?_⟩ cd ⟨bb.size,fun b hb hn=>bb.block b hb (fun e=>hn (by rw [bj];simp [<-e]))⟩ ?_ (fun e=>(cg.1 e).1))
  ·rw [List.length_append,List.flatten_append];exact bz
  ·refine WG (bG (fun x u f' hf' hx=>⟨hR.step (fun b hb=>?_) hx.1,hx.2⟩) bd) (RU (by rw [cb]) fun k y u hy hu=>⟨hR.step (fun b hb=>?_) (cq k y u hy hu),bg u (List.mem_iff_getElem?.2 ⟨k,hu⟩)⟩)
   ·rcases hb with hb | hb
    ·have bk:b∈Fs.flatten:=List.mem_flatten.2 ⟨_,hf',hb⟩;exact bb.block b (bt b bk) (ct b bk)
    ·exact bx b hb
   ·rcases hb with hb | hb
    ·simp at hb
    ·exact bx b hb
  ·rw [List.flatten_append,bm,List.append_nil,List.nodup_append];have hn:=hF.nodup;rw [bj,List.nodup_append] at hn;refine ⟨by cases v'.ownBlock<;>simp,hn.2.1,fun p hp q hq e=>?_⟩;subst e;have cs:v'.ownBlock=some p:=by simpa using hp
   rcases cc with e | e
   ·exact ct p hq (by rw [<-e,cs])
   ·rw [cs] at e;injection e with e;have:=bt p hq;omega
  ·intro b hb;rcases List.mem_append.1 hb with hb | hb
   ·have bk:v'.ownBlock=some b:=by simpa using hb
    rcases cc with e | e
    ·exact cn b (by rw [<-e,bk])
    ·rw [bk] at e;injection e with e;have:=hbw.size;omega
   ·rw [List.flatten_append,bm,List.append_nil] at hb;exact hF.ge b (by rw [bj];exact List.mem_append_right _ hb)
  ·intro b hb;rcases List.mem_append.1 hb with hb | hb
   ·have bk:v'.ownBlock=some b:=by simpa using hb
    rcases cc with e | e
    ·exact .inl (by rw [bj];simp [<-e,bk])
    ·rw [bk] at e;injection e with e;exact .inr (by omega)
   ·rw [List.flatten_append,bm,List.append_nil] at hb;exact .inl (by rw [bj];exact List.mem_append_right _ hb)
theorem YB {α:Type} {P:Program} {ops:Array Oper} {rest:List Oper} {o:Oper} {a:Act} {Q:Exit->Act->World->Prop} (W:World) (hgd:o.guard=none) (s x:Operand) (t:TypeId)
  (ho:o.op=.call { callee:=.builtin .append,args:=#[s,x],argTypes:=#[t,t] })
  (w0:World) (e:TypeId) (i:TypeInfo) (z:Value) (sz bytes:Nat) (ht:P.underlying t=some (.slice e)) (hi:P.info? e=some i) (hz:i.zero=some z)
  (hsize:i.size=sz) (hby:i.bytes=bytes) (hzs:z.cells.size=sz) (hsz:0<sz)
  {R:Fp α} (hR:tC w0.heap.size R) (v:Value) (xs:List α) (F:List Nat) (hs:a.eval s=v) (hv:fSl e sz R W xs [v] F) (hF:sA w0.heap.size F)
  (sv:Value) (hx:a.eval x=sv) {R':Rep α} {S:JC} (ys:List α) (hsrc:rSl sz R' W S ys [sv]) (hRR:∀y u,R' W S y u->R W y u [])
  (hbytes:(xs.length+ys.length)*bytes<=140737488355328) (hlen:xs.length+ys.length<4611686018427387904) (hbw:Bw w0 W)
  (h:∀v' w' F',fSl e sz R w' (xs++ys) [v'] F'->sA w0.heap.size F'->Bw w0 w'->wpList P ops Q rest (a.put o.dst v') w'):wpList P ops Q (o::rest) a W:=
 wpList_plain hgd fun _ hK=>pAg W s x t ho w0 e i z sz bytes ht hi hz hsize hby hzs hsz hR v xs F hs hv hF sv hx ys hsrc hRR hbytes hlen hbw (fun v' w' F' h1 h2 h3 _ _ _=>hK _ _ (h v' w' F' h1 h2 h3))
theorem iK {α:Type} {xs ys:List α} {k:Nat} {x y:α} (h:xs.take k=ys.take k) (hx:xs[k]? = some x) (hy:ys[k]? = some y) (e:x=y):xs.take (k+1)=ys.take (k+1):=by
 rw [List.take_add_one,List.take_add_one,h,hx,hy,e]
theorem fJ {α:Type} {xs ys:List α} {k:Nat} (h:xs.take k=ys.take k) (hx:xs.length<=k) (hy:ys.length<=k):xs=ys:=by
 rwa [List.take_of_length_le hx,List.take_of_length_le hy] at h
theorem tK {α:Type} {xs ys:List α} {k:Nat} {x y:α} (hx:xs[k]? = some x) (hy:ys[k]? = some y) (e:x≠y):xs≠ys:=by
 rintro rfl;rw [hx] at hy;injection hy with hy;exact e hy
theorem tA {α:Type} {xs:List α} {k:Nat} (h:k<xs.length):∃x,xs[k]? = some x:=⟨_,List.getElem?_eq_getElem h⟩
theorem nC {α:Type} {xs:List α} {k:Nat} {x:α} (h:xs[k]? = some x):xs.drop k=x::xs.drop (k+1):=by
 obtain ⟨hk,rfl⟩:=List.getElem?_eq_some_iff.1 h;exact List.drop_eq_getElem_cons hk
theorem rC {P:Program} {f:FuncId} {args:Array Value} {w:World} {v v':Value} (h:Calls P f args w (Ret w v)) (e:v=v'):Calls P f args w (Ret w v'):=e▸h
theorem DQ (w:World) (xs ys:List Int) (v1 v2:Value) (h1:Rd aB w xs [v1]) (h2:Rd aB w ys [v2]) :
  Calls prog 91 #[v1,v2] w (Ret w (.bool (decide (xs=ys)))):=by
 obtain ⟨A1,n1,c1,rfl,a1,a2,a3⟩:=qA h1;obtain ⟨A2,n2,c2,rfl,b1,b2,b3⟩:=qA h2;unfold maxLen at a3 b3;have L1:=pA6 a1;have L2:=pA6 b1;clear a1 b1;by_cases hl:n1=n2
 ·subst hl;go_enter func91,ntmps91;go_wp2
  go_loopw [5] (fun i w'=>∃k:Nat,k<=n1/\i=.int .i64 k/\xs.take k=ys.take k/\Bw w w') (fun i _=>n1-(intOf i).toNat)
  case atStart=>exact ⟨0,by omega,rfl,by simp,Bw.refl _⟩
  case round=>
   obtain ⟨k,hk,rfl,he,hb⟩:=hrel;have HE:=pA6 he;clear he;by_cases hlt:k<n1
   ·obtain ⟨x,hx⟩:=tA (xs:=xs) (k:=k) (by rw [<-L1.out];exact hlt);obtain ⟨y,hy⟩:=tA (xs:=ys) (k:=k) (by rw [<-L2.out];exact hlt);obtain ⟨ba,oa,rfl,_,hcx⟩:=KB (h1.bw dA hb) hx;obtain ⟨bb,ob,rfl,_,hcy⟩:=KB (h2.bw dA hb) hy;have HX:=pA6 hx;have HY:=pA6 hy;clear hx hy h1 h2;go_wp2
    go_quiet (fail)
    go_wp2
    ·have bc:(x != y)=true:=by assumption
     go_ret;exact Ret.bool (by simpa using tK HX.out HY.out (by simpa using bc)) (hb.drewN _)
    ·have bc:x=y:=by first | assumption | (have:(x != y)=false:=(by assumption);simpa using this)
     go_roundw
     case rel=>exact ⟨k+1,by omega,by go_num,iK HE.out HX.out HY.out bc,hb.drewN _⟩
     case measure=>simp [intOf];omega
   ·go_wp2;go_ret;exact Ret.bool (by simpa using fJ HE.out (by rw [<-L1.out];omega) (by rw [<-L2.out];omega)) hb
 ·go_enter func91,ntmps91;go_wp2;go_ret;exact Ret.bool (by simp;intro e;exact hl (by rw [L1.out,L2.out,e])) (Bw.refl _)
theorem OG (w:World) (xs ys:List Int) (v1 v2:Value) (h1:Rd aB w xs [v1]) (h2:Rd aB w ys [v2]) :
  Calls prog 93 #[v1,v2] w (Ret w (.bool (decide (xs=ys)))):=by
 obtain ⟨A1,n1,c1,rfl,a1,a2,a3⟩:=qA h1;obtain ⟨A2,n2,c2,rfl,b1,b2,b3⟩:=qA h2;unfold maxLen at a3 b3;have L1:=pA6 a1;have L2:=pA6 b1;clear a1 b1;by_cases hl:n1=n2
 ·subst hl;go_enter func93,ntmps93;go_wp2
  go_loopw [13] (fun i w'=>∃k:Nat,k<=n1/\i=.int .i64 k/\xs.take k=ys.take k/\Bw w w') (fun i _=>n1-(intOf i).toNat)
  case atStart=>exact ⟨0,by omega,rfl,by simp,Bw.refl _⟩
  case round=>
   obtain ⟨k,hk,rfl,he,hb⟩:=hrel;have HE:=pA6 he;clear he;by_cases hlt:k<n1
   ·obtain ⟨x,hx⟩:=tA (xs:=xs) (k:=k) (by rw [<-L1.out];exact hlt);obtain ⟨y,hy⟩:=tA (xs:=ys) (k:=k) (by rw [<-L2.out];exact hlt);obtain ⟨ba,oa,rfl,_,hcx⟩:=KB (h1.bw dA hb) hx;obtain ⟨bb,ob,rfl,_,hcy⟩:=KB (h2.bw dA hb) hy;have HX:=pA6 hx;have HY:=pA6 hy;clear hx hy h1 h2;go_wp2
    go_quiet (fail)
    go_wp2
    ·have bc:(x != y)=true:=by assumption
     go_ret;exact Ret.bool (by simpa using tK HX.out HY.out (by simpa using bc)) (hb.drewN _)
    ·have bc:x=y:=by first | assumption | (have:(x != y)=false:=(by assumption);simpa using this)
     go_roundw
     case rel=>exact ⟨k+1,by omega,by go_num,iK HE.out HX.out HY.out bc,hb.drewN _⟩
     case measure=>simp [intOf];omega
   ·go_wp2;go_ret;exact Ret.bool (by simpa using fJ HE.out (by rw [<-L1.out];omega) (by rw [<-L2.out];omega)) hb
 ·go_enter func93,ntmps93;go_wp2;go_ret;exact Ret.bool (by simp;intro e;exact hl (by rw [L1.out,L2.out,e])) (Bw.refl _)
theorem xC:(prog.info? 3).map (fun i=>(i.zero,i.size,i.bytes))=some (some (.int .i64 0),1,8):=by kernel_rfl
abbrev WA:Fp (List Int):=fSl 3 1 IF
theorem aA {B:Nat}:tC B WA:=CC YA
theorem ZM {B:Nat} {w:World} {xs:List Int} {cs:List Value} {F:List Nat} (h:WA w xs cs F):aB w (fun b=>b∈F\/b<B) xs cs:=sK IY (fun _ _ _ h=>mAw h) h
theorem xA {w:World} {xs:List Int} {cs:List Value} {F:List Nat} (h:WA w xs cs F):Rd aB w xs cs:=Rd.of dA (B:=0) (ZM h) ((aA (B:=0)).lt h) (Nat.zero_le _)
def nE {α:Type} (f:Fp α) (B:Nat) (x:α) (w:World) (v:Value):Prop:=∃F,f w x [v] F/\sA B F
abbrev AE:Fp (List EB):=fSl 214 2 ET
theorem EA {B:Nat}:tC B AE:=CC SF
theorem LY {B:Nat} {w:World} {xs:List EB} {cs:List Value} {F:List Nat} (h:AE w xs cs F):MC w (fun b=>b∈F\/b<B) xs cs:=sK iV (fun _ _ _ h=>kAm h) h
theorem aC {w:World} {xs:List EB} {cs:List Value} {F:List Nat} (h:AE w xs cs F):Rd MC w xs cs:=Rd.of RA (B:=0) (LY h) ((EA (B:=0)).lt h) (Nat.zero_le _)
theorem SX (w:World) (xs ys:List EB) (v1 v2:Value) (h1:Rd MC w xs [v1]) (h2:Rd MC w ys [v2]) :
  Calls prog 230 #[v1,v2] w (Ret w (.bool (decide (xs=ys)))):=by
 obtain ⟨A1,n1,c1,rfl,a1,a2,a3⟩:=qA h1;obtain ⟨A2,n2,c2,rfl,b1,b2,b3⟩:=qA h2;unfold maxLen at a3 b3;have L1:=pA6 a1;have L2:=pA6 b1;clear a1 b1;by_cases hl:n1=n2
 ·subst hl;go_enter func230,ntmps230;go_wp2
  go_loopw [5] (fun i w'=>∃k:Nat,k<=n1/\i=.int .i64 k/\xs.take k=ys.take k/\Bw w w') (fun i _=>n1-(intOf i).toNat)
  case atStart=>exact ⟨0,by omega,rfl,by simp,Bw.refl _⟩
  case round=>
   obtain ⟨k,hk,rfl,he,hb⟩:=hrel;have HE:=pA6 he;clear he;by_cases hlt:k<n1
   ·obtain ⟨x,hx⟩:=tA (xs:=xs) (k:=k) (by rw [<-L1.out];exact hlt);obtain ⟨y,hy⟩:=tA (xs:=ys) (k:=k) (by rw [<-L2.out];exact hlt);obtain ⟨ba,oa,rfl,_,hcx,hcx'⟩:=FG (h1.bw RA hb) hx;obtain ⟨bb,ob,rfl,_,hcy,hcy'⟩:=FG (h2.bw RA hb) hy;have HX:=pA6 hx;have HY:=pA6 hy;clear hx hy h1 h2;by_cases hxy:x=y
    ·subst hxy;go_wp2
     go_quiet (fail)
     go_wp2
     go_roundw
     case rel=>exact ⟨k+1,by omega,by go_num,iK HE.out HX.out HY.out rfl,hb.drewN _⟩
     case measure=>simp [intOf];omega
    ·have HN:=pA6 hxy;have bc:¬(x.fst=y.fst/\x.snd=y.snd):=fun h=>hxy ((EB.eq_iff x y).2 h)
     have bd:∀W,Bw w W->Ret w (.bool (decide (xs=ys))) (.returned (.bool false)) W:=fun W hW=>Ret.bool (by simpa using tK HX.out HY.out hxy) hW
     clear hxy;by_cases h1:x.fst=y.fst
     ·have h2:¬x.snd=y.snd:=fun h=>bc ⟨h1,h⟩
      clear bc;go_wp2
      go_quiet (fail)
      go_wp2;go_ret;exact bd _ (hb.drewN _)
     ·clear bc;go_wp2
      go_quiet (fail)
      go_wp2;go_ret;exact bd _ (hb.drewN _)
   ·go_wp2;go_ret;exact Ret.bool (by simpa using fJ HE.out (by rw [<-L1.out];omega) (by rw [<-L2.out];omega)) hb
 ·go_enter func230,ntmps230;go_wp2;go_ret;exact Ret.bool (by simp;intro e;exact hl (by rw [L1.out,L2.out,e])) (Bw.refl _)
theorem MP (w:World) (xs ys:List EB) (v1 v2:Value) (h1:Rd MC w xs [v1]) (h2:Rd MC w ys [v2]) :
  Calls prog 238 #[v1,v2] w (Ret w (.bool (decide (xs=ys)))):=by
 obtain ⟨A1,n1,c1,rfl,a1,a2,a3⟩:=qA h1;obtain ⟨A2,n2,c2,rfl,b1,b2,b3⟩:=qA h2;unfold maxLen at a3 b3;have L1:=pA6 a1;have L2:=pA6 b1;clear a1 b1;by_cases hl:n1=n2
 ·subst hl;go_enter func238,ntmps238;go_wp2
  go_loopw [13] (fun i w'=>∃k:Nat,k<=n1/\i=.int .i64 k/\xs.take k=ys.take k/\Bw w w') (fun i _=>n1-(intOf i).toNat)
  case atStart=>exact ⟨0,by omega,rfl,by simp,Bw.refl _⟩
  case round=>
   obtain ⟨k,hk,rfl,he,hb⟩:=hrel;have HE:=pA6 he;clear he;by_cases hlt:k<n1
   ·obtain ⟨x,hx⟩:=tA (xs:=xs) (k:=k) (by rw [<-L1.out];exact hlt);obtain ⟨y,hy⟩:=tA (xs:=ys) (k:=k) (by rw [<-L2.out];exact hlt);obtain ⟨ba,oa,rfl,_,hcx,hcx'⟩:=FG (h1.bw RA hb) hx;obtain ⟨bb,ob,rfl,_,hcy,hcy'⟩:=FG (h2.bw RA hb) hy;have HX:=pA6 hx;have HY:=pA6 hy;clear hx hy h1 h2;by_cases hxy:x=y
    ·subst hxy;go_wp2
     go_quiet (fail)
     go_wp2
     go_roundw
     case rel=>exact ⟨k+1,by omega,by go_num,iK HE.out HX.out HY.out rfl,hb.drewN _⟩
     case measure=>simp [intOf];omega
    ·have HN:=pA6 hxy;have bc:¬(x.fst=y.fst/\x.snd=y.snd):=fun h=>hxy ((EB.eq_iff x y).2 h)
     have bd:∀W,Bw w W->Ret w (.bool (decide (xs=ys))) (.returned (.bool false)) W:=fun W hW=>Ret.bool (by simpa using tK HX.out HY.out hxy) hW
     clear hxy;by_cases h1:x.fst=y.fst
     ·have h2:¬x.snd=y.snd:=fun h=>bc ⟨h1,h⟩
      clear bc;go_wp2
      go_quiet (fail)
      go_wp2;go_ret;exact bd _ (hb.drewN _)
     ·clear bc;go_wp2
      go_quiet (fail)
      go_wp2;go_ret;exact bd _ (hb.drewN _)
   ·go_wp2;go_ret;exact Ret.bool (by simpa using fJ HE.out (by rw [<-L1.out];omega) (by rw [<-L2.out];omega)) hb
 ·go_enter func238,ntmps238;go_wp2;go_ret;exact Ret.bool (by simp;intro e;exact hl (by rw [L1.out,L2.out,e])) (Bw.refl _)
theorem mH {W w1:World} (hb:Bw W w1):∀b o,b<W.heap.size->w1.cell? ⟨b,o,none⟩=W.cell? ⟨b,o,none⟩:=fun b o h=>Below.cell (p:=⟨b,o,none⟩) hb h
theorem oC {W w1:World} (hb:Bw W w1):∀b o,b<W.heap.size->w1.frozen? ⟨b,o,none⟩=W.frozen? ⟨b,o,none⟩:=fun b o h=>Below.frozen (p:=⟨b,o,none⟩) hb h
def inB (x lo hi:Int):Bool:=decide (lo<=x/\x<=hi)
def gB (x:iA):Bool:=inB x.id 0 99 && (decide (x.vals.length=3) && x.vals.all fun v=>inB v 0 9)
def tS (l:List Int):Bool:=l.all fun v=>inB v 0 9
theorem rD (w:World) (x lo hi:Int):Calls prog 94 #[.int .i64 x,.int .i64 lo,.int .i64 hi] w (Ret w (.bool (inB x lo hi))):=by
 by_cases h1:lo<=x<;>by_cases h2:x<=hi
 all_goals
  go_enter func94,ntmps94;go_wp2;go_ret;exact Ret.bool (by simp [inB,h1,h2]) (Bw.refl _)
theorem UH (w:World) (x lo hi:Int):Calls prog 103 #[.int .i64 x,.int .i64 lo,.int .i64 hi] w (Ret w (.bool (inB x lo hi))):=by
 by_cases h1:lo<=x<;>by_cases h2:x<=hi
 all_goals
  go_enter func103,ntmps103;go_wp2;go_ret;exact Ret.bool (by simp [inB,h1,h2]) (Bw.refl _)
theorem bAx {α:Type} {xs:List α} {k:Nat} {x:α} (hx:xs[k]? = some x) (f:α->Bool):(xs.drop k).all f=(f x && (xs.drop (k+1)).all f):=by
 rw [nC hx,List.all_cons]
theorem bAy (w:World) (xs:List Int) (v:Value) (h:Rd aB w xs [v]):Calls prog 157 #[v] w (Ret w (.bool (tS xs))):=by
 obtain ⟨A,n,c,rfl,a1,a2,a3⟩:=qA h;unfold maxLen at a3;have L1:=pA6 a1;clear a1;go_enter func157,ntmps157;go_wp2
 go_loopw [7] (fun i w'=>∃k:Nat,k<=n/\i=.int .i64 k/\Hid (tS xs=(xs.drop k).all fun v=>inB v 0 9)/\Bw w w') (fun i _=>n-(intOf i).toNat)
 case atStart=>exact ⟨0,by omega,rfl,rfl,Bw.refl _⟩
 case round=>
  obtain ⟨k,hk,rfl,HE,hb⟩:=hrel;by_cases hlt:k<n
  ·obtain ⟨x,hx⟩:=tA (xs:=xs) (k:=k) (by rw [<-L1.out];exact hlt);obtain ⟨ba,oa,rfl,_,hcx⟩:=KB (h.bw dA hb) hx;have HS:=pA6 (bAx hx (fun v=>inB v 0 9));clear hx h;go_wp2_with fail;refine (rD _ _ _ _).mono ?_;rintro e w2 ⟨rfl,bc⟩;have bb:=hb.then bc;by_cases hi:inB x 0 9=true
   ·go_wp2
    go_roundw
    case rel=>exact ⟨k+1,by omega,by go_num,by show _=_;rw [HE.out,HS.out];simp [hi],bb⟩
    case measure=>simp [intOf];omega
   ·have bd:inB x 0 9=false:=by simpa using hi
    clear hi;go_wp2;go_ret;exact Ret.bool (by rw [HE.out,HS.out];simp [bd]) bb
  ·go_wp2;go_ret;exact Ret.bool (by rw [HE.out,List.drop_of_length_le (by rw [<-L1.out];omega)];simp) hb
theorem cG (w:World) (x:iA) (v:Value) (h:Rd aB w x.vals [v]):Calls prog 76 #[.agg #[.int .i64 x.id,v]] w (Ret w (.bool (gB x))):=by
 obtain ⟨A,n,c,rfl,a1,a2,a3⟩:=qA h;unfold maxLen at a3;have L1:=pA6 a1;clear a1;go_enter func76,ntmps76;go_wp2_with fail;refine (rD _ _ _ _).mono ?_;rintro e w2 ⟨rfl,bb⟩;have B2:=((Bw.refl w).alloc _).then bb;have hc:=mH bb;by_cases h1:inB x.id 0 99=true
 ·by_cases h2:n=3
  ·have h3:((n:Int)==3)=true:=by simp [h2]
   have H2:=pA6 h2;clear h2;go_wp2_with fail;refine (bAy _ x.vals _ (h.bw dA B2)).mono ?_;rintro e w3 ⟨rfl,bd⟩;go_wp2;go_ret;exact Ret.bool (by have e1:=L1.out;have e2:=H2.out;rw [e2] at e1;simp [gB,tS,h1,<-e1]) (B2.then bd)
  ·have h3:((n:Int)==3)=false:=by simp;omega
   go_wp2;go_ret;exact Ret.bool (by have e1:=L1.out;rw [e1] at h2;simp [gB,h1,h2]) B2
 ·have bc:inB x.id 0 99=false:=by simpa using h1
  clear h1;go_wp2;go_ret;exact Ret.bool (by simp [gB,bc]) B2
theorem XG (w:World) (x:iA) (v:Value) (h:Rd aB w x.vals [v]):Calls prog 84 #[.agg #[.int .i64 x.id,v]] w (Ret w (.bool (gB x))):=by
 obtain ⟨A,n,c,rfl,a1,a2,a3⟩:=qA h;unfold maxLen at a3;have L1:=pA6 a1;clear a1;go_enter func84,ntmps84;go_wp2
 go_loopw [3] (fun i w'=>∃k:Nat,k<=n/\i=.int .i64 k/\Hid ((x.vals.all fun v=>inB v 0 9)=(x.vals.drop k).all fun v=>inB v 0 9)/\Bw (w.alloc (.cells #[.int .i64 x.id,.slice A n c] 30)) w') (fun i _=>n-(intOf i).toNat)
 case atStart=>exact ⟨0,by omega,rfl,rfl,Bw.refl _⟩
 case round=>
  obtain ⟨k,hk,rfl,HE,hb⟩:=hrel;have hc:=mH hb;have B1:=((Bw.refl w).alloc _).then hb;by_cases hlt:k<n
  ·obtain ⟨y,hx⟩:=tA (xs:=x.vals) (k:=k) (by rw [<-L1.out];exact hlt);obtain ⟨ba,oa,rfl,_,hcx⟩:=KB (h.bw dA B1) hx;have HS:=pA6 (bAx hx (fun v=>inB v 0 9));clear hx h;go_wp2_with fail;refine (UH _ _ _ _).mono ?_;rintro e w2 ⟨rfl,bb⟩;have bd:=hb.then bb;clear hc;by_cases hi:inB y 0 9=true
   ·go_wp2
    go_roundw
    case rel=>exact ⟨k+1,by omega,by go_num,by show _=_;rw [HE.out,HS.out];simp [hi],bd⟩
    case measure=>simp [intOf];omega
   ·have bf:inB y 0 9=false:=by simpa using hi
    clear hi;go_wp2;go_ret;exact Ret.bool (by rw [gB,HE.out,HS.out];simp [bf]) (B1.then bb)
  ·have HA:Hid ((x.vals.all fun v=>inB v 0 9)=true):=by
    show _=_
    rw [HE.out,List.drop_of_length_le (by rw [<-L1.out];omega)];rfl
   go_wp2_with fail;refine (UH _ _ _ _).mono ?_;rintro e w2 ⟨rfl,bb⟩;have hc2:=mH (hb.then bb);clear hc;by_cases h1:inB x.id 0 99=true
   ·by_cases h2:n=3
    ·have h3:((n:Int)==3)=true:=by simp [h2]
     have H2:=pA6 h2;clear h2;go_wp2;go_ret;exact Ret.bool (by have e1:=L1.out;have e2:=H2.out;rw [e2] at e1;simp [gB,HA.out,h1,<-e1]) (B1.then bb)
    ·have h3:((n:Int)==3)=false:=by simp;omega
     go_wp2;go_ret;exact Ret.bool (by have e1:=L1.out;rw [e1] at h2;simp [gB,h1,h2]) (B1.then bb)
   ·have bc:inB x.id 0 99=false:=by simpa using h1
    clear h1;go_wp2;go_ret;exact Ret.bool (by simp [gB,bc]) (B1.then bb)
theorem IG:(prog.info? 30).map (fun i=>(i.zero,i.size,i.bytes))=some (some (.agg #[.int .i64 0,.slice none 0 0]),2,32):=by kernel_rfl
def zH:Fp iA:=fun w x cs F=>∃v,cs=[.int .i64 x.id,v]/\WA w x.vals [v] F
theorem sD {B:Nat}:tC B zH:=
 ⟨fun hw ⟨v,e,h⟩=>⟨v,e,aA.step hw h⟩,fun ⟨v,e,h⟩=>(aA (B:=B)).lt h,fun ⟨v,e,h⟩ u hu=>by
  rw [e] at hu;simp at hu;rcases hu with rfl | rfl
  ·rfl
  ·exact (aA (B:=B)).one h _ (by simp)⟩
theorem kAo {B:Nat} {w:World} {x:iA} {cs:List Value} {F:List Nat} (h:zH w x cs F):XM w (fun b=>b∈F\/b<B) x cs:=by
 obtain ⟨v,e,h⟩:=h;exact ⟨v,e,ZM h⟩
abbrev tD:Fp (List iA):=fSl 30 2 zH
theorem rA {B:Nat}:tC B tD:=CC sD
theorem vS {B:Nat} {w:World} {xs:List iA} {cs:List Value} {F:List Nat} (h:tD w xs cs F):LA w (fun b=>b∈F\/b<B) xs cs:=sK qG (fun _ _ _ h=>kAo h) h
theorem pC {w:World} {xs:List iA} {cs:List Value} {F:List Nat} (h:tD w xs cs F):Rd LA w xs cs:=Rd.of gA (B:=0) (vS h) ((rA (B:=0)).lt h) (Nat.zero_le _)
def hAt (w:World) (x:iA) (e:Ending) (w':World):Prop:=∃v,e=.returned (.agg #[.int .i64 x.id,v])/\nE WA w.heap.size x.vals w' v/\Bw w w'
theorem tC.bw {α:Type} {f:Fp α} {B:Nat} (hg:tC B f) {w w':World} (hb:Bw w w') (hB:B<=w.heap.size) {x:α} {cs:List Value} {F:List Nat} (h:f w x cs F):f w' x cs F:=
 hg.step (fun b hbF=>Below.block hb b (hbF.elim (hg.lt h b) (fun h=>Nat.lt_of_lt_of_le h hB))) h
def JH {α:Type} (f:α->Nat):List α->Nat
 | []=>0
 | x::xs=>f x+JH f xs
theorem aAa {α:Type} (f:α->Nat):∀ {xs:List α} {x:α},x∈xs->f x<=JH f xs
 | y::ys,x,h=>by
  rcases List.mem_cons.1 h with rfl | h
  ·simp only [JH];omega
  ·have:=aAa f h;simp only [JH];omega
theorem MY {α:Type} (f:α->Nat) {xs:List α} {k:Nat} {x:α} (h:xs[k]? = some x):JH f (xs.drop k)=f x+JH f (xs.drop (k+1)):=by rw [nC h,JH]
def jC (xs:List iA):Nat:=xs.length+JH (fun x=>x.vals.length) xs
end Go.Proofs.YtpihighajaeabaaGreat
