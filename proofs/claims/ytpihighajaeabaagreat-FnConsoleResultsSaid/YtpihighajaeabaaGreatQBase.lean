/- Words of our own for reading and owning memory; no program in sight. -/
import Derived.WalkKit
import Derived.ProofKit
import Derived.Below
import Derived.Lib.Hide
import Derived.Deep.QuietTactic
import Derived.BigQuiet
import Derived.Outline
import Derived.Deep.LoopGhost
import Derived.WalkSpells
import Derived.WalkLawsBesides
import Derived.Deep.RegionHeld3
import Derived.StillTailTactics
import Derived.Deep.OwnRows
import Derived.Deep.AppendLies
import Derived.Maps.AppendAt
namespace Go.Proofs.YtpihighajaeabaaGreat
open Go.RowKit
set_option linter.unusedVariables false
def Bw (w w':World):Prop:=Below w.heap.size w w'
theorem Bw.refl (w:World):Bw w w:=Below.refl _ _
theorem Bw.size {w w':World} (h:Bw w w'):w.heap.size≤w'.heap.size:=Below.size h
theorem Bw.then {a b c:World} (h:Bw a b) (k:Bw b c):Bw a c:=Below.trans h (Below.mono k h.size)
theorem Bw.alloc {a w:World} (h:Bw a w) (o:Obj):Bw a (w.alloc o):=Below.alloc h h.size o
theorem Bw.drew {a w:World} (h:Bw a w):Bw a w.drew:=Below.drew h
theorem Bw.drewN {a w:World} (h:Bw a w) (n:Nat):Bw a (w.drewN n):=have k:Below a.heap.size a w:=h;⟨k.os,k.tape,k.output,k.size,k.block⟩
theorem Bw.set {a w:World} (h:Bw a w) {p:Addr} (hp:a.heap.size≤p.block) (u:Value):Bw a (w.setCell p u):=Below.setCell h hp u
theorem Bw.grown {a w w':World} (h:Bw a w) {row:Option Nat} (hg:w.grownBy w' row) (hr:∀k,row=some k→a.heap.size≤k):Bw a w':=Below.grown h hg h.size hr
theorem Bw.cell {a w:World} (h:Bw a w) {p:Addr} {u:Value} (hc:a.cell? p=some u):w.cell? p=some u:=(Below.cell h (World.block_lt_of_cell? a p hc)).trans hc
def Ret (w:World) (v:Value) (e:Ending) (w':World):Prop:=e=.returned v∧Bw w w'
theorem Ret.int {w w':World} {k:IntKind} {a b:Int} (h:a=b) (hb:Bw w w'):Ret w (.int k b) (.returned (.int k a)) w':=⟨by rw [h],hb⟩
theorem Ret.bool {w w':World} {a b:Bool} (h:a=b) (hb:Bw w w'):Ret w (.bool b) (.returned (.bool a)) w':=⟨by rw [h],hb⟩
theorem Ret.str {w w':World} {a b:ByteArray} (h:a=b) (hb:Bw w w'):Ret w (.string b) (.returned (.string a)) w':=⟨by rw [h],hb⟩
def BC (w:World) (R:World→Value→Prop) (e:Ending) (w':World):Prop:=∃v,e=.returned v∧R w' v∧Bw w w'
abbrev XB:=Nat→Prop
abbrev Rep (α:Type):=World→XB→α→List Value→Prop
abbrev lt (w:World):XB:=fun b=>b<w.heap.size
structure zN (S S':XB) (w w':World):Prop where
 sub:∀b,S b→S' b
 cell:∀p:Addr,S p.block→w'.cell? p=w.cell? p
structure sG {α:Type} (R:Rep α):Prop where
 step:∀ {w w':World} {S S':XB} {x:α} {cs:List Value},zN S S' w w'→R w S x cs→R w' S' x cs
theorem zN.bw {w w':World} (h:Bw w w'):zN (lt w) (lt w') w w':=⟨fun _ hb=>Nat.lt_of_lt_of_le hb h.size,fun _ hp=>Below.cell h hp⟩
def Rd {α:Type} (R:Rep α) (w:World) (x:α) (cs:List Value):Prop:=R w (lt w) x cs
theorem Rd.bw {α:Type} {R:Rep α} (hR:sG R) {w w':World} {x:α} {cs:List Value} (h:Rd R w x cs) (hb:Bw w w'):Rd R w' x cs:=hR.step (zN.bw hb) h
def gAq:Rep Int:=fun _ _ n cs=>cs=[.int .i64 n]
def iAi:Rep ByteArray:=fun _ _ s cs=>cs=[.string s]
theorem PT:sG gAq:=⟨fun _ h=>h⟩
theorem QT:sG iAi:=⟨fun _ h=>h⟩
def rSl {α:Type} (sz:Nat) (R:Rep α):Rep (List α):=fun w S xs cs=>
 ∃A c,cs=[.slice A xs.length c]∧xs.length≤c∧c≤maxLen ∧
  ∀k x,xs[k]? = some x→∃b o us,A=some ⟨b,o,none⟩∧S b∧us.length=sz∧(∀j u,us[j]? = some u→w.cell? ⟨b,o+k*sz+j,none⟩=some u)∧R w S x us
theorem iAq (a:Addr) (n:Nat):(a.add n).block=a.block:=by unfold Addr.add;split<;>rfl
theorem jA9 (a:Addr) (i j:Nat):(a.add i).add j=a.add (i+j):=by
 unfold Addr.add;by_cases hi:i=0<;>by_cases hj:j=0<;>simp [hi,hj,Nat.add_assoc]
theorem qF {α:Type} {sz:Nat} {R:Rep α} (hR:sG R):sG (rSl sz R):=by
 refine ⟨fun {w w' S S' xs cs} hA ⟨A,c,hcs,hl,hm,hk⟩=>⟨A,c,hcs,hl,hm,fun k x hx=>?_⟩⟩;obtain ⟨b,o,us,e,hS,hlen,hc,hr⟩:=hk k x hx;exact ⟨b,o,us,e,hA.sub _ hS,hlen,fun j u hu=>(hA.cell _ hS).trans (hc j u hu),hR.step hA hr⟩
theorem AN {α:Type} {sz:Nat} {R:Rep α} {w:World} {S:XB}:rSl sz R w S [] [.slice none 0 0]:=
 ⟨none,0,rfl,Nat.le_refl _,by simp [maxLen],fun k x hx=>by simp at hx⟩
structure gA where
 id:Int
 vals:List Int
structure lB where
 fst:Int
 snd:Int
structure eB where
 kind:Int
 field:Int
 value:Int
 list:List Int
 pairs:List lB
structure kA where
 op:Int
 wish:eB
structure tA where
 items:List gA
 wanted:List kA
 best:List Int
 tests:Int
structure fK where
 rule:Int
 pos:Int
 after:List kA
theorem gA.eq_iff (a b:gA):a=b↔a.id=b.id∧a.vals=b.vals:=by cases a;cases b;simp
theorem lB.eq_iff (a b:lB):a=b↔a.fst=b.fst∧a.snd=b.snd:=by cases a;cases b;simp
instance:DecidableEq gA:=fun a b=>decidable_of_iff _ (gA.eq_iff a b).symm
instance:DecidableEq lB:=fun a b=>decidable_of_iff _ (lB.eq_iff a b).symm
theorem eB.eq_iff (a b:eB):a=b↔a.kind=b.kind∧a.field=b.field∧a.value=b.value∧a.list=b.list∧a.pairs=b.pairs:=by cases a;cases b;simp
instance:DecidableEq eB:=fun a b=>decidable_of_iff _ (eB.eq_iff a b).symm
theorem kA.eq_iff (a b:kA):a=b↔a.op=b.op∧a.wish=b.wish:=by cases a;cases b;simp
instance:DecidableEq kA:=fun a b=>decidable_of_iff _ (kA.eq_iff a b).symm
theorem tA.eq_iff (a b:tA):a=b↔a.items=b.items∧a.wanted=b.wanted∧a.best=b.best∧a.tests=b.tests:=by cases a;cases b;simp
instance:DecidableEq tA:=fun a b=>decidable_of_iff _ (tA.eq_iff a b).symm
theorem fK.eq_iff (a b:fK):a=b↔a.rule=b.rule∧a.pos=b.pos∧a.after=b.after:=by cases a;cases b;simp
instance:DecidableEq fK:=fun a b=>decidable_of_iff _ (fK.eq_iff a b).symm
def XA:Rep (List Int):=rSl 1 gAq
def eAf:Rep lB:=fun _ _ p cs=>cs=[.int .i64 p.fst,.int .i64 p.snd]
def RB:Rep (List lB):=rSl 2 eAf
def eF:Rep gA:=fun w S x cs=>∃v,cs=[.int .i64 x.id,v]∧XA w S x.vals [v]
def MA:Rep (List gA):=rSl 2 eF
def eAg:Rep eB:=fun w S x cs=>∃v u,cs=[.int .i64 x.kind,.int .i64 x.field,.int .i64 x.value,v,u]∧XA w S x.list [v]∧RB w S x.pairs [u]
def FK:Rep kA:=fun w S x cs=>∃us,cs=.int .i64 x.op::us∧eAg w S x.wish us
def RA:Rep (List kA):=rSl 6 FK
def gV:Rep (List (List Int)):=rSl 1 XA
def dD:Rep (List (List kA)):=rSl 1 RA
def OQ:Rep (List ByteArray):=rSl 1 iAi
theorem dA:sG XA:=qF PT
theorem PQ:sG eAf:=⟨fun _ h=>h⟩
theorem DA:sG RB:=qF PQ
theorem UB:sG eF:=⟨fun hA ⟨v,e,h⟩=>⟨v,e,dA.step hA h⟩⟩
theorem jA:sG MA:=qF UB
theorem oZ:sG eAg:=⟨fun hA ⟨v,u,e,h,k⟩=>⟨v,u,e,dA.step hA h,DA.step hA k⟩⟩
theorem YC:sG FK:=⟨fun hA ⟨us,e,h⟩=>⟨us,e,oZ.step hA h⟩⟩
theorem lA:sG RA:=qF YC
theorem IW:sG gV:=qF dA
theorem dC:sG dD:=qF lA
theorem tG:sG OQ:=qF QT
section
variable {w:World} {S:XB} {A:Option Addr} {n c k:Nat}
theorem aB {α:Type} {sz:Nat} {R:Rep α} {xs:List α} {v:Value} (h:rSl sz R w S xs [v]):∃A c,v=.slice A xs.length c∧xs.length≤c∧c≤maxLen:=by
 obtain ⟨A,c,e,h1,h2,_⟩:=h;injection e with e;exact ⟨A,c,e,h1,h2⟩
theorem iA {α:Type} {sz:Nat} {R:Rep α} {xs:List α} {v:Value} (h:rSl sz R w S xs [v]):∃A n c,v=.slice A n c∧n=xs.length∧n≤c∧c≤maxLen:=by
 obtain ⟨A,c,e,h1,h2,_⟩:=h;injection e with e;exact ⟨A,_,c,e,rfl,h1,h2⟩
theorem UG {α:Type} {sz:Nat} {R:Rep α} {xs:List α} (h:rSl sz R w S xs [.slice A n c]):n=xs.length∧n≤c∧c≤maxLen:=by
 obtain ⟨A',c',e,h1,h2,_⟩:=h;injection e with e;injection e with e1 e2 e3;subst e1 e2 e3;exact ⟨rfl,h1,h2⟩
theorem RK {α:Type} {sz:Nat} {R:Rep α} {xs:List α} (h:rSl sz R w S xs [.slice A n c]) {x:α} (hx:xs[k]? = some x) :
  ∃b o us,A=some ⟨b,o,none⟩∧S b∧us.length=sz∧(∀j u,us[j]? = some u→w.cell? ⟨b,o+k*sz+j,none⟩=some u)∧R w S x us:=by
 obtain ⟨A',c',e,h1,h2,h3⟩:=h;injection e with e;injection e with e1 e2 e3;subst e1 e2 e3;exact h3 k x hx
theorem GB {xs:List Int} (h:XA w S xs [.slice A n c]) {x:Int} (hx:xs[k]? = some x):∃b o,A=some ⟨b,o,none⟩∧S b∧w.cell? ⟨b,o+k,none⟩=some (.int .i64 x):=by
 obtain ⟨b,o,us,e,hS,_,hc,rfl⟩:=RK h hx;exact ⟨b,o,e,hS,by simpa using hc 0 _ rfl⟩
theorem cE {xs:List ByteArray} (h:OQ w S xs [.slice A n c]) {x:ByteArray} (hx:xs[k]? = some x):∃b o,A=some ⟨b,o,none⟩∧S b∧w.cell? ⟨b,o+k,none⟩=some (.string x):=by
 obtain ⟨b,o,us,e,hS,_,hc,rfl⟩:=RK h hx;exact ⟨b,o,e,hS,by simpa using hc 0 _ rfl⟩
theorem YE {xs:List lB} (h:RB w S xs [.slice A n c]) {x:lB} (hx:xs[k]? = some x):∃b o,A=some ⟨b,o,none⟩∧S b ∧
  w.cell? ⟨b,o+k*2,none⟩=some (.int .i64 x.fst)∧w.cell? ⟨b,o+k*2+1,none⟩=some (.int .i64 x.snd):=by
 obtain ⟨b,o,us,e,hS,_,hc,rfl⟩:=RK h hx;exact ⟨b,o,e,hS,hc 0 _ rfl,hc 1 _ rfl⟩
theorem mB {xs:List gA} (h:MA w S xs [.slice A n c]) {x:gA} (hx:xs[k]? = some x):∃b o A' c',A=some ⟨b,o,none⟩∧S b ∧
  w.cell? ⟨b,o+k*2,none⟩=some (.int .i64 x.id)∧w.cell? ⟨b,o+k*2+1,none⟩=some (.slice A' x.vals.length c')∧XA w S x.vals [.slice A' x.vals.length c']:=by
 obtain ⟨b,o,us,e,hS,_,hc,v,rfl,hv⟩:=RK h hx;obtain ⟨A',c',rfl,_⟩:=aB hv;exact ⟨b,o,A',c',e,hS,hc 0 _ rfl,hc 1 _ rfl,hv⟩
theorem cA1 {xs:List (List Int)} (h:gV w S xs [.slice A n c]) {x:List Int} (hx:xs[k]? = some x):∃b o A' c',A=some ⟨b,o,none⟩∧S b ∧
  w.cell? ⟨b,o+k,none⟩=some (.slice A' x.length c')∧XA w S x [.slice A' x.length c']:=by
 obtain ⟨b,o,us,e,hS,_,hc,hv⟩:=RK h hx;obtain ⟨A',c',e',_⟩:=hv;subst e';exact ⟨b,o,A',c',e,hS,by simpa using hc 0 _ rfl,⟨A',c',rfl,by assumption⟩⟩
end
def GC (w:World):Type:={ w':World // Bw w w' }
instance (w:World):Nonempty (GC w):=⟨⟨w,Bw.refl w⟩⟩
theorem GC.bw {w:World} (s:GC w):Bw w s.1:=s.2
theorem mA {P:Program} {id:Nat} {Q:Exit→Act→World→Prop} {a:Act} {w:World} {l:List Oper} (hm:P.follows .mixedOrders=true) (hB:Region.lexB .any l.toArray=true)
  (h:wpQuiet P l.toArray (fun w'=>∃s:GC w,w'=s.1) (fun a'=>∀s:GC w,Q .normal a' s.1) l a):(Code.region id l.toArray true).wp P Q a w:=by
 refine wp_region_quiet (C:=fun w'=>∃s:GC w,w'=s.1) hm hB ⟨⟨w.drewN 1,(Bw.refl w).drewN 1⟩,rfl⟩ ?_;have e:(fun a'=>∀w',(∃s:GC w,w'=s.1)→Q .normal a' w')=(fun a'=>∀s:GC w,Q .normal a' s.1):=by
  funext a'
  exact propext ⟨fun h s=>h _ ⟨s,rfl⟩,fun h w' ⟨s,e⟩=>e▸h s⟩
 rw [e]
 simpa using h
theorem GA {P:Program} {f:FuncId} {args:Array Value} {w:World} {s:GC w} {v:Value} (h:Calls P f args s.1 (Ret s.1 v)) :
  Calls P f args s.1 fun e w''=>e=.returned v∧∃t:GC w,w''=t.1:=
 h.mono fun _ w' h=>⟨h.1,⟨w',s.2.then h.2⟩,rfl⟩
theorem qA {w:World} {p:Addr} {u:Value} (h:w.cell? p=some u):∀s:GC w,s.1.cell? p=some u:=fun s=>s.2.cell h
end Go.Proofs.YtpihighajaeabaaGreat
