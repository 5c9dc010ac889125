/- Draws: one step of the cursor. -/
import Derived.Test.YtpihighajaeabaaGreatQReplace
import Derived.Test.YtpihighajaeabaaGreatQLines2
import Derived.Test.YtpihighajaeabaaGreatQCopies
import Derived.Deep.Cut
import Derived.Deep.RegionHeld3
import Derived.Test.YtpihighajaeabaaGreatProg
import Derived.Test.YtpihighajaeabaaGreatQText
namespace Go.Proofs.YtpihighajaeabaaGreat
open Go.RowKit
set_option linter.unusedVariables false
set_option linter.unusedSimpArgs false
def wP (ls:List ByteArray):ByteArray:=mkS ((ls.map fun t=>bl t++[10]).flatten)
theorem cZ (ls:List ByteArray) (t:ByteArray):wP (ls++[t])=wP ls++t++⟨#[10]⟩:=by
 refine yH ?_;have e:bl ⟨#[10]⟩=[10]:=rfl;unfold wP;rw [cB,cB,tV,tV,e,List.map_append,List.flatten_append];simp
theorem dZ:∀(ls:List ByteArray),(∀t∈ls,NL t)→WE 10 [] (ls.map fun t=>bl t++[10]).flatten=ls.map bl++[[]]
 | [],_=>rfl
 | t::ls,h=>by
  rw [List.map_cons,List.flatten_cons,List.append_assoc];show WE 10 [] (bl t++10::(ls.map fun t=>bl t++[10]).flatten)=_
  rw [PJ (h t (by simp)),dZ ls (fun u hu=>h u (by simp [hu]))];rfl
theorem bA8 {ls:List ByteArray} (h:∀t∈ls,NL t):MD (wP ls)=ls:=by
 rw [KJ (done:=ls.map bl) (pre:=[]) (by unfold wP;rw [tV];exact dZ ls h),if_pos rfl,List.map_map];exact (List.map_congr_left (fun t _=>BJ t)).trans (List.map_id _)
theorem TS:∀(a b:List ByteArray) (m:CS),BQ m (a++b)=BQ (BQ m a) b
 | [],b,m=>rfl
 | l::a,b,m=>by
  rw [List.cons_append,BQ,BQ];by_cases h:l.size=0
  ·rw [if_pos h,if_pos h,TS a b m]
  ·rw [if_neg h,if_neg h,TS a b _]
structure IL (s want:ByteArray) (ls:List ByteArray) (m:CS):Prop where
 text:s=wP ls
 nl:∀t∈ls,NL t
 out:want=GH st0 ls
 end':BQ st0 ls=m
theorem IL.line {s want:ByteArray} {ls:List ByteArray} {m m':CS} {t a:ByteArray} (h:IL s want ls m) (ht:¬t.size=0) (hn:NL t) (ha:oI m t=(a,m')):IL (s++t++⟨#[10]⟩) (want++a++⟨#[10]⟩) (ls++[t]) m':=by
 refine ⟨by rw [cZ,← h.text],fun u hu=>?_,?_,?_⟩
 ·rcases List.mem_append.1 hu with hu | hu
  ·exact h.nl u hu
  ·rw [List.mem_singleton.1 hu];exact hn
 ·rw [RS,h.end',← h.out,GH,if_neg ht,ha,GH,bA5];exact (yH (by simp only [cB,List.append_assoc]))
 ·rw [TS,h.end',BQ,if_neg ht,ha,BQ]
theorem IL.run {s want:ByteArray} {ls:List ByteArray} {m:CS} (h:IL s want ls m) (h1:s.size≤3000) (h2:ls.length≤60):PS s=want:=by
 unfold PS;rw [if_neg (by omega),h.text,bA8 h.nl,if_neg (by omega),← h.out]
structure cJ (e:List kA) (l:List gA) (k:Nat) (m:CS):Prop where
 on:m.on=true
 items:m.s.items=l
 wanted:m.s.wanted=e
 stand:tB m.s=true
 tests:m.s.tests≤100*k
 len:l.length≤k
theorem cJ.best {e:List kA} {l:List gA} {k:Nat} {m:CS} (h:cJ e l k m):m.s.best=BA l e:=by
 obtain ⟨h1,h2⟩:=ZB h.stand;rw [h.items,h.wanted] at h1 h2;rw [h2];unfold BA;rw [if_pos h1]
theorem cJ.are {e:List kA} {l:List gA} {k:Nat} {m:CS} (h:cJ e l k m):WA l=true:=by
 have:=sA (ZB h.stand).1
 rwa [h.items] at this
theorem US:∀ {a:List UInt8} {r:List UInt8},(∀c∈a,¬c=32)→zG (a++32::r)=some (a,r)
 | [],r,_=>by rw [List.nil_append,zG,if_pos rfl]
 | x::a,r,h=>by rw [List.cons_append,zG,if_neg (h x (by simp)),US (a:=a) (fun c hc=>h c (by simp [hc]))];rfl
theorem EO {m:CS} {word rest:ByteArray} (hw:∀c∈bl word,¬c=32):oI m (word++⟨#[32]⟩++rest)=if word=EL∧(GF rest).2=true then (wOk,⟨SE m.s.items (GF rest).1,true,m.voters⟩) else if m.on=false then (CE,m) else tH m word rest:=by
 have e:bl (word++⟨#[32]⟩++rest)=bl word++32::bl rest:=by
  rw [cB,cB,List.append_assoc];rfl
 unfold oI;rw [e,US hw];simp only [BJ]
theorem oM (word rest:ByteArray):¬(word++⟨#[32]⟩++rest:ByteArray).size=0:=by
 have e:(⟨#[32]⟩:ByteArray).size=1:=rfl;rw [cA,cA];omega
theorem NQ {word rest:ByteArray} (h1:NL word) (h2:NL rest):NL (word++⟨#[32]⟩++rest):=(h1.app (by unfold NL;decide)).app h2
theorem cA0 (x:gA):NL (LB x):=by
 unfold LB
 split
 ·exact ((vN _).app (by unfold NL;decide)).app (gAe _ (by unfold NL;decide))
 ·exact zW
theorem gAh {m:CS} (h:m.on=true):oI m lQ=(nC m.s.best,m):=by
 have e:zG (bl lQ)=none:=OS (by decide);unfold oI;rw [e];dsimp only;rw [if_neg (by rw [h];decide)];unfold eJ;rw [if_neg (by decide),if_pos rfl]
theorem eA8 {e:List kA} (he:bB e=true):∃m,oI st0 (EL++⟨#[32]⟩++JB e)=(wOk,m)∧cJ e [] 0 m:=by
 rw [EO (by decide),aA7 he,if_pos ⟨rfl,rfl⟩];have hb:dB [] e=true:=by unfold dB;rw [he];rfl
 refine ⟨_,rfl,rfl,?_,?_,?_,?_,Nat.le_refl _⟩
 ·show (SE [] e).items=[]
  rw [yI hb]
 ·show (SE [] e).wanted=e
  rw [yI hb]
 ·show tB (SE [] e)=true
  rw [yI hb];exact CL (sA hb) he (by unfold BA;rw [if_pos hb]) ⟨Int.le_refl _,by dsimp only;omega⟩
 ·show (SE [] e).tests≤_
  rw [yI hb];show (0:Int)≤_;omega
def eZ (b:Bool):ByteArray:=if b then wOk else wNo
theorem GO (m:CS) (s:tA) (ok:Bool):(sN m s ok).1=eZ ok:=by cases ok<;>rfl
theorem UU {s:tA} {x:gA} (h:WF s x=true):(cG s x).tests≤s.tests+16:=by
 have:=DD (NG h).1;unfold cG;rw [if_pos h];show s.tests+(s.best.length:Int)≤_
 omega
theorem gAi {s:tA} (h:tB s=true) (id:Int):(KD s id).length≤16:=by
 unfold KD
 split
 ·unfold jG;rw [List.length_map];exact Nat.le_trans (List.length_filter_le _ _) (VA (sA (ZB h).1))
 ·exact Nat.zero_le _
theorem VU {s:tA} {id:Int} (h:oF s id=true):(PE s id).tests≤s.tests+16:=by
 have:=gAi (VH h).1 id;unfold PE;rw [if_pos h];unfold xL
 split
 ·show s.tests+((KD s id).length:Int)≤_
  omega
 ·show s.tests≤_;omega
theorem cJ.insOk {e:List kA} {l:List gA} {k:Nat} {m:CS} (h:cJ e l k m) (hk:k≤15) {x:gA} (hx:LA x=true):WF m.s x=decide (UA l x.id<0):=by
 unfold Proofs.YtpihighajaeabaaGreat.WF;have h1:=h.len;have h2:=h.tests;rw [h.stand,hx,h.items,decide_eq_true (show l.length<16 by omega),decide_eq_true (show m.s.tests≤999900 by omega)];simp
theorem cJ.delOk {e:List kA} {l:List gA} {k:Nat} {m:CS} (h:cJ e l k m) (hk:k≤15) (id:Int):oF m.s id=decide (0≤UA l id):=by
 unfold Proofs.YtpihighajaeabaaGreat.oF;have h2:=h.tests;rw [h.stand,h.items,decide_eq_true (show m.s.tests≤999900 by omega)];simp
theorem cJ.next {e:List kA} {l:List gA} {k:Nat} {m:CS} (h:cJ e l k m):cJ e l (k+1) m:=
 ⟨h.on,h.items,h.wanted,h.stand,by have:=h.tests;omega,Nat.le_succ_of_le h.len⟩
theorem cJ.add {e:List kA} {l:List gA} {k:Nat} {m:CS} (h:cJ e l k m) (hk:k≤15) {x:gA} (hx:LA x=true) :
  ∃m',oI m (dAq++⟨#[32]⟩++LB x)=(eZ (decide (UA l x.id<0)),m')∧cJ e (if UA l x.id<0 then TG l x else l) (k+1) m':=by
 rw [EO (by decide),if_neg (fun h=>absurd h.1 (by decide)),if_neg (by rw [h.on];decide)];unfold tH;rw [if_pos ⟨rfl,by rw [oK hx]⟩,oK hx];have ho:=h.insOk hk hx;refine ⟨_,Prod.ext ?_ rfl,?_⟩
 ·rw [GO,ho]
 ·by_cases hf:UA l x.id<0
  ·have ho':Proofs.YtpihighajaeabaaGreat.WF m.s x=true:=by rw [ho];exact decide_eq_true hf
   dsimp only;rw [if_pos hf,ho'];have h3:=UU ho';have h4:=h.tests;refine ⟨h.on,?_,?_,qN ho',?_,?_⟩
   ·show (cG m.s x).items=_
    unfold cG;rw [if_pos ho'];show TG m.s.items x=_;rw [h.items]
   ·show (cG m.s x).wanted=_
    unfold cG;rw [if_pos ho'];exact h.wanted
   ·show (cG m.s x).tests≤_;omega
   ·rw [sO];have:=h.len;omega
  ·have ho':Proofs.YtpihighajaeabaaGreat.WF m.s x=false:=by rw [ho];exact decide_eq_false hf
   dsimp only;rw [if_neg hf,ho'];exact h.next
theorem cJ.drop {e:List kA} {l:List gA} {k:Nat} {m:CS} (h:cJ e l k m) (hk:k≤15) {id:Int} (hi:0≤id∧id≤99) :
  ∃m',oI m (LU++⟨#[32]⟩++EA id)=(eZ (decide (0≤UA l id)),m')∧cJ e (if 0≤UA l id then WB l [id] false else l) (k+1) m':=by
 rw [EO (by decide),if_neg (fun h=>absurd h.1 (by decide)),if_neg (by rw [h.on];decide)];unfold tH;rw [if_neg (fun h=>absurd h.1 (by decide)),if_neg (fun h=>absurd h.1 (by decide)),if_pos ⟨rfl,by rw [vV hi]⟩,vV hi];have ho:=h.delOk hk id;refine ⟨_,Prod.ext ?_ rfl,?_⟩
 ·rw [GO,ho]
 ·by_cases hf:0≤UA l id
  ·have ho':Proofs.YtpihighajaeabaaGreat.oF m.s id=true:=by rw [ho];exact decide_eq_true hf
   dsimp only;rw [if_pos hf,ho'];have h3:=VU ho';have h4:=h.tests;refine ⟨h.on,?_,?_,rN ho',?_,?_⟩
   ·show (PE m.s id).items=_
    unfold PE;rw [if_pos ho',vP,h.items]
   ·show (PE m.s id).wanted=_
    unfold PE xL;rw [if_pos ho'];split<;>exact h.wanted
   ·show (PE m.s id).tests≤_;omega
   ·exact Nat.le_trans (dM _ _).length_le (Nat.le_succ_of_le h.len)
  ·have ho':Proofs.YtpihighajaeabaaGreat.oF m.s id=false:=by rw [ho];exact decide_eq_false hf
   dsimp only;rw [if_neg hf,ho'];exact h.next
theorem eA9 {l:List gA} (hl:l.Pairwise (fun a b=>a.id<b.id)) {x:gA} {j:Nat} {y:gA} (hj:l[j]? = some y) (he:y.id=x.id):TG (l.filter fun z=>[x.id].contains z.id==false) x=l.set j x:=by
 induction l generalizing j with
 | nil=>simp at hj
 | cons z l ih=>
  have hz:=List.pairwise_cons.1 hl
  cases j with
  | zero=>
   simp at hj;subst hj;have e:(l.filter fun w=>[x.id].contains w.id==false)=l:=List.filter_eq_self.2 (fun w hw=>by
    have:=hz.1 w hw;simp;omega)
   rw [List.filter_cons_of_neg (by simp [he]),e]
   cases l with
   | nil=>rfl
   | cons w l=>
    have:=hz.1 w (by simp);rw [TG,if_pos (by omega)];rfl
  | succ j=>
   simp at hj;have:=hz.1 y (List.mem_of_getElem? hj);rw [List.filter_cons_of_pos (by simp;omega),TG,if_neg (by omega),ih hz.2 hj];rfl
theorem cJ.change {e:List kA} {l:List gA} {k:Nat} {m:CS} (h:cJ e l k m) (hk:k≤14) {x:gA} (hx:LA x=true) :
  ∃m',oI m (jM++⟨#[32]⟩++LB x)=(eZ (decide (0≤UA l x.id)),m')∧cJ e (LF l x) (k+1) m':=by
 rw [EO (by decide),if_neg (fun h=>absurd h.1 (by decide)),if_neg (by rw [h.on];decide)];unfold tH;rw [if_neg (fun h=>absurd h.1 (by decide)),if_pos ⟨rfl,by rw [oK hx]⟩,oK hx];have hd:=h.delOk (by omega) x.id;by_cases hf:0≤UA l x.id
 ·have hd':Proofs.YtpihighajaeabaaGreat.oF m.s x.id=true:=by rw [hd];exact decide_eq_true hf
  have h3:=VU hd';have h4:=h.tests;have hi:(PE m.s x.id).items=WB l [x.id] false:=by unfold PE;rw [if_pos hd',vP,h.items]
  have hw:(PE m.s x.id).wanted=e:=by unfold PE xL;rw [if_pos hd'];split<;>exact h.wanted
  have hs:=rN hd';have hlen:(WB l [x.id] false).length≤l.length:=(dM _ _).length_le;have hkl:=h.len;have ho':Proofs.YtpihighajaeabaaGreat.WF (PE m.s x.id) x=true:=by
   unfold Proofs.YtpihighajaeabaaGreat.WF;have hfd:=gA6 hd';rw [hs,hx,decide_eq_true hfd,hi,decide_eq_true (show (WB l [x.id] false).length<16 by omega),decide_eq_true (show (PE m.s x.id).tests≤999900 by omega)];rfl
  have hc:OG m.s x=true:=by unfold OG;rw [hx,hd',ho'];rfl
  have hcm:CK m.s x=cG (PE m.s x.id) x:=by unfold CK;rw [if_pos hc]
  refine ⟨_,Prod.ext ?_ rfl,?_⟩
  ·rw [GO,hc,decide_eq_true hf]
  ·dsimp only;rw [hc,hcm];have h5:=UU ho';have hput:(cG (PE m.s x.id) x).items=LF l x:=by
    unfold cG;rw [if_pos ho'];show TG (PE m.s x.id).items x=_
    rw [hi];unfold LF;rw [if_pos hf];rcases PB l x.id with ⟨hn,_⟩ | ⟨j,y,hj,hy,hyi⟩
    ·omega
    ·rw [hj];exact eA9 (rE h.are) hy hyi
   refine ⟨h.on,hput,?_,qN ho',?_,?_⟩
   ·show (cG (PE m.s x.id) x).wanted=_
    unfold cG;rw [if_pos ho'];exact hw
   ·show (cG (PE m.s x.id) x).tests≤_;omega
   ·unfold LF;split
    ·rw [List.length_set];omega
    ·omega
 ·have hd':Proofs.YtpihighajaeabaaGreat.oF m.s x.id=false:=by rw [hd];exact decide_eq_false hf
  have hc:OG m.s x=false:=by unfold OG;rw [hd'];simp
  refine ⟨_,Prod.ext ?_ rfl,?_⟩
  ·rw [GO,hc,decide_eq_false hf]
  ·dsimp only;rw [hc];unfold LF;rw [if_neg hf];exact h.next
def YH (l:List gA) (x:gA):Nat:=(l.takeWhile fun y=>decide (y.id<x.id)).length
theorem xP {x:gA}:∀ {l:List gA},(∀y∈l,y.id≠x.id)→TG l x=l.take (YH l x)++x::l.drop (YH l x)
 | [],_=>rfl
 | y::l,h=>by
  have hy:=h y (by simp);unfold YH;rw [TG];by_cases hc:x.id<y.id
  ·rw [if_pos hc,List.takeWhile_cons_of_neg (by simp;omega)];rfl
  ·rw [if_neg hc,List.takeWhile_cons_of_pos (by simp;omega),xP (l:=l) (fun z hz=>h z (by simp [hz]))];rfl
theorem VS {l:List gA} {x y:gA} {j:Nat} (hj:j≤YH l x) (hy:l[j]? = some y):(y.id<x.id→j+1≤YH l x)∧(¬y.id<x.id→j=YH l x):=by
 unfold YH at hj ⊢
 induction l generalizing j with
 | nil=>simp at hy
 | cons z l ih=>
  cases j with
  | zero=>
   simp at hy;subst hy;refine ⟨fun h=>?_,fun h=>?_⟩
   ·rw [List.takeWhile_cons_of_pos (by simpa using h),List.length_cons];omega
   ·rw [List.takeWhile_cons_of_neg (by simpa using h)];rfl
  | succ j=>
   simp at hy;by_cases hz:z.id<x.id
   ·rw [List.takeWhile_cons_of_pos (by simpa using hz),List.length_cons] at hj ⊢;have:=ih (j:=j) (by omega) hy;exact ⟨fun h=>by have:=this.1 h;omega,fun h=>by have:=this.2 h;omega⟩
   ·rw [List.takeWhile_cons_of_neg (by simpa using hz)] at hj;simp at hj
theorem gAj (l:List gA) (x:gA):YH l x≤l.length:=(List.takeWhile_sublist _).length_le
theorem WU {l:List gA} {x:gA} {j:Nat} (hj:j≤YH l x) (hl:l.length≤j):j=YH l x:=by have:=gAj l x;omega
end Go.Proofs.YtpihighajaeabaaGreat
namespace Go.Proofs.YtpihighajaeabaaGreat
open Go.RowKit
set_option linter.unusedVariables false
set_option linter.unusedSimpArgs false
theorem fZ {n:Int} (h:0≤n∧n≤9):(EA n).size=1:=by
 rcases (show n=0∨n=1∨n=2∨n=3∨n=4∨n=5∨n=6∨n=7∨n=8∨n=9 by omega) with h | h | h | h | h | h | h | h | h | h<;>(subst h;rfl)
theorem JL {l:List ByteArray} {sep:ByteArray} {n k:Nat} (h:∀t∈l,t.size≤n) (hk:l.length≤k):(mE l sep).size≤k*(n+sep.size):=by
 have h1:=iJ sep l 0 ⟨#[]⟩;have h2:=KS (sep:=sep) h;have h3:l.length*(n+sep.size)≤k*(n+sep.size):=Nat.mul_le_mul_right _ hk;have e0:(⟨#[]⟩:ByteArray).size=0:=rfl;unfold mE;omega
theorem XU {l:List Int} {k:Nat} (h:∀v∈l,0≤v∧v≤9) (hk:l.length≤k):(MB l ⟨#[44]⟩).size≤k*2:=by
 have:=JL (l:=SC l) (sep:=⟨#[44]⟩) (n:=1) (k:=k) (fun t ht=>by
  obtain ⟨v,hv,rfl⟩:=List.mem_map.1 (show t∈l.map EA from ht);rw [fZ (h v hv)];exact Nat.le_refl _) (by unfold SC;rw [List.length_map];exact hk)
 exact this
theorem gZ (l:List lB):(sB l).size≤40:=by
 unfold sB
 split
 ·rename_i h
  split
  ·decide
  ·have:=JL (l:=jC l) (sep:=⟨#[44]⟩) (n:=3) (k:=8) (fun t ht=>by
    obtain ⟨p,hp,rfl⟩:=List.mem_map.1 (show t∈l.map sD from ht);have hd:=tF (wF h) hp;unfold sD;rw [cA,cA,fZ hd.1,fZ hd.2]
    decide) (by unfold jC;rw [List.length_map];exact YG h)
   have e:(⟨#[44]⟩:ByteArray).size=1:=rfl;rw [e] at this;omega
 ·decide
theorem bA9 (x:eB):(JA x).size≤60:=by
 unfold JA
 split
 ·rename_i h
  have h1:(AB x).size≤8:=by
   have h2:=zM x.kind;unfold AB;rw [cA,cA,fZ (by have:=fC h;omega)];have e:(⟨#[32,102]⟩:ByteArray).size=2:=rfl;omega
  have es:(⟨#[32]⟩:ByteArray).size=1:=rfl;have hv:=fZ (gC h);have hl:=XU (oL h).2.2.2 (lG h);have hp:=gZ x.pairs
  repeat' split
  all_goals (repeat rw [cA]);omega
 ·exact Nat.zero_le _
theorem bAa (e:List kA):(JB e).size≤560:=by
 unfold JB
 split
 ·rename_i h
  have:=JL (l:=QB e) (sep:=⟨#[59,32]⟩) (n:=60) (k:=9) (fun t ht=>by
   obtain ⟨n,_,rfl⟩:=List.mem_map.1 (show t∈e.map oC from ht);unfold oC
   split
   ·exact bA9 _
   ·have:=PP n.op;omega) (by unfold QB;rw [List.length_map];exact DU h)
  have es:(⟨#[59,32]⟩:ByteArray).size=2:=rfl;rw [es] at this;omega
 ·exact Nat.zero_le _
theorem dJ {x:gA} (h:LA x=true) (h9:x.id≤9):(LB x).size≤8:=by
 have h2:=XU (l:=x.vals) (k:=3) (fun v hv=>by
  unfold LA at h;simp only [Bool.and_eq_true,List.all_eq_true] at h;exact qC.1 (h.2.2 v hv)) (by rw [YA h];exact Nat.le_refl _)
 unfold LB;rw [if_pos h,cA,cA,fZ (by have:=wD h;omega)];have e:(⟨#[58]⟩:ByteArray).size=1:=rfl;omega
theorem eAa {id a b c:Int} (hi:0≤id∧id≤9) (ha:0≤a∧a≤9) (hb:0≤b∧b≤9) (hc:0≤c∧c≤9):LA ⟨id,[a,b,c]⟩=true:=by
 unfold LA;have e0:inB id 0 99=true:=qC.2 (by omega);have e1:inB a 0 9=true:=qC.2 ha;have e2:inB b 0 9=true:=qC.2 hb;have e3:inB c 0 9=true:=qC.2 hc;simp [e0,e1,e2,e3]
def Rnd (e:List kA) (k:Nat) (s want:ByteArray) (l:List gA):Prop:=∃ls m,IL s want ls m∧cJ e l k m∧ls.length=1+2*k∧s.size≤600+30*k∧want.size≤10+500*k
def wN (e:List kA) (k:Nat) (s want:ByteArray) (l:List gA):Prop:=∃ls m,IL s want ls m∧cJ e l (k+1) m∧ls.length=2+2*k∧s.size≤620+30*k∧want.size≤20+500*k
theorem WS (b:Bool):(eZ b).size≤2:=by cases b<;>decide
theorem z10:(⟨#[10]⟩:ByteArray).size=1:=rfl
theorem Rnd.size {e:List kA} {k:Nat} {s want:ByteArray} {l:List gA} (h:Rnd e k s want l) (hk:k≤10):s.size≤1000∧want.size≤6000∧l.length≤10∧WA l=true:=by
 obtain ⟨ls,m,_,h2,_,h4,h5⟩:=h;exact ⟨by omega,by omega,Nat.le_trans h2.len hk,h2.are⟩
theorem wN.size {e:List kA} {k:Nat} {s want:ByteArray} {l:List gA} (h:wN e k s want l) (hk:k≤10):s.size≤1000∧want.size≤6000∧l.length≤11∧WA l=true:=by
 obtain ⟨ls,m,_,h2,_,h4,h5⟩:=h;exact ⟨by omega,by omega,Nat.le_trans h2.len (by omega),h2.are⟩
theorem tx {s a b t:ByteArray} (h:bl b=bl a++[32]):s++b++t++⟨#[10]⟩=s++(a++⟨#[32]⟩++t)++⟨#[10]⟩:=by
 have e:bl ⟨#[32]⟩=[32]:=rfl;exact yH (by simp only [cB,h,e,List.append_assoc])
theorem Rnd.start {e:List kA} (he:bB e=true):Rnd e 0 (⟨#[119,105,115,104,32]⟩++JB e++⟨#[10]⟩) ⟨#[111,107,10]⟩ []:=by
 obtain ⟨m,h1,h2⟩:=eA8 he;have h0:IL ⟨#[]⟩ ⟨#[]⟩ [] st0:=⟨rfl,by simp,rfl,rfl⟩;have h3:=h0.line (oM _ _) (NQ (by unfold NL;decide) (iA4 e)) h1;have hz:=bAa e;have e1:(⟨#[119,105,115,104,32]⟩:ByteArray).size=5:=rfl;refine ⟨_,m,⟨?_,h3.nl,?_,h3.end'⟩,h2,rfl,by rw [cA,cA,z10];omega,by decide⟩
 ·rw [← h3.text,bK];have:=tx (s:=⟨#[]⟩) (a:=EL) (b:=⟨#[119,105,115,104,32]⟩) (t:=JB e) rfl;rw [bK,bK] at this;exact this
 ·rw [← h3.out];rfl
theorem Rnd.add {e:List kA} {k:Nat} {s want:ByteArray} {l:List gA} (h:Rnd e k s want l) (hk:k≤10) {x:gA} (hx:LA x=true) (h9:x.id≤9) :
  wN e k (s++⟨#[97,100,100,32]⟩++LB x++⟨#[10]⟩) (want++eZ (decide (UA l x.id<0))++⟨#[10]⟩) (if UA l x.id<0 then TG l x else l):=by
 obtain ⟨ls,m,h1,h2,h3,h4,h5⟩:=h;obtain ⟨m',ha,hk'⟩:=h2.add (by omega) hx;have hs:=h1.line (oM _ _) (NQ (by unfold NL;decide) (cA0 x)) ha;rw [← tx (b:=⟨#[97,100,100,32]⟩) rfl] at hs;have hz:=dJ hx h9;have hy:=WS (decide (UA l x.id<0));have e1:(⟨#[97,100,100,32]⟩:ByteArray).size=4:=rfl;exact ⟨_,m',hs,hk',by rw [List.length_append,h3];simp;omega,by rw [cA,cA,cA,z10];omega,by rw [cA,cA,z10];omega⟩
theorem Rnd.change {e:List kA} {k:Nat} {s want:ByteArray} {l:List gA} (h:Rnd e k s want l) (hk:k≤10) {x:gA} (hx:LA x=true) (h9:x.id≤9) :
  wN e k (s++⟨#[99,104,97,110,103,101,32]⟩++LB x++⟨#[10]⟩) (want++eZ (decide (0≤UA l x.id))++⟨#[10]⟩) (LF l x):=by
 obtain ⟨ls,m,h1,h2,h3,h4,h5⟩:=h;obtain ⟨m',ha,hk'⟩:=h2.change (by omega) hx;have hs:=h1.line (oM _ _) (NQ (by unfold NL;decide) (cA0 x)) ha;rw [← tx (b:=⟨#[99,104,97,110,103,101,32]⟩) rfl] at hs;have hz:=dJ hx h9;have hy:=WS (decide (0≤UA l x.id));have e1:(⟨#[99,104,97,110,103,101,32]⟩:ByteArray).size=7:=rfl;exact ⟨_,m',hs,hk',by rw [List.length_append,h3];simp;omega,by rw [cA,cA,cA,z10];omega,by rw [cA,cA,z10];omega⟩
theorem Rnd.drop {e:List kA} {k:Nat} {s want:ByteArray} {l:List gA} (h:Rnd e k s want l) (hk:k≤10) {id:Int} (hi:0≤id∧id≤9) :
  wN e k (s++⟨#[100,114,111,112,32]⟩++EA id++⟨#[10]⟩) (want++eZ (decide (0≤UA l id))++⟨#[10]⟩) (if 0≤UA l id then WB l [id] false else l):=by
 obtain ⟨ls,m,h1,h2,h3,h4,h5⟩:=h;obtain ⟨m',ha,hk'⟩:=h2.drop (by omega) (id:=id) (by omega);have hs:=h1.line (oM _ _) (NQ (by unfold NL;decide) (vN id)) ha;rw [← tx (b:=⟨#[100,114,111,112,32]⟩) rfl] at hs;have hz:=fZ hi;have hy:=WS (decide (0≤UA l id));have e1:(⟨#[100,114,111,112,32]⟩:ByteArray).size=5:=rfl;exact ⟨_,m',hs,hk',by rw [List.length_append,h3];simp;omega,by rw [cA,cA,cA,z10];omega,by rw [cA,cA,z10];omega⟩
theorem wN.best {e:List kA} {k:Nat} {s want:ByteArray} {l:List gA} (h:wN e k s want l) (hk:k≤10) :
  Rnd e (k+1) (s++⟨#[98,101,115,116,10]⟩) (want++nC (BA l e)++⟨#[10]⟩) l:=by
 obtain ⟨ls,m,h1,h2,h3,h4,h5⟩:=h;have hs:=h1.line (t:=lQ) (by decide) (by unfold NL;decide) (gAh h2.on);rw [h2.best] at hs;have et:s++lQ++⟨#[10]⟩=s++⟨#[98,101,115,116,10]⟩:=yH (by
  rw [cB,cB,cB,List.append_assoc];rfl)
 rw [et] at hs;have hb:=GL (l:=BA l e) (fun v hv=>by
  unfold BA at hv
  split at hv
  ·exact qD h2.are v hv
  ·cases hv) (OC l e)
 have e1:(⟨#[98,101,115,116,10]⟩:ByteArray).size=5:=rfl;exact ⟨_,m,hs,h2,by rw [List.length_append,h3];simp;omega,by rw [cA];omega,by rw [cA,cA,z10];omega⟩
theorem Rnd.run {e:List kA} {s want:ByteArray} {l:List gA} (h:Rnd e 10 s want l):PS s=want:=by
 obtain ⟨ls,m,h1,_,h3,h4,_⟩:=h;exact h1.run (by omega) (by omega)
end Go.Proofs.YtpihighajaeabaaGreat
namespace Go.Proofs.YtpihighajaeabaaGreat
open Go.RowKit
set_option linter.unusedVariables false
set_option linter.unusedSimpArgs false
end Go.Proofs.YtpihighajaeabaaGreat
namespace Go.Proofs.YtpihighajaeabaaGreat
open Go.RowKit
set_option linter.unusedVariables false
set_option linter.unusedSimpArgs false
end Go.Proofs.YtpihighajaeabaaGreat
namespace Go.Proofs.YtpihighajaeabaaGreat
open Go.RowKit
set_option linter.unusedVariables false
set_option linter.unusedSimpArgs false
end Go.Proofs.YtpihighajaeabaaGreat
namespace Go.Proofs.YtpihighajaeabaaGreat
open Go.RowKit
set_option linter.unusedVariables false
end Go.Proofs.YtpihighajaeabaaGreat
namespace Go.Proofs.YtpihighajaeabaaGreat
open Go.RowKit
set_option linter.unusedVariables false
set_option linter.unusedSimpArgs false
end Go.Proofs.YtpihighajaeabaaGreat
namespace Go.Proofs.YtpihighajaeabaaGreat
open Go.RowKit
set_option linter.unusedVariables false
set_option linter.unusedSimpArgs false
end Go.Proofs.YtpihighajaeabaaGreat
namespace Go.Proofs.YtpihighajaeabaaGreat
open Go.RowKit
set_option linter.unusedVariables false
set_option linter.unusedSimpArgs false
theorem XS (x:Int):0≤bits .and .i64 x 255∧bits .and .i64 x 255≤255:=by
 have h:((BitVec.ofInt 64 x &&& BitVec.ofInt 64 255).toNat)≤255:=by
  rw [BitVec.toNat_and];exact Nat.le_trans Nat.and_le_right (by decide)
 have e:bits .and .i64 x 255=IntKind.i64.wrap ((BitVec.ofInt 64 x &&& BitVec.ofInt 64 255).toNat:Int):=rfl;rw [e];obtain ⟨m,hm⟩:∃m,m=(BitVec.ofInt 64 x &&& BitVec.ofInt 64 255).toNat:=⟨_,rfl⟩;rw [← hm] at h ⊢;simp [IntKind.wrap,IntKind.bits,IntKind.signed];omega
def Cur (W:World) (p:Nat):Prop:=∃(xs:List Int) (A:Option Addr) (n c i:Nat) (h:Int),W.cell? ⟨p,0,none⟩=some (.slice A n c)∧W.cell? ⟨p,1,none⟩=some (.int .i64 (i:Int))∧W.cell? ⟨p,2,none⟩=some (.int .i64 h) ∧
 (∀o,W.frozen? ⟨p,o,none⟩=false)∧i≤n∧rSl 1 rU8 W (fun b=>b<p) xs [.slice A n c]∧∀x∈xs,0≤x∧x≤255
structure At (w0:World) (p:Nat) (w:World):Prop where
 bw:Bw w0 w
 ge:w0.heap.size≤p
 cur:Cur w p
theorem At.lt {w0 w:World} {p:Nat} (h:At w0 p w):p<w.heap.size:=by
 obtain ⟨_,_,_,_,_,_,h0,_⟩:=h.cur;exact World.block_lt_of_cell? _ _ h0
def fJ (w0:World) (p:Nat) (w:World) (R:World→Value→Prop) (e:Ending) (w':World):Prop:=∃v,e=.returned v∧R w' v∧SB [p] w w'∧At w0 p w'
def gAk (a b:Int) (_:World) (v:Value):Prop:=∃n,v=.int .i64 n∧a≤n∧n<b
theorem Cur.same {w w':World} {p:Nat} (h:Cur w p) (hb:∀b,b≤p→w'.heap[b]? = w.heap[b]?):Cur w' p:=by
 obtain ⟨xs,A,n,c,i,k,h0,h1,h2,hf,hi,hr,hx⟩:=h;exact ⟨xs,A,n,c,i,k,(World.cell?_of_block (hb _ (Nat.le_refl _))).trans h0,(World.cell?_of_block (hb _ (Nat.le_refl _))).trans h1,(World.cell?_of_block (hb _ (Nat.le_refl _))).trans h2,
  fun o=>(World.frozen?_of_block (hb _ (Nat.le_refl _))).trans (hf o),hi,(qF TK).step ⟨fun _ h=>h,fun q hq=>World.cell?_of_block (hb _ (Nat.le_of_lt hq))⟩ hr,hx⟩
theorem At.bwStep {w0 w w':World} {p:Nat} (h:At w0 p w) (hb:Bw w w'):At w0 p w':=⟨h.bw.then hb,h.ge,h.cur.same fun b hb2=>Below.block hb b (Nat.lt_of_le_of_lt hb2 h.lt)⟩
theorem At.onlyStep {w0 w w':World} {p:Nat} {F:List Nat} (h:At w0 p w) (hO:SB F w w') (hF:∀b∈F,p<b) (hb:Bw w0 w'):At w0 p w':=
 ⟨hb,h.ge,h.cur.same fun b hb2=>hO.2 b (Nat.lt_of_le_of_lt hb2 h.lt) fun e=>by have:=hF b e;omega⟩
end Go.Proofs.YtpihighajaeabaaGreat
namespace Go.Proofs.YtpihighajaeabaaGreat
open Go.RowKit
set_option linter.unusedVariables false
set_option linter.unusedSimpArgs false
set_option maxRecDepth 100000 in
set_option maxHeartbeats 3200000 in
theorem KL (w0 w:World) (p:Nat) (hA:At w0 p w):Calls Tryz.prog 156 #[.pointer (some ⟨p,0,none⟩)] w (fJ w0 p w (gAk 0 256)):=by
 obtain ⟨xs,A,n,c,i,k,h0,h1,h2,hf,hi,hr,hx⟩:=hA.cur;have hin:=hA.bw;have hlt:=hA.lt;obtain ⟨L,l1,l2⟩:=UG hr;have HL:=Lib.hid L;clear L;unfold maxLen at l2;have HX:=Lib.hid hx;have HR:=Lib.hid hr;have hge:=hA.ge;clear hx hr hin;go_enter Tryz.func156,Tryz.ntmps156;go_wp2_with fail;obtain ⟨X,hX⟩:∃X,X=wrap64 (wrap64 (k*6364136223846793005)+1442695040888963407):=⟨_,rfl⟩;rw [← hX];clear hX;have c0:(w.setCell ⟨p,2,none⟩ (.int .i64 X)).cell? ⟨p,0,none⟩=some (.slice A n c):=by go_simp
 have c1:(w.setCell ⟨p,2,none⟩ (.int .i64 X)).cell? ⟨p,1,none⟩=some (.int .i64 (i:Int)):=by go_simp
 have c2:(w.setCell ⟨p,2,none⟩ (.int .i64 X)).cell? ⟨p,2,none⟩=some (.int .i64 X):=by go_simp
 have f1:∀o,(w.setCell ⟨p,2,none⟩ (.int .i64 X)).frozen? ⟨p,o,none⟩=false:=fun o=>by go_simp
 have z1:(w.setCell ⟨p,2,none⟩ (.int .i64 X)).heap.size=w.heap.size:=by go_simp
 have O1:SB [p] w (w.setCell ⟨p,2,none⟩ (.int .i64 X)):=KA _ _ _ _;have B1:Bw w0 (w.setCell ⟨p,2,none⟩ (.int .i64 X)):=hA.bw.set hge _;obtain ⟨W1,hW1⟩:∃W1,W1=w.setCell ⟨p,2,none⟩ (.int .i64 X):=⟨_,rfl⟩;rw [← hW1] at c0 c1 c2 f1 O1 B1 z1 ⊢;clear hW1;have s0:=qA c0;have s1:=qA c1;have s2:=qA c2;refine mA (by kernel_rfl) (by kernel_rfl) ?_
 repeat (first | go_big_quiet_skip | (go_big_quiet_want;go_big_quiet_op;first | go_big_quiet_on | (apply Exists.intro;refine ⟨fun _=>?_,?_⟩;(· ((fail)));go_big_quiet_on)))
 refine wpQuiet_nil ?_;rintro ⟨wq,hbq⟩;dsimp only at *;have d0:=hbq.cell c0;have d1:=hbq.cell c1;have d2:=hbq.cell c2;clear s0 s1 s2;have s0:=qA d0;have s1:=qA d1;have Bq:=hbq;clear hbq;by_cases hin:i<n
 ·obtain ⟨x,hx⟩:=rA (xs:=xs) (k:=i) (by have:=HL.out;omega);obtain ⟨bx,ox,rfl,hbx,hcx⟩:=dI HR.out hx;have hxb:=HX.out x (List.mem_of_getElem? hx);have i1:(0:Int)≤(i:Int):=by omega
  have i2:(i:Int)<(n:Int):=by omega
  have hbx':bx<p:=hbx;replace hcx:=Bq.cell (O1.cell hcx (by simp;omega));clear hx hbx;go_wp2_with fail;refine mA (by kernel_rfl) (by kernel_rfl) ?_
  repeat (first | go_big_quiet_skip | (go_big_quiet_want;go_big_quiet_op;first | go_big_quiet_on | (apply Exists.intro;refine ⟨fun _=>?_,?_⟩;(· ((fail)));go_big_quiet_on)))
  refine wpQuiet_nil ?_;rintro ⟨wq,hbq⟩;dsimp only at *;have e0:=hbq.cell d0;have e1:=hbq.cell d1;have e2:=hbq.cell d2;have hB:=Bq.then hbq;replace hcx:=hbq.cell hcx;clear s0 s1;have s0:=qA e0;have s1:=qA e1;have s3:=qA hcx;clear hbq;go_wp2_with fail;refine mA (by kernel_rfl) (by kernel_rfl) ?_
  repeat (first | go_big_quiet_skip | (go_big_quiet_want;go_big_quiet_op;first | go_big_quiet_on | (apply Exists.intro;refine ⟨fun _=>?_,?_⟩;(· ((fail)));go_big_quiet_on)))
  refine wpQuiet_nil ?_;rintro ⟨wq,hbq⟩;dsimp only at *;have b1:=hbq.cell e1;have b0:=hbq.cell e0;have b2:=hbq.cell e2;have hB2:=hB.then hbq;clear s0 s1 s3 hcx hbq;have hfq:∀o,wq.frozen? ⟨p,o,none⟩=false:=fun o=>(kC hB2 p o (by omega)).trans (f1 o)
  go_wp2;go_ret;have h255:=XS;refine ⟨_,rfl,⟨_,rfl,(h255 _).1,by have:=(h255 (wrap64 (bits BinOp.and IntKind.i64 (bits BinOp.xor IntKind.i64 (X / 8589934592) (X / 35184372088832)) 255+x))).2;omega⟩,?_,?_⟩
  ·exact (O1.bwNext hB2).then (KA _ _ _ _) (fun _ h=>h)
  ·refine ⟨(B1.then hB2).set hge _,hge,xs,some ⟨bx,ox,none⟩,n,c,i+1,X,?_,?_,?_,?_,by omega,?_,HX.out⟩
   ·go_simp
   ·go_simp
   ·go_simp
   ·intro o;go_simp
   ·exact (qF TK).step ⟨fun _ h=>h,fun q hq=>by
     have hq':q.block<p:=hq;rw [World.cell?_of_block (Below.heap_setCell _ _ _ _ (by simp;omega))];exact World.cell?_of_block (((O1.bwNext hB2)).2 _ (by omega) (by simp;omega))⟩ HR.out
 ·go_wp2_with fail;refine mA (by kernel_rfl) (by kernel_rfl) ?_
  repeat (first | go_big_quiet_skip | (go_big_quiet_want;go_big_quiet_op;first | go_big_quiet_on | (apply Exists.intro;refine ⟨fun _=>?_,?_⟩;(· ((fail)));go_big_quiet_on)))
  refine wpQuiet_nil ?_;rintro ⟨wq,hbq⟩;dsimp only at *;have e0:=hbq.cell d0;have e1:=hbq.cell d1;have e2:=hbq.cell d2;have hB2:=Bq.then hbq;clear s0 s1 hbq;go_wp2;go_ret;have hfq:∀o,wq.frozen? ⟨p,o,none⟩=false:=fun o=>(kC hB2 p o (by omega)).trans (f1 o)
  refine ⟨_,rfl,⟨_,rfl,(XS _).1,by have:=(XS (bits BinOp.xor IntKind.i64 (X / 8589934592) (X / 35184372088832))).2;omega⟩,O1.bwNext hB2,?_⟩;refine ⟨B1.then hB2,hge,xs,A,n,c,i,X,e0,e1,e2,hfq,hi,?_,HX.out⟩;exact (qF TK).step ⟨fun _ h=>h,fun q hq=>by
   have hq':q.block<p:=hq;exact World.cell?_of_block ((O1.bwNext hB2).2 _ (by omega) (by simp;omega))⟩ HR.out
theorem fJ.int {w0 w w':World} {p:Nat} {a b n:Int} (h1:a≤n) (h2:n<b) (hO:SB [p] w w') (hA:At w0 p w'):fJ w0 p w (gAk a b) (.returned (.int .i64 n)) w':=⟨_,rfl,⟨n,rfl,h1,h2⟩,hO,hA⟩
set_option maxRecDepth 100000 in
set_option maxHeartbeats 1600000 in
theorem pC (w0 w:World) (p:Nat) (hA:At w0 p w) (N:Int) (h1:0<N) (h2:N≤1073741824):Calls Tryz.prog 74 #[.pointer (some ⟨p,0,none⟩),.int .i64 N] w (fJ w0 p w (gAk 0 N)):=by
 by_cases h256:N≤256
 ·have hcall:=KL w0 w p hA;go_enter Tryz.func74,Tryz.ntmps74;go_wp2_with fail;refine hcall.mono ?_;rintro e w1 ⟨v,rfl,⟨x,rfl,x1,x2⟩,hO,hA1⟩;have r1:=Int.emod_nonneg x (show N≠0 by omega);have r2:=Int.emod_lt_of_pos x h1;have hr:Int.tmod x N=x % N:=Int.tmod_eq_emod_of_nonneg x1;go_wp2;go_ret
  first
   | exact fJ.int r1 r2 hO hA1
   | (rw [hr];exact fJ.int r1 r2 hO hA1)
 ·have hcall:=KL w0 w p hA;go_enter Tryz.func74,Tryz.ntmps74;go_wp2_with fail;refine hcall.mono ?_;rintro e w1 ⟨v,rfl,⟨x1,rfl,x11,x12⟩,hO1,hA1⟩;have hcall:=KL w0 w1 p hA1;go_wp2_with fail;refine hcall.mono ?_;rintro e w2 ⟨v,rfl,⟨x2,rfl,x21,x22⟩,hO2,hA2⟩;have hcall:=KL w0 w2 p hA2;go_wp2_with fail;refine hcall.mono ?_;rintro e w3 ⟨v,rfl,⟨x3,rfl,x31,x32⟩,hO3,hA3⟩;have hcall:=KL w0 w3 p hA3;go_wp2_with fail;refine hcall.mono ?_;rintro e w4 ⟨v,rfl,⟨x4,rfl,x41,x42⟩,hO4,hA4⟩;have hO:=((hO1.two hO2).two hO3).two hO4;clear hcall hO1 hO2 hO3 hO4 hA1 hA2 hA3 hA;have r1:=Int.emod_nonneg (x1*16777216+x2*65536+x3*256+x4) (show N≠0 by omega);have r2:=Int.emod_lt_of_pos (x1*16777216+x2*65536+x3*256+x4) h1;have hr:Int.tmod (x1*16777216+x2*65536+x3*256+x4) N=(x1*16777216+x2*65536+x3*256+x4) % N:=Int.tmod_eq_emod_of_nonneg (by omega);go_wp2;go_ret
  first
   | exact fJ.int r1 r2 hO hA4
   | (rw [hr];exact fJ.int r1 r2 hO hA4)
set_option maxHeartbeats 800000 in
theorem YS (w0 w:World) (p:Nat) (hA:At w0 p w) (N:Int) (h1:0<N) (h2:N≤1073741824):Calls Tryz.prog 71 #[.pointer (some ⟨p,0,none⟩),.int .i64 N] w (fJ w0 p w (fun _ v=>∃b,v=.bool b)):=by
 have hcall:=pC w0 w p hA N h1 h2;go_enter Tryz.func71,Tryz.ntmps71;go_wp2_with fail;refine hcall.mono ?_;rintro e w1 ⟨v,rfl,⟨x,rfl,x1,x2⟩,hO,hA1⟩;go_wp2;go_ret;exact ⟨_,rfl,⟨_,rfl⟩,hO,hA1⟩
set_option maxHeartbeats 800000 in
theorem QG (w0 w:World) (p:Nat) (hA:At w0 p w) (xs:List Int) (v:Value) (F:List Nat) (h:ZA w xs [v] F) (hF:p∉F) (hne:0<xs.length) (hn:xs.length≤1048576):Calls Tryz.prog 155 #[.pointer (some ⟨p,0,none⟩),v] w (fJ w0 p w (fun _ v=>∃x∈xs,v=.int .i64 x)):=by
 obtain ⟨A,c,e,l1,l2,hk⟩:=FI (B:=0) h;injection e with e;subst e;obtain ⟨n,L⟩:∃n,n=xs.length:=⟨_,rfl⟩;rw [← L] at hne hn ⊢;have HL:=Lib.hid L;have HK:=Lib.hid hk;have hcall:=pC w0 w p hA n (by omega) (by omega);clear hk h L l1 l2;go_enter Tryz.func155,Tryz.ntmps155;go_wp2_with fail;refine hcall.mono ?_;rintro e w1 ⟨v,rfl,⟨x,rfl,x1,x2⟩,hO,hA1⟩;obtain ⟨k,rfl⟩:∃k:Nat,x=(k:Int):=⟨x.toNat,by omega⟩;obtain ⟨y,hy⟩:=rA (xs:=xs) (k:=k) (by have:=HL.out;omega);obtain ⟨b,o,us,rfl,hb,hul,hc,rfl⟩:=HK.out k y hy;have c0:=hO.cell (hc 0 _ rfl) (by
  have hb2:b≠p:=fun e=>hb.elim (fun hb=>hF (e▸hb)) (fun hb=>Nat.not_lt_zero _ hb)
  simpa using hb2)
 have hm:=List.mem_of_getElem? hy;rw [Nat.mul_one,Nat.add_zero] at c0;have HM:=Lib.hid hm;clear hc hy hul hm hcall;go_wp2;go_ret;exact ⟨_,rfl,⟨y,HM.out,rfl⟩,hO,hA1⟩
end Go.Proofs.YtpihighajaeabaaGreat
