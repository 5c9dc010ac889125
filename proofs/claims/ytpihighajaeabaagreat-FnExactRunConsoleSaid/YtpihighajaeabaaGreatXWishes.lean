/- Wishes and nodes: readings, copies, counts, comparisons. -/
import Derived.Test.YtpihighajaeabaaGreatXItems
namespace Go.Proofs.YtpihighajaeabaaGreat
open Go.RowKit Go.Proofs.Tryz
set_option linter.all false
set_option maxRecDepth 100000
set_option maxHeartbeats 16000000
theorem aL {α:Type} {e:TypeId} {sz:Nat} {R:Fp α} {w:World} {v:Value} {xs:List α} {F:List Nat} (h:fSl e sz R w xs [v] F) (hne:0<xs.length):∃g c,v=.slice (some ⟨g,0,none⟩) xs.length c/\xs.length<=c/\c<=maxLen/\g∈F:=by
 obtain ⟨v',us,Fs,hv,bb,_,hF⟩:=h;injection hv with hv;subst hv;rcases bb.2 with ⟨_,h0⟩ | ⟨g,bc,cur,rfl,_,_,hc,hm,_⟩
 ·omega
 ·exact ⟨g,bc,rfl,hc,hm,by rw [hF];simp [Value.ownBlock]⟩
theorem MA {α:Type} {e:TypeId} {sz:Nat} {R:Fp α} (w:World):fSl e sz R (w.alloc (.cells #[] e)) [] [.slice (some ⟨w.heap.size,0,none⟩) 0 0] [w.heap.size]:=by
 refine ⟨_,[],[],rfl,?_,trivial,by simp [Value.ownBlock]⟩;exact World.ownsRow_made w #[] 0 (Nat.zero_le _) (Nat.zero_le _) (by simp)
theorem vK {α:Type} {e:TypeId} {sz:Nat} {R:Fp α} {w:World} {v:Value} {xs:List α} {F:List Nat} (h:fSl e sz R w xs [v] F) (hne:0<xs.length):∃g L c,v=.slice (some ⟨g,0,none⟩) L c/\Hid (xs.length=L)/\L<=c/\c<=maxLen/\0<L:=by
 obtain ⟨g,c,e,h1,h2,_⟩:=aL h hne;exact ⟨g,xs.length,c,e,rfl,h1,h2,hne⟩
def TB (F:List Nat) (w w':World):Prop:=w.heap.size<=w'.heap.size/\∀b,b<w.heap.size->b∉F->w'.heap[b]? = w.heap[b]?
theorem TB.refl (F:List Nat) (w:World):TB F w w:=⟨Nat.le_refl _,fun _ _ _=>rfl⟩
theorem TB.then {F G:List Nat} {a b c:World} (h:TB F a b) (k:TB G b c) (hG:∀x∈G,x∈F):TB F a c:=
 ⟨Nat.le_trans h.1 k.1,fun x hx hn=>(k.2 x (Nat.lt_of_lt_of_le hx h.1) (fun hm=>hn (hG x hm))).trans (h.2 x hx hn)⟩
theorem TB.of_grown {F:List Nat} {w w':World} {b:Nat} (h:w.grownBy w' (some b)) (hs:w.heap.size<=w'.heap.size) (hb:b∈F):TB F w w':=
 ⟨hs,fun x hx hn=>h.block x hx (fun e=>by injection e with e;exact hn (e▸hb))⟩
theorem TB.keeps {α:Type} {R:Fp α} {F G:List Nat} {w w':World} (h:TB F w w') (hR:tC 0 R) {x:α} {cs:List Value} (hx:R w x cs G) (hd:∀b∈G,b∉F):R w' x cs G:=
 hR.step (fun b hb=>by
  rcases hb with hb | hb
  ·exact h.2 b (hR.lt hx b hb) (hd b hb)
  ·omega) hx
theorem TB.alloc (F:List Nat) (w:World) (o:Obj):TB F w (w.alloc o):=⟨((Bw.refl w).alloc o).size,fun b hb _=>by
 have:=((Bw.refl w).alloc o:Below w.heap.size w (w.alloc o)).block b hb;exact this⟩
theorem TB.cell {F:List Nat} {w w':World} (h:TB F w w') {p:Addr} {u:Value} (hc:w.cell? p=some u) (hd:p.block∉F):w'.cell? p=some u:=(World.cell?_of_block (h.2 _ (World.block_lt_of_cell? w p hc) hd)).trans hc
def oAk {α:Type} (f:Fp α) (w0 w:World) (x:α) (v:Value) (F:List Nat) (k:Nat) (e:Ending) (w':World):Prop:=e=.returned (.int .i64 k)/\f w' x [v] F/\TB F w w'/\Bw w0 w'
theorem oAk.mk {α:Type} {f:Fp α} {w0 w w':World} {x y:α} {v:Value} {F:List Nat} {k:Nat} {n:Int} (h:n=(k:Int)) (hx:y=x) (h1:f w' y [v] F) (h2:TB F w w') (h3:Bw w0 w'):oAk f w0 w x v F k (.returned (.int .i64 n)) w':=by
 subst h hx;exact ⟨rfl,h1,h2,h3⟩
theorem CJ {α:Type} {e:TypeId} {sz:Nat} {R:Fp α} {w:World} {A:Option Addr} {n c:Nat} {xs:List α} {F:List Nat} (h:fSl e sz R w xs [.slice A n c] F) (hne:0<xs.length):∃g,A=some ⟨g,0,none⟩/\n=xs.length/\g∈F:=by
 obtain ⟨g,c',e,_,_,hg⟩:=aL h hne;injection e with e1 e2 _;exact ⟨g,e1,e2,hg⟩
section
variable {α:Type} {P:Program}
theorem iAm (W:World) (w0:World) (t ty e:TypeId) (i:TypeInfo) (z:Value) (sz bytes:Nat) (ht:P.underlying t=some (.slice e)) (hi:P.info? e=some i) (hz:i.zero=some z)
  (hsize:i.size=sz) (hby:i.bytes=bytes) (hzs:z.cells.size=sz) (hsz:0<sz)
  {R:Fp α} (hR:tC w0.heap.size R) (v:Value) (xs:List α) (F:List Nat) (hv:fSl e sz R W xs [v] F) (hF:sA w0.heap.size F)
  (ad:Addr) (c:Nat) (y:α) (u:List Value) (f:List Nat) (hu:∀j t,u[j]? = some t->W.cell? (ad.add j)=some t)
  (hy:R W y u f) (hul:u.length=sz) (m:Nat) (hFm:∀b∈F,b<m) (hf:sA m f) (hm:w0.heap.size<=m) (hbytes:(xs.length+1)*bytes<=140737488355328) (hlen:xs.length<4611686018427387904) (hbw:Bw w0 W) :
  ∃v' w' F',(Builtin.append_ #[t,t] ty #[v,.slice (some ad) 1 c]).run P W=.ok v' w'/\fSl e sz R w' (xs++[y]) [v'] F'/\sA w0.heap.size F'/\Bw w0 w'/\TB F W w'/\∀b∈F',b∈F\/b∈f\/W.heap.size<=b:=
 pAh W w0 t ty e i z sz bytes ht hi hz hsize hby hzs hsz hR v xs F hv hF ad c y u f hu hy hul m hFm hf hm hbytes hlen hbw
theorem cA3 {o:Oper} {a:Act} {K:Act->World->Prop} {Q:Exit->Act->World->Prop} (W:World) (s x:Operand) (t:TypeId)
  (ho:o.op=.call { callee:=.builtin .append,args:=#[s,x],argTypes:=#[t,t] })
  (w0:World) (e:TypeId) (i:TypeInfo) (z:Value) (sz bytes:Nat) (ht:P.underlying t=some (.slice e)) (hi:P.info? e=some i) (hz:i.zero=some z)
  (hsize:i.size=sz) (hby:i.bytes=bytes) (hzs:z.cells.size=sz) (hsz:0<sz)
  {R:Fp α} (hR:tC w0.heap.size R) (v:Value) (xs:List α) (F:List Nat) (hs:a.eval s=v) (hv:fSl e sz R W xs [v] F) (hF:sA w0.heap.size F)
  (ad:Addr) (c:Nat) (hx:a.eval x=.slice (some ad) 1 c) (y:α) (u:List Value) (f:List Nat) (hu:∀j t,u[j]? = some t->W.cell? (ad.add j)=some t)
  (hy:R W y u f) (hul:u.length=sz) (m:Nat) (hFm:∀b∈F,b<m) (hf:sA m f) (hm:w0.heap.size<=m) (hbytes:(xs.length+1)*bytes<=140737488355328) (hlen:xs.length<4611686018427387904) (hbw:Bw w0 W)
  (h:∀v' w' F',fSl e sz R w' (xs++[y]) [v'] F'->sA w0.heap.size F'->Bw w0 w'->TB F W w'->(∀b∈F',b∈F\/b∈f\/W.heap.size<=b)->K (a.put o.dst v') w'):o.wp P a W K Q:=by
 obtain ⟨v',w',F',bb,h1,h2,h3,h4,h5⟩:=iAm (P:=P) W w0 t o.type e i z sz bytes ht hi hz hsize hby hzs hsz hR v xs F hv hF ad c y u f hu hy hul m hFm hf hm hbytes hlen hbw;unfold Oper.wp execOp;simp only [ho,resolve,invoke,builtin,Sem.run_bind,Sem.run_pure,Result.andThen_ok,List.map_toArray,List.map_cons,List.map_nil,hs,hx,bb];exact h v' w' F' h1 h2 h3 h4 h5
theorem iC {ops:Array Oper} {rest:List Oper} {o:Oper} {a:Act} {Q:Exit->Act->World->Prop} (W:World) (hgd:o.guard=none) (s x:Operand) (t:TypeId)
  (ho:o.op=.call { callee:=.builtin .append,args:=#[s,x],argTypes:=#[t,t] })
  (w0:World) (e:TypeId) (i:TypeInfo) (z:Value) (sz bytes:Nat) (ht:P.underlying t=some (.slice e)) (hi:P.info? e=some i) (hz:i.zero=some z)
  (hsize:i.size=sz) (hby:i.bytes=bytes) (hzs:z.cells.size=sz) (hsz:0<sz)
  {R:Fp α} (hR:tC w0.heap.size R) (v:Value) (xs:List α) (F:List Nat) (hs:a.eval s=v) (hv:fSl e sz R W xs [v] F) (hF:sA w0.heap.size F)
  (ad:Addr) (c:Nat) (hx:a.eval x=.slice (some ad) 1 c) (y:α) (u:List Value) (f:List Nat) (hu:∀j t,u[j]? = some t->W.cell? (ad.add j)=some t)
  (hy:R W y u f) (hul:u.length=sz) (m:Nat) (hFm:∀b∈F,b<m) (hf:sA m f) (hm:w0.heap.size<=m) (hbytes:(xs.length+1)*bytes<=140737488355328) (hlen:xs.length<4611686018427387904) (hbw:Bw w0 W)
  (h:∀v' w' F',fSl e sz R w' (xs++[y]) [v'] F'->sA w0.heap.size F'->Bw w0 w'->TB F W w'->(∀b∈F',b∈F\/b∈f\/W.heap.size<=b)->wpList P ops Q rest (a.put o.dst v') w'):wpList P ops Q (o::rest) a W:=by
 exact wpList_plain hgd fun _ hK=>cA3 W s x t ho w0 e i z sz bytes ht hi hz hsize hby hzs hsz hR v xs F hs hv hF ad c hx y u f hu hy hul m hFm hf hm hbytes hlen hbw fun v' w' F' h1 h2 h3 h4 h5=>hK _ _ (h v' w' F' h1 h2 h3 h4 h5)
theorem RE {ops:Array Oper} {o:Oper} {a:Act} {K:Act->World->Prop} {Q:Exit->Act->World->Prop} {E:Prop} (W:World) (hgd:o.guard=none) (s x:Operand) (t:TypeId)
  (ho:o.op=.call { callee:=.builtin .append,args:=#[s,x],argTypes:=#[t,t] })
  (w0:World) (e:TypeId) (i:TypeInfo) (z:Value) (sz bytes:Nat) (ht:P.underlying t=some (.slice e)) (hi:P.info? e=some i) (hz:i.zero=some z)
  (hsize:i.size=sz) (hby:i.bytes=bytes) (hzs:z.cells.size=sz) (hsz:0<sz)
  {R:Fp α} (hR:tC w0.heap.size R) (v:Value) (xs:List α) (F:List Nat) (hs:a.eval s=v) (hv:fSl e sz R W xs [v] F) (hF:sA w0.heap.size F)
  (ad:Addr) (c:Nat) (hx:a.eval x=.slice (some ad) 1 c) (y:α) (u:List Value) (f:List Nat) (hu:∀j t,u[j]? = some t->W.cell? (ad.add j)=some t)
  (hy:R W y u f) (hul:u.length=sz) (m:Nat) (hFm:∀b∈F,b<m) (hf:sA m f) (hm:w0.heap.size<=m) (hbytes:(xs.length+1)*bytes<=140737488355328) (hlen:xs.length<4611686018427387904) (hbw:Bw w0 W)
  (h:∀v' w' F',fSl e sz R w' (xs++[y]) [v'] F'->sA w0.heap.size F'->Bw w0 w'->TB F W w'->(∀b∈F',b∈F\/b∈f\/W.heap.size<=b)->K (a.put o.dst v') w'):if Region.wanted o (yielded ops a.tmps)=true then Oper.wp P o a W K Q else E:=by
 have hw:Region.wanted o (yielded ops a.tmps)=true:=by simp [Region.wanted,hgd]
 rw [if_pos hw];exact cA3 W s x t ho w0 e i z sz bytes ht hi hz hsize hby hzs hsz hR v xs F hs hv hF ad c hx y u f hu hy hul m hFm hf hm hbytes hlen hbw h
end
def UU (x:AB):Nat:=x.list.length+x.pairs.length
def dL (x:mA):Nat:=UU x.wish
def sB (xs:List mA):Nat:=xs.length+JH dL xs
section
variable {w:World} {S:JC} {A:Option Addr} {n c k:Nat}
theorem mE {xs:List mA} (h:OA w S xs [.slice A n c]) {x:mA} (hx:xs[k]? = some x):∃b o Al cl Ap cp,A=some ⟨b,o,none⟩/\S b /\
  w.cell? ⟨b,o+k*6,none⟩=some (.int .i64 x.op)/\w.cell? ⟨b,o+k*6+1,none⟩=some (.int .i64 x.wish.kind)/\w.cell? ⟨b,o+k*6+2,none⟩=some (.int .i64 x.wish.field)/\w.cell? ⟨b,o+k*6+3,none⟩=some (.int .i64 x.wish.value) /\
  w.cell? ⟨b,o+k*6+4,none⟩=some (.slice Al x.wish.list.length cl)/\w.cell? ⟨b,o+k*6+5,none⟩=some (.slice Ap x.wish.pairs.length cp)/\aB w S x.wish.list [.slice Al x.wish.list.length cl]/\MC w S x.wish.pairs [.slice Ap x.wish.pairs.length cp]:=by
 obtain ⟨b,o,us,e,hS,_,hc,us',rfl,v,u,rfl,hv,hu⟩:=YM h hx;obtain ⟨Al,cl,rfl,_⟩:=XA hv;obtain ⟨Ap,cp,rfl,_⟩:=XA hu;exact ⟨b,o,Al,cl,Ap,cp,e,hS,hc 0 _ rfl,hc 1 _ rfl,hc 2 _ rfl,hc 3 _ rfl,hc 4 _ rfl,hc 5 _ rfl,hv,hu⟩
theorem YG {xs:List (List mA)} (h:kC w S xs [.slice A n c]) {x:List mA} (hx:xs[k]? = some x):∃b o A' c',A=some ⟨b,o,none⟩/\S b /\
  w.cell? ⟨b,o+k,none⟩=some (.slice A' x.length c')/\OA w S x [.slice A' x.length c']:=by
 obtain ⟨b,o,us,e,hS,_,hc,hv⟩:=YM h hx;obtain ⟨A',c',e',_⟩:=hv;subst e';exact ⟨b,o,A',c',e,hS,by simpa using hc 0 _ rfl,⟨A',c',rfl,by assumption⟩⟩
end
theorem sV (x y:AB):decide (x=y)=(decide (x.kind=y.kind) && (decide (x.field=y.field) && (decide (x.value=y.value) && (decide (x.list=y.list) && decide (x.pairs=y.pairs))))):=by rw [Bool.eq_iff_iff];simp [AB.eq_iff]
theorem fAl (x y:mA):decide (x=y)=(decide (x.op=y.op) && decide (x.wish=y.wish)):=by rw [Bool.eq_iff_iff];simp [mA.eq_iff]
theorem MT (w:World) (x y:AB) (v1 v2 u1 u2:Value) (h1:Rd aB w x.list [v1]) (h2:Rd aB w y.list [v2]) (k1:Rd MC w x.pairs [u1]) (k2:Rd MC w y.pairs [u2]) :
  Calls prog 186 #[.agg #[.int .i64 x.kind,.int .i64 x.field,.int .i64 x.value,v1,u1],.agg #[.int .i64 y.kind,.int .i64 y.field,.int .i64 y.value,v2,u2]] w (Ret w (.bool (decide (x=y)))):=by
 have B0:Bw w ((w.alloc (.cells #[.int .i64 x.kind,.int .i64 x.field,.int .i64 x.value,v1,u1] 109)).alloc (.cells #[.int .i64 y.kind,.int .i64 y.field,.int .i64 y.value,v2,u2] 109)):=((Bw.refl w).alloc _).alloc _;rw [sV];by_cases e1:x.kind=y.kind
 ·by_cases e2:x.field=y.field
  ·by_cases e3:x.value=y.value
   ·have H:=pA6 (show decide (x.kind=y.kind)=true/\decide (x.field=y.field)=true/\decide (x.value=y.value)=true by simp [e1,e2,e3]);have a1:(x.kind==y.kind)=true:=by simpa using e1
    have b1:(x.kind != y.kind)=false:=by simpa using e1
    have a2:(x.field==y.field)=true:=by simpa using e2
    have b2:(x.field != y.field)=false:=by simpa using e2
    have a3:(x.value==y.value)=true:=by simpa using e3
    have b3:(x.value != y.value)=false:=by simpa using e3
    clear e1 e2 e3;go_enter func186,ntmps186;go_wp2_with fail;refine (OG _ x.list y.list _ _ (h1.bw dA B0) (h2.bw dA B0)).mono ?_;rintro e w2 ⟨rfl,bb⟩;have hc:=mH bb;have B2:=B0.then bb;by_cases e4:x.list=y.list
    ·have H4:=pA6 (show decide (x.list=y.list)=true by simpa using e4);rw [show decide (x.list=y.list)=true from H4.out];clear e4;go_wp2_with fail;refine (MP _ x.pairs y.pairs _ _ (k1.bw RA B2) (k2.bw RA B2)).mono ?_;rintro e w3 ⟨rfl,bc⟩;by_cases e5:x.pairs=y.pairs
     ·have H5:=pA6 (show decide (x.pairs=y.pairs)=true by simpa using e5);rw [show decide (x.pairs=y.pairs)=true from H5.out];clear e5;go_wp2;go_ret;exact Ret.bool (by simp [H.out.1,H.out.2.1,H.out.2.2,H4.out,H5.out]) (B2.then bc)
     ·have H5:=pA6 (show decide (x.pairs=y.pairs)=false by simpa using e5);rw [show decide (x.pairs=y.pairs)=false from H5.out];clear e5;go_wp2;go_ret;exact Ret.bool (by simp [H5.out]) (B2.then bc)
    ·have H4:=pA6 (show decide (x.list=y.list)=false by simpa using e4);rw [show decide (x.list=y.list)=false from H4.out];clear e4;go_wp2;go_ret;exact Ret.bool (by simp [H4.out]) (B2)
   ·have H:=pA6 (show decide (x.value=y.value)=false by simpa using e3);have a1:(x.kind==y.kind)=true:=by simpa using e1
    have b1:(x.kind != y.kind)=false:=by simpa using e1
    have a2:(x.field==y.field)=true:=by simpa using e2
    have b2:(x.field != y.field)=false:=by simpa using e2
    have a3:(x.value==y.value)=false:=by simpa using e3
    have b3:(x.value != y.value)=true:=by simpa using e3
    clear e1 e2 e3;go_enter func186,ntmps186;go_wp2;go_ret;exact Ret.bool (by rw [H.out];simp) (B0)
  ·have H:=pA6 (show decide (x.field=y.field)=false by simpa using e2);have a1:(x.kind==y.kind)=true:=by simpa using e1
   have b1:(x.kind != y.kind)=false:=by simpa using e1
   have a2:(x.field==y.field)=false:=by simpa using e2
   have b2:(x.field != y.field)=true:=by simpa using e2
   clear e1 e2;go_enter func186,ntmps186;go_wp2;go_ret;exact Ret.bool (by rw [H.out];simp) (B0)
 ·have H:=pA6 (show decide (x.kind=y.kind)=false by simpa using e1);have a1:(x.kind==y.kind)=false:=by simpa using e1
  have b1:(x.kind != y.kind)=true:=by simpa using e1
  clear e1;go_enter func186,ntmps186;go_wp2;go_ret;exact Ret.bool (by rw [H.out];simp) (B0)
theorem fM (w:World) (x y:AB) (v1 v2 u1 u2:Value) (h1:Rd aB w x.list [v1]) (h2:Rd aB w y.list [v2]) (k1:Rd MC w x.pairs [u1]) (k2:Rd MC w y.pairs [u2]) :
  Calls prog 167 #[.agg #[.int .i64 x.kind,.int .i64 x.field,.int .i64 x.value,v1,u1],.agg #[.int .i64 y.kind,.int .i64 y.field,.int .i64 y.value,v2,u2]] w (Ret w (.bool (decide (x=y)))):=by
 have B0:Bw w ((w.alloc (.cells #[.int .i64 x.kind,.int .i64 x.field,.int .i64 x.value,v1,u1] 109)).alloc (.cells #[.int .i64 y.kind,.int .i64 y.field,.int .i64 y.value,v2,u2] 109)):=((Bw.refl w).alloc _).alloc _;rw [sV];by_cases e1:x.kind=y.kind
 ·by_cases e2:x.field=y.field
  ·by_cases e3:x.value=y.value
   ·have H:=pA6 (show decide (x.kind=y.kind)=true/\decide (x.field=y.field)=true/\decide (x.value=y.value)=true by simp [e1,e2,e3]);have a1:(x.kind==y.kind)=true:=by simpa using e1
    have b1:(x.kind != y.kind)=false:=by simpa using e1
    have a2:(x.field==y.field)=true:=by simpa using e2
    have b2:(x.field != y.field)=false:=by simpa using e2
    have a3:(x.value==y.value)=true:=by simpa using e3
    have b3:(x.value != y.value)=false:=by simpa using e3
    clear e1 e2 e3;go_enter func167,ntmps167;go_wp2_with fail;refine (DQ _ x.list y.list _ _ (h1.bw dA B0) (h2.bw dA B0)).mono ?_;rintro e w2 ⟨rfl,bb⟩;have hc:=mH bb;have B2:=B0.then bb;by_cases e4:x.list=y.list
    ·have H4:=pA6 (show decide (x.list=y.list)=true by simpa using e4);rw [show decide (x.list=y.list)=true from H4.out];clear e4;go_wp2_with fail;refine (SX _ x.pairs y.pairs _ _ (k1.bw RA B2) (k2.bw RA B2)).mono ?_;rintro e w3 ⟨rfl,bc⟩;by_cases e5:x.pairs=y.pairs
     ·have H5:=pA6 (show decide (x.pairs=y.pairs)=true by simpa using e5);rw [show decide (x.pairs=y.pairs)=true from H5.out];clear e5;go_wp2;go_ret;exact Ret.bool (by simp [H.out.1,H.out.2.1,H.out.2.2,H4.out,H5.out]) (B2.then bc)
     ·have H5:=pA6 (show decide (x.pairs=y.pairs)=false by simpa using e5);rw [show decide (x.pairs=y.pairs)=false from H5.out];clear e5;go_wp2;go_ret;exact Ret.bool (by simp [H5.out]) (B2.then bc)
    ·have H4:=pA6 (show decide (x.list=y.list)=false by simpa using e4);rw [show decide (x.list=y.list)=false from H4.out];clear e4;go_wp2;go_ret;exact Ret.bool (by simp [H4.out]) (B2)
   ·have H:=pA6 (show decide (x.value=y.value)=false by simpa using e3);have a1:(x.kind==y.kind)=true:=by simpa using e1
    have b1:(x.kind != y.kind)=false:=by simpa using e1
    have a2:(x.field==y.field)=true:=by simpa using e2
    have b2:(x.field != y.field)=false:=by simpa using e2
    have a3:(x.value==y.value)=false:=by simpa using e3
    have b3:(x.value != y.value)=true:=by simpa using e3
    clear e1 e2 e3;go_enter func167,ntmps167;go_wp2;go_ret;exact Ret.bool (by rw [H.out];simp) (B0)
  ·have H:=pA6 (show decide (x.field=y.field)=false by simpa using e2);have a1:(x.kind==y.kind)=true:=by simpa using e1
   have b1:(x.kind != y.kind)=false:=by simpa using e1
   have a2:(x.field==y.field)=false:=by simpa using e2
   have b2:(x.field != y.field)=true:=by simpa using e2
   clear e1 e2;go_enter func167,ntmps167;go_wp2;go_ret;exact Ret.bool (by rw [H.out];simp) (B0)
 ·have H:=pA6 (show decide (x.kind=y.kind)=false by simpa using e1);have a1:(x.kind==y.kind)=false:=by simpa using e1
  have b1:(x.kind != y.kind)=true:=by simpa using e1
  clear e1;go_enter func167,ntmps167;go_wp2;go_ret;exact Ret.bool (by rw [H.out];simp) (B0)
theorem iAr (w:World) (x y:mA) (v1 v2 u1 u2:Value) (h1:Rd aB w x.wish.list [v1]) (h2:Rd aB w y.wish.list [v2]) (k1:Rd MC w x.wish.pairs [u1]) (k2:Rd MC w y.wish.pairs [u2]) :
  Calls prog 272 #[.agg #[.int .i64 x.op,.int .i64 x.wish.kind,.int .i64 x.wish.field,.int .i64 x.wish.value,v1,u1],.agg #[.int .i64 y.op,.int .i64 y.wish.kind,.int .i64 y.wish.field,.int .i64 y.wish.value,v2,u2]] w (Ret w (.bool (decide (x=y)))):=by
 have B0:Bw w ((w.alloc (.cells #[.int .i64 x.op,.int .i64 x.wish.kind,.int .i64 x.wish.field,.int .i64 x.wish.value,v1,u1] 111)).alloc (.cells #[.int .i64 y.op,.int .i64 y.wish.kind,.int .i64 y.wish.field,.int .i64 y.wish.value,v2,u2] 111)):=((Bw.refl w).alloc _).alloc _;rw [fAl];by_cases e1:x.op=y.op
 ·have H:=pA6 (show decide (x.op=y.op)=true by simpa using e1);have a1:(x.op==y.op)=true:=by simpa using e1
  have b1:(x.op != y.op)=false:=by simpa using e1
  clear e1;go_enter func272,ntmps272;go_wp2_with fail;refine (MT _ x.wish y.wish _ _ _ _ (h1.bw dA B0) (h2.bw dA B0) (k1.bw RA B0) (k2.bw RA B0)).mono ?_;rintro e w2 ⟨rfl,bb⟩;rcases pA8 (decide (x.wish=y.wish)) with e4 | e4
  ·have H4:=pA6 e4;rw [e4];clear e4;go_wp2;go_ret;exact Ret.bool (by simp [H.out,H4.out]) (B0.then bb)
  ·have H4:=pA6 e4;rw [e4];clear e4;go_wp2;go_ret;exact Ret.bool (by simp [H4.out]) (B0.then bb)
 ·have H:=pA6 (show decide (x.op=y.op)=false by simpa using e1);have a1:(x.op==y.op)=false:=by simpa using e1
  have b1:(x.op != y.op)=true:=by simpa using e1
  clear e1;go_enter func272,ntmps272;go_wp2;go_ret;exact Ret.bool (by rw [H.out];simp) (B0)
end Go.Proofs.YtpihighajaeabaaGreat
