/- Pairs in the reference: whether pairs lead from a value down to another one; valid pairs. -/
import Derived.Test.YtpihighajaeabaaGreatQFind
namespace Go.Proofs.YtpihighajaeabaaGreat
open Go.RowKit
set_option linter.unusedVariables false
theorem qC {x lo hi:Int}:inB x lo hi=true↔lo≤x∧x≤hi:=by unfold inB;exact decide_eq_true_iff
theorem vH:∀ {l:List gA} {p:Option Int} {x:gA},IA p l=true→x∈l→LA x=true
 | y::l,none,x,h,hx=>by
  simp only [IA,Bool.and_eq_true] at h;rcases List.mem_cons.1 hx with rfl | hx
  ·exact h.1
  ·exact vH h.2 hx
 | y::l,some p,x,h,hx=>by
  simp only [IA,Bool.and_eq_true] at h;rcases List.mem_cons.1 hx with rfl | hx
  ·exact h.1.1
  ·exact vH h.2 hx
theorem NA {l:List gA} {x:gA} (h:WA l=true) (hx:x∈l):LA x=true:=by
 simp only [WA,Bool.and_eq_true] at h;exact vH h.1 hx
theorem VA {l:List gA} (h:WA l=true):l.length≤16:=by
 simp only [WA,Bool.and_eq_true,decide_eq_true_iff] at h;exact h.2
theorem YA {x:gA} (h:LA x=true):x.vals.length=3:=by
 simp only [LA,Bool.and_eq_true,decide_eq_true_iff] at h;exact h.2.1
theorem wD {x:gA} (h:LA x=true):0≤x.id∧x.id≤99:=by
 simp only [LA,Bool.and_eq_true] at h;exact qC.1 h.1
theorem dE {x:gA} (h:LA x=true) {v:Int} (hv:v∈x.vals):0≤v∧v≤9:=by
 simp only [LA,Bool.and_eq_true,List.all_eq_true] at h;exact qC.1 (h.2.2 v hv)
def nE (x:gA) (f:Int):Int:=x.vals.getD f.toNat 0
theorem MJ {x:gA} (h:LA x=true) {f:Nat} (hf:f≤2):x.vals[f]? = some (nE x f):=by
 have hl:=YA h;unfold nE;rw [Int.toNat_natCast,List.getD_eq_getElem?_getD,List.getElem?_eq_getElem (by omega)];rfl
theorem XK {x:gA} (h:LA x=true) {f:Nat} (hf:f≤2):0≤nE x f∧nE x f≤9:=dE h (List.mem_of_getElem? (MJ h hf))
end Go.Proofs.YtpihighajaeabaaGreat
namespace Go.Proofs.YtpihighajaeabaaGreat
open Go.RowKit
set_option linter.unusedVariables false
def IK (l:List lB) (i j:Nat):Bool:=l.any fun p=>decide (p.fst=(i:Int)) && decide (p.snd=(j:Int))
def FC (M:Nat→Nat→Bool):Nat→Nat→Nat→Bool
 | 0=>M
 | k+1=>fun i j=>FC M k i j || (FC M k i k && FC M k k j)
def AC (l:List lB) (a b:Int):Bool:=FC (IK l) 10 a.toNat b.toNat
def mV (p:lB):Bool:=inB p.fst 0 9 && inB p.snd 0 9
def rD (l:List lB):Bool:=l.all mV
def yB (l:List lB):Bool:=rD l && (decide (l.length≤8) && (List.range 10).all fun v=>!AC l (v:Int) (v:Int))
theorem RW {M:Nat→Nat→Bool} {i j:Nat} (h:M i j=true):∀k,FC M k i j=true
 | 0=>h
 | k+1=>by simp [FC,RW h k]
theorem JN (M:Nat→Nat→Bool):∀(k m:Nat),m<k→∀i j,FC M k i m=true→FC M k m j=true→FC M k i j=true
 | 0,m,h,_,_,_,_=>by omega
 | k+1,m,h,i,j,h1,h2=>by
  simp only [FC,Bool.or_eq_true,Bool.and_eq_true] at h1 h2 ⊢;have ih:=JN M k m;by_cases hm:m<k
  ·have ih:=ih hm;rcases h1 with h1 | ⟨h1,h1'⟩<;>rcases h2 with h2 | ⟨h2,h2'⟩
   ·exact .inl (ih _ _ h1 h2)
   ·exact .inr ⟨ih _ _ h1 h2,h2'⟩
   ·exact .inr ⟨h1,ih _ _ h1' h2⟩
   ·exact .inr ⟨h1,h2'⟩
  ·obtain rfl:m=k:=by omega
   rcases h1 with h1 | ⟨h1,h1'⟩<;>rcases h2 with h2 | ⟨h2,h2'⟩
   ·exact .inr ⟨h1,h2⟩
   ·exact .inr ⟨h1,h2'⟩
   ·exact .inr ⟨h1,h2⟩
   ·exact .inr ⟨h1,h2'⟩
theorem jJ {M:Nat→Nat→Bool} {R:Nat→Nat→Prop} (ht:∀a b c,R a b→R b c→R a c) (hM:∀i j,M i j=true→R i j):∀(k:Nat) {i j:Nat},FC M k i j=true→R i j
 | 0,i,j,h=>hM i j h
 | k+1,i,j,h=>by
  simp only [FC,Bool.or_eq_true,Bool.and_eq_true] at h;rcases h with h | ⟨h1,h2⟩
  ·exact jJ ht hM k h
  ·exact ht _ _ _ (jJ ht hM k h1) (jJ ht hM k h2)
theorem cA4 {M:Nat→Nat→Bool} {k i:Nat}:FC M (k+1) i k=FC M k i k:=by
 simp only [FC];cases FC M k i k<;>simp
theorem cA5 {M:Nat→Nat→Bool} {k j:Nat}:FC M (k+1) k j=FC M k k j:=by
 simp only [FC];cases FC M k k j<;>simp
theorem cA6 {l:List lB} {i j:Nat} (h:IK l i j=true):∃p∈l,p.fst=(i:Int)∧p.snd=(j:Int):=by
 obtain ⟨p,hp,h⟩:=List.any_eq_true.1 h;simp at h;exact ⟨p,hp,h⟩
theorem tF {l:List lB} (h:rD l=true) {p:lB} (hp:p∈l):(0≤p.fst∧p.fst≤9)∧0≤p.snd∧p.snd≤9:=by
 have:=List.all_eq_true.1 h p hp;simp only [mV,Bool.and_eq_true,qC] at this;exact this
theorem sZ {l:List lB} (hl:rD l=true) {p:lB} (hp:p∈l):AC l p.fst p.snd=true:=by
 have:=tF hl hp;refine RW ?_ 10;refine List.any_eq_true.2 ⟨p,hp,?_⟩;simp only [Bool.and_eq_true,decide_eq_true_iff];omega
theorem YK {l:List lB} {a b c:Int} (hb:0≤b∧b≤9) (h1:AC l a b=true) (h2:AC l b c=true):AC l a c=true:=
 JN _ 10 b.toNat (by omega) _ _ h1 h2
theorem eAo {l:List lB} {a b:Int} {S:List Int} (ha:0≤a) (hb:0≤b) (h0:a∈S) (hS:∀s∈S,∀p∈l,p.fst=s→p.snd∈S∧p.snd≠b):AC l a b=false:=by
 rw [Bool.eq_false_iff];intro h;have:=jJ (R:=fun i j=>(i:Int)∈S→((j:Int)∈S∧(j:Int)≠b)) (fun x y z h1 h2 hx=>h2 (h1 hx).1) (fun i j h hi=>by
  obtain ⟨p,hp,e1,e2⟩:=cA6 h;rw [← e2];exact hS _ hi p hp e1) 10 h
 have:=this (by rw [Int.toNat_of_nonneg ha];exact h0);omega
end Go.Proofs.YtpihighajaeabaaGreat
namespace Go.Proofs.YtpihighajaeabaaGreat
open Go.RowKit
set_option linter.unusedVariables false
section
variable {α:Type} {P:Program}
theorem cA7 (W:World) (w0:World) (t ty e:TypeId) (i:TypeInfo) (z:Value) (sz bytes:Nat) (ht:P.underlying t=some (.slice e)) (hi:P.info? e=some i) (hz:i.zero=some z)
  (hsize:i.size=sz) (hby:i.bytes=bytes) (hzs:z.cells.size=sz) (hsz:0<sz)
  {R:Fp α} (hR:VB w0.heap.size R) (v:Value) (xs:List α) (F:List Nat) (hv:fSl e sz R W xs [v] F) (hF:pA w0.heap.size F)
  (ad:Addr) (c:Nat) (y:α) (u:List Value) (f:List Nat) (hu:∀j t,u[j]? = some t→W.cell? (ad.add j)=some t)
  (hy:R W y u f) (hul:u.length=sz) (m:Nat) (hFm:∀b∈F,b<m) (hf:pA m f) (hm:w0.heap.size≤m) (hbytes:(xs.length+1)*bytes≤140737488355328) (hlen:xs.length<4611686018427387904) (hbw:Bw w0 W) :
  ∃v' w' F',(Builtin.append_ #[t,t] ty #[v,.slice (some ad) 1 c]).run P W=.ok v' w'∧fSl e sz R w' (xs++[y]) [v'] F'∧pA w0.heap.size F'∧Bw w0 w'∧SB F W w'∧∀b∈F',b∈F∨b∈f∨W.heap.size≤b:=by
 obtain ⟨v0,us,Fs,hv0,hown,hall,hFe⟩:=hv;injection hv0 with hv0;subst hv0;have hl:=EE hall;obtain ⟨v',w',hrun,hown',hgrow,_,hat⟩:=run_append_own_at (P:=P) W 0 t ty e i z sz bytes ht hi hz hsize hby hzs hsz v xs.length us.flatten hown ad 1 c u (by omega) hu
  (hR.one hy) (by simp only [maxLen];omega) hbytes (Nat.zero_le _)
 have hvg:∀k,v.ownBlock=some k→w0.heap.size≤k:=fun k hk=>hF.ge k (by rw [hFe];simp [hk])
 have hbw':Bw w0 w':=hbw.grown hgrow hvg;have hvF:∀b,b∈Fs.flatten→some b≠v.ownBlock:=by
  intro b hb e;have hn:=hF.nodup;rw [hFe,List.nodup_append] at hn;exact hn.2.2 b (by simp [← e]) b hb rfl
 have hvf:∀b,b∈f→some b≠v.ownBlock:=by
  intro b hb e;have h1:=hf.ge b hb;have h2:=hFm b (by rw [hFe];simp [← e]);omega
 have hlts:∀b∈Fs.flatten,b<W.heap.size:=fun b hb=>(xB hR).lt (⟨v,us,Fs,rfl,hown,hall,rfl⟩:fSl e sz R W xs [v] _) b (List.mem_append_right _ hb)
 have hltf:∀b∈f,b<W.heap.size:=hR.lt hy;have hold:∀b,b<w0.heap.size→w'.heap[b]? = W.heap[b]?:=fun b hb=>hgrow.block b (Nat.lt_of_lt_of_le hb hbw.size) (fun e=>by have:=hvg b e.symm;omega)
 refine ⟨v',w',v'.ownBlock.toList++(Fs++[f]).flatten,hrun,⟨v',us++[u],Fs++[f],rfl,?_,?_,rfl⟩,⟨?_,?_⟩,hbw',⟨?_,?_⟩,?_⟩
 ·rw [List.length_append,List.flatten_append,List.flatten_singleton];exact hown'
 ·have hy':R w' y u f:=hR.step (fun b hb=>hb.elim (fun hb=>hgrow.block b (hltf b hb) (hvf b hb)) (hold b)) hy;refine JO ⟨hy',hul⟩ (rF (fun x u f' hf' hx=>⟨hR.step (fun b hb=>?_) hx.1,hx.2⟩) hall);rcases hb with hb | hb
  ·have hb':b∈Fs.flatten:=List.mem_flatten.2 ⟨_,hf',hb⟩;exact hgrow.block b (hlts b hb') (hvF b hb')
  ·exact hold b hb
 ·rw [List.flatten_append,List.flatten_singleton,List.nodup_append];have hn:=hF.nodup;rw [hFe,List.nodup_append] at hn;refine ⟨by cases v'.ownBlock<;>simp,PM hn.2.1 hf fun b hb=>hFm b (by rw [hFe];exact List.mem_append_right _ hb),fun p hp q hq e=>?_⟩;subst e;have hp':v'.ownBlock=some p:=by simpa using hp
  rcases hat with e | e
  ·rcases List.mem_append.1 hq with hq | hq
   ·exact hvF p hq (by rw [← e,hp'])
   ·exact hvf p hq (by rw [← e,hp'])
  ·rw [hp'] at e;injection e with e;rcases List.mem_append.1 hq with hq | hq
   ·have:=hlts p hq;omega
   ·have:=hltf p hq;omega
 ·intro b hb;rcases List.mem_append.1 hb with hb | hb
  ·have hb':v'.ownBlock=some b:=by simpa using hb
   rcases hat with e | e
   ·exact hvg b (by rw [← e,hb'])
   ·rw [hb'] at e;injection e with e;have:=hbw.size;omega
  ·rw [List.flatten_append,List.flatten_singleton] at hb;rcases List.mem_append.1 hb with hb | hb
   ·exact hF.ge b (by rw [hFe];exact List.mem_append_right _ hb)
   ·exact Nat.le_trans hm (hf.ge b hb)
 ·exact hgrow.size
 ·intro b hb hn;exact hgrow.block b hb (fun e=>hn (by rw [hFe];simp [← e]))
 ·intro b hb;rcases List.mem_append.1 hb with hb | hb
  ·have hb':v'.ownBlock=some b:=by simpa using hb
   rcases hat with e | e
   ·exact .inl (by rw [hFe];simp [← e,hb'])
   ·rw [hb'] at e;injection e with e;exact .inr (.inr (by omega))
  ·rw [List.flatten_append,List.flatten_singleton] at hb;rcases List.mem_append.1 hb with hb | hb
   ·exact .inl (by rw [hFe];exact List.mem_append_right _ hb)
   ·exact .inr (.inl hb)
theorem SW {o:Oper} {a:Act} {K:Act→World→Prop} {Q:Exit→Act→World→Prop} (W:World) (s x:Operand) (t:TypeId)
  (ho:o.op=.call { callee:=.builtin .append,args:=#[s,x],argTypes:=#[t,t] })
  (w0:World) (e:TypeId) (i:TypeInfo) (z:Value) (sz bytes:Nat) (ht:P.underlying t=some (.slice e)) (hi:P.info? e=some i) (hz:i.zero=some z)
  (hsize:i.size=sz) (hby:i.bytes=bytes) (hzs:z.cells.size=sz) (hsz:0<sz)
  {R:Fp α} (hR:VB w0.heap.size R) (v:Value) (xs:List α) (F:List Nat) (hs:a.eval s=v) (hv:fSl e sz R W xs [v] F) (hF:pA w0.heap.size F)
  (ad:Addr) (c:Nat) (hx:a.eval x=.slice (some ad) 1 c) (y:α) (u:List Value) (f:List Nat) (hu:∀j t,u[j]? = some t→W.cell? (ad.add j)=some t)
  (hy:R W y u f) (hul:u.length=sz) (m:Nat) (hFm:∀b∈F,b<m) (hf:pA m f) (hm:w0.heap.size≤m) (hbytes:(xs.length+1)*bytes≤140737488355328) (hlen:xs.length<4611686018427387904) (hbw:Bw w0 W)
  (h:∀v' w' F',fSl e sz R w' (xs++[y]) [v'] F'→pA w0.heap.size F'→Bw w0 w'→SB F W w'→(∀b∈F',b∈F∨b∈f∨W.heap.size≤b)→K (a.put o.dst v') w'):o.wp P a W K Q:=by
 obtain ⟨v',w',F',hrun,h1,h2,h3,h4,h5⟩:=cA7 (P:=P) W w0 t o.type e i z sz bytes ht hi hz hsize hby hzs hsz hR v xs F hv hF ad c y u f hu hy hul m hFm hf hm hbytes hlen hbw;unfold Oper.wp execOp;simp only [ho,resolve,invoke,builtin,Sem.run_bind,Sem.run_pure,Result.andThen_ok,List.map_toArray,List.map_cons,List.map_nil,hs,hx,hrun];exact h v' w' F' h1 h2 h3 h4 h5
theorem mC {ops:Array Oper} {rest:List Oper} {o:Oper} {a:Act} {Q:Exit→Act→World→Prop} (W:World) (hgd:o.guard=none) (s x:Operand) (t:TypeId)
  (ho:o.op=.call { callee:=.builtin .append,args:=#[s,x],argTypes:=#[t,t] })
  (w0:World) (e:TypeId) (i:TypeInfo) (z:Value) (sz bytes:Nat) (ht:P.underlying t=some (.slice e)) (hi:P.info? e=some i) (hz:i.zero=some z)
  (hsize:i.size=sz) (hby:i.bytes=bytes) (hzs:z.cells.size=sz) (hsz:0<sz)
  {R:Fp α} (hR:VB w0.heap.size R) (v:Value) (xs:List α) (F:List Nat) (hs:a.eval s=v) (hv:fSl e sz R W xs [v] F) (hF:pA w0.heap.size F)
  (ad:Addr) (c:Nat) (hx:a.eval x=.slice (some ad) 1 c) (y:α) (u:List Value) (f:List Nat) (hu:∀j t,u[j]? = some t→W.cell? (ad.add j)=some t)
  (hy:R W y u f) (hul:u.length=sz) (m:Nat) (hFm:∀b∈F,b<m) (hf:pA m f) (hm:w0.heap.size≤m) (hbytes:(xs.length+1)*bytes≤140737488355328) (hlen:xs.length<4611686018427387904) (hbw:Bw w0 W)
  (h:∀v' w' F',fSl e sz R w' (xs++[y]) [v'] F'→pA w0.heap.size F'→Bw w0 w'→SB F W w'→(∀b∈F',b∈F∨b∈f∨W.heap.size≤b)→wpList P ops Q rest (a.put o.dst v') w'):wpList P ops Q (o::rest) a W:=by
 exact wpList_plain hgd fun _ hK=>SW W s x t ho w0 e i z sz bytes ht hi hz hsize hby hzs hsz hR v xs F hs hv hF ad c hx y u f hu hy hul m hFm hf hm hbytes hlen hbw fun v' w' F' h1 h2 h3 h4 h5=>hK _ _ (h v' w' F' h1 h2 h3 h4 h5)
theorem tE {ops:Array Oper} {o:Oper} {a:Act} {K:Act→World→Prop} {Q:Exit→Act→World→Prop} {E:Prop} (W:World) (hgd:o.guard=none) (s x:Operand) (t:TypeId)
  (ho:o.op=.call { callee:=.builtin .append,args:=#[s,x],argTypes:=#[t,t] })
  (w0:World) (e:TypeId) (i:TypeInfo) (z:Value) (sz bytes:Nat) (ht:P.underlying t=some (.slice e)) (hi:P.info? e=some i) (hz:i.zero=some z)
  (hsize:i.size=sz) (hby:i.bytes=bytes) (hzs:z.cells.size=sz) (hsz:0<sz)
  {R:Fp α} (hR:VB w0.heap.size R) (v:Value) (xs:List α) (F:List Nat) (hs:a.eval s=v) (hv:fSl e sz R W xs [v] F) (hF:pA w0.heap.size F)
  (ad:Addr) (c:Nat) (hx:a.eval x=.slice (some ad) 1 c) (y:α) (u:List Value) (f:List Nat) (hu:∀j t,u[j]? = some t→W.cell? (ad.add j)=some t)
  (hy:R W y u f) (hul:u.length=sz) (m:Nat) (hFm:∀b∈F,b<m) (hf:pA m f) (hm:w0.heap.size≤m) (hbytes:(xs.length+1)*bytes≤140737488355328) (hlen:xs.length<4611686018427387904) (hbw:Bw w0 W)
  (h:∀v' w' F',fSl e sz R w' (xs++[y]) [v'] F'→pA w0.heap.size F'→Bw w0 w'→SB F W w'→(∀b∈F',b∈F∨b∈f∨W.heap.size≤b)→K (a.put o.dst v') w'):if Region.wanted o (yielded ops a.tmps)=true then Oper.wp P o a W K Q else E:=by
 have hw:Region.wanted o (yielded ops a.tmps)=true:=by simp [Region.wanted,hgd]
 rw [if_pos hw];exact SW W s x t ho w0 e i z sz bytes ht hi hz hsize hby hzs hsz hR v xs F hs hv hF ad c hx y u f hu hy hul m hFm hf hm hbytes hlen hbw h
end
end Go.Proofs.YtpihighajaeabaaGreat
namespace Go.Proofs.YtpihighajaeabaaGreat
open Go.RowKit
set_option linter.unusedVariables false
theorem gT {xs:List Int} {k:Nat} {y:Int} (h:xs[k]? = some y) (x:Int):(xs.drop k).contains x=(x==y || (xs.drop (k+1)).contains x):=by rw [NB h,List.contains_cons]
set_option maxHeartbeats 800000 in
theorem bAf (w:World) (xs:List Int) (x:Int) (v:Value) (h:Rd XA w xs [v]):Calls Tryz.prog 100 #[v,.int .i64 x] w (Ret w (.bool (xs.contains x))):=by
 obtain ⟨A,n,c,rfl,L0,Lc,Lm⟩:=iA h;unfold maxLen at Lm;have L:=Lib.hid L0;clear L0;go_enter Tryz.func100,Tryz.ntmps100;go_wp2
 go_loopw [5] (fun i w'=>∃k:Nat,k≤n∧i=.int .i64 k∧Hid (xs.contains x=(xs.drop k).contains x)∧Bw w w') (fun i _=>n-(intOf i).toNat)
 case atStart=>exact ⟨0,by omega,rfl,Lib.hid rfl,Bw.refl _⟩
 case round=>
  obtain ⟨k,hk,rfl,HE,hb⟩:=hrel;by_cases hlt:k<n
  ·obtain ⟨y,hy⟩:=rA (xs:=xs) (k:=k) (by have:=L.out;omega);obtain ⟨ba,oa,rfl,_,hc0⟩:=GB h hy;have hc:=hb.cell hc0;have HS:=Lib.hid (gT hy x);clear hy h hc0;by_cases he:y=x
   ·have e1:(y==x)=true:=by simpa using he
    have HX:=Lib.hid he;clear he;go_wp2;go_ret;exact Ret.bool (by rw [HE.out,HS.out,HX.out];simp) hb
   ·have e1:(y==x)=false:=by simpa using he
    have HX:=Lib.hid (show (x==y)=false by simpa using fun e=>he e.symm);clear he;go_wp2
    go_roundw
    case rel=>exact ⟨k+1,by omega,by go_num,Lib.hid (by rw [HE.out,HS.out,HX.out];simp),hb⟩
    case measure=>simp [intOf];omega
  ·go_wp2;go_ret;exact Ret.bool (by rw [HE.out,List.drop_of_length_le (by rw [← L.out];omega)];simp) hb
theorem KN {xs:List lB} {k:Nat} {y:lB} (h:xs[k]? = some y):rD (xs.drop k)=(inB y.fst 0 9 && (inB y.snd 0 9 && rD (xs.drop (k+1)))):=by rw [NB h,rD,List.all_cons,mV,Bool.and_assoc];rfl
set_option maxHeartbeats 1600000 in
theorem cA8 (w:World) (xs:List lB) (v:Value) (h:Rd RB w xs [v]):Calls Tryz.prog 232 #[v] w (Ret w (.bool (rD xs && decide (xs.length≤8)))):=by
 obtain ⟨A,n,c,rfl,L0,Lc,Lm⟩:=iA h;unfold maxLen at Lm;have L:=Lib.hid L0;clear L0;go_enter Tryz.func232,Tryz.ntmps232;go_wp2
 go_loopw [3] (fun i w'=>∃k:Nat,k≤n∧i=.int .i64 k∧Hid (rD xs=rD (xs.drop k))∧Bw w w') (fun i _=>n-(intOf i).toNat)
 case atStart=>exact ⟨0,by omega,rfl,Lib.hid rfl,Bw.refl _⟩
 case round=>
  obtain ⟨k,hk,rfl,HE,hb⟩:=hrel;by_cases hlt:k<n
  ·obtain ⟨y,hy⟩:=rA (xs:=xs) (k:=k) (by have:=L.out;omega);obtain ⟨ba,oa,rfl,_,hc0,hc1⟩:=YE h hy;have hx0:=hb.cell hc0;have hx1:=hb.cell hc1;have HS:=Lib.hid (KN hy);clear hy h;go_wp2_with fail;refine (GI _ _ _ _).mono ?_;rintro e w2 ⟨rfl,hb2⟩;replace hx1:=hb2.cell hx1;have hbb:=hb.then hb2;rcases Bool.eq_false_or_eq_true (inB y.fst 0 9) with e1 | e1
   ·have E1:=Lib.hid e1;rw [show inB y.fst 0 9=true from E1.out];clear e1;go_wp2_with fail;refine (GI _ _ _ _).mono ?_;rintro e w3 ⟨rfl,hb3⟩;have hbc:=hbb.then hb3;rcases Bool.eq_false_or_eq_true (inB y.snd 0 9) with e2 | e2
    ·have E2:=Lib.hid e2;rw [show inB y.snd 0 9=true from E2.out];clear e2;go_wp2
     go_roundw
     case rel=>exact ⟨k+1,by omega,by go_num,Lib.hid (by rw [HE.out,HS.out,E1.out,E2.out];simp),hbc⟩
     case measure=>simp [intOf];omega
    ·have E2:=Lib.hid e2;rw [show inB y.snd 0 9=false from E2.out];clear e2;go_wp2;go_ret;exact Ret.bool (by rw [HE.out,HS.out,E1.out,E2.out];simp) hbc
   ·have E1:=Lib.hid e1;rw [show inB y.fst 0 9=false from E1.out];clear e1;go_wp2;go_ret;exact Ret.bool (by rw [HE.out,HS.out,E1.out];simp) hbb
  ·have HT:=Lib.hid (show rD xs=true by rw [HE.out,List.drop_of_length_le (by rw [← L.out];omega)];rfl);by_cases h8:n≤8
   ·go_wp2;go_ret;exact Ret.bool (by rw [HT.out,← L.out];simp;omega) hb
   ·go_wp2;go_ret;exact Ret.bool (by rw [HT.out,← L.out];simp;omega) hb
def eI:List lB→List Int→Nat
 | [],_=>0
 | p::l,S=>(if p.snd∈S then 0 else 1)+eI l S
theorem bAg:∀(l:List lB) (S:List Int),eI l S≤l.length
 | [],_=>Nat.le_refl _
 | p::l,S=>by
  have:=bAg l S;simp only [eI,List.length_cons];split<;>omega
theorem NN (y:Int):∀(l:List lB) (S:List Int),eI l (S++[y])≤eI l S
 | [],_=>Nat.le_refl _
 | p::l,S=>by
  have:=NN y l S;by_cases h1:p.snd∈S
  ·simp only [eI,h1,if_pos,List.mem_append,true_or];omega
  ·simp only [eI,if_neg h1];split<;>omega
theorem VL {p:lB}:∀ {l:List lB} {S:List Int},p∈l→p.snd∉S→eI l (S++[p.snd])+1≤eI l S
 | q::l,S,hp,hS=>by
  have hle:=NN p.snd l S;rcases List.mem_cons.1 hp with rfl | hp
  ·simp only [eI,if_neg hS];rw [if_pos (by simp)];omega
  ·have ih:=VL (l:=l) hp hS;by_cases h1:q.snd∈S
   ·simp only [eI,if_pos h1];rw [if_pos (by simp [h1])];omega
   ·simp only [eI,if_neg h1]
    split<;>omega
structure RM (l:List lB) (a b:Int) (S:List Int) (i:Nat):Prop where
 mem:a∈S
 rng:∀s∈S,0≤s∧s≤9
 sound:∀s∈S,s=a∨AC l a s=true
 done:∀j s,j<i→S[j]? = some s→∀p∈l,p.fst=s→p.snd∈S∧p.snd≠b
 bound:eI l S+S.length≤l.length+1
theorem RM.start {l:List lB} {a b:Int} (ha:0≤a∧a≤9):RM l a b [a] 0:=
 ⟨by simp,by simpa using ha,by simp,fun j s h=>by omega,by have:=bAg l [a];simp;omega⟩
theorem RM.reach {l:List lB} {a b:Int} {S:List Int} {i:Nat} (h:RM l a b S i) (hl:rD l=true) {s:Int} (hs:s∈S) {p:lB} (hp:p∈l) (e:p.fst=s):AC l a p.snd=true:=by
 have h1:=sZ hl hp;rw [e] at h1;rcases h.sound s hs with rfl | h2
 ·exact h1
 ·exact YK (h.rng s hs) h2 h1
theorem RM.push {l:List lB} {a b:Int} {S:List Int} {i:Nat} (h:RM l a b S i) (hl:rD l=true) {s:Int} (hs:s∈S) {p:lB} (hp:p∈l) (e:p.fst=s) (hn:p.snd∉S) (hi:i<S.length):RM l a b (S++[p.snd]) i:=by
 refine ⟨by simp [h.mem],fun t ht=>?_,fun t ht=>?_,fun j t hj ht q hq eq=>?_,?_⟩
 ·rcases List.mem_append.1 ht with ht | ht
  ·exact h.rng t ht
  ·simp at ht;rw [ht];exact (tF hl hp).2
 ·rcases List.mem_append.1 ht with ht | ht
  ·exact h.sound t ht
  ·simp at ht;rw [ht];exact .inr (h.reach hl hs hp e)
 ·rw [List.getElem?_append_left (by omega)] at ht;have:=h.done j t hj ht q hq eq;exact ⟨by simp [this.1],this.2⟩
 ·have h1:=VL hp hn;have h2:=h.bound;simp;omega
theorem RM.next {l:List lB} {a b:Int} {S:List Int} {i:Nat} (h:RM l a b S i) {s:Int} (hs:S[i]? = some s) (hall:∀j p,j<l.length→l[j]? = some p→p.fst=s→p.snd∈S∧p.snd≠b):RM l a b S (i+1):=
 ⟨h.mem,h.rng,h.sound,fun j t hj ht q hq eq=>by
  by_cases hji:j<i
  ·exact h.done j t hji ht q hq eq
  ·obtain rfl:j=i:=by omega
   rw [hs] at ht;injection ht with ht;subst ht;obtain ⟨m,hm⟩:=List.mem_iff_getElem?.1 hq;exact hall m q (List.getElem?_eq_some_iff.1 hm).1 hm eq,h.bound⟩
theorem RM.no {l:List lB} {a b:Int} {S:List Int} {i:Nat} (h:RM l a b S i) (hi:S.length≤i) (ha:0≤a) (hb:0≤b):AC l a b=false:=
 eAo ha hb h.mem fun s hs p hp e=>by
  obtain ⟨m,hm⟩:=List.mem_iff_getElem?.1 hs;exact h.done m s (by have:=(List.getElem?_eq_some_iff.1 hm).1;omega) hm p hp e
theorem cA9 (w:World) (i:Int):ZA (w.alloc (.cells #[.int .i64 i] 3)) [i] [.slice (some ⟨w.heap.size,0,none⟩) 1 1] [w.heap.size]:=by
 refine ⟨_,[[.int .i64 i]],[[]],rfl,?_,⟨⟨⟨rfl,rfl⟩,rfl⟩,trivial⟩,by simp [Value.ownBlock]⟩;exact World.ownsRow_lit w #[.int .i64 i] 1 (Nat.zero_le _) (by simp [maxLen]) rfl
set_option maxRecDepth 100000 in
set_option maxHeartbeats 6400000 in
theorem MO (w:World) (l:List lB) (a b:Int) (v:Value) (h:Rd RB w l [v]) (hl:rD l=true) (h8:l.length≤8) (ha:0≤a∧a≤9) (hb0:0≤b∧b≤9) :
  Calls Tryz.prog 226 #[v,.int .i64 a,.int .i64 b] w (Ret w (.bool (AC l a b))):=by
 obtain ⟨i0,hi,hz0,hz1,hz2⟩:=info_parts PC;obtain ⟨A,n,c,rfl,L0,Lc,Lm⟩:=iA h;unfold maxLen at Lm;have L:=Lib.hid L0;clear L0;have HL:=Lib.hid hl;have n8:n≤8:=by rw [L.out];exact h8
 have hv0:=cA9 w a;have A0:Bw w (w.alloc (.cells #[.int .i64 a] 3)):=(Bw.refl w).alloc _;have I0:=Lib.hid (RM.start (l:=l) (b:=b) ha);have HA:=Lib.hid ha;have HB:=Lib.hid hb0;clear hl h8 ha hb0;go_enter Tryz.func226,Tryz.ntmps226;go_wp2
 go_loopg [7,8] (2*eI l [a]+1) (fun g s i w'=>∃(k m:Nat) (S:List Int) (F:List Nat) (A':Option Addr) (c':Nat),k≤m∧Hid (m=S.length)∧g=2*eI l S+(S.length-k)∧i=.int .i64 k∧s=.slice A' m c'∧m≤9∧ZA w' S [.slice A' m c'] F∧pA w.heap.size F∧Hid (RM l a b S k)∧Bw w w')
 case atStart=>exact ⟨0,1,[a],[w.heap.size],_,_,by omega,Lib.hid rfl,rfl,rfl,rfl,by omega,hv0,⟨by simp,by simp⟩,I0,A0⟩
 case round=>
  clear hv0 A0 I0;obtain ⟨i,m,S,F,A',c',hk,LM,rfl,rfl,rfl,hm9,hv,hF,I,hb⟩:=hrel;by_cases hlt:i<m
  ·obtain ⟨s,hs⟩:=rA (xs:=S) (k:=i) (by have:=LM.out;omega);have HS:=Lib.hid hs;have M0:=Lib.hid (show 2*eI l S+S.length=2*eI l S+S.length from rfl);obtain ⟨T,hT⟩:∃T,T=2*eI l S+S.length:=⟨_,rfl⟩;have HT:=Lib.hid (show 2*eI l S+S.length≤T by omega);obtain ⟨G,hG⟩:∃G,G=2*eI l S+(S.length-i):=⟨_,rfl⟩;have G2:=Lib.hid (show T<G+i+1∧i<T by
    have h2:=LM.out;omega)
   have HG:=Lib.hid hG;clear hs hT M0 hG;go_wp2
   go_loopg [7,9] n (fun g s2 i2 w'=>∃(k m:Nat) (S:List Int) (F:List Nat) (A':Option Addr) (c':Nat),k≤n∧g=n-k∧i2=.int .i64 k∧s2=.slice A' m c'∧Hid (m=S.length)∧i<m∧m≤9∧ZA w' S [.slice A' m c'] F∧pA w.heap.size F∧Hid (RM l a b S i)∧Hid (S[i]? = some s)∧Hid (2*eI l S+S.length≤T)∧Hid (∀j p,j<k→l[j]? = some p→p.fst=s→p.snd∈S∧p.snd≠b)∧Bw w w')
   case atStart=>exact ⟨0,m,S,F,A',c',by omega,rfl,rfl,rfl,LM,hlt,hm9,hv,hF,I,HS,HT,Lib.hid (fun j p hj=>by omega),hb⟩
   case round=>
    clear hv hF I HS HT hb LM hm9 hk hlt;obtain ⟨k,m,S,F,A',c',hk2,rfl,rfl,rfl,LM,him,hm9,hv,hF,I,HS,HT,HD,hb⟩:=hrel;by_cases hlt2:k<n
    ·obtain ⟨p,hp⟩:=rA (xs:=l) (k:=k) (by have:=L.out;omega);obtain ⟨ba,oa,rfl,_,hc0,hc1⟩:=YE h hp;have hx0:=hb.cell hc0;have hx1:=hb.cell hc1;obtain ⟨bs,os,rfl,_,hxs⟩:=GB (AA hv) HS.out;have HP:=Lib.hid hp;have i1:(0:Int)≤(k:Int):=by omega
     have i2:(k:Int)<(n:Int):=by omega
     have j1:(0:Int)≤(i:Int):=by omega
     have j2:(i:Int)<(m:Int):=by omega
     clear hp;by_cases he:p.fst=s
     ·have e1:(p.fst != s)=false:=by simpa using he
      have e2:(p.fst==s)=true:=by simpa using he
      have HE:=Lib.hid he;clear he;have hD1:=(Bw.refl wr).drew;by_cases hb1:p.snd=b
      ·have f1:(p.snd==b)=true:=by simpa using hb1
       have HB1:=Lib.hid hb1;clear hb1;go_wp2
       go_quiet (fail)
       go_wp2;go_ret;exact Ret.bool (by rw [← HB1.out];exact (I.out.reach HL.out (List.mem_of_getElem? HS.out) (List.mem_of_getElem? HP.out) HE.out).symm) (hb.drewN _)
      ·have f1:(p.snd==b)=false:=by simpa using hb1
       have HB1:=Lib.hid hb1;clear hb1;go_wp2
       go_quiet (fail)
       have hvd:=(aA (B:=w.heap.size)).bw ((Bw.refl wr).drewN nq) hb.size hv;have hbd:=hb.drewN nq;go_wp2_with fail;refine (bAf _ S p.snd _ (AA hvd)).mono ?_;rintro e w2 ⟨rfl,hb2⟩;have hv2:=(aA (B:=w.heap.size)).bw hb2 hbd.size hvd;have hbb:=hbd.then hb2;have hx2:w2.cell? ⟨ba,oa+k*2+1,none⟩=some (.int .i64 p.snd):=hb2.cell (((Bw.refl wr).drewN nq).cell hx1);rcases Bool.eq_false_or_eq_true (S.contains p.snd) with hin | hin
       ·have HIN:=Lib.hid (show p.snd∈S by simpa using hin);rw [hin];clear hin hv hvd hb hbd hb2;go_wp2
        go_roundg (n-(k+1))
        case measure=>omega
        case rel=>exact ⟨k+1,m,S,F,_,c',by omega,rfl,by go_num,rfl,LM,him,hm9,hv2,hF,I,HS,HT,Lib.hid (fun j q hj hq eq=>by
         by_cases hjk:j<k
         ·exact HD.out j q hjk hq eq
         ·obtain rfl:j=k:=by omega
          rw [HP.out] at hq;injection hq with hq;subst hq;exact ⟨HIN.out,HB1.out⟩),hbb⟩
       ·have HIN:=Lib.hid (show p.snd∉S by simpa using hin);rw [hin];have hbound:=I.out.bound;have hmax:S.length+1≤9:=by
         have h1:=VL (List.mem_of_getElem? HP.out) HIN.out;have h2:=L.out;omega
        have HM:=Lib.hid hmax;have hm8:m+1≤9:=by rw [LM.out];exact hmax
        have LM':=Lib.hid (show m+1=(S++[p.snd]).length by rw [List.length_append,← LM.out];rfl);have I':=Lib.hid (I.out.push HL.out (List.mem_of_getElem? HS.out) (List.mem_of_getElem? HP.out) HE.out HIN.out (by rw [← LM.out];exact him));have HS':=Lib.hid (show (S++[p.snd])[i]? = some s by rw [List.getElem?_append_left (by rw [← LM.out];exact him)];exact HS.out);have HT':=Lib.hid (show 2*eI l (S++[p.snd])+(S++[p.snd]).length≤T by
         have h1:=VL (List.mem_of_getElem? HP.out) HIN.out;have h2:=HT.out;simp at h2 ⊢;omega)
        have HD':=Lib.hid (show ∀j q,j<k+1→l[j]? = some q→q.fst=s→q.snd∈S++[p.snd]∧q.snd≠b from fun j q hj hq eq=>by
         by_cases hjk:j<k
         ·have:=HD.out j q hjk hq eq;exact ⟨by simp [this.1],this.2⟩
         ·obtain rfl:j=k:=by omega
          rw [HP.out] at hq;injection hq with hq;subst hq;exact ⟨by simp,HB1.out⟩)
        have A1:Bw w2 (w2.alloc (.cells #[.int .i64 p.snd] 3)):=(Bw.refl w2).alloc _;have hvW:=(aA (B:=w.heap.size)).bw A1 hbb.size hv2;have hbW:=hbb.then A1;have hFm:=(aA (B:=0)).lt hv2;have hcl:∀j t,[Value.int .i64 p.snd][j]? = some t→(w2.alloc (.cells #[.int .i64 p.snd] 3)).cell? ((⟨w2.heap.size,0,none⟩:Addr).add j)=some t:=World.news_of_block (cs:=#[.int .i64 p.snd]) (t:=3) (fr:=(0,0)) (heap_alloc_new _ _);have FIN:∀v' w' F',ZA w' (S++[p.snd]) [v'] F'→∃A' c',v'=.slice A' (m+1) c':=fun v' w' F' hv'=>by
         obtain ⟨A',c',e,_⟩:=aB (AA hv');exact ⟨A',c',by rw [LM'.out];exact e⟩
        clear hin hv hvd hb hbd hb2 hbound hmax I HS HT HD LM;go_wp2_with (at_builtin;refine mC _ rfl (.tmp 49) (.tmp 55) 26 rfl w 3 i0 _ 1 8 Tryz.underlying26 hi hz0 hz1 hz2 rfl (by omega) nB _ S F rfl hvW hF ⟨w2.heap.size,0,none⟩ 1 rfl p.snd [.int .i64 p.snd] [] hcl ⟨rfl,rfl⟩ rfl w2.heap.size hFm pA.nil hbb.size (by have:=HM.out;omega) (by have:=HM.out;omega) hbW ?_;intro v' w' F' hv' hF' hb' hO' hF2);obtain ⟨A2,c2,rfl⟩:=FIN _ _ _ hv'
        go_roundg (n-(k+1))
        case measure=>omega
        case rel=>exact ⟨k+1,m+1,S++[p.snd],F',A2,c2,by omega,rfl,by go_num,rfl,LM',by omega,hm8,hv',hF',I',HS',HT',HD',hb'⟩
     ·have e1:(p.fst != s)=true:=by simpa using he
      have e2:(p.fst==s)=false:=by simpa using he
      have HE:=Lib.hid he;clear he;go_wp2
      go_quiet (fail)
      have hvd:=(aA (B:=w.heap.size)).bw ((Bw.refl wr).drewN nq) hb.size hv;have hbd:=hb.drewN nq;go_wp2
      go_roundg (n-(k+1))
      case measure=>omega
      case rel=>exact ⟨k+1,m,S,F,_,c',by omega,rfl,by go_num,rfl,LM,him,hm9,hvd,hF,I,HS,HT,Lib.hid (fun j q hj hq eq=>by
       by_cases hjk:j<k
       ·exact HD.out j q hjk hq eq
       ·obtain rfl:j=k:=by omega
        rw [HP.out] at hq;injection hq with hq;subst hq;exact absurd eq HE.out),hbd⟩
    ·obtain rfl:k=n:=by omega
     have I':=Lib.hid (I.out.next HS.out (fun j p hj=>HD.out j p (by rw [L.out];exact hj)));have G3:=Lib.hid (show 2*eI l S+(S.length-(i+1))<G by
      have h1:=HT.out;have h2:=G2.out;have h3:=LM.out;omega)
     clear HD HT;go_wp2
     go_roundg (2*eI l S+(S.length-(i+1)))
     case measure=>rw [← HG.out];exact G3.out
     case rel=>exact ⟨i+1,m,S,F,A',c',by omega,LM,rfl,by go_num,rfl,hm9,hv,hF,I',hb⟩
  ·obtain rfl:i=m:=by omega
   have HN:=Lib.hid (I.out.no (by rw [LM.out];exact Nat.le_refl _) HA.out.1 HB.out.1);clear I;go_wp2;go_ret;exact Ret.bool (by rw [HN.out]) hb
end Go.Proofs.YtpihighajaeabaaGreat
