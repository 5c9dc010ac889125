/- The console in the program: a line with an argument. -/
import Derived.Test.YtpihighajaeabaaGreatXConI
import Derived.Test.YtpihighajaeabaaGreatXDrawB
namespace Go.Proofs.YtpihighajaeabaaGreat
open Go.RowKit Go.Proofs.Tryz
set_option linter.all false
set_option maxRecDepth 100000
set_option maxHeartbeats 16000000
theorem xQ {X:List (List Int)} {t:ByteArray}:∀ {k:Nat},t∈GH X k->∃j b,j<k/\b∈X/\t=qK j b
 | 0,h=>by cases h
 | k+1,h=>by
  rw [GH] at h;rcases List.mem_append.1 h with h | h
  ·obtain ⟨j,b,h1,h2,h3⟩:=xQ h;exact ⟨j,b,by omega,h2,h3⟩
  ·cases hx:X[k]? with
   | none=>rw [hx] at h;cases h
   | some b=>
    rw [hx] at h;exact ⟨k,b,by omega,List.mem_of_getElem? hx,List.mem_singleton.1 h⟩
theorem eAx {l:List iA} {e:List mA} {t:ByteArray} (h:t∈mG l e):1<=t.size/\t.size<=400:=by
 obtain ⟨j,b,h1,h2,rfl⟩:=xQ h;have hl:=tI l e;have h3:=mB (bC (n:=(j:Int)) (by omega));have h4:=FJ (l:=b) (fun x hx=>GP (WN h2 x hx));have h5:=UN h2;have e2:(⟨#[58,32]⟩:ByteArray).size=2:=rfl;unfold qK;rw [lA,lA];omega
theorem eAy {sep:ByteArray} {n:Nat}:∀ {l:List ByteArray},(∀t∈l,t.size<=n)->wE sep l<=l.length*(n+sep.size)
 | [],_=>by simp [wE,JH]
 | t::l,h=>by
  have h1:=h t (by simp);have h2:=eAy (sep:=sep) (l:=l) (fun x hx=>h x (by simp [hx]));have e:wE sep (t::l)=t.size+sep.size+wE sep l:=rfl;rw [e,List.length_cons,Nat.succ_mul];omega
theorem wX (l:List iA) (e:List mA):wE ⟨#[59,32]⟩ (mG l e)<=6432:=by
 have h1:=eAy (sep:=⟨#[59,32]⟩) (n:=400) (l:=mG l e) (fun t ht=>(eAx ht).2);have h2:=pX l e;have e2:(⟨#[59,32]⟩:ByteArray).size=2:=rfl;rw [e2] at h1;have:=Nat.mul_le_mul_right 402 h2;omega
theorem oA3 (sep:ByteArray):∀(l:List ByteArray) (i:Nat) (acc:ByteArray),acc.size<=(gl sep i acc l).size
 | [],_,_=>Nat.le_refl _
 | t::ts,i,acc=>by
  rw [gl];refine Nat.le_trans ?_ (oA3 sep ts (i+1) _);rw [lA]
  split
  ·rw [lA];omega
  ·omega
theorem kA8 {l:List iA} {e:List mA} (h:mG l e≠[]):1<=(dF (mG l e) ⟨#[59,32]⟩).size:=by
 unfold dF
 cases hl:mG l e with
 | nil=>exact absurd hl h
 | cons t ts=>
  rw [gl,if_neg (Nat.lt_irrefl 0)];refine Nat.le_trans ?_ (oA3 _ ts _ _);have:=(eAx (l:=l) (e:=e) (t:=t) (by rw [hl];simp)).1;rw [lA];omega
theorem eAz {c:Int->Nat} {x y:Int}:∀ {r:List Int},y∈MJ c x r->y=x\/y∈r
 | [],h=>.inl (List.mem_singleton.1 h)
 | z::r,h=>by
  rw [MJ] at h
  split at h
  ·rcases List.mem_cons.1 h with h | h
   ·exact .inr (by simp [h])
   ·exact (eAz h).imp id (fun h=>by simp [h])
  ·rcases List.mem_cons.1 h with h | h
   ·exact .inl h
   ·exact .inr h
theorem UZ {c:Int->Nat} {y:Int}:∀ {xs r:List Int},y∈xs.foldl (fun r x=>MJ c x r) r->y∈xs\/y∈r
 | [],_,h=>.inr h
 | x::xs,r,h=>by
  rw [List.foldl_cons] at h;rcases UZ h with h | h
  ·exact .inl (by simp [h])
  ·rcases eAz h with h | h
   ·exact .inl (by simp [h])
   ·exact .inr h
theorem kA9 {l:List iA} {e:List mA} {v:Int} (h:v∈NJ l e):v∈eB l e:=by
 unfold NJ jL at h;rw [List.mem_reverse] at h;exact (UZ h).resolve_right (by simp)
theorem xT {l:List iA} {e:List mA}:∀v∈NJ l e,0<=v/\v<=99:=fun v hv=>by
 have h:=kA9 hv;unfold eB at h
 split at h
 ·rename_i hb;exact lK (AA hb) v h
 ·cases h
theorem kS {l:List Int} (h:∀v∈l,0<=v/\v<=99) (hl:l.length<=16):(fD l).size<=400:=by
 have:=FJ (l:=l) (fun x hx=>GP (h x hx));omega
theorem kAa (l:List iA) (e:List mA) (id:Int):(TC l e id).size<=2000:=by
 unfold TC
 split
 ·rename_i hc
  split
  ·decide
  ·rcases pH l e id with bc | ⟨hB,j,p,hf,hp,hid⟩
   ·rw [bc] at hc;exact absurd hc (by simp)
   have bb:∀v∈xD l e id 1,(Lit.int .i64 v).wf=true:=fun v hv=>bC (by have:=SV hB hv;omega)
   have bd:∀v∈(AC l e id).vals,(Lit.int .i64 v).wf=true:=fun v hv=>bC (by have:=jM l e id hv;omega)
   have wc:=bC (n:=cD l e id) (by have:=VP l e id hB;omega);have h1:=OF ⟨#[44]⟩ bb;have h2:=OF ⟨#[44]⟩ bd;have h3:=(mB wc).2;have h4:=fG l e id 1;have h5:=VA (AA hB);have h6:=qN l e id;have e1:(⟨#[44]⟩:ByteArray).size=1:=rfl;have e2:(⟨#[98,101,108,111,119,32]⟩:ByteArray).size=6:=rfl;have e3:(⟨#[32,99,104,97,110,103,101,32,116,111,32]⟩:ByteArray).size=11:=rfl;have e4:(⟨#[32,99,111,115,116,32]⟩:ByteArray).size=6:=rfl;rw [e1] at h1 h2
   repeat rw [lA]
   omega
 ·decide
theorem hAg {s:zA}:(NE s).size<=2000:=by
 unfold NE
 split
 ·rename_i h
  have hb:=wC h;have hI:=AA hb.1;have h1:=kS (l:=s.best) (by rw [hb.2];exact lK hI) (iE h);have hn:=VA hI;have ht:0<=s.tests/\s.tests<=1000000:=by
   unfold JB inB at h;simp only [Bool.and_eq_true,decide_eq_true_iff] at h;exact h.2.2
  have h2:=(mB (bC (n:=(s.items.length:Int)) (by omega))).2;have h3:=(mB (bC (n:=s.tests) (by omega))).2;have e1:(⟨#[105,116,101,109,115,32]⟩:ByteArray).size=6:=rfl;have e2:(⟨#[32,98,101,115,116,32]⟩:ByteArray).size=6:=rfl;have e3:(⟨#[32,116,101,115,116,115,32]⟩:ByteArray).size=7:=rfl
  repeat rw [lA]
  omega
 ·decide
theorem kAb (l:List iA) (g:List (List mA)):(vE l g).size<=2000:=by
 unfold vE
 split
 ·have h0:=(mB (fK (FN l g))).2;have h1:=(mB (fK (vH l g (vF l g)))).2;have h2:=(mB (fK (vH l g (dE l g)))).2;have z1:(⟨#[99,111,110,100,111,114,99,101,116,32]⟩:ByteArray).size=10:=rfl;have z2:(⟨#[32,98,111,114,100,97,32]⟩:ByteArray).size=7:=rfl;have z3:(⟨#[32,97,112,112,114,111,118,97,108,32]⟩:ByteArray).size=10:=rfl
  repeat rw [lA]
  omega
 ·decide
theorem xX (m:CS) (s:zA) (ok:Bool):(SK m s ok).1.size<=10000:=by
 cases ok
 ·exact (by decide:wNo.size<=10000)
 ·exact (by decide:wOk.size<=10000)
theorem hAh (m:CS) (e:List mA) (h:m.voters.length<=5):(YI m e).1.size<=10000:=by
 unfold YI
 split
 ·exact (by decide:wNo.size<=10000)
 ·have:=(mB (bC (n:=((m.voters.length:Int)+1)) (by omega))).2;exact Nat.le_trans this (by decide)
theorem kAc (m:CS) (word rest:ByteArray) (h5:m.voters.length<=5):(ZI m word rest).1.size<=10000:=by
 unfold ZI
 split
 ·exact xX _ _ _
 ·split
  ·exact xX _ _ _
  ·split
   ·exact xX _ _ _
   ·split
    ·unfold AY;have:=kAa m.s.items m.s.wanted (pI rest).1
     split
     ·exact (by decide:JM.size<=10000)
     ·show (TC _ _ _).size<=10000;omega
    ·split
     ·have:=kS (l:=QI m.s.items m.s.wanted (pI rest).1) wT (gT _ _ _);exact Nat.le_trans this (by decide)
     ·split
      ·exact hAh _ _ h5
      ·exact (by decide:lH.size<=10000)
theorem mAe (m:CS) (l:ByteArray) (hb:okS m.s):(ED m l).size<=10000:=by
 have h1:=kAb m.s.items m.voters;have h2:=kS hb.ids hb.len;have h3:=kS (l:=NJ m.s.items m.s.wanted) xT (yO _ _);have h4:=hAg (s:=m.s);have h5:=RH m.s.wanted;have h6:=RH (FR m.s.wanted);have h7:=bM ⟨#[59,32]⟩ (mG m.s.items m.s.wanted) 0 ⟨#[]⟩;have h8:=wX m.s.items m.s.wanted;have e0:(⟨#[]⟩:ByteArray).size=0:=rfl;have h9:(dF (mG m.s.items m.s.wanted) ⟨#[59,32]⟩).size<=6432:=by unfold dF;omega
 unfold ED
 split
 ·split
  ·decide
  ·omega
 ·split
  ·omega
  ·split
   ·split
    ·decide
    ·omega
   ·split
    ·omega
    ·split
     ·omega
     ·split
      ·omega
      ·split
       ·omega
       ·decide
theorem YN (m:CS) (l:ByteArray) (hb:okS m.s) (h5:m.voters.length<=5):(PJ m l).1.size<=10000:=by
 unfold PJ
 split
 ·split
  ·exact (by decide:wOk.size<=10000)
  ·split
   ·exact (by decide:qE.size<=10000)
   ·exact kAc m _ _ h5
 ·split
  ·exact (by decide:qE.size<=10000)
  ·exact mAe m l hb
def TK (m:CS) (word:ByteArray) (X:iA×Bool) (N:Int×Bool) (E:List mA×Bool):ByteArray×CS:=
 if word=AL/\X.2=true then SK m (AG m.s X.1) (XE m.s X.1)
 else if word=zE/\X.2=true then SK m (BG m.s X.1) (zF m.s X.1)
 else if word=PH/\N.2=true then SK m (FH m.s N.1) (YE m.s N.1)
 else if word=BL/\N.2=true then (AY m N.1,m)
 else if word=QH/\N.2=true then (fD (QI m.s.items m.s.wanted N.1),m)
 else if word=WF/\E.2=true then YI m E.1
 else (lH,m)
theorem nAp (m:CS) (word rest:ByteArray):ZI m word rest=TK m word (YF rest) (pI rest) (jF rest):=rfl
section
variable {m:CS} {x:iA} {n:Int} {e:List mA} {px pn pe:Bool}
theorem kAd:TK m AL (x,true) (n,pn) (e,pe)=SK m (AG m.s x) (XE m.s x):=if_pos ⟨rfl,rfl⟩
theorem bAp:TK m zE (x,true) (n,pn) (e,pe)=SK m (BG m.s x) (zF m.s x):=by
 unfold TK;rw [if_neg (fun h=>absurd h.1 (by decide)),if_pos ⟨rfl,rfl⟩]
theorem hAi:TK m PH (x,px) (n,true) (e,pe)=SK m (FH m.s n) (YE m.s n):=by
 unfold TK;rw [if_neg (fun h=>absurd h.1 (by decide)),if_neg (fun h=>absurd h.1 (by decide)),if_pos ⟨rfl,rfl⟩]
theorem kAe:TK m BL (x,px) (n,true) (e,pe)=(AY m n,m):=by
 unfold TK;rw [if_neg (fun h=>absurd h.1 (by decide)),if_neg (fun h=>absurd h.1 (by decide)),if_neg (fun h=>absurd h.1 (by decide)),if_pos ⟨rfl,rfl⟩]
theorem hAj:TK m QH (x,px) (n,true) (e,pe)=(fD (QI m.s.items m.s.wanted n),m):=by
 unfold TK;rw [if_neg (fun h=>absurd h.1 (by decide)),if_neg (fun h=>absurd h.1 (by decide)),if_neg (fun h=>absurd h.1 (by decide)),if_neg (fun h=>absurd h.1 (by decide)),if_pos ⟨rfl,rfl⟩]
theorem fA0:TK m WF (x,px) (n,pn) (e,true)=YI m e:=by
 unfold TK;rw [if_neg (fun h=>absurd h.1 (by decide)),if_neg (fun h=>absurd h.1 (by decide)),if_neg (fun h=>absurd h.1 (by decide)),if_neg (fun h=>absurd h.1 (by decide)),if_neg (fun h=>absurd h.1 (by decide)),if_pos ⟨rfl,rfl⟩]
theorem UK {word:ByteArray} (h1:word=AL->px=false) (h2:word=zE->px=false) (h3:word=PH->pn=false) (h4:word=BL->pn=false) (h5:word=QH->pn=false) (h6:word=WF->pe=false):TK m word (x,px) (n,pn) (e,pe)=(lH,m):=by
 unfold TK;rw [if_neg (fun h=>by rw [h1 h.1] at h;exact absurd h.2 Bool.false_ne_true),if_neg (fun h=>by rw [h2 h.1] at h;exact absurd h.2 Bool.false_ne_true),if_neg (fun h=>by rw [h3 h.1] at h;exact absurd h.2 Bool.false_ne_true),if_neg (fun h=>by rw [h4 h.1] at h;exact absurd h.2 Bool.false_ne_true),if_neg (fun h=>by rw [h5 h.1] at h;exact absurd h.2 Bool.false_ne_true),if_neg (fun h=>by rw [h6 h.1] at h;exact absurd h.2 Bool.false_ne_true)]
end
theorem pAi {s:ByteArray} {l:List UInt8}:(s.toList==l)=decide (s=⟨l.toArray⟩):=by
 by_cases h:s=⟨l.toArray⟩
 ·rw [ND h,decide_eq_true h]
 ·rw [KD h,decide_eq_false h]
def E6 (l:ByteArray) (b1 b2 b3 b4 b5 b6:Bool):Prop:=(l.toList==[97,100,100])=b1/\(l.toList==[99,104,97,110,103,101])=b2/\(l.toList==[100,114,111,112])=b3/\(l.toList==[119,104,121])=b4/\(l.toList==[98,97,110,100])=b5/\(l.toList==[118,111,116,101,114])=b6
theorem pAk {l:ByteArray} {b1 b2 b3 b4 b5 b6:Bool} (h:(decide (l=AL),decide (l=zE),decide (l=PH),decide (l=BL),decide (l=QH),decide (l=WF))=(b1,b2,b3,b4,b5,b6)):E6 l b1 b2 b3 b4 b5 b6:=by
 cases h
 exact ⟨pAi,pAi,pAi,pAi,pAi,pAi⟩
def E7 (l:ByteArray) (b1 b2 b3 b4 b5 b6 b7:Bool):Prop:=(l.toList==[118,111,116,101])=b1/\(l.toList==[98,101,115,116])=b2/\(l.toList==[108,97,121,101,114,115])=b3/\(l.toList==[112,114,111,103,114,101,115,115])=b4/\(l.toList==[115,116,97,116,101])=b5/\(l.toList==[119,105,115,104])=b6/\(l.toList==[110,111,114,109,97,108])=b7
theorem pAj {l:ByteArray} {b1 b2 b3 b4 b5 b6 b7:Bool} (h:(decide (l=eAv),decide (l=eAw),decide (l=ZR),decide (l=TL),decide (l=qX),decide (l=dJ),decide (l=aS))=(b1,b2,b3,b4,b5,b6,b7)):E7 l b1 b2 b3 b4 b5 b6 b7:=by
 cases h
 exact ⟨pAi,pAi,pAi,pAi,pAi,pAi,pAi⟩
theorem bAq (w:World) (b:Nat) (m:CS) (word rest:ByteArray) (h:StP LI b w m) (hs:rest.size<=1048576) :
  Calls prog 198 #[.pointer (some ⟨b,0,none⟩),.string word,.string rest] w (gC LI b w (ZI m word rest)):=by
 obtain ⟨S,FV,vi,vw,vb,vv,h0⟩:=h;obtain ⟨A1,n1,c1,rfl,l1,_⟩:=qA h0.items;obtain ⟨A2,n2,c2,rfl,l2,_⟩:=qA h0.wanted;obtain ⟨A3,n3,c3,rfl,l3,_⟩:=qA h0.best;obtain ⟨A4,n4,c4,rfl,l4,_⟩:=qA h0.vote;have L4:=pA6 l4;clear l1 l2 l3 l4;rw [nAp];have k1:=dAb w rest hs;have k2:=fun W=>WH W rest hs
 have k3:=fun W=>PI W rest hs
 have hx:=fun h=>(lA7 (s:=rest) h).1
 have he:=fun h=>wF (CN (s:=rest) h).1
 generalize YF rest=X at *;generalize pI rest=N at *;generalize jF rest=E at *;obtain ⟨x,px⟩:=X;obtain ⟨n,pn⟩:=N;obtain ⟨ee,pe⟩:=E;dsimp only at k1 k2 k3 hx he;obtain ⟨R,hR⟩:=pA7 (TK m word (x,px) (n,pn) (ee,pe));rw [<-hR];have H0:=pA6 h0;have HR:=pA6 hR;have K2:=pA6 k2;have K3:=pA6 k3;have HX:=pA6 hx;have HE:=pA6 he;clear hR h0 k2 k3 hx he;go_enter func198,ntmps198;go_wp2_with fail;refine (k1).mono ?_;rintro e w1 ⟨v1,rfl,⟨cs1,rfl,F1,⟨u1,rfl,o1⟩,f1⟩,cm⟩;obtain ⟨Au,nu,cu,rfl,lu,_⟩:=qA (xA o1);clear lu k1;go_wp2_with fail;refine (K2.out _).mono ?_;rintro e w2 ⟨rfl,dc⟩;go_wp2_with fail;refine (K3.out _).mono ?_;rintro e w3 ⟨v3,rfl,⟨v3,rfl,F3,ds,f3⟩,ff⟩;obtain ⟨A8,n8,c8,rfl,l8,_⟩:=qA (bB ds);clear l8;have bm:=dc.then ff;obtain ⟨q0,q1⟩:C2 w3 w1.heap.size (.int .i64 x.id) (.slice Au nu cu):=bm.c2 (by unfold C2;go_simp);have B3:=((cm.alloc _).then bm);have H3:=pA6 (H0.out.bw (B3.then (Bw.refl w3).drew));have o3:=nA (((Bw.refl w1).alloc _).then (bm.then (Bw.refl w3).drew)) aA o1;have dn:¬w1.heap.size=b:=by have:=H0.out.box.lt;have:=cm.size;omega
 by_cases h12:word=AL\/word=zE
 ·rcases h12 with h | h
  focus (obtain ⟨e1,e2,e3,e4,e5,e6⟩:E6 word true false false false false false:=pAk (by rw [h];decide))
  rotate_left
  focus (obtain ⟨e1,e2,e3,e4,e5,e6⟩:E6 word false true false false false false:=pAk (by rw [h];decide))
  rotate_right
  all_goals
   cases px
   focus
    have hr:R=(lH,m):=by rw [HR.out];apply UK<;>intro hh<;>first | rfl | exact absurd (h.symm.trans hh) (by decide)
    clear h;have bb:=pA6 (show gC LI b w R (.returned (.string lH)) w3 from by rw [hr];exact H0.out.same B3 _);clear hr;go_wp2;go_ret;exact bb.out
  focus
   have hr:R=SK m (AG m.s x) (XE m.s x):=by rw [HR.out,h];exact kAd
   have bg:=H3.out.small.1;have hc:=PR w3.drew m.s x _ _ _ _ H3.out.items H3.out.wanted H3.out.best (xA o3) bg.1 bg.2.1 bg.2.2;have bn:=iS (x:=x) H0.out.small;generalize AG m.s x=nw at hr hc bn;generalize XE m.s x=ok at hr hc bn;clear h bg
  rotate_left
  focus
   have hr:R=SK m (BG m.s x) (zF m.s x):=by rw [HR.out,h];exact bAp
   have bg:=H3.out.small.1;have hc:=bAi w3.drew m.s x _ _ _ _ H3.out.items H3.out.wanted H3.out.best (xA o3) bg.1 bg.2.1 bg.2.2;have bn:=dV (x:=x) H0.out.small;generalize BG m.s x=nw at hr hc bn;generalize zF m.s x=ok at hr hc bn;clear h bg
  rotate_right
  all_goals
   have bx:=(H0.out.bw B3).box;have K3:=pA6 hr;have dv:=pA6 bn;clear hr bn;obtain ⟨x0,x1,x2,x3,x4,x5,xf⟩:=bx.a6;go_wp2_with fail;refine wp_region_held_drew (S:=(fun w'=>w'.cell? ⟨w1.heap.size,0,none⟩=some (.int .i64 x.id)/\w'.cell? ⟨w1.heap.size,1,none⟩=some (.slice Au nu cu))) (by kernel_rfl) ?_ (fun hHeld=>?_)
   ·exact ⟨q0,q1⟩
   refine RC 0 (v:=?_) rfl (by kernel_rfl) (by rfl) (by assumption) (fun _ _ _ h=>h) ?_ ?_;rotate_left
   ·(intro wS bc;(try dsimp only at bc);go_simp;try with_reducible rfl)
   try simp only [aE]
   refine RC 1 (v:=?_) rfl (by kernel_rfl) (by rfl) (by assumption) (fun _ _ _ h=>h) ?_ ?_;rotate_left
   ·(intro wS bc;(try dsimp only at bc);go_simp;try with_reducible rfl)
   try simp only [aE]
   refine RC 2 (v:=?_) rfl (by kernel_rfl) (by rfl) (by assumption) (fun _ _ _ h=>h) ?_ ?_;rotate_left
   ·(intro wS bc;(try dsimp only at bc);go_simp;try with_reducible rfl)
   try simp only [aE]
   refine RC 3 (v:=?_) rfl (by kernel_rfl) (by rfl) (by assumption) (fun _ _ _ h=>h) ?_ ?_;rotate_left
   ·(intro wS bc;(try dsimp only at bc);go_simp;try with_reducible rfl)
   try simp only [aE]
   refine RC 5 (v:=?_) rfl (by kernel_rfl) (by rfl) (by assumption) (fun _ _ _ h=>h) ?_ ?_;rotate_left
   ·(intro wS bc;(try dsimp only at bc);go_simp;try with_reducible rfl)
   try simp only [aE]
   refine wpAnyH_ready (rs:=[4]) (by kernel_rfl) (by simp) (AllReadyH.cons (o:=_) rfl (fun K hK=>?_) AllReadyH.nil)
   go_simp
   refine hK.out _ _ ⟨q0,q1⟩ (fun hHeld=>?_);clear hK K
   try simp only [aE]
   refine wpAnyH_ready (rs:=[6]) (by kernel_rfl) (by simp) (AllReadyH.cons (o:=_) rfl (fun K hK=>?_) AllReadyH.nil);clear x0 x1 x2 x3 x4 x5 xf
   go_simp
   refine hc.mono ?_;clear hc;rintro e w5 ⟨v5,rfl,⟨fb,rfl,F5,⟨fn,fp,fq,cc,cd,cf,rfl,g1,g2,g3,g4⟩,f5⟩,bd⟩;obtain ⟨A5,n5,d5,rfl,l5,_⟩:=qA (pC g1);obtain ⟨A6,n6,d6,rfl,l6,_⟩:=qA (bB g2);obtain ⟨A7,n7,d7,rfl,l7,_⟩:=qA (xA g3);have o5:GB w5 nw _ F5:=⟨_,_,_,cc,cd,cf,rfl,g1,g2,g3,g4⟩;clear l5 l6 l7 g1 g2 g3 g4;have r0:=bd.cell (w:=w5) (a:=w3.drew) q0;have r1:=bd.cell (w:=w5) (a:=w3.drew) q1;have bq:=H3.out.box.bw bd;refine hK.out _ _ ⟨r0,r1⟩ (fun hHeld=>?_);clear hK K
   try simp only [aE]
   refine RC 7 (v:=?_) rfl (by kernel_rfl) (by rfl) (by assumption) (fun _ _ _ h=>h) ?_ ?_;rotate_left
   ·(intro wS bc;(try dsimp only at bc);go_simp;try with_reducible rfl)
   try simp only [aE]
   refine RC 8 (v:=?_) rfl (by kernel_rfl) (by rfl) (by assumption) (fun _ _ _ h=>h) ?_ ?_;rotate_left
   ·(intro wS bc;(try dsimp only at bc);go_simp;try with_reducible rfl)
   try simp only [aE]
   refine wpAnyH_ready (rs:=[9]) (by kernel_rfl) (by simp) (AllReadyH.cons (o:=_) rfl (fun K hK=>?_) AllReadyH.nil);have bf:=mAd w5 b _ _ _ _ _ _ A5 A6 A7 n5 d5 n6 d6 n7 d7 nw.tests ok bq;obtain ⟨T,hT⟩:=pA7 ((if ok then wOk else wNo));rw [<-hT] at bf;have HT:=pA6 hT;clear hT
   go_simp
   refine bf.mono ?_;clear bf;rintro e w6 bt;have bv:=bt;obtain ⟨rfl,bs,cj,cg⟩:=bt;refine hK.out _ _ ⟨bs.cell r0 (by simpa using dn),bs.cell r1 (by simpa using dn)⟩ (fun hHeld=>?_);clear hK K
   try simp only [aE]
   refine RC 10 (v:=?_) rfl (by kernel_rfl) (by rfl) (by assumption) (fun _ _ _ h=>h) ?_ ?_;rotate_left
   ·(intro wS bc;(try dsimp only at bc);go_simp;try with_reducible rfl)
   try simp only [aE]
   refine wpAnyH_done (by kernel_rfl) ?_ _;have bb:=pA6 (show gC LI b w R (.returned (.string T)) w6 from by
    obtain rfl:=HT.out;rw [K3.out];exact H0.out.put (B3.then ((Bw.refl w3).drew.then bd)) o5 (f5.mono B3.size) dv.out bv)
   clear bv bs cj cg bq o5 f5 r0 r1 hHeld bd;go_wp2;go_ret;exact bb.out
 have h1:¬word=AL:=fun h=>h12 (.inl h)
 have h:¬word=zE:=fun h=>h12 (.inr h)
 clear h12;have h2:=h;clear h;by_cases h:word=PH
 ·skip
  obtain ⟨e1,e2,e3,e4,e5,e6⟩:E6 word false false true false false false:=pAk (by rw [h];decide)
  cases pn with
  | true=>
   have hr:R=SK m (FH m.s n) (YE m.s n):=by rw [HR.out,h];exact hAi
   clear h;have h3:=H0.out.bw B3;have bg:=h3.small.1;have hc:=UR w3 m.s n _ _ _ h3.items h3.wanted h3.best bg.1 bg.2.1 bg.2.2;have bx:=h3.box;have dt:=pA6 h3;have K3:=pA6 hr;clear hr bg h3;obtain ⟨x0,x1,x2,x3,x4,x5,xf⟩:=bx.a6;go_wp2_with fail;clear x0 x1 x2 x3 x4 x5 xf;refine hc.mono ?_;clear hc;rintro e w5 ⟨v5,rfl,⟨fb,rfl,F5,⟨fn,fp,fq,cc,cd,cf,rfl,g1,g2,g3,g4⟩,f5⟩,bd⟩;obtain ⟨A5,n5,d5,rfl,l5,_⟩:=qA (pC g1);obtain ⟨A6,n6,d6,rfl,l6,_⟩:=qA (bB g2);obtain ⟨A7,n7,d7,rfl,l7,_⟩:=qA (xA g3);have o5:GB w5 (FH m.s n) _ F5:=⟨_,_,_,cc,cd,cf,rfl,g1,g2,g3,g4⟩;clear l5 l6 l7 g1 g2 g3 g4;have bq:=dt.out.box.bw bd;have bf:=mAd w5 b _ _ _ _ _ _ A5 A6 A7 n5 d5 n6 d6 n7 d7 (FH m.s n).tests (YE m.s n) bq;obtain ⟨T,hT⟩:=pA7 ((if YE m.s n then wOk else wNo));rw [<-hT] at bf;have HT:=pA6 hT;clear hT;go_wp2_with fail;refine bf.mono ?_;clear bf;rintro e w6 bt;have bv:=bt;obtain ⟨rfl,bs,cj,cg⟩:=bt;have bb:=pA6 (show gC LI b w R (.returned (.string T)) w6 from by
    obtain rfl:=HT.out;rw [K3.out];exact H0.out.put (B3.then bd) o5 (f5.mono B3.size) (cV H0.out.small) bv)
   clear bv bs cj cg bq o5 f5 bd;go_wp2;go_ret;exact bb.out
  | false=>
   have hr:R=(lH,m):=by rw [HR.out];apply UK<;>intro hh<;>first | rfl | exact absurd (h.symm.trans hh) (by decide)
   clear h;have bb:=pA6 (show gC LI b w R (.returned (.string lH)) w3 from by rw [hr];exact H0.out.same B3 _);clear hr;go_wp2;go_ret;exact bb.out
 have h3:=h;clear h;by_cases h:word=BL
 ·skip
  obtain ⟨e1,e2,e3,e4,e5,e6⟩:E6 word false false false true false false:=pAk (by rw [h];decide)
  cases pn with
  | true=>
   have hr:R=(AY m n,m):=by rw [HR.out,h];exact kAe
   clear h;have h3:=H0.out.bw B3;have hi:=h3.items;have hw:=h3.wanted;obtain ⟨Z,hZ⟩:=pA7 (TC m.s.items m.s.wanted n);have kE:∀s:eC w3,Calls prog 250 #[.slice A1 n1 c1,.slice A2 n2 c2,.int .i64 n] s.1 (Ret s.1 (.string Z)):=fun s=>by rw [hZ];exact aY _ _ _ _ _ _ (hi.bw gA s.bw) (hw.bw jA s.bw)
   have hy:R=((if Z.size=0 then JM else Z),m):=by rw [hr];unfold AY;rw [<-hZ]
   have K3:=pA6 hy;have bx:=h3.box;obtain ⟨x0,x1,x2,x3,x4,x5,xf⟩:=bx.a6;have s0:=pA x0;have s1:=pA x1;have s2:=pA x2;have s3:=pA x3;have s4:=pA x4;clear hr hy hZ hi hw h3 bx;by_cases bk:Z.size=0;rotate_left
   focus
    have z0:Z.toList.isEmpty=false:=LG (by omega);have bb:=pA6 (fun W (hb:Bw w W)=>show gC LI b w R (.returned (.string Z)) W from by rw [K3.out,if_neg bk];exact H0.out.same hb _)
   rotate_right
   focus
    have z0:=vG bk;have bb:=pA6 (fun W (hb:Bw w W)=>show gC LI b w R (.returned (.string JM)) W from by rw [K3.out,if_pos bk];exact H0.out.same hb _)
   all_goals
    clear bk K3;go_wp2_with fail;refine IA (by kernel_rfl) ?_
    repeat (first | go_big_quiet_skip | (go_big_quiet_want;go_big_quiet_op;first | go_big_quiet_on | (apply Exists.intro;refine ⟨fun _=>?_,?_⟩;(· (((go_at_call 250;exact DA (kE _)))));go_big_quiet_on)))
    refine JA fun wq hbq=>?_
    try dsimp only at *
    have B7:=B3.then hbq;go_wp2;go_ret;exact bb.out _ B7
  | false=>
   have hr:R=(lH,m):=by rw [HR.out];apply UK<;>intro hh<;>first | rfl | exact absurd (h.symm.trans hh) (by decide)
   clear h;have bb:=pA6 (show gC LI b w R (.returned (.string lH)) w3 from by rw [hr];exact H0.out.same B3 _);clear hr;go_wp2;go_ret;exact bb.out
 have h4:=h;clear h;by_cases h:word=QH
 ·skip
  obtain ⟨e1,e2,e3,e4,e5,e6⟩:E6 word false false false false true false:=pAk (by rw [h];decide)
  cases pn with
  | true=>
   have hr:R=(fD (QI m.s.items m.s.wanted n),m):=by rw [HR.out,h];exact hAj
   clear h;have h3:=H0.out.bw B3;obtain ⟨Z,hZ⟩:=pA7 (QI m.s.items m.s.wanted n);have hc:=dAv w3.drew m.s.items m.s.wanted n _ _ (h3.items.bw gA (Bw.refl w3).drew) (h3.wanted.bw jA (Bw.refl w3).drew);have dk:∀v∈Z,(Lit.int .i64 v).wf=true:=fun v hv=>GP (wT v (hZ▸hv))
   have cb:Z.length<=1048576:=by rw [hZ];exact Nat.le_trans (gT _ _ _) (by decide)
   rw [<-hZ] at hc hr;have kI:=pA6 (fun W v (h:Rd aB W Z [v])=>bN W Z v h dk cb);have bb:=pA6 (fun W (hb:Bw w W)=>show gC LI b w R (.returned (.string (fD Z))) W from by rw [hr];exact H0.out.same hb _);have bx:=h3.box;obtain ⟨x0,x1,x2,x3,x4,x5,xf⟩:=bx.a6;clear hr hZ dk cb h3 bx;go_wp2_with fail
   go_region_held3 (fun w'=>w'.cell? ⟨b,1,none⟩=some (.slice A1 n1 c1)/\w'.cell? ⟨b,2,none⟩=some (.slice A2 n2 c2)) (first | exact ⟨x1,x2⟩ | exact ⟨bd.cell x1,bd.cell x2⟩ | exact ⟨(bd.then cn).cell x1,(bd.then cn).cell x2⟩)
    (first
     | (go_at_call 39;refine hc.mono ?_;rintro e w5 ⟨v5,rfl,⟨F5,o5,f5⟩,bd⟩;obtain ⟨A5,n5,d5,rfl,l5,_⟩:=qA (xA o5);have k6:=kI.out w5 _ (xA o5);clear l5)
     | (go_at_call 51;refine k6.mono ?_;rintro e w6 ⟨rfl,cn⟩))
   have B7:=B3.then ((Bw.refl w3).drew.then (bd.then cn));clear o5 f5 k6 hc;go_wp2;go_ret;exact bb.out _ B7
  | false=>
   have hr:R=(lH,m):=by rw [HR.out];apply UK<;>intro hh<;>first | rfl | exact absurd (h.symm.trans hh) (by decide)
   clear h;have bb:=pA6 (show gC LI b w R (.returned (.string lH)) w3 from by rw [hr];exact H0.out.same B3 _);clear hr;go_wp2;go_ret;exact bb.out
 have h5:=h;clear h;by_cases h:word=WF
 ·skip
  obtain ⟨e1,e2,e3,e4,e5,e6⟩:E6 word false false false false false true:=pAk (by rw [h];decide)
  cases pe with
  | true=>
   have hr:R=YI m ee:=by rw [HR.out,h];exact fA0
   clear h;have h3:=H0.out.bw B3;obtain ⟨i0,hi,bk,cs,ct⟩:=info_parts lW;have bx:=h3.box;obtain ⟨x0,x1,x2,x3,x4,x5,xf⟩:=bx.a6;by_cases h5:n4=5
   ·have i1:((n4:Int)==5)=true:=beq_iff_eq.2 (by omega);have bb:=pA6 (show gC LI b w R (.returned (.string wNo)) w3 from by rw [hr];unfold YI;rw [if_pos (L4.out.symm.trans h5)];exact H0.out.same B3 _);clear hr h5 h3 bx hi bk cs ct;go_wp2;go_ret;exact bb.out
   ·have i1:((n4:Int)==5)=false:=beq_eq_false_iff_ne.2 (by omega);have hW:Bw w3 (w3.alloc (.cells #[.slice A8 n8 c8] 25)):=(Bw.refl w3).alloc _;have dq:=(h3.bw hW).rv;have bp:b<=(w3.alloc (.cells #[.slice A8 n8 c8] 25)).heap.size:=Nat.le_of_lt (h3.bw hW).box.lt;have cz:sA (rX b (w3.alloc (.cells #[.slice A8 n8 c8] 25))).heap.size FV:=by rw [yH bp];exact h3.fv
    have df:=cell_one_new w3 (.slice A8 n8 c8) 25;have oW:=nA hW kA ds;have fc:∀x∈FV,x<w.heap.size:=H0.out.lt;have cv:sA w.heap.size F3:=f3.mono ((cm.alloc _).then dc).size;have dm:(rX b (w3.alloc (.cells #[.slice A8 n8 c8] 25))).heap.size<=w.heap.size:=by rw [yH bp];exact Nat.le_of_lt H0.out.box.lt
    have dj:=iAc bp;have h55:=H0.out.five;have dz:=h3.box.bw hW;have fm:=H0.out.nb;have dx:=pA6 (show R=(QA (m.voters.length+1),⟨m.s,m.on,m.voters++[ee]⟩) from by rw [hr];unfold YI;rw [if_neg (fun h=>h5 (L4.out.trans h))]);have H5:=pA6 (show ¬m.voters.length=5 from fun h=>h5 (L4.out.trans h));have BW:=B3.then hW;clear hr h5 h3 bx;go_wp2_with (at_builtin;refine iC _ rfl (.tmp 133) (.tmp 135) 66 rfl (rX b (w3.alloc (.cells #[.slice A8 n8 c8] 25))) 25 i0 _ 1 24 underlying66 hi bk cs ct rfl (by omega) kA _ m.voters FV rfl dq cz ⟨w3.heap.size,0,none⟩ 1 rfl ee [.slice A8 n8 c8] F3 df oW rfl w.heap.size fc cv dm (by omega) (by omega) dj ?_;intro v9 w9 F9 cq cx dd ck fj;have cp:=tX bp dd ck.1;rw [yH bp] at cx;clear x0 x1 x2 x3 x4 x5 xf dq cz df oW dm dj hi bk cs ct dd bp;have bj:=dz.only ck fm;have x0:=bj.c 0 _ rfl;have x1:=bj.c 1 _ rfl;have x2:=bj.c 2 _ rfl;have x3:=bj.c 3 _ rfl;have x4:=bj.c 4 _ rfl;have x5:=bj.c 5 _ rfl;have xf:=bj.fr;obtain ⟨A9,n9,c9,rfl,l9,_⟩:=qA (Rd.of xB (B:=0) (sK jA (fun _ _ _ h=>QL h) cq) ((UL (B:=0)).lt cq) (Nat.zero_le _));rw [List.length_append,List.length_singleton] at l9;have L9:=pA6 l9;have fk:(Lit.int .i64 (n9:Int)).wf=true:=(GP (by omega));clear l9);obtain ⟨W2,db⟩:=pA7 (w9.setCell ⟨b,5,none⟩ (.slice A9 n9 c9));have hF:=dD W2 (n9:Int) fk;rw [db] at hF;clear db;go_wp2_with fail;refine hF.mono ?_
    rintro e w10 ⟨rfl,bz⟩;clear hF;go_wp2;go_ret;have fd:=GA b 5 w9 (.slice A9 n9 c9);have dp:=H0.out.voter BW cv cq cx ck fj H5.out fd (bj.set (j:=5) (by simp) (.slice A9 n9 c9));have fg:=dp.box.lt;rw [dx.out,show ((m.voters.length:Int)+1)=(n9:Int) from by rw [L9.out];rfl];exact ⟨rfl,⟨_,_,_,_,_,_,dp.bw bz⟩,(((Below.mono BW (Nat.le_of_lt H0.out.box.lt)).trans cp).setCell (p:=⟨b,5,none⟩) (Nat.le_refl _) _).trans (Below.mono bz (Nat.le_of_lt fg))⟩
  | false=>
   have hr:R=(lH,m):=by rw [HR.out];apply UK<;>intro hh<;>first | rfl | exact absurd (h.symm.trans hh) (by decide)
   clear h;have bb:=pA6 (show gC LI b w R (.returned (.string lH)) w3 from by rw [hr];exact H0.out.same B3 _);clear hr;go_wp2;go_ret;exact bb.out
 have h6:=h;clear h;have hr:R=(lH,m):=by rw [HR.out];exact UK (fun h=>absurd h h1) (fun h=>absurd h h2) (fun h=>absurd h h3) (fun h=>absurd h h4) (fun h=>absurd h h5) (fun h=>absurd h h6)
 obtain ⟨e1,e2,e3,e4,e5,e6⟩:E6 word false false false false false false:=pAk (by simp only [h1,h2,h3,h4,h5,h6,decide_false]);clear h1 h2 h3 h4 h5 h6;have bb:=pA6 (show gC LI b w R (.returned (.string lH)) w3 from by rw [hr];exact H0.out.same B3 _);clear hr;go_wp2;go_ret;exact bb.out
end Go.Proofs.YtpihighajaeabaaGreat
