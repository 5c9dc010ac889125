/- Scores, in both programs. -/
import Derived.Test.YtpihighajaeabaaGreatXDom
import Derived.Test.YtpihighajaeabaaGreatXCostOf
import Derived.Test.YtpihighajaeabaaGreatXBestS
import Derived.Test.YtpihighajaeabaaGreatXCmpS
namespace Go.Proofs.YtpihighajaeabaaGreat
open Go.RowKit Go.Proofs.Tryz
set_option linter.all false
set_option maxRecDepth 100000
set_option maxHeartbeats 16000000
def OE (g:List (List mA)):Bool:=g.all pB && (decide (1<=g.length) && decide (g.length<=5))
def OB (l:List iA) (g:List (List mA)):Bool:=dB l && OE g
theorem JG {g:List (List mA)} (h:OE g=true):1<=g.length/\g.length<=5:=by
 unfold OE at h;rw [Bool.and_eq_true,Bool.and_eq_true,decide_eq_true_eq,decide_eq_true_eq] at h;exact h.2
theorem zP {g:List (List mA)} (h:OE g=true):∀e∈g,pB e=true:=by
 unfold OE at h;rw [Bool.and_eq_true,List.all_eq_true] at h;exact h.1
theorem NC {l:List iA} {g:List (List mA)} (h:OB l g=true):dB l=true:=by unfold OB at h;rw [Bool.and_eq_true] at h;exact h.1
theorem kF {l:List iA} {g:List (List mA)} (h:OB l g=true):OE g=true:=by unfold OB at h;rw [Bool.and_eq_true] at h;exact h.2
theorem pR {α:Type} {f:α->Bool} {l:List α} {k:Nat} {x:α} (hx:l[k]? = some x) (h:f x=true):(l.take (k+1)).all f=(l.take k).all f:=by
 rw [List.take_add_one,hx,List.all_append];simp [h]
theorem ZT {α:Type} {f:α->Bool} {l:List α} {k:Nat} {x:α} (hx:l[k]? = some x) (h:f x=false):l.all f=false:=by
 rw [Bool.eq_false_iff];intro h2;rw [List.all_eq_true] at h2;rw [h2 x (List.mem_of_getElem? hx)] at h;cases h
def BH (f:List mA->Bool) (g:List (List mA)) (k:Nat):Int:=(((g.take k).filter f).length:Int)
theorem rO {f:List mA->Bool} {g:List (List mA)} {k:Nat} {e:List mA} (hx:g[k]? = some e) (h:f e=true):BH f g (k+1)=BH f g k+1:=by
 unfold BH;rw [List.take_add_one,hx,List.filter_append];simp [h]
theorem qR {f:List mA->Bool} {g:List (List mA)} {k:Nat} {e:List mA} (hx:g[k]? = some e) (h:f e=false):BH f g (k+1)=BH f g k:=by
 unfold BH;rw [List.take_add_one,hx,List.filter_append];simp [h]
def bK (g:List (List mA)) (x y:iA):Int:=BH (fun e=>decide (zC e x y=1)) g g.length
def lD (l:List iA) (g:List (List mA)) (a b:Int):Int:=if OB l g && (decide (0<=rB l a) && decide (0<=rB l b)) then bK g (VB l a) (VB l b) else 0
theorem dAs:∀ {l:List iA} {o:Option Int},pAl o l=true->∀ {i k:Nat} {x y:iA},l[i]? = some x->l[k]? = some y->x.id=y.id->i=k
 | [],_,_,i,_,_,_,hx,_,_=>by simp at hx
 | z::l,o,h,i,k,x,y,hx,hy,e=>by
  have h2:pAl (some z.id) l=true:=by
   cases o with
   | none=>rw [pAl,Bool.and_eq_true] at h;exact h.2
   | some p=>rw [pAl,Bool.and_eq_true] at h;exact h.2
  cases i with
  | zero=>
   cases k with
   | zero=>rfl
   | succ k=>
    rw [List.getElem?_cons_zero] at hx;rw [List.getElem?_cons_succ] at hy
    cases hx
    have:=iM h2 y (List.mem_of_getElem? hy);omega
  | succ i=>
   rw [List.getElem?_cons_succ] at hx
   cases k with
   | zero=>
    rw [List.getElem?_cons_zero] at hy
    cases hy
    have:=iM h2 x (List.mem_of_getElem? hx);omega
   | succ k=>
    rw [List.getElem?_cons_succ] at hy;rw [dAs h2 hx hy e]
theorem aAy {l:List iA} (h:dB l=true) {i k:Nat} {x y:iA} (hx:l[i]? = some x) (hy:l[k]? = some y) (e:x.id=y.id):i=k:=by
 unfold dB at h;rw [Bool.and_eq_true] at h;exact dAs h.1 hx hy e
def DD (l:List iA) (g:List (List mA)) (x y:iA):Bool:=decide (x.id=y.id) || decide (lD l g y.id x.id<lD l g x.id y.id)
def iG (l:List iA) (g:List (List mA)):Int:=if OB l g then (match l.find? (fun x=>l.all (DD l g x)) with | some x=>x.id | none=>-1) else -1
theorem rR {α:Type} {f:α->Bool} {l:List α} {k:Nat} {x:α} (hx:l[k]? = some x) (h:f x=false):(l.take (k+1)).find? f=(l.take k).find? f:=by
 rw [List.take_add_one,hx,List.find?_append];simp [h]
theorem AP {α:Type} {f:α->Bool} {l:List α} {k:Nat} {x:α} (hx:l[k]? = some x) (h:f x=true) (h0:(l.take k).find? f=none):l.find? f=some x:=by
 have h1:l.find? f=((l.take k)++l.drop k).find? f:=by rw [List.take_append_drop]
 rw [h1,List.find?_append,h0,nC hx];simp [h]
def MK (f:List mA->Int) (g:List (List mA)):Nat->Int
 | 0=>0
 | k+1=>MK f g k+(match g[k]? with | some e=>f e | none=>0)
theorem KW {f:List mA->Int} {g:List (List mA)} {k:Nat} {e:List mA} (hx:g[k]? = some e):MK f g (k+1)=MK f g k+f e:=by rw [MK,hx]
theorem EN {f:List mA->Int} {g:List (List mA)} (h:∀e,-16<=f e/\f e<=16):∀k:Nat,-(16*(k:Int))<=MK f g k/\MK f g k<=16*k
 | 0=>by rw [MK];omega
 | k+1=>by
  have h1:=EN (g:=g) h k;rw [MK]
  cases g[k]? with
  | none=>dsimp only;omega
  | some e=>have:=h e;dsimp only;omega
def wG (l:List iA) (g:List (List mA)) (x:iA):Int:=MK (fun e=>((xD l e x.id (-1)).length:Int)-((xD l e x.id 1).length:Int)) g g.length
def tF (l:List iA) (g:List (List mA)) (x:iA):Int:=BH (fun e=>(eB l e).contains x.id) g g.length
def vF (l:List iA) (g:List (List mA)):List Int:=if OB l g then l.map (wG l g) else []
def dE (l:List iA) (g:List (List mA)):List Int:=if OB l g then l.map (tF l g) else []
def NK (f:iA->Int) (l:List iA) (k:Nat):List Int:=(l.take k).map f
theorem sM {f:iA->Int} {l:List iA} {k:Nat} {x:iA} (hx:l[k]? = some x):NK f l (k+1)=NK f l k++[f x]:=by unfold NK;rw [List.take_add_one,hx];simp
theorem sO (f:iA->Int) (l:List iA) (k:Nat):(NK f l k).length<=k:=by unfold NK;rw [List.length_map,List.length_take];omega
theorem tO {f:iA->Int} {l:List iA} {k:Nat} (h:l.length<=k):NK f l k=l.map f:=by unfold NK;rw [List.take_of_length_le h]
def NH (s:List Int):Nat->Nat
 | 0=>0
 | k+1=>match s[k]?,s[NH s k]? with
  | some a,some b=>if b<a then k else NH s k
  | _,_=>NH s k
theorem tM {s:List Int} {k:Nat} {a b:Int} (ha:s[k]? = some a) (hb:s[NH s k]? = some b):NH s (k+1)=if b<a then k else NH s k:=by rw [NH,ha,hb]
def gAg (l:List iA) (k:Nat):Int:=match l[k]? with | some x=>x.id | none=>-1
def LD (l:List iA) (g:List (List mA)) (s:List Int):Int:=if OB l g && decide (0<l.length) then gAg l (NH s s.length) else -1
theorem gAh {l:List iA} (h:dB l=true) (k:Nat) : -1<=gAg l k/\gAg l k<=99:=by
 unfold gAg
 cases hx:l[k]? with
 | none=>dsimp only;omega
 | some x=>have:=lE (TA h (List.mem_of_getElem? hx));dsimp only;omega
theorem vH (l:List iA) (g:List (List mA)) (s:List Int) : -1<=LD l g s/\LD l g s<=99:=by
 unfold LD;split
 ·rename_i h
  rw [Bool.and_eq_true] at h;exact gAh (NC h.1) _
 ·omega
theorem FN (l:List iA) (g:List (List mA)) : -1<=iG l g/\iG l g<=99:=by
 unfold iG;split
 ·rename_i h
  cases hx:l.find? (fun x=>l.all (DD l g x)) with
  | none=>dsimp only;omega
  | some x=>have:=lE (TA (NC h) (List.mem_of_find?_eq_some hx));dsimp only;omega
 ·omega
theorem dAt (w:World) (g:List (List mA)) (v:Value) (h:Rd kC w g [v]):Calls prog 188 #[v] w (Ret w (.bool (OE g))):=by
 obtain ⟨Y,hY⟩:=pA7 (OE g);rw [<-hY];have HY:=pA6 hY;clear hY;obtain ⟨A,n,c,rfl,L,Lc,Lm⟩:=yA h;go_enter func188,ntmps188;go_wp2
 go_loopg [7] n (fun gh i w'=>∃k:Nat,k<=n/\gh=n-k/\i=.int .i64 k/\Hid ((g.take k).all pB=true)/\Bw w w')
 ·exact ⟨0,by omega,rfl,rfl,pA6 rfl,Bw.refl _⟩
 ·obtain ⟨k,hk,rfl,rfl,HE,hb⟩:=hrel;by_cases hlt:k<n
  ·obtain ⟨e,hx⟩:=tA (xs:=g) (k:=k) (by have:=L.out;omega);obtain ⟨b,o,A',c',rfl,_,d0,bg⟩:=YG h hx;replace d0:=hb.cell d0;have i1:(0:Int)<=(k:Int):=by omega
   have i2:(k:Int)<(n:Int):=by omega
   have bb:=CI wr e _ (Rd.bw jA bg hb);have bc:=pA6 (fun he=>(pR hx he).trans HE.out);have bj:=pA6 (fun he=>ZT (f:=pB) hx he);obtain ⟨q,hq⟩:=pA7 (pB e);rw [<-hq] at bb;have HQ:=pA6 hq;obtain ⟨M,hM⟩:=pA7 e.length;rw [<-hM] at bb d0;have HH:=pA6 h;clear hx bg hq hM h;go_wp2_with fail;refine (bb).mono ?_;rintro e w3 ⟨rfl,bd⟩;have h:=HH.out;have bf:=hb.then bd;clear bb
   cases q with
   | true=>
    have HX:=pA6 (bc.out HQ.out.symm);go_wp2
    go_roundg (n-(k+1))
    ·exact ⟨k+1,by omega,rfl,by go_num,HX,bf⟩
    ·omega
   | false=>
    have HX:=pA6 (show Y=false by rw [HY.out,OE,bj.out HQ.out.symm];rfl);clear h;go_wp2;go_ret;exact Ret.bool (HX.out.symm) (bf)
  ·obtain rfl:k=n:=by omega
   have HA:=pA6 (show g.all pB=true by have:=HE.out;rwa [List.take_of_length_le (by rw [<-L.out];exact Nat.le_refl _)] at this);have HX:=pA6 (show Y=inB (k:Int) 1 5 by rw [HY.out,OE,HA.out,<-L.out,Bool.true_and];unfold inB;rw [Bool.eq_iff_iff];simp;omega);go_wp2_with fail;refine (rD _ _ _ _).mono ?_;rintro e w3 ⟨rfl,bd⟩;go_wp2;go_ret;exact Ret.bool (HX.out.symm) (hb.then bd)
theorem dAu (w:World) (g:List (List mA)) (v:Value) (h:Rd kC w g [v]):Calls prog 192 #[v] w (Ret w (.bool (OE g))):=by
 obtain ⟨Y,hY⟩:=pA7 (OE g);rw [<-hY];have HY:=pA6 hY;clear hY;obtain ⟨A,n,c,rfl,L,Lc,Lm⟩:=yA h;go_enter func192,ntmps192;go_wp2
 go_loopg [3] n (fun gh i w'=>∃k:Nat,k<=n/\gh=n-k/\i=.int .i64 k/\Hid ((g.take k).all pB=true)/\Bw w w')
 ·exact ⟨0,by omega,rfl,rfl,pA6 rfl,Bw.refl _⟩
 ·obtain ⟨k,hk,rfl,rfl,HE,hb⟩:=hrel;by_cases hlt:k<n
  ·obtain ⟨e,hx⟩:=tA (xs:=g) (k:=k) (by have:=L.out;omega);obtain ⟨b,o,A',c',rfl,_,d0,bg⟩:=YG h hx;replace d0:=hb.cell d0;have i1:(0:Int)<=(k:Int):=by omega
   have i2:(k:Int)<(n:Int):=by omega
   have bb:=aH wr e _ (Rd.bw jA bg hb);have bc:=pA6 (fun he=>(pR hx he).trans HE.out);have bj:=pA6 (fun he=>ZT (f:=pB) hx he);obtain ⟨q,hq⟩:=pA7 (pB e);rw [<-hq] at bb;have HQ:=pA6 hq;obtain ⟨M,hM⟩:=pA7 e.length;rw [<-hM] at bb d0;have HH:=pA6 h;clear hx bg hq hM h;go_wp2_with fail;refine (bb).mono ?_;rintro e w3 ⟨rfl,bd⟩;have h:=HH.out;have bf:=hb.then bd;clear bb
   cases q with
   | true=>
    have HX:=pA6 (bc.out HQ.out.symm);go_wp2
    go_roundg (n-(k+1))
    ·exact ⟨k+1,by omega,rfl,by go_num,HX,bf⟩
    ·omega
   | false=>
    have HX:=pA6 (show Y=false by rw [HY.out,OE,bj.out HQ.out.symm];rfl);clear h;go_wp2;go_ret;exact Ret.bool (HX.out.symm) (bf)
  ·obtain rfl:k=n:=by omega
   have HA:=pA6 (show g.all pB=true by have:=HE.out;rwa [List.take_of_length_le (by rw [<-L.out];exact Nat.le_refl _)] at this);have HX:=pA6 (show Y=inB (k:Int) 1 5 by rw [HY.out,OE,HA.out,<-L.out,Bool.true_and];unfold inB;rw [Bool.eq_iff_iff];simp;omega);go_wp2_with fail;refine (UH _ _ _ _).mono ?_;rintro e w3 ⟨rfl,bd⟩;go_wp2;go_ret;exact Ret.bool (HX.out.symm) (hb.then bd)
theorem PF (w:World) (l:List iA) (g:List (List mA)) (v u:Value) (h:Rd LA w l [v]) (h':Rd kC w g [u]):Calls prog 138 #[v,u] w (Ret w (.bool (OB l g))):=by
 go_enter func138,ntmps138;go_wp2_with fail;refine (nV _ l _ h).mono ?_;rintro e w2 ⟨rfl,bb⟩;rcases pA8 (dB l) with e1 | e1
 ·have E:=pA6 e1;rw [e1];clear e1;go_wp2_with fail;refine (dAt _ g _ (h'.bw xB bb)).mono ?_;rintro e w3 ⟨rfl,bc⟩;go_wp2;go_ret;exact Ret.bool (by rw [OB,E.out];rfl) (bb.then bc)
 ·have E:=pA6 e1;rw [e1];clear e1;go_wp2;go_ret;exact Ret.bool (by rw [OB,E.out];rfl) (bb)
theorem oF (w:World) (l:List iA) (g:List (List mA)) (v u:Value) (h:Rd LA w l [v]) (h':Rd kC w g [u]):Calls prog 140 #[v,u] w (Ret w (.bool (OB l g))):=by
 go_enter func140,ntmps140;go_wp2_with fail;refine (mV _ l _ h).mono ?_;rintro e w2 ⟨rfl,bb⟩;rcases pA8 (dB l) with e1 | e1
 ·have E:=pA6 e1;rw [e1];clear e1;go_wp2_with fail;refine (dAu _ g _ (h'.bw xB bb)).mono ?_;rintro e w3 ⟨rfl,bc⟩;go_wp2;go_ret;exact Ret.bool (by rw [OB,E.out];rfl) (bb.then bc)
 ·have E:=pA6 e1;rw [e1];clear e1;go_wp2;go_ret;exact Ret.bool (by rw [OB,E.out];rfl) (bb)
theorem LW (w:World) (l:List iA) (g:List (List mA)) (a b:Int) (v u:Value) (h:Rd LA w l [v]) (h':Rd kC w g [u]) (hP:OB l g=true) (i k:Nat) (x y:iA) (hfa:rB l a=(i:Int)) (hx:l[i]? = some x) (hfb:rB l b=(k:Int)) (hy:l[k]? = some y) :
  Calls prog 240 #[v,u,.int .i64 a,.int .i64 b] w (Ret w (.int .i64 (bK g x y))):=by
 obtain ⟨A,n,c,rfl,L,Lc,Lm⟩:=yA h;obtain ⟨A2,n2,c2,rfl,L2,L2c,L2m⟩:=yA h';obtain ⟨Y,hY⟩:=pA7 (bK g x y);rw [<-hY];have HY:=pA6 hY;have n5:n2<=5:=by rw [L2.out];exact (JG (kF hP)).2
 have n16:n<=16:=by rw [L.out];exact VA (NC hP)
 have hin:i<n:=by rw [L.out];exact (List.getElem?_eq_some_iff.1 hx).1
 have hkn:k<n:=by rw [L.out];exact (List.getElem?_eq_some_iff.1 hy).1
 have HX:=pA6 (TA (NC hP) (List.mem_of_getElem? hx));have bq:=pA6 (TA (NC hP) (List.mem_of_getElem? hy));have HG:=pA6 (zP (kF hP));have bc:=fun W (B:Bw w W)=>GD W l a _ (h.bw gA B)
 have bd:=fun W (B:Bw w W)=>GD W l b _ (h.bw gA B)
 have bf:=fun W (B:Bw w W)=>PF W l g _ _ (h.bw gA B) (h'.bw xB B)
 rw [hfa] at bc;rw [hfb] at bd;rw [hP] at bf;have C0:=pA6 bc;have C1:=pA6 bd;have C2:=pA6 bf;obtain ⟨ba,oa,Ax,cx,rfl,_,p0,p1,bg⟩:=qB h hx;obtain ⟨_,_,Ay,cy,e,_,q0,q1,bj⟩:=qB h hy;injection e with e;injection e with e1 e2;subst e1 e2;rw [jB HX.out] at p1 bg;rw [jB bq.out] at q1 bj;have j1:(0:Int)<=(i:Int):=by omega
 have j2:(i:Int)<(n:Int):=by omega
 have j3:(0:Int)<=(k:Int):=by omega
 have j4:(k:Int)<(n:Int):=by omega
 have j5:¬((i:Int)<0):=by omega
 have j6:¬((k:Int)<0):=by omega
 clear hY hP hfa hx hfb hy bc bd bf h;go_enter func240,ntmps240;go_wp2_with fail;refine (C0.out _ (Bw.refl w)).mono ?_;rintro e w1 ⟨rfl,bn⟩;go_wp2_with fail;refine (C1.out _ bn).mono ?_;rintro e w2 ⟨rfl,bs⟩;have B2:=bn.then bs;go_wp2_with fail;refine (C2.out _ B2).mono ?_;rintro e w3 ⟨rfl,bt⟩;have B3:=B2.then bt;replace p0:=B3.cell p0;replace p1:=B3.cell p1;replace q0:=B3.cell q0;replace q1:=B3.cell q1;replace bg:=Rd.bw dA bg B3;replace bj:=Rd.bw dA bj B3;replace h':=h'.bw xB B3;clear bn bs bt B2 C0 C1 C2;go_wp2
 go_loopg [11,34] n2 (fun gh s t w'=>∃(j:Nat) (q:Int),j<=n2/\gh=n2-j/\t=.int .i64 j/\s=.int .i64 q/\0<=q/\q<=j/\Hid (q=BH (fun e=>decide (zC e x y=1)) g j)/\Bw w3 w')
 ·exact ⟨0,0,by omega,rfl,rfl,rfl,by omega,by omega,pA6 rfl,Bw.refl _⟩
 ·obtain ⟨j,q,hj,rfl,rfl,rfl,q0',q1',HQ,hb⟩:=hrel;by_cases hlt:j<n2
  ·obtain ⟨e,he⟩:=tA (xs:=g) (k:=j) (by have:=L2.out;omega);obtain ⟨b,o,A',c',rfl,_,d0,bv⟩:=YG h' he;replace d0:=hb.cell d0;have m0:=hb.cell p0;have m1:=hb.cell p1;have m2:=hb.cell q0;have m3:=hb.cell q1;have i1:(0:Int)<=(j:Int):=by omega
   have i2:(j:Int)<(n2:Int):=by omega
   have HE:=pA6 (HG.out e (List.mem_of_getElem? he));have bm:=pA6 (fun hc=>rO (f:=fun e=>decide (zC e x y=1)) he hc);have bx:=pA6 (fun hc=>qR (f:=fun e=>decide (zC e x y=1)) he hc);have s0:=pA m0;have s1:=pA m1;have s2:=pA m2;have s3:=pA m3;have bb:∀s:eC wr,Calls prog 78 _ s.1 (Ret s.1 (.int .i64 (zC e x y))):=fun s=>eI _ e x y _ _ _ (Rd.bw jA bv (hb.then s.bw)) (Rd.bw dA bg (hb.then s.bw)) (Rd.bw dA bj (hb.then s.bw)) HE.out HX.out bq.out
   obtain ⟨M,hM⟩:=pA7 e.length;rw [<-hM] at d0 bb;obtain ⟨r,hr⟩:=pA7 (zC e x y);rw [<-hr] at bb;have HR:=pA6 hr;have HH:=pA6 h';clear he bv hM hr h' m0 m1 m2 m3;by_cases hr1:r=1
   ·have e1:(r==1)=true:=by simpa using hr1
    have bk:=pA6 (show q+1=BH (fun e=>decide (zC e x y=1)) g (j+1) by rw [bm.out (by rw [<-HR.out,hr1];rfl),HQ.out]);clear hr1;go_wp2;refine IA (by kernel_rfl) ?_
    repeat (first | go_big_quiet_skip | (go_big_quiet_want;go_big_quiet_op;first | go_big_quiet_on | (apply Exists.intro;refine ⟨fun _=>?_,?_⟩;(· (((first | (go_at_call 78;exact DA (bb _))))));go_big_quiet_on)))
    refine JA fun wq hbq=>?_
    try dsimp only at *
    have h':=HH.out;have bp:=hb.then hbq;clear bb s0 s1 s2 s3;go_wp2
    go_roundg (n2-(j+1))
    ·exact ⟨j+1,q+1,by omega,rfl,by go_num,by go_num,by omega,by omega,bk,bp⟩
    ·omega
   ·have e1:(r==1)=false:=by simpa using hr1
    have bk:=pA6 (show q=BH (fun e=>decide (zC e x y=1)) g (j+1) by rw [bx.out (by rw [<-HR.out];exact decide_eq_false hr1),HQ.out]);clear hr1;go_wp2;refine IA (by kernel_rfl) ?_
    repeat (first | go_big_quiet_skip | (go_big_quiet_want;go_big_quiet_op;first | go_big_quiet_on | (apply Exists.intro;refine ⟨fun _=>?_,?_⟩;(· (((first | (go_at_call 78;exact DA (bb _))))));go_big_quiet_on)))
    refine JA fun wq hbq=>?_
    try dsimp only at *
    have h':=HH.out;have bp:=hb.then hbq;clear bb s0 s1 s2 s3;go_wp2
    go_roundg (n2-(j+1))
    ·exact ⟨j+1,q,by omega,rfl,by go_num,rfl,by omega,by omega,bk,bp⟩
    ·omega
  ·obtain rfl:j=n2:=by omega
   have HF:=pA6 (show q=Y by rw [HY.out,HQ.out,bK,<-L2.out]);clear HQ;go_wp2;go_ret;exact Ret.int HF.out (B3.then hb)
theorem MW (w:World) (l:List iA) (g:List (List mA)) (a b:Int) (v u:Value) (h:Rd LA w l [v]) (h':Rd kC w g [u]) (hP:OB l g=true) (i k:Nat) (x y:iA) (hfa:rB l a=(i:Int)) (hx:l[i]? = some x) (hfb:rB l b=(k:Int)) (hy:l[k]? = some y) :
  Calls prog 193 #[v,u,.int .i64 a,.int .i64 b] w (Ret w (.int .i64 (bK g x y))):=by
 obtain ⟨A,n,c,rfl,L,Lc,Lm⟩:=yA h;obtain ⟨A2,n2,c2,rfl,L2,L2c,L2m⟩:=yA h';obtain ⟨Y,hY⟩:=pA7 (bK g x y);rw [<-hY];have HY:=pA6 hY;have n5:n2<=5:=by rw [L2.out];exact (JG (kF hP)).2
 have n16:n<=16:=by rw [L.out];exact VA (NC hP)
 have hin:i<n:=by rw [L.out];exact (List.getElem?_eq_some_iff.1 hx).1
 have hkn:k<n:=by rw [L.out];exact (List.getElem?_eq_some_iff.1 hy).1
 have HX:=pA6 (TA (NC hP) (List.mem_of_getElem? hx));have bs:=pA6 (TA (NC hP) (List.mem_of_getElem? hy));have HG:=pA6 (zP (kF hP));have bc:=fun W (B:Bw w W)=>gD W l a _ (h.bw gA B)
 have bd:=fun W (B:Bw w W)=>gD W l b _ (h.bw gA B)
 have bf:=fun W (B:Bw w W)=>oF W l g _ _ (h.bw gA B) (h'.bw xB B)
 rw [hfa] at bc;rw [hfb] at bd;rw [hP] at bf;have C0:=pA6 bc;have C1:=pA6 bd;have C2:=pA6 bf;obtain ⟨ba,oa,Ax,cx,rfl,_,p0,p1,bj⟩:=qB h hx;obtain ⟨_,_,Ay,cy,e,_,q0,q1,bk⟩:=qB h hy;injection e with e;injection e with e1 e2;subst e1 e2;rw [jB HX.out] at p1 bj;rw [jB bs.out] at q1 bk;have j1:(0:Int)<=(i:Int):=by omega
 have j2:(i:Int)<(n:Int):=by omega
 have j3:(0:Int)<=(k:Int):=by omega
 have j4:(k:Int)<(n:Int):=by omega
 have j5:¬((i:Int)<0):=by omega
 have j6:¬((k:Int)<0):=by omega
 clear hY hP hfa hx hfb hy bc bd bf h;go_enter func193,ntmps193;go_wp2_with fail;refine (C0.out _ (Bw.refl w)).mono ?_;rintro e w1 ⟨rfl,bp⟩;go_wp2_with fail;refine (C1.out _ bp).mono ?_;rintro e w2 ⟨rfl,bt⟩;have B2:=bp.then bt;have B3:=B2;replace p0:=B3.cell p0;replace p1:=B3.cell p1;replace q0:=B3.cell q0;replace q1:=B3.cell q1;replace bj:=Rd.bw dA bj B3;replace bk:=Rd.bw dA bk B3;replace h':=h'.bw xB B3;clear bp bt B2 C0 C1;go_wp2
 go_loopg [11,12] n2 (fun gh s t w'=>∃(j:Nat) (q:Int),j<=n2/\gh=n2-j/\t=.int .i64 j/\s=.int .i64 q/\0<=q/\q<=j/\Hid (q=BH (fun e=>decide (zC e x y=1)) g j)/\Bw w2 w')
 ·exact ⟨0,0,by omega,rfl,rfl,rfl,by omega,by omega,pA6 rfl,Bw.refl _⟩
 ·obtain ⟨j,q,hj,rfl,rfl,rfl,q0',q1',HQ,hb⟩:=hrel;by_cases hlt:j<n2
  ·obtain ⟨e,he⟩:=tA (xs:=g) (k:=j) (by have:=L2.out;omega);obtain ⟨b,o,A',c',rfl,_,d0,bv⟩:=YG h' he;have i1:(0:Int)<=(j:Int):=by omega
   have i2:(j:Int)<(n2:Int):=by omega
   have bx:=pA6 he;clear he;have bg:=C2.out wr (B3.then hb);go_wp2_with fail;refine (bg).mono ?_;rintro e w4 ⟨rfl,cb⟩;clear bg;have he:=bx.out;replace hb:=hb.then cb;replace d0:=hb.cell d0;have m0:=hb.cell p0;have m1:=hb.cell p1;have m2:=hb.cell q0;have m3:=hb.cell q1;have HE:=pA6 (HG.out e (List.mem_of_getElem? he));have bn:=pA6 (fun hc=>rO (f:=fun e=>decide (zC e x y=1)) he hc);have bz:=pA6 (fun hc=>qR (f:=fun e=>decide (zC e x y=1)) he hc);have s0:=pA m0;have s1:=pA m1;have s2:=pA m2;have s3:=pA m3;have bb:∀s:eC w4,Calls prog 85 _ s.1 (Ret s.1 (.int .i64 (zC e x y))):=fun s=>pG _ e x y _ _ _ (Rd.bw jA bv (hb.then s.bw)) (Rd.bw dA bj (hb.then s.bw)) (Rd.bw dA bk (hb.then s.bw)) HE.out HX.out bs.out
   obtain ⟨M,hM⟩:=pA7 e.length;rw [<-hM] at d0 bb;obtain ⟨r,hr⟩:=pA7 (zC e x y);rw [<-hr] at bb;have HR:=pA6 hr;have s4:=pA d0;have HH:=pA6 h';clear he bv hM hr h' m0 m1 m2 m3;by_cases hr1:r=1
   ·have e1:(r==1)=true:=by simpa using hr1
    have bm:=pA6 (show q+1=BH (fun e=>decide (zC e x y=1)) g (j+1) by rw [bn.out (by rw [<-HR.out,hr1];rfl),HQ.out]);clear hr1;go_wp2;refine IA (by kernel_rfl) ?_
    repeat (first | go_big_quiet_skip | (go_big_quiet_want;go_big_quiet_op;first | go_big_quiet_on | (apply Exists.intro;refine ⟨fun _=>?_,?_⟩;(· (((first | (go_at_call 85;exact DA (bb _))))));go_big_quiet_on)))
    refine JA fun wq hbq=>?_
    try dsimp only at *
    have h':=HH.out;have bq:=hb.then hbq;clear bb s0 s1 s2 s3 s4;go_wp2
    go_roundg (n2-(j+1))
    ·exact ⟨j+1,q+1,by omega,rfl,by go_num,by go_num,by omega,by omega,bm,bq⟩
    ·omega
   ·have e1:(r==1)=false:=by simpa using hr1
    have bm:=pA6 (show q=BH (fun e=>decide (zC e x y=1)) g (j+1) by rw [bz.out (by rw [<-HR.out];exact decide_eq_false hr1),HQ.out]);clear hr1;go_wp2;refine IA (by kernel_rfl) ?_
    repeat (first | go_big_quiet_skip | (go_big_quiet_want;go_big_quiet_op;first | go_big_quiet_on | (apply Exists.intro;refine ⟨fun _=>?_,?_⟩;(· (((first | (go_at_call 85;exact DA (bb _))))));go_big_quiet_on)))
    refine JA fun wq hbq=>?_
    try dsimp only at *
    have h':=HH.out;have bq:=hb.then hbq;clear bb s0 s1 s2 s3 s4;go_wp2
    go_roundg (n2-(j+1))
    ·exact ⟨j+1,q,by omega,rfl,by go_num,rfl,by omega,by omega,bm,bq⟩
    ·omega
  ·obtain rfl:j=n2:=by omega
   have HF:=pA6 (show q=Y by rw [HY.out,HQ.out,bK,<-L2.out]);clear HQ;go_wp2;go_ret;exact Ret.int HF.out (B3.then hb)
theorem jY (w:World) (l:List iA) (g:List (List mA)) (a b:Int) (v u:Value) (h:Rd LA w l [v]) (h':Rd kC w g [u]) (hno:(OB l g && (decide (0<=rB l a) && decide (0<=rB l b)))=false) :
  Calls prog 240 #[v,u,.int .i64 a,.int .i64 b] w (Ret w (.int .i64 0)):=by
 obtain ⟨A,n,c,rfl,L,Lc,Lm⟩:=yA h;obtain ⟨A2,n2,c2,rfl,L2,L2c,L2m⟩:=yA h';have bb:=fun W (B:Bw w W)=>GD W l a _ (h.bw gA B)
 have bc:=fun W (B:Bw w W)=>GD W l b _ (h.bw gA B)
 have bd:=fun W (B:Bw w W)=>PF W l g _ _ (h.bw gA B) (h'.bw xB B)
 obtain ⟨K,hK⟩:=pA7 (rB l a);obtain ⟨J,hJ⟩:=pA7 (rB l b);rw [<-hK] at bb hno;rw [<-hJ] at bc hno;have C0:=pA6 bb;have C1:=pA6 bc;have C2:=pA6 bd;clear hK hJ bb bc bd h h';rcases pA8 (OB l g) with hP | hP
 ·rw [hP] at hno;have D2:=C2.out;rw [hP] at D2;have E2:=pA6 D2;clear hP D2 C2;by_cases hk:K<0;rotate_left
  focus
   have hj:J<0:=by
    rw [decide_eq_true (show 0<=K by omega)] at hno
    simpa using hno
  rotate_right
  all_goals
   clear hno;go_enter func240,ntmps240;go_wp2_with fail;refine (C0.out _ (Bw.refl w)).mono ?_;rintro e w1 ⟨rfl,bf⟩;go_wp2_with fail;refine (C1.out _ bf).mono ?_;rintro e w2 ⟨rfl,bg⟩;go_wp2_with fail;refine (E2.out _ (bf.then bg)).mono ?_;rintro e w3 ⟨rfl,bj⟩;go_wp2;go_ret;exact Ret.int (rfl) ((bf.then bg).then bj)
 ·have D2:=C2.out;rw [hP] at D2;have E2:=pA6 D2;clear hP D2 C2 hno;go_enter func240,ntmps240;go_wp2_with fail;refine (C0.out _ (Bw.refl w)).mono ?_;rintro e w1 ⟨rfl,bf⟩;go_wp2_with fail;refine (C1.out _ bf).mono ?_;rintro e w2 ⟨rfl,bg⟩;go_wp2_with fail;refine (E2.out _ (bf.then bg)).mono ?_;rintro e w3 ⟨rfl,bj⟩;go_wp2;go_ret;exact Ret.int (rfl) ((bf.then bg).then bj)
theorem kY (w:World) (l:List iA) (g:List (List mA)) (a b:Int) (v u:Value) (h:Rd LA w l [v]) (h':Rd kC w g [u]) (hno:(OB l g && (decide (0<=rB l a) && decide (0<=rB l b)))=false) :
  Calls prog 193 #[v,u,.int .i64 a,.int .i64 b] w (Ret w (.int .i64 0)):=by
 obtain ⟨A,n,c,rfl,L,Lc,Lm⟩:=yA h;obtain ⟨A2,n2,c2,rfl,L2,L2c,L2m⟩:=yA h';have bb:=fun W (B:Bw w W)=>gD W l a _ (h.bw gA B)
 have bc:=fun W (B:Bw w W)=>gD W l b _ (h.bw gA B)
 have bf:=fun W (B:Bw w W)=>oF W l g _ _ (h.bw gA B) (h'.bw xB B)
 obtain ⟨K,hK⟩:=pA7 (rB l a);obtain ⟨J,hJ⟩:=pA7 (rB l b);rw [<-hK] at bb hno;rw [<-hJ] at bc hno;have C0:=pA6 bb;have C1:=pA6 bc;have C2:=pA6 bf;clear hK hJ bb bc bf h h';by_cases hn:n2=0
 ·subst hn;clear hno C2;go_enter func193,ntmps193;go_wp2_with fail;refine (C0.out _ (Bw.refl w)).mono ?_;rintro e w1 ⟨rfl,bd⟩;go_wp2_with fail;refine (C1.out _ bd).mono ?_;rintro e w2 ⟨rfl,bg⟩;have B2:=bd.then bg;clear bd bg C0 C1;go_wp2
  go_loopg [11,12] 0 (fun gh s t w'=>gh=0/\s=.int .i64 0/\t=.int .i64 0/\Bw w2 w')
  ·exact ⟨rfl,rfl,rfl,Bw.refl _⟩
  ·obtain ⟨rfl,rfl,rfl,hb⟩:=hrel;go_wp2;go_ret;exact Ret.int (rfl) (B2.then hb)
 ·have hn0:(0:Int)<(n2:Int):=by omega
  clear hn;rcases pA8 (OB l g) with hP | hP
  ·rw [hP] at hno;have D2:=C2.out;rw [hP] at D2;have E2:=pA6 D2;clear hP D2 C2;by_cases hk:K<0;rotate_left
   focus
    have bk:(0:Int)<=K:=by omega
    have hj:J<0:=by
     rw [decide_eq_true bk] at hno
     simpa using hno
    have hj2:¬(0:Int)<=J:=by omega
    clear hno hk hj
   rotate_right
   focus
    have bk:¬(0:Int)<=K:=by omega
    clear hno hk
   all_goals
    go_enter func193,ntmps193;go_wp2_with fail;refine (C0.out _ (Bw.refl w)).mono ?_;rintro e w1 ⟨rfl,bd⟩;go_wp2_with fail;refine (C1.out _ bd).mono ?_;rintro e w2 ⟨rfl,bg⟩;have B2:=bd.then bg;clear bd bg C0 C1;go_wp2
    go_loopg [11,12] 0 (fun gh s t w'=>gh=0/\s=.int .i64 0/\t=.int .i64 0/\Bw w2 w')
    ·exact ⟨rfl,rfl,rfl,Bw.refl _⟩
    ·obtain ⟨rfl,rfl,rfl,hb⟩:=hrel;go_wp2_with fail;refine (E2.out _ (B2.then hb)).mono ?_;rintro e w3 ⟨rfl,bj⟩;go_wp2;go_ret;exact Ret.int (rfl) ((B2.then hb).then bj)
  ·have D2:=C2.out;rw [hP] at D2;have E2:=pA6 D2;clear hP D2 C2 hno;go_enter func193,ntmps193;go_wp2_with fail;refine (C0.out _ (Bw.refl w)).mono ?_;rintro e w1 ⟨rfl,bd⟩;go_wp2_with fail;refine (C1.out _ bd).mono ?_;rintro e w2 ⟨rfl,bg⟩;have B2:=bd.then bg;clear bd bg C0 C1;go_wp2
   go_loopg [11,12] 0 (fun gh s t w'=>gh=0/\s=.int .i64 0/\t=.int .i64 0/\Bw w2 w')
   ·exact ⟨rfl,rfl,rfl,Bw.refl _⟩
   ·obtain ⟨rfl,rfl,rfl,hb⟩:=hrel;go_wp2_with fail;refine (E2.out _ (B2.then hb)).mono ?_;rintro e w3 ⟨rfl,bj⟩;go_wp2;go_ret;exact Ret.int (rfl) ((B2.then hb).then bj)
theorem gAi (w:World) (l:List iA) (g:List (List mA)) (a b:Int) (v u:Value) (h:Rd LA w l [v]) (h':Rd kC w g [u]) :
  Calls prog 240 #[v,u,.int .i64 a,.int .i64 b] w (Ret w (.int .i64 (lD l g a b))):=by
 rcases pA8 (OB l g && (decide (0<=rB l a) && decide (0<=rB l b))) with hc | hc
 ·have h1:=hc;rw [Bool.and_eq_true,Bool.and_eq_true,decide_eq_true_eq,decide_eq_true_eq] at h1;rcases OC l a with ⟨hK,_⟩ | ⟨i,x,hK,hx,_⟩
  ·have:=h1.2.1;omega
  ·rcases OC l b with ⟨hJ,_⟩ | ⟨k,y,hJ,hy,_⟩
   ·have:=h1.2.2;omega
   ·have:=LW w l g a b v u h h' h1.1 i k x y hK hx hJ hy;rw [show lD l g a b=bK g x y by rw [lD,if_pos hc,lF hK hx,lF hJ hy]];exact this
 ·have:=jY w l g a b v u h h' hc;rw [show lD l g a b=0 by rw [lD,hc];rfl];exact this
theorem gAj (w:World) (l:List iA) (g:List (List mA)) (a b:Int) (v u:Value) (h:Rd LA w l [v]) (h':Rd kC w g [u]) :
  Calls prog 193 #[v,u,.int .i64 a,.int .i64 b] w (Ret w (.int .i64 (lD l g a b))):=by
 rcases pA8 (OB l g && (decide (0<=rB l a) && decide (0<=rB l b))) with hc | hc
 ·have h1:=hc;rw [Bool.and_eq_true,Bool.and_eq_true,decide_eq_true_eq,decide_eq_true_eq] at h1;rcases OC l a with ⟨hK,_⟩ | ⟨i,x,hK,hx,_⟩
  ·have:=h1.2.1;omega
  ·rcases OC l b with ⟨hJ,_⟩ | ⟨k,y,hJ,hy,_⟩
   ·have:=h1.2.2;omega
   ·have:=MW w l g a b v u h h' h1.1 i k x y hK hx hJ hy;rw [show lD l g a b=bK g x y by rw [lD,if_pos hc,lF hK hx,lF hJ hy]];exact this
 ·have:=kY w l g a b v u h h' hc;rw [show lD l g a b=0 by rw [lD,hc];rfl];exact this
theorem sR {α:Type} {f:α->Bool} {l:List α} {k:Nat} {x:α} (hx:l[k]? = some x):(l.take (k+1)).all f=((l.take k).all f && f x):=by
 rw [List.take_add_one,hx,List.all_append];simp
theorem pZ {l:List iA} {g:List (List mA)} {x:iA} (hP:OB l g=true) (h:l.find? (fun x=>l.all (DD l g x))=some x):iG l g=x.id:=by rw [iG,if_pos hP,h]
theorem NW {l:List iA} {g:List (List mA)} (hP:OB l g=true) (h:l.find? (fun x=>l.all (DD l g x))=none):iG l g = -1:=by rw [iG,if_pos hP,h]
theorem tR (w:World) (l:List iA) (g:List (List mA)) (v u:Value) (h:Rd LA w l [v]) (h':Rd kC w g [u]) (hP:OB l g=true):Calls prog 189 #[v,u] w (Ret w (.int .i64 (iG l g))):=by
 have bb:=PF w l g _ _ h h';rw [hP] at bb;have HV:=pA6 (fun W (B:Bw w W) (a b:Int)=>gAi W l g a b _ _ (h.bw gA B) (h'.bw xB B));obtain ⟨A,n,c,rfl,L,Lc,Lm⟩:=yA h;obtain ⟨A2,n2,c2,rfl,L2,L2c,L2m⟩:=yA h';obtain ⟨Y,hY⟩:=pA7 (iG l g);rw [<-hY];have HY:=pA6 hY;have HP:=pA6 hP;clear hY hP h';go_enter func189,ntmps189;go_wp2_with fail;refine (bb).mono ?_;rintro e w1 ⟨rfl,bz⟩;clear bb;go_wp2
 go_loopg [16] n (fun gh i w'=>∃k:Nat,k<=n/\gh=n-k/\i=.int .i64 k/\Hid ((l.take k).find? (fun x=>l.all (DD l g x))=none)/\Bw w w')
 ·exact ⟨0,by omega,rfl,rfl,pA6 rfl,bz⟩
 ·obtain ⟨k,hk,rfl,rfl,HE,hb⟩:=hrel;by_cases hlt:k<n
  ·obtain ⟨x,hx⟩:=tA (xs:=l) (k:=k) (by have:=L.out;omega);obtain ⟨ba,oa,Ax,cx,rfl,_,c0,c1,bp⟩:=qB h hx;replace c0:=hb.cell c0;replace c1:=hb.cell c1;have i1:(0:Int)<=(k:Int):=by omega
   have i2:(k:Int)<(n:Int):=by omega
   have bs:=pA6 hx;have HH:=pA6 h;obtain ⟨M,hM⟩:=pA7 x.vals.length;rw [<-hM] at c1;have A1:=(Bw.refl wr).alloc (.cells #[.int .i64 x.id,.slice Ax M cx] 30);have p0:(wr.alloc (.cells #[.int .i64 x.id,.slice Ax M cx] 30)).cell? ⟨wr.heap.size,0,none⟩=some (.int .i64 x.id):=by go_simp
   obtain ⟨W1,bj⟩:=pA7 (wr.alloc (.cells #[.int .i64 x.id,.slice Ax M cx] 30));rw [<-bj] at A1 p0;have bx:=pA6 bj;clear hx bp hM bj h;go_wp2;rw [<-bx.out]
   go_loopg [7,22] n (fun gh s i w'=>∃(j:Nat) (q:Bool),j<=n/\gh=n-j/\i=.int .i64 j/\s=.bool q/\Hid (q=(l.take j).all (DD l g x))/\Bw W1 w')
   ·exact ⟨0,true,by omega,rfl,rfl,rfl,pA6 rfl,Bw.refl _⟩
   ·obtain ⟨j,q,hj,rfl,rfl,rfl,HQ,bn⟩:=hrel;have bf:=hb.then (A1.then bn);replace p0:=bn.cell p0;by_cases hlt2:j<n
    ·have h:=HH.out;obtain ⟨y,hy⟩:=tA (xs:=l) (k:=j) (by have:=L.out;omega);obtain ⟨b2,o2,Ay,cy,e,_,d0,d1,bq⟩:=qB h hy;injection e with e;injection e with e1 e2;subst e1 e2;replace d0:=bf.cell d0;replace d1:=bf.cell d1;have i3:(0:Int)<=(j:Int):=by omega
     have i4:(j:Int)<(n:Int):=by omega
     have HS:=pA6 (sR (f:=DD l g x) hy);have HW:=pA6 (show DD l g x y=(decide (x.id=y.id) || decide (lD l g y.id x.id<lD l g x.id y.id)) from rfl);obtain ⟨M2,bt⟩:=pA7 y.vals.length;rw [<-bt] at d1;have bg:=(Bw.refl wr).alloc (.cells #[.int .i64 y.id,.slice Ay M2 cy] 30);have r0:(wr.alloc (.cells #[.int .i64 y.id,.slice Ay M2 cy] 30)).cell? ⟨wr.heap.size,0,none⟩=some (.int .i64 y.id):=by go_simp
     have r1:=bg.cell p0;have s0:=pA r0;have s1:=pA r1;have bv:=bf.then bg;have bc:=bn.then bg;clear hy bq bt h r0 r1
     cases q with
     | false=>
      have HX:=pA6 (show false=(l.take (j+1)).all (DD l g x) by rw [HS.out,<-HQ.out];rfl);clear HQ HS HW;go_wp2_with fail;refine IA (by kernel_rfl) ?_
      repeat (first | go_big_quiet_skip | (go_big_quiet_want;go_big_quiet_op;go_big_quiet_on))
      refine JA fun wq hbq=>?_
      try dsimp only at *
      have bd:=bc.then hbq;clear s0 s1;go_wp2
      go_roundg (n-(j+1))
      ·exact ⟨j+1,false,by omega,rfl,by go_num,rfl,HX,bd⟩
      ·omega
     | true=>
      by_cases hid:x.id=y.id
      ·have e1:(x.id==y.id)=true:=by simpa using hid
       have HX:=pA6 (show true=(l.take (j+1)).all (DD l g x) by rw [HS.out,<-HQ.out,HW.out,decide_eq_true hid];rfl);clear HQ HS HW hid;go_wp2_with fail;refine IA (by kernel_rfl) ?_
       repeat (first | go_big_quiet_skip | (go_big_quiet_want;go_big_quiet_op;go_big_quiet_on))
       refine JA fun wq hbq=>?_
       try dsimp only at *
       have bd:=bc.then hbq;clear s0 s1;go_wp2
       go_roundg (n-(j+1))
       ·exact ⟨j+1,true,by omega,rfl,by go_num,rfl,HX,bd⟩
       ·omega
      ·have e1:(x.id==y.id)=false:=by simpa using hid
       obtain ⟨ix,bp⟩:=pA7 x.id;obtain ⟨iy,bq⟩:=pA7 y.id;have k1:∀s:eC (wr.alloc (.cells #[.int .i64 y.id,.slice Ay M2 cy] 30)),Calls prog 240 _ s.1 (Ret s.1 (.int .i64 (lD l g x.id y.id))):=fun s=>HV.out s.1 (bv.then s.bw) x.id y.id
       have k2:∀s:eC (wr.alloc (.cells #[.int .i64 y.id,.slice Ay M2 cy] 30)),Calls prog 240 _ s.1 (Ret s.1 (.int .i64 (lD l g y.id x.id))):=fun s=>HV.out s.1 (bv.then s.bw) y.id x.id
       obtain ⟨a1,bk⟩:=pA7 (lD l g x.id y.id);obtain ⟨a2,bm⟩:=pA7 (lD l g y.id x.id);rw [<-bk] at k1;rw [<-bm] at k2;have HX:=pA6 (show decide (a2<a1)=(l.take (j+1)).all (DD l g x) by rw [HS.out,<-HQ.out,HW.out,decide_eq_false hid,bk,bm];simp);clear HQ HS HW hid bk bm bp bq;go_wp2_with fail;refine IA (by kernel_rfl) ?_
       repeat (first | go_big_quiet_skip | (go_big_quiet_want;go_big_quiet_op;first | go_big_quiet_on | (apply Exists.intro;refine ⟨fun _=>?_,?_⟩;(· (((first | (go_at_call 240;first | with_reducible exact DA (k1 _) | with_reducible exact DA (k2 _))))));go_big_quiet_on)))
       refine JA fun wq hbq=>?_
       try dsimp only at *
       have bd:=bc.then hbq;clear s0 s1 k1 k2;go_wp2
       go_roundg (n-(j+1))
       ·exact ⟨j+1,decide (a2<a1),by omega,rfl,by go_num,by first | rfl | simp,HX,bd⟩
       ·omega
    ·obtain rfl:j=n:=by omega
     have HA:=pA6 (show q=l.all (DD l g x) by have:=HQ.out;rwa [List.take_of_length_le (by rw [<-L.out];exact Nat.le_refl _)] at this);have h:=HH.out
     cases q with
     | true=>
      have HF:=pA6 (show Y=x.id by rw [HY.out];exact pZ HP.out (AP bs.out HA.out.symm HE.out));clear HQ HE;go_wp2;go_ret;exact Ret.int (HF.out.symm) (bf)
     | false=>
      have HF:=pA6 ((rR (f:=fun x=>l.all (DD l g x)) bs.out HA.out.symm).trans HE.out);clear HQ HE;go_wp2
      go_roundg (j-(k+1))
      ·exact ⟨k+1,by omega,rfl,by go_num,HF,bf⟩
      ·omega
  ·obtain rfl:k=n:=by omega
   have HF:=pA6 (show Y = -1 by rw [HY.out];exact NW HP.out (by have:=HE.out;rwa [List.take_of_length_le (by rw [<-L.out];exact Nat.le_refl _)] at this));clear HE;go_wp2;go_ret;exact Ret.int (HF.out.symm) (hb)
theorem lY (w:World) (l:List iA) (g:List (List mA)) (v u:Value) (h:Rd LA w l [v]) (h':Rd kC w g [u]):Calls prog 189 #[v,u] w (Ret w (.int .i64 (iG l g))):=by
 rcases pA8 (OB l g) with hP | hP
 ·exact tR w l g v u h h' hP
 ·have bb:=PF w l g _ _ h h';rw [hP] at bb;rw [show iG l g = -1 by rw [iG,hP];rfl];clear hP h h';go_enter func189,ntmps189;go_wp2_with fail;refine (bb).mono ?_;rintro e w1 ⟨rfl,bc⟩;go_wp2;go_ret;exact Ret.int (rfl) (bc)
theorem vR (w:World) (l:List iA) (g:List (List mA)) (v u:Value) (h:Rd LA w l [v]) (h':Rd kC w g [u]) (hP:OB l g=true):Calls prog 141 #[v,u] w (Ret w (.int .i64 (iG l g))):=by
 have bb:=fun W (B:Bw w W)=>oF W l g _ _ (h.bw gA B) (h'.bw xB B)
 rw [hP] at bb;have HC:=pA6 bb;have HV:=pA6 (fun W (B:Bw w W) (a b:Int)=>gAj W l g a b _ _ (h.bw gA B) (h'.bw xB B));obtain ⟨A,n,c,rfl,L,Lc,Lm⟩:=yA h;obtain ⟨A2,n2,c2,rfl,L2,L2c,L2m⟩:=yA h';obtain ⟨Y,hY⟩:=pA7 (iG l g);rw [<-hY];have HY:=pA6 hY;have HP:=pA6 hP;clear hY hP h' bb;go_enter func141,ntmps141;go_wp2
 go_loopg [5] n (fun gh i w'=>∃k:Nat,k<=n/\gh=n-k/\i=.int .i64 k/\Hid ((l.take k).find? (fun x=>l.all (DD l g x))=none)/\Bw w w')
 ·exact ⟨0,by omega,rfl,rfl,pA6 rfl,Bw.refl _⟩
 ·obtain ⟨k,hk,rfl,rfl,HE,hb⟩:=hrel;by_cases hlt:k<n
  ·obtain ⟨x,hx⟩:=tA (xs:=l) (k:=k) (by have:=L.out;omega);obtain ⟨ba,oa,Ax,cx,rfl,_,c0,c1,bs⟩:=qB h hx;have i1:(0:Int)<=(k:Int):=by omega
   have i2:(k:Int)<(n:Int):=by omega
   have bm:=pA6 hx;have HH:=pA6 h;have bd:=HC.out wr hb;clear hx bs c1 h;go_wp2_with fail;refine (bd).mono ?_;rintro e w2 ⟨rfl,bf⟩;have hb:=hb.then bf;replace c0:=hb.cell c0;clear bd;go_wp2
   go_loopg [6,7] n (fun gh s i w'=>∃(j:Nat) (q:Bool),j<=n/\gh=n-j/\i=.int .i64 j/\s=.bool q/\Hid (q=(l.take j).all (DD l g x))/\Bw w2 w')
   ·exact ⟨0,true,by omega,rfl,rfl,rfl,pA6 rfl,Bw.refl _⟩
   ·obtain ⟨j,q,hj,rfl,rfl,rfl,HQ,bg⟩:=hrel;have bj:=hb.then bg;replace c0:=bg.cell c0;by_cases hlt2:j<n
    ·have h:=HH.out;obtain ⟨y,hy⟩:=tA (xs:=l) (k:=j) (by have:=L.out;omega);obtain ⟨b2,o2,Ay,cy,e,_,d0,d1,bt⟩:=qB h hy;injection e with e;injection e with e1 e2;subst e1 e2;replace d0:=bj.cell d0;have i3:(0:Int)<=(j:Int):=by omega
     have i4:(j:Int)<(n:Int):=by omega
     have HS:=pA6 (sR (f:=DD l g x) hy);have HW:=pA6 (show DD l g x y=(decide (x.id=y.id) || decide (lD l g y.id x.id<lD l g x.id y.id)) from rfl);have s0:=pA c0;have s1:=pA d0;have bk:=pA6 (fun (e:x.id=y.id)=>aAy (NC HP.out) bm.out hy e);have bc:=pA6 (fun (e:k=j)=>show x.id=y.id by have h1:=bm.out;rw [e,hy] at h1;injection h1 with h1;rw [h1]);clear hy bt d1 h d0
     cases q with
     | false=>
      have HX:=pA6 (show false=(l.take (j+1)).all (DD l g x) by rw [HS.out,<-HQ.out];rfl);clear HQ HS HW bk bc;go_wp2_with fail;refine IA (by kernel_rfl) ?_
      repeat (first | go_big_quiet_skip | (go_big_quiet_want;go_big_quiet_op;go_big_quiet_on))
      refine JA fun wq hbq=>?_
      try dsimp only at *
      have bf:=bg.then hbq;clear s0 s1;go_wp2
      go_roundg (n-(j+1))
      ·exact ⟨j+1,false,by omega,rfl,by go_num,rfl,HX,bf⟩
      ·omega
     | true=>
      by_cases hid:x.id=y.id
      ·have bq:=bk.out hid;have e1:((k:Int)==(j:Int))=true:=by simp [bq]
       have HX:=pA6 (show true=(l.take (j+1)).all (DD l g x) by rw [HS.out,<-HQ.out,HW.out,decide_eq_true hid];rfl);clear HQ HS HW hid bk bc bq;go_wp2_with fail;refine IA (by kernel_rfl) ?_
       repeat (first | go_big_quiet_skip | (go_big_quiet_want;go_big_quiet_op;go_big_quiet_on))
       refine JA fun wq hbq=>?_
       try dsimp only at *
       have bf:=bg.then hbq;clear s0 s1;go_wp2
       go_roundg (n-(j+1))
       ·exact ⟨j+1,true,by omega,rfl,by go_num,rfl,HX,bf⟩
       ·omega
      ·have e1:((k:Int)==(j:Int))=false:=by rw [beq_eq_false_iff_ne];intro e;exact hid (bc.out (by omega))
       have k1:∀s:eC wr,Calls prog 193 _ s.1 (Ret s.1 (.int .i64 (lD l g x.id y.id))):=fun s=>HV.out s.1 (bj.then s.bw) x.id y.id
       have k2:∀s:eC wr,Calls prog 193 _ s.1 (Ret s.1 (.int .i64 (lD l g y.id x.id))):=fun s=>HV.out s.1 (bj.then s.bw) y.id x.id
       obtain ⟨a1,bn⟩:=pA7 (lD l g x.id y.id);obtain ⟨a2,bp⟩:=pA7 (lD l g y.id x.id);rw [<-bn] at k1;rw [<-bp] at k2;have HX:=pA6 (show decide (a2<a1)=(l.take (j+1)).all (DD l g x) by rw [HS.out,<-HQ.out,HW.out,decide_eq_false hid,bn,bp];simp);clear HQ HS HW hid bn bp bk bc;go_wp2_with fail;refine IA (by kernel_rfl) ?_
       repeat (first | go_big_quiet_skip | (go_big_quiet_want;go_big_quiet_op;first | go_big_quiet_on | (apply Exists.intro;refine ⟨fun _=>?_,?_⟩;(· (((first | (go_at_call 193;first | with_reducible exact DA (k1 _) | with_reducible exact DA (k2 _))))));go_big_quiet_on)))
       refine JA fun wq hbq=>?_
       try dsimp only at *
       have bf:=bg.then hbq;clear s0 s1 k1 k2;go_wp2
       go_roundg (n-(j+1))
       ·exact ⟨j+1,decide (a2<a1),by omega,rfl,by go_num,by first | rfl | simp,HX,bf⟩
       ·omega
    ·obtain rfl:j=n:=by omega
     have HA:=pA6 (show q=l.all (DD l g x) by have:=HQ.out;rwa [List.take_of_length_le (by rw [<-L.out];exact Nat.le_refl _)] at this);have h:=HH.out
     cases q with
     | true=>
      have HF:=pA6 (show Y=x.id by rw [HY.out];exact pZ HP.out (AP bm.out HA.out.symm HE.out));clear HQ HE;go_wp2;go_ret;exact Ret.int (HF.out.symm) (bj)
     | false=>
      have HF:=pA6 ((rR (f:=fun x=>l.all (DD l g x)) bm.out HA.out.symm).trans HE.out);clear HQ HE;go_wp2
      go_roundg (j-(k+1))
      ·exact ⟨k+1,by omega,rfl,by go_num,HF,bj⟩
      ·omega
  ·obtain rfl:k=n:=by omega
   have HF:=pA6 (show Y = -1 by rw [HY.out];exact NW HP.out (by have:=HE.out;rwa [List.take_of_length_le (by rw [<-L.out];exact Nat.le_refl _)] at this));clear HE;go_wp2;go_ret;exact Ret.int (HF.out.symm) (hb)
theorem mY (w:World) (l:List iA) (g:List (List mA)) (v u:Value) (h:Rd LA w l [v]) (h':Rd kC w g [u]):Calls prog 141 #[v,u] w (Ret w (.int .i64 (iG l g))):=by
 rcases pA8 (OB l g) with hP | hP
 ·exact vR w l g v u h h' hP
 ·have bb:=oF w l g _ _ h h';rw [hP] at bb;rw [show iG l g = -1 by rw [iG,hP];rfl];obtain ⟨A,n,c,rfl,L,Lc,Lm⟩:=yA h;clear hP h h';by_cases hn:n=0
  ·subst hn;clear bb;go_enter func141,ntmps141;go_wp2
   go_loopg [5] 0 (fun gh i w'=>gh=0/\i=.int .i64 0/\w'=w)
   ·exact ⟨rfl,rfl,rfl⟩
   ·obtain ⟨rfl,rfl,rfl⟩:=hrel;go_wp2;go_ret;exact Ret.int (rfl) (Bw.refl _)
  ·have i2:(0:Int)<(n:Int):=by omega
   have HC:=pA6 bb;clear hn bb;go_enter func141,ntmps141;go_wp2
   go_loopg [5] 0 (fun gh i w'=>gh=0/\i=.int .i64 0/\w'=w)
   ·exact ⟨rfl,rfl,rfl⟩
   ·obtain ⟨rfl,rfl,rfl⟩:=hrel;have bb:=HC.out;go_wp2_with fail;refine (bb).mono ?_;rintro e w1 ⟨rfl,bc⟩;go_wp2;go_ret;exact Ret.int (rfl) (bc)
theorem lAm {e:List mA} {p x:iA} (hE:pB e=true) (hp:gB p=true) (hx:gB x=true):DG e p (-1) x=decide (zC e p x=1):=by
 unfold DG;rw [(GJ hE).anti p x hp hx];unfold bJ;rw [Bool.eq_iff_iff,decide_eq_true_eq,decide_eq_true_eq]
 split<;>omega
theorem wR (w:World) (l:List iA) (e:List mA) (id:Int) (v u:Value) (h:Rd LA w l [v]) (h':Rd OA w e [u]) (hB:kB l e=true) (j:Nat) (p:iA) (hf:rB l id=(j:Int)) (hp:l[j]? = some p) :
  Calls prog 242 #[v,u,.int .i64 id] w (WB w (nE WA w.heap.size (eG (DG e p (-1)) l))):=by
 obtain ⟨i0,hi,dd,df,dj⟩:=info_parts xC;obtain ⟨A,n,c,rfl,L,Lc,Lm⟩:=yA h;have HB:=pA6 hB;have HP:=pA6 (TA (AA hB) (List.mem_of_getElem? hp));have n16:n<=16:=by rw [L.out];exact VA (AA hB)
 have hjn:j<n:=by rw [L.out];exact (List.getElem?_eq_some_iff.1 hp).1
 obtain ⟨ba,oa,Ap,cp,rfl,_,cv,cc,cg⟩:=qB h hp;rw [jB HP.out] at cc cg;have j1:(0:Int)<=(j:Int):=by omega
 have j2:(j:Int)<(n:Int):=by omega
 have j3:¬((j:Int)<0):=by omega
 have cj:=MA (e:=3) (sz:=1) (R:=IF) w;have A0:Bw w (w.alloc (.cells #[] 3)):=(Bw.refl w).alloc _;have bb:=fun W (B:Bw w W)=>gD W l id _ (h.bw gA B)
 rw [hf] at bb;have HH:=pA6 h;clear hB hp hf h;go_enter func242,ntmps242;go_wp2_with fail;refine (bb _ A0).mono ?_;rintro e w1 ⟨rfl,bx⟩;have B1:=A0.then bx;have ck:=(aA (B:=w.heap.size)).bw bx A0.size cj;clear bb cj bx A0;go_wp2
 go_loopg [7,9] n (fun g s i w'=>∃(k:Nat) (F:List Nat),k<=n/\g=n-k/\i=.int .i64 k/\WA w' (eF (DG e p (-1)) l k) [s] F/\sA w.heap.size F/\Bw w w')
 ·exact ⟨0,_,by omega,rfl,rfl,ck,⟨by simp,by simp⟩,B1⟩
 ·clear ck B1;obtain ⟨k,F,hk,rfl,rfl,hv,hF,bg⟩:=hrel;by_cases hlt:k<n
  ·go_wp2_with fail;refine (EE _ l e _ _ (HH.out.bw gA bg) (h'.bw jA bg)).mono ?_;rintro e wo ⟨rfl,cb⟩;rw [HB.out];have hb:=bg.then cb;obtain ⟨x,hx⟩:=tA (xs:=l) (k:=k) (by have:=L.out;omega);obtain ⟨b2,o2,Ax,cx,eA,_,bd,bf,bm⟩:=qB HH.out hx;injection eA with eA;injection eA with eA1 eA2;subst eA1 eA2;have bv:=pA6 (TA (AA HB.out) (List.mem_of_getElem? hx));have bn:=jB bv.out;rw [bn] at bf bm;have i1:(0:Int)<=(k:Int):=by omega
   have i2:(k:Int)<(n:Int):=by omega
   replace bd:=hb.cell bd;replace bf:=hb.cell bf;have bc:=pA6 (fun hf=>kJ (f:=DG e p (-1)) hx hf);have bt:=pA6 (fun hf=>BK (f:=DG e p (-1)) hx hf);have cd:=hb.cell cv;have cf:=hb.cell cc;have s0:=pA bd;have s1:=pA bf;have s2:=pA cd;have s3:=pA cf;have bk:∀s:eC wo,Calls prog 85 #[u,.agg #[.int .i64 p.id,.slice Ap 3 cp],.agg #[.int .i64 x.id,.slice Ax 3 cx]] s.1 (Ret s.1 (.int .i64 (zC e p x))):=fun s=>pG _ e p x _ _ _ (h'.bw jA (hb.then s.bw)) (Rd.bw dA cg (hb.then s.bw)) (Rd.bw dA bm (hb.then s.bw)) (yB HB.out) HP.out bv.out
   have bq:=(aA (B:=w.heap.size)).bw cb bg.size hv;obtain ⟨r,hr⟩:=pA7 (zC e p x);have HR:=pA6 (show DG e p (-1) x=decide (r=1) by rw [hr];exact lAm (yB HB.out) HP.out bv.out);rw [<-hr] at bk;clear hx bn hv hr cd cf;by_cases hr1:r=1
   ·have e1:(r==1)=true:=by simpa using hr1
    have bs:=pA6 (bc.out (by rw [HR.out];simpa using hr1));clear hr1 bc bt HR;go_wp2;refine IA (by kernel_rfl) ?_
    repeat (first | go_big_quiet_skip | (go_big_quiet_want;go_big_quiet_op;first | go_big_quiet_on | (apply Exists.intro;refine ⟨fun _=>?_,?_⟩;(· (((first | (go_at_call 85;exact DA (bk _))))));go_big_quiet_on)))
    refine JA fun wq hbq=>?_
    try dsimp only at *
    have bj:=hb.then hbq;replace bd:=hbq.cell bd;have bz:=pA6 (mJ (f:=DG e p (-1)) (l:=l) (k:=k));have bp:=(aA (B:=w.heap.size)).bw hbq hb.size bq;have cn:=(aA (B:=0)).lt bp;have dc:=(aA (B:=w.heap.size)).bw ((Bw.refl wq).alloc (.cells #[.int .i64 x.id] 3)) bj.size bp;have cs:=bj.alloc (.cells #[.int .i64 x.id] 3);have cz:=cell_one_new wq (.int .i64 x.id) 3;have ct:=bj.size;clear bp bq bk s0 s1 s2 s3 bf;go_wp2_with (at_builtin;refine lB _ rfl (.tmp 40) (.tmp 46) 26 rfl w 3 i0 _ 1 8 underlying26 hi dd df dj rfl (by omega) YA _ (eF (DG e p (-1)) l k) F rfl dc hF ⟨wq.heap.size,0,none⟩ 1 rfl x.id [.int .i64 x.id] [] cz ⟨rfl,rfl⟩ rfl _ cn sA.nil ct (by have:=bz.out;omega) (by have:=bz.out;omega) cs ?_;intro v' w' F' db cm cq)
    go_roundg (n-(k+1))
    ·exact ⟨k+1,F',by omega,rfl,by go_num,by rw [bs.out];exact db,cm,cq⟩
    ·omega
   ·have e1:(r==1)=false:=by simpa using hr1
    have bs:=pA6 (bt.out (by rw [HR.out];simpa using hr1));clear hr1 bc bt HR;go_wp2;refine IA (by kernel_rfl) ?_
    repeat (first | go_big_quiet_skip | (go_big_quiet_want;go_big_quiet_op;first | go_big_quiet_on | (apply Exists.intro;refine ⟨fun _=>?_,?_⟩;(· (((first | (go_at_call 85;exact DA (bk _))))));go_big_quiet_on)))
    refine JA fun wq hbq=>?_
    try dsimp only at *
    have bj:=hb.then hbq;have bp:=(aA (B:=w.heap.size)).bw hbq hb.size bq;clear bq bk s0 s1 s2 s3 bf bd;go_wp2
    go_roundg (n-(k+1))
    ·exact ⟨k+1,F,by omega,rfl,by go_num,by rw [bs.out];exact bp,hF,bj⟩
    ·omega
  ·obtain rfl:k=n:=by omega
   rw [lJ (by rw [<-L.out];exact Nat.le_refl _)] at hv;go_wp2;go_ret;exact ⟨_,rfl,⟨F,hv,hF⟩,bg⟩
theorem fT (w:World) (l:List iA) (e:List mA) (id:Int) (v u:Value) (h:Rd LA w l [v]) (h':Rd OA w e [u]) (hno:MB l e id=false) :
  Calls prog 242 #[v,u,.int .i64 id] w (WB w (nE WA w.heap.size [])):=by
 obtain ⟨A,n,c,rfl,L,Lc,Lm⟩:=yA h;have bg:=MA (e:=3) (sz:=1) (R:=IF) w;have A0:Bw w (w.alloc (.cells #[] 3)):=(Bw.refl w).alloc _;have bb:=fun W (B:Bw w W)=>gD W l id _ (h.bw gA B)
 have bc:=pA6 (TP hno);obtain ⟨K,hK⟩:=pA7 (rB l id);rw [<-hK] at bb bc;clear hno hK;go_enter func242,ntmps242;go_wp2_with fail;refine (bb _ A0).mono ?_;rintro e w1 ⟨rfl,bd⟩;have B1:=A0.then bd;have bj:=(aA (B:=w.heap.size)).bw bd A0.size bg;clear bb bg;have HH:=pA6 h;go_wp2
 go_loopg [7,9] 0 (fun g s i w'=>g=0/\i=.int .i64 0/\WA w' [] [s] [w.heap.size]/\Bw w w')
 ·exact ⟨rfl,rfl,bj,B1⟩
 ·clear bj B1 h;obtain ⟨rfl,rfl,hv,hb⟩:=hrel;have h:=HH.out;by_cases h0:0<n
  ·have k0:(0:Int)<(n:Int):=by omega
   by_cases hK:K<0
   ·have k1:¬(0<=K):=by omega
    clear hK;go_wp2;go_ret;exact ⟨_,rfl,⟨_,hv,⟨by simp,by simp⟩⟩,hb⟩
   ·have k1:0<=K:=by omega
    clear hK;have hE:Hid (kB l e=false):=by
     rcases pA8 (kB l e) with h1 | h1
     ·have:=bc.out h1;omega
     ·exact pA6 h1
    go_wp2_with fail;refine (EE _ l e _ _ (HH.out.bw gA hb) (h'.bw jA hb)).mono ?_;rintro e w2 ⟨rfl,bf⟩;rw [hE.out];have bk:=(aA (B:=w.heap.size)).bw bf hb.size hv;have B2:=hb.then bf;go_wp2;go_ret;exact ⟨_,rfl,⟨_,bk,⟨by simp,by simp⟩⟩,B2⟩
  ·obtain rfl:n=0:=by omega
   go_wp2;go_ret;exact ⟨_,rfl,⟨_,hv,⟨by simp,by simp⟩⟩,hb⟩
theorem BP (w:World) (l:List iA) (e:List mA) (id:Int) (v u:Value) (h:Rd LA w l [v]) (h':Rd OA w e [u]) :
  Calls prog 242 #[v,u,.int .i64 id] w (WB w (nE WA w.heap.size (xD l e id (-1)))):=by
 rcases pH l e id with hc | ⟨hB,j,p,hf,hp,_⟩
 ·rw [aAg hc];exact fT w l e id v u h h' hc
 ·rw [UQ hB hf hp];exact wR w l e id v u h h' hB j p hf hp
theorem CP (w:World) (l:List iA) (e:List mA) (id:Int) (v u:Value) (h:Rd LA w l [v]) (h':Rd OA w e [u]) :
  Calls prog 121 #[v,u,.int .i64 id] w (WB w (nE WA w.heap.size (xD l e id (-1)))):=by
 go_enter func121,ntmps121;go_wp2_with fail;refine (cZ _ l e id (-1) _ _ h h').mono ?_;rintro e w1 ⟨v1,rfl,⟨F1,o1,f1⟩,hb1⟩;go_wp2;go_ret;exact ⟨_,rfl,⟨F1,o1,f1⟩,hb1⟩
theorem xO {x:Int} (h : -1000000<=x/\x<=1000000):IntKind.i64.wrap x=x:=by
 simp [IntKind.wrap,IntKind.bits,IntKind.signed];omega
theorem OW (l:List iA) (x:iA) (hl:l.length<=16) (e:List mA) : -16<=((xD l e x.id (-1)).length:Int)-((xD l e x.id 1).length:Int)/\((xD l e x.id (-1)).length:Int)-((xD l e x.id 1).length:Int)<=16:=by
 have h1:=fG l e x.id (-1);have h2:=fG l e x.id 1;omega
theorem xR (w:World) (l:List iA) (g:List (List mA)) (v u:Value) (h:Rd LA w l [v]) (h':Rd kC w g [u]) (hP:OB l g=true):Calls prog 190 #[v,u] w (WB w (nE WA w.heap.size (l.map (wG l g)))):=by
 obtain ⟨i0,hi,dp,dq,ds⟩:=info_parts xC;have A0:Bw w (w.alloc (.cells #[] 3)):=(Bw.refl w).alloc _;have cf:=MA (e:=3) (sz:=1) (R:=IF) w;have bb:=PF _ l g _ _ (h.bw gA A0) (h'.bw xB A0);rw [hP] at bb;obtain ⟨A,n,c,rfl,L,Lc,Lm⟩:=yA h;obtain ⟨A2,n2,c2,rfl,L2,L2c,L2m⟩:=yA h';have dt:n<=16:=by rw [L.out];exact VA (NC hP)
 have n5:n2<=5:=by rw [L2.out];exact (JG (kF hP)).2
 have bm:Hid (l.length<=16):=pA6 (by rw [<-L.out];exact dt);have bt:=pA6 (fun W (B:Bw w W)=>h.bw gA B);have HH:=pA6 h;have bs:=pA6 h';clear hP h h';go_enter func190,ntmps190;go_wp2_with fail;refine (bb).mono ?_;rintro e w1 ⟨rfl,bj⟩;have B1:=A0.then bj;have cg:=(aA (B:=w.heap.size)).bw bj A0.size cf;clear bb cf bj;go_wp2
 go_loopg [5,19] n (fun gh s i w'=>∃(k:Nat) (F:List Nat),k<=n/\gh=n-k/\i=.int .i64 k/\WA w' (NK (wG l g) l k) [s] F/\sA w.heap.size F/\Bw w w')
 ·exact ⟨0,_,by omega,rfl,rfl,cg,⟨by simp,by simp⟩,B1⟩
 ·clear cg B1;obtain ⟨k,F,hk,rfl,rfl,hv,hF,hb⟩:=hrel
  rename World=>wo
  by_cases hlt:k<n
  ·have h:=HH.out;obtain ⟨x,hx⟩:=tA (xs:=l) (k:=k) (by have:=L.out;omega);obtain ⟨ba,oa,Ax,cx,rfl,_,c0,c1,df⟩:=qB h hx;replace c0:=hb.cell c0;replace c1:=hb.cell c1;have i1:(0:Int)<=(k:Int):=by omega
   have i2:(k:Int)<(n:Int):=by omega
   have cm:=pA6 (sM (f:=wG l g) hx);obtain ⟨M,hM⟩:=pA7 x.vals.length;rw [<-hM] at c1;have A1:=(Bw.refl wo).alloc (.cells #[.int .i64 x.id,.slice Ax M cx] 30);have p0:(wo.alloc (.cells #[.int .i64 x.id,.slice Ax M cx] 30)).cell? ⟨wo.heap.size,0,none⟩=some (.int .i64 x.id):=by go_simp
   obtain ⟨W1,bg⟩:=pA7 (wo.alloc (.cells #[.int .i64 x.id,.slice Ax M cx] 30));rw [<-bg] at A1 p0;have cq:=pA6 bg;have HE:=pA6 (EN (g:=g) (OW l x bm.out));have ck:=pA6 (show wG l g x=MK (fun e=>((xD l e x.id (-1)).length:Int)-((xD l e x.id 1).length:Int)) g g.length from rfl);have cj:=(aA (B:=w.heap.size)).bw A1 hb.size hv;have HL:=pA6 (sO (wG l g) l k);clear hx df hM bg h hv;go_wp2;rw [<-cq.out]
   go_loopg [8,25] n2 (fun gh s i w'=>∃(j:Nat) (q:Int),j<=n2/\gh=n2-j/\i=.int .i64 j/\s=.int .i64 q/\Hid (q=MK (fun e=>((xD l e x.id (-1)).length:Int)-((xD l e x.id 1).length:Int)) g j)/\Bw W1 w')
   ·exact ⟨0,0,by omega,rfl,rfl,rfl,pA6 rfl,Bw.refl _⟩
   ·obtain ⟨j,q,hj,rfl,rfl,rfl,HQ,bd⟩:=hrel;have bc:=hb.then (A1.then bd);replace p0:=bd.cell p0;by_cases hlt2:j<n2
    ·have h':=bs.out;obtain ⟨e,he⟩:=tA (xs:=g) (k:=j) (by have:=L2.out;omega);obtain ⟨b2,o2,Ae,ce,rfl,_,d0,bk⟩:=YG h' he;replace d0:=bc.cell d0;have i3:(0:Int)<=(j:Int):=by omega
     have i4:(j:Int)<(n2:Int):=by omega
     have dj:=HE.out j;rw [<-HQ.out] at dj;have dk:=HE.out (j+1);have HS:=pA6 (KW (f:=fun e=>((xD l e x.id (-1)).length:Int)-((xD l e x.id 1).length:Int)) he);have cc:=fG l e x.id (-1);have cd:=fG l e x.id 1;rw [<-L.out] at cc cd;have D1:Bw wr wr.drew:=(Bw.refl wr).drew;have t0:=D1.cell p0;have BD:=bc.then D1;have K1:=pA6 (fun W (B:Bw wr.drew W)=>CP W l e x.id _ _ (bt.out W (BD.then B)) (Rd.bw jA bk (BD.then B)));have K2:=pA6 (fun W (B:Bw wr.drew W)=>GI W l e x.id _ _ (bt.out W (BD.then B)) (Rd.bw jA bk (BD.then B)));have hQ:=Bw.refl wr.drew;obtain ⟨ME,bx⟩:=pA7 e.length;rw [<-bx] at d0 K1 K2;have cp:=pA6 (show q+(((xD l e x.id (-1)).length:Int)-((xD l e x.id 1).length:Int))=MK (fun e=>((xD l e x.id (-1)).length:Int)-((xD l e x.id 1).length:Int)) g (j+1) by rw [HS.out,HQ.out]);clear he bk bx h' dk;go_wp2_with fail
     go_region_held3 (fun w'=>w'.cell? ⟨wo.heap.size,0,none⟩=some (.int .i64 x.id)) (first | exact hQ.cell t0)
      (first
       | (go_at_call 121;refine (K1.out _ hQ).mono ?_;rintro e' w5 ⟨v5,rfl,⟨F5,o5,f5⟩,bz⟩;obtain ⟨A5,c5,rfl,_⟩:=XA (xA o5);replace hQ:=hQ.then bz;clear o5 f5 bz)
       | (go_at_call 105;refine (K2.out _ hQ).mono ?_;rintro e' w6 ⟨v6,rfl,⟨F6,o6,f6⟩,cb⟩;obtain ⟨A6,c6,rfl,_⟩:=XA (xA o6);replace hQ:=hQ.then cb;clear o6 f6 cb)
       | fail)
     all_goals
      have cz:=bd.then (D1.then hQ);have h':=bs.out;obtain ⟨m1,bn⟩:=pA7 ((xD l e x.id (-1)).length);obtain ⟨m2,bp⟩:=pA7 ((xD l e x.id 1).length);have bf:=cp.out;rw [<-bn] at cc ⊢;rw [<-bp] at cd ⊢;rw [<-bn,<-bp] at bf;have cn:=pA6 bf;clear bn bp bf hQ;go_wp2
      go_roundg (n2-(j+1))
      ·exact ⟨j+1,q+((m1:Int)-(m2:Int)),by omega,rfl,by go_num,by rw [xO (x:=q+(m1:Int)) (by omega),xO (by omega),Int.add_sub_assoc],cn,cz⟩
      ·omega
    ·obtain rfl:j=n2:=by omega
     have HF:=pA6 (show q=wG l g x by rw [ck.out,HQ.out,<-L2.out]);clear HQ;have bq:=(aA (B:=w.heap.size)).bw bd (hb.then A1).size cj;have bv:=(Bw.refl wr).alloc (.cells #[.int .i64 q] 3);have dn:=(aA (B:=w.heap.size)).bw bv bc.size bq;have ct:=(aA (B:=0)).lt bq;have db:=bc.then bv;have dd:=cell_one_new wr (.int .i64 q) 3;have dc:=bc.size;have h:=HH.out;clear cj bq;go_wp2_with (at_builtin;refine lB _ rfl (.tmp 45) (.tmp 47) 26 rfl w 3 i0 _ 1 8 underlying26 hi dp dq ds rfl (by omega) YA _ (NK (wG l g) l k) F rfl dn hF ⟨wr.heap.size,0,none⟩ 1 rfl q [.int .i64 q] [] dd ⟨rfl,rfl⟩ rfl _ ct sA.nil dc (by have:=HL.out;omega) (by have:=HL.out;omega) db ?_;intro v' w' F' dm cs cv)
     go_roundg (n-(k+1))
     ·exact ⟨k+1,F',by omega,rfl,by go_num,by rw [cm.out,<-HF.out];exact dm,cs,cv⟩
     ·omega
  ·obtain rfl:k=n:=by omega
   rw [tO (by rw [<-L.out];exact Nat.le_refl _)] at hv;go_wp2;go_ret;exact ⟨_,rfl,⟨F,hv,hF⟩,hb⟩
end Go.Proofs.YtpihighajaeabaaGreat
