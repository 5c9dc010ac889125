/- Parts of lists of items, in the program and in the reference. -/
import Derived.Test.YtpihighajaeabaaGreatXBestS
import Derived.Test.YtpihighajaeabaaGreatXLines
import Derived.Test.YtpihighajaeabaaGreatXCodes
import Derived.Test.YtpihighajaeabaaGreatXExprI
import Derived.Test.YtpihighajaeabaaGreatXIntss
import Derived.Test.YtpihighajaeabaaGreatXCostOf
namespace Go.Proofs.YtpihighajaeabaaGreat
open Go.RowKit Go.Proofs.Tryz
set_option linter.all false
set_option maxRecDepth 100000
set_option maxHeartbeats 16000000
theorem PW:∀ts:List XT,ts.length<=(SG ts).length
 | []=>Nat.le_refl _
 | t::ts=>by
  have h1:=bD t;have h2:=PW ts;have e:SG (t::ts)=NA t++SG ts:=by simp [SG]
  rw [e,List.length_append,List.length_cons];omega
theorem FZ (t:XT):SG [t]=NA t:=by simp [SG]
theorem SI (w:World) (e pre:List mA) (t:XT) (m:Nat) (v:Value) (h:Rd OA w e [v]) (hok:okT t) (hm:m<e.length) (h9:e.length<=9) (he:e.take (m+1)=pre++NA t) :
  Calls prog 181 #[v,.int .i64 (m:Int)] w (Ret w (.int .i64 (pre.length:Int))):=by
 have HT:=pA6 (show ∀s∈[t],okT s from fun s hs=>by simp at hs;rw [hs];exact hok);have HE:=pA6 (show e.take (m+1)=pre++SG [t] by rw [FZ];exact he);obtain ⟨A,n,c,rfl,L,Lc,Lm⟩:=yA h;rw [<-L.out] at hm h9;clear he hok;go_enter func181,ntmps181;go_wp2
 go_loopg [5,6] (m+1) (fun g d i w'=>∃(k:Nat) (ts:List XT) (z:Nat),k<n/\g=k+1/\i=.int .i64 k/\d=.int .i64 z/\Hid (z=ts.length)/\0<z/\z<=9/\Hid (∀s∈ts,okT s)/\Hid (e.take (k+1)=pre++SG ts)/\Bw w w')
 ·exact ⟨m,[t],1,hm,rfl,rfl,rfl,pA6 rfl,by omega,by omega,HT,HE,Bw.refl _⟩
 ·clear HT HE;obtain ⟨k,ts,z,hk,rfl,rfl,rfl,HZ,z0,z9,HT,HE,hb⟩:=hrel;obtain ⟨x,bc,hx,bf,bb,bg,cb⟩:=EZ HT.out (by rw [<-HZ.out];exact z0) HE.out (by rw [<-L.out];exact hk);obtain ⟨ba,oa,Al,cl,Ap,cp,rfl,_,c0,_⟩:=mE h hx;have i1:(0:Int)<=(k:Int):=by omega
  have i2:(k:Int)<(n:Int):=by omega
  replace c0:=hb.cell c0;have hO:=DV x.op;have bz:bc.length<=9:=by
   have h1:=PW bc;have h2:=congrArg List.length bg;rw [List.length_append,List.length_take,<-L.out] at h2;omega
  obtain ⟨O,bm⟩:=pA7 (aD x.op);have bp:∀W,Calls prog 184 #[.int .i64 x.op] W (Ret W (.int .i64 O)):=fun W=>by rw [bm];exact zK W x.op
  rw [<-bm] at bb hO;obtain ⟨y,hy⟩:=pA7 bc.length;rw [<-hy] at bb bz;rw [<-HZ.out] at bb;have HY:=pA6 hy;have bv:=pA6 bg;have bs:=pA6 bf;have bd:=pA6 bb;have bk:=pA6 (show y=0->(pre.length:Int)=(k:Int) from fun h0=>by
   have h2:=congrArg List.length bg;rw [show bc=[] from List.eq_nil_of_length_eq_zero (by rw [<-hy];exact h0),CZ,List.append_nil,List.length_take,<-L.out] at h2;omega)
  have bq:=pA6 (show 0<y->1<=k from fun h0=>by
   have h1:=DZ (ts:=bc) (by rw [<-hy];exact h0);have h2:=congrArg List.length bg;rw [List.length_append,List.length_take,<-L.out] at h2;omega)
  have HH:=pA6 h;clear hx bf bg cb bm hy bb h;go_wp2_with fail;refine (bp _).mono ?_;rintro e w2 ⟨rfl,bx⟩;have bn:=hb.then bx;have bj:O=(y:Int)-(z:Int)+1:=by have:=bd.out;omega
  clear bp bd c0;by_cases hy0:y=0
  ·have e1:((z:Int)-1+O==0)=true:=by simp;omega
   have HF:=pA6 (bk.out hy0);have hO4:=pA6 bj;clear bj;go_wp2;go_ret;exact Ret.int (HF.out.symm) (bn)
  ·have e1:((z:Int)-1+O==0)=false:=by simp;omega
   have hk1:=bq.out (by omega);have bt:=pA6 bj;have h:=HH.out;clear bj;go_wp2
   go_roundg k
   ·exact ⟨k-1,bc,y,by omega,by omega,by go_num,by have:=bt.out;go_num,HY,by omega,by omega,bs,pA6 (by rw [show k-1+1=k by omega];exact bv.out),bn⟩
   ·omega
theorem AO (w:World) (e pre:List mA) (t:XT) (m:Nat) (v:Value) (h:Rd OA w e [v]) (hok:okT t) (hm:m<e.length) (h9:e.length<=9) (he:e.take (m+1)=pre++NA t) :
  Calls prog 294 #[v,.int .i64 (m:Int)] w (Ret w (.int .i64 (pre.length:Int))):=by
 have HT:=pA6 (show ∀s∈[t],okT s from fun s hs=>by simp at hs;rw [hs];exact hok);have HE:=pA6 (show e.take (m+1)=pre++SG [t] by rw [FZ];exact he);obtain ⟨A,n,c,rfl,L,Lc,Lm⟩:=yA h;rw [<-L.out] at hm h9;clear he hok;go_enter func294,ntmps294;go_wp2
 go_loopg [5,6] (m+1) (fun g d i w'=>∃(k:Nat) (ts:List XT) (z:Nat),k<n/\g=k+1/\i=.int .i64 k/\d=.int .i64 z/\Hid (z=ts.length)/\0<z/\z<=9/\Hid (∀s∈ts,okT s)/\Hid (e.take (k+1)=pre++SG ts)/\Bw w w')
 ·exact ⟨m,[t],1,hm,rfl,rfl,rfl,pA6 rfl,by omega,by omega,HT,HE,Bw.refl _⟩
 ·clear HT HE;obtain ⟨k,ts,z,hk,rfl,rfl,rfl,HZ,z0,z9,HT,HE,hb⟩:=hrel;obtain ⟨x,bd,hx,bm,bb,bn,bz⟩:=EZ HT.out (by rw [<-HZ.out];exact z0) HE.out (by rw [<-L.out];exact hk);obtain ⟨ba,oa,Al,cl,Ap,cp,rfl,_,c0,_⟩:=mE h hx;have i1:(0:Int)<=(k:Int):=by omega
  have i2:(k:Int)<(n:Int):=by omega
  replace c0:=hb.cell c0;have hO:=DV x.op;have cc:bd.length<=9:=by
   have h1:=PW bd;have h2:=congrArg List.length bn;rw [List.length_append,List.length_take,<-L.out] at h2;omega
  obtain ⟨O,bv⟩:=pA7 (aD x.op);rw [<-bv] at bb hO;obtain ⟨y,hy⟩:=pA7 bd.length;rw [<-hy] at bb cc;rw [<-HZ.out] at bb;have HY:=pA6 hy;have bt:=pA6 bn;have bq:=pA6 bm;have bf:=pA6 bb;have bj:=pA6 (show y=0->(pre.length:Int)=(k:Int) from fun h0=>by
   have h2:=congrArg List.length bn;rw [show bd=[] from List.eq_nil_of_length_eq_zero (by rw [<-hy];exact h0),CZ,List.append_nil,List.length_take,<-L.out] at h2;omega)
  have bp:=pA6 (show 0<y->1<=k from fun h0=>by
   have h1:=DZ (ts:=bd) (by rw [<-hy];exact h0);have h2:=congrArg List.length bn;rw [List.length_append,List.length_take,<-L.out] at h2;omega)
  have HH:=pA6 h;have cb:=pA6 bz;have bs:=pA6 bv;clear hx bm bn bz bv hy bb h;have bc:O=(y:Int)-(z:Int)+1:=by have:=bf.out;omega
  have hz:=World.block_lt_of_cell? _ _ c0;clear bf;rcases cb.out with o0 | o0 | o0
  ·have q0:(x.op==0)=true:=by simpa using o0
   have bk:O=0:=by rw [bs.out,o0];rfl
   clear o0;subst bk;by_cases hy0:y=0
   ·have e1:(((z:Int)-1)==0)=true:=by simp;omega
    have HF:=pA6 (bj.out hy0);clear bc;go_wp2;go_ret;exact Ret.int (HF.out.symm) (hb)
   ·have e1:(((z:Int)-1)==0)=false:=by simp;omega
    have bx:=bp.out (by omega);have bg:=pA6 bc;have h:=HH.out;clear bc;go_wp2
    go_roundg k
    ·exact ⟨k-1,bd,y,by omega,by omega,by go_num,by have:=bg.out;go_num,HY,by omega,by omega,bq,pA6 (by rw [show k-1+1=k by omega];exact bt.out),hb⟩
    ·omega
  ·have q0:(x.op==0)=false:=by simp;omega
   have q3:(x.op==3)=true:=by simpa using o0
   have bk:O=1:=by rw [bs.out,o0];rfl
   clear o0;subst bk;by_cases hy0:y=0
   ·omega
   ·have e1:(((z:Int)-1+1)==0)=false:=by simp;omega
    have bx:=bp.out (by omega);have bg:=pA6 bc;have h:=HH.out;clear bc;go_wp2
    go_roundg k
    ·exact ⟨k-1,bd,y,by omega,by omega,by go_num,by have:=bg.out;go_num,HY,by omega,by omega,bq,pA6 (by rw [show k-1+1=k by omega];exact bt.out),hb⟩
    ·omega
  ·have q0:(x.op==0)=false:=by unfold jG at o0;simp;omega
   have q3:(x.op==3)=false:=by unfold jG at o0;simp;omega
   have bk:O=2:=by rw [bs.out,nK o0]
   clear o0;subst bk;by_cases hy0:y=0
   ·have e1:(((z:Int)-1+2)==0)=true:=by simp;omega
    have HF:=pA6 (bj.out hy0);clear bc;go_wp2;go_ret;exact Ret.int (HF.out.symm) (hb)
   ·have e1:(((z:Int)-1+2)==0)=false:=by simp;omega
    have bx:=bp.out (by omega);have bg:=pA6 bc;have h:=HH.out;clear bc;go_wp2
    go_roundg k
    ·exact ⟨k-1,bd,y,by omega,by omega,by go_num,by have:=bg.out;go_num,HY,by omega,by omega,bq,pA6 (by rw [show k-1+1=k by omega];exact bt.out),hb⟩
    ·omega
theorem iA7:∀ {l:List Int} {p:Int},VC (some p) l=true->p<=9->(l.length:Int)<=9-p
 | [],p,_,h=>by simp;omega
 | v::l,p,h,hp=>by
  simp only [VC,Bool.and_eq_true,decide_eq_true_eq] at h;have hv:=pD.1 h.1.1;have:=iA7 h.2 hv.2;simp only [List.length_cons];omega
theorem gAk {x:AB} (h:DB x=true):x.list.length<=10/\x.pairs.length<=8:=by
 unfold DB at h;simp only [Bool.and_eq_true] at h;refine ⟨?_,?_⟩
 ·have ha:=h.2.2.2.1
  match hl:x.list,ha with
  | [],_=>simp
  | v::l,ha=>
   simp only [VC,Bool.and_eq_true] at ha;have hv:=pD.1 ha.1;have:=iA7 ha.2 hv.2;simp only [List.length_cons];omega
 ·have hp:=h.2.2.2.2.2.2
  split at hp
  ·unfold ZB at hp;simp only [Bool.and_eq_true,decide_eq_true_eq] at hp;exact hp.2.1
  ·rw [decide_eq_true_eq] at hp;omega
theorem eU:∀ {e:List mA} {d r:Int},qC e d=some r->∀n∈e,dL n<=18
 | [],_,_,_,n,hn=>by simp at hn
 | m::e,d,r,h,n,hn=>by
  rw [qC] at h
  split at h
  ·rename_i hk
   rcases List.mem_cons.1 hn with h1 | h1
   ·subst h1;unfold vD at hk;simp only [Bool.and_eq_true] at hk;have hw:=hk.2.2
    split at hw
    ·have:=gAk hw;unfold dL UU;omega
    ·rw [decide_eq_true_eq] at hw;unfold dL UU;rw [hw];simp [KA]
   ·exact eU h n h1
  ·cases h
theorem lAr {α:Type} (f:α->Nat) (B:Nat):∀ {l:List α},(∀x∈l,f x<=B)->JH f l<=B*l.length
 | [],_=>by simp [JH]
 | x::l,h=>by
  have h1:=h x (by simp);have h2:=lAr f B (l:=l) (fun y hy=>h y (by simp [hy]));simp only [JH,List.length_cons,Nat.mul_add];omega
theorem wF {e:List mA} (h:pB e=true):sB e<=171:=by
 unfold pB at h;rw [Bool.and_eq_true,decide_eq_true_eq,decide_eq_true_eq] at h;have:=lAr dL 18 (eU h.1);unfold sB;omega
theorem bA2 {α:Type} {sz:Nat} {R:Rep α} {w:World} {S:JC} {xs:List α} {b o n c:Nat} (h:rSl sz R w S xs [.slice (some ⟨b,o,none⟩) n c]) (i k:Nat) (hik:i<=k) (hk:k<=n) (hn:n=xs.length) :
  rSl sz R w S ((xs.drop i).take (k-i)) [.slice (some ⟨b,o+i*sz,none⟩) (k-i) (c-i)]:=by
 obtain ⟨A,c',e,h1,h2,h3⟩:=h;injection e with e _;injection e with e1 e2 e3;subst e1 e3;have hl:((xs.drop i).take (k-i)).length=k-i:=by rw [List.length_take,List.length_drop];omega
 refine ⟨_,c-i,by rw [hl],by rw [hl];omega,Nat.le_trans (Nat.sub_le _ _) h2,fun j x hx=>?_⟩;have hj:j<k-i:=by rw [<-hl];exact (List.getElem?_eq_some_iff.1 hx).1
 rw [List.getElem?_take,if_pos hj,List.getElem?_drop] at hx;obtain ⟨b',o',us,eA,hS,bb,hc,hr⟩:=h3 (i+j) x hx;injection eA with eA;injection eA with e4 e5 _;subst e4 e5;refine ⟨b,o+i*sz,us,rfl,hS,bb,fun t u hu=>?_,hr⟩;have:=hc t u hu;rw [show o+i*sz+j*sz+t=o+(i+j)*sz+t by rw [Nat.add_mul];omega];exact this
def xG:XT->Int
 | .base _=>0
 | .dual _=>3
 | .two op _ _=>op
theorem jAm:∀t:XT,∃n,(NA t)[(NA t).length-1]? = some n/\n.op=xG t
 | .base w=>⟨⟨0,w⟩,by simp [NA],rfl⟩
 | .dual t=>⟨⟨3,KA⟩,by simp [NA],rfl⟩
 | .two op a b=>⟨⟨op,KA⟩,by
   have:NA (.two op a b)=(NA a++NA b)++[⟨op,KA⟩]:=by simp [NA]
   rw [this];simp,rfl⟩
theorem RD (op:Int) (a b:XT):(NA (.two op a b)).length=(NA a).length+(NA b).length+1:=by simp [NA];omega
theorem eA4 {t:XT} (hok:okT t) (h9:(NA t).length<=9):sB (NA t)<=1048576:=by have:=wF (dU hok h9);omega
theorem nAg {α:Type} (pre x post:List α):((pre++(x++post)).drop pre.length).take x.length=x:=by simp
theorem xF {α:Type} (pre x post:List α):(pre++(x++post)).take (pre.length+x.length)=pre++x:=by
 rw [<-List.append_assoc,<-List.length_append,List.take_left'];rfl
theorem RF {α:Type} {sz:Nat} {R:Rep α} {w:World} {S:JC} {e pre x post:List α} {b o n c:Nat} (h:rSl sz R w S e [.slice (some ⟨b,o,none⟩) n c]) (hn:n=e.length) (he:e=pre++(x++post)) {i k:Nat} (hi:i=pre.length) (hk:k=pre.length+x.length) :
  rSl sz R w S x [.slice (some ⟨b,o+i*sz,none⟩) (k-i) (c-i)]:=by
 have h1:=bA2 h i k (by omega) (by rw [hn,he];simp;omega) hn;rw [he,hi,show k-pre.length=x.length by omega,nAg,<-hi] at h1;rw [show k-i=x.length by omega];exact h1
theorem QW (w:World) (op:Int) (a b:XT) (e pre post:List mA) (ba oa n m c:Nat) (h:Rd OA w e [.slice (some ⟨ba,oa,none⟩) n c]) (hL:Hid (n=e.length)) (he:e=pre++(NA (.two op a b)++post)) (hok:okT (.two op a b)) (h9:e.length<=9) (hm:m+1=pre.length+(NA (.two op a b)).length) (hc:n<=c) (hc2:c<=9223372036854775807) :
  Calls prog 295 #[.slice (some ⟨ba,oa,none⟩) n c,.int .i64 (m:Int)] w (fun e' w'=>∃va vb F G q,e'=.returned (.tuple #[va,vb])/\mC w' (NA a) [va] F/\mC w' (NA b) [vb] G/\sA w.heap.size F/\(∀z∈F,z<q)/\sA q G/\w.heap.size<=q/\Bw w w'):=by
 have bg:=RD op a b;have ha:=bD a;have hb:=bD b;have bz:e.length=pre.length+(NA (.two op a b)).length+post.length:=by rw [he];simp;omega
 have bd:e=pre++(NA a++(NA b++(⟨op,KA⟩::post))):=by rw [he];simp [NA]
 have bf:e=(pre++NA a)++(NA b++(⟨op,KA⟩::post)):=by rw [bd];simp
 have bb:e.take (m+1)=pre++NA (.two op a b):=by rw [hm,he];exact xF _ _ _
 obtain ⟨k,hk⟩:=pA7 (pre.length+(NA a).length);obtain ⟨p,hp⟩:=pA7 pre.length;have cb:m=k+(NA b).length:=by omega
 have bm:e.take (m-1+1)=(pre++NA a)++NA b:=by
  rw [show m-1+1=(pre++NA a).length+(NA b).length by rw [List.length_append];omega,bf];exact xF _ _ _
 have ta:=eA4 hok.2.1 (by omega);have tb:=eA4 hok.2.2 (by omega);have bc:=fun W (B:Bw w W)=>AO W e (pre++NA a) b (m-1) _ (h.bw jA B) hok.2.2 (by omega) h9 bm
 have bj:=fun W (B:Bw w W)=>AO W e pre (.two op a b) m _ (h.bw jA B) hok (by omega) h9 bb
 have r1:OA w (lt w) (NA a) [.slice (some ⟨ba,oa+p*6,none⟩) (k-p) (c-p)]:=RF h hL.out bd hp hk;have r2:OA w (lt w) (NA b) [.slice (some ⟨ba,oa+k*6,none⟩) (m-k) (c-k)]:=RF h hL.out bf (by rw [hk,List.length_append]) (by rw [List.length_append];omega);rw [List.length_append,<-hk] at bc;rw [<-hp] at bj;have n2:(((m-1:Nat):Int))=(m:Int)-1:=by omega
 simp only [n2] at bc;have bn:=pA6 bc;have bp:=pA6 bj;have cA:=pA6 (fun W (B:Bw w W)=>gG W (NA a) (.slice (some ⟨ba,oa+p*6,none⟩) (k-p) (c-p)) (Rd.bw jA r1 B) ta);have cB:=pA6 (fun W (B:Bw w W)=>gG W (NA b) (.slice (some ⟨ba,oa+k*6,none⟩) (m-k) (c-k)) (Rd.bw jA r2 B) tb);have cc:=hL.out;have k1:(0:Int)<=(p:Int):=by omega
 have k2:(p:Int)<=(k:Int):=by omega
 have k3:(k:Int)<=(m:Int):=by omega
 have k4:(m:Int)<=(c:Int):=by omega
 have k5:(0:Int)<=(k:Int):=by omega
 have k6:(k:Int)<=(c:Int):=by omega
 have k7:(0:Int)<(m:Int):=by omega
 have k8:(0:Int)<=(m:Int):=by omega
 have HCP:=pA6 (show c-p≠0/\c-k≠0 by omega);have hcp:¬c<=p:=by omega
 have hck:¬c<=k:=by omega
 have hcp2:¬c=p:=by omega
 have hck2:¬c=k:=by omega
 clear bm bb ta tb bc bj n2 bg he bd bf hk hp hm cb hok r1 r2 cc bz ha hb;go_enter func295,ntmps295;go_wp2_with fail;refine (bn.out _ (Bw.refl w)).mono ?_;rintro e w1 ⟨rfl,bt⟩;have hB:=bt.drew;go_wp2_with fail
 go_region_held3 (fun w'=>True) (exact trivial)
  (first
   | (go_at_call 294;refine (bp.out _ hB).mono ?_;rintro e' w5 ⟨rfl,bv⟩;replace hB:=hB.then bv)
   | (go_at_call_of 110 (Value.slice (some ⟨ba,oa+p*6,none⟩) (k-p) (c-p));refine (cA.out _ hB).mono ?_;rintro e' wA ⟨vA,rfl,⟨FA,oA,fA⟩,bx⟩;have bq:=hB;replace hB:=hB.then bx;have cd:=(kA (B:=0)).lt oA)
   | (go_at_call_of 110 (Value.slice (some ⟨ba,oa+k*6,none⟩) (m-k) (c-k));refine (cB.out _ hB).mono ?_;rintro e' wB ⟨vB,rfl,⟨FB,oB,fB⟩,bk⟩;have bs:=hB;replace hB:=hB.then bk;have cf:=nA bk kA oA))
 all_goals
  go_wp2;exact bodyPost_ret (v:=.tuple #[vA,vB]) (by simp [results,results295,go_sem]) rfl ⟨_,_,FA,FB,wA.heap.size,rfl,cf,oB,fA.mono bq.size,cd,fB,bs.size,hB⟩
theorem eA5 {α:Type} (f:α->Nat) (a b:List α):JH f (a++b)=JH f a+JH f b:=by
 induction a with
 | nil=>simp [JH]
 | cons x a ih=>simp only [List.cons_append,JH,ih];omega
theorem sC (a b:List mA):sB (a++b)=sB a+sB b:=by
 unfold sB;rw [eA5,List.length_append];omega
theorem JN (w:World) (t:XT) (e pre post xs:List mA) (ba oa n m c:Nat) (vx:Value) (h:Rd OA w e [.slice (some ⟨ba,oa,none⟩) n c]) (hx:Rd OA w xs [vx]) (hL:Hid (n=e.length)) (he:e=pre++(NA t++post)) (hok:okT t) (h9:e.length<=9) (ht:sB e<=1000) (htx:sB xs<=1000) (hxl:xs.length<=1000) (hm:m+1=pre.length+(NA t).length) (hc:n<=c) (hc2:c<=9223372036854775807) :
  Calls prog 293 #[.slice (some ⟨ba,oa,none⟩) n c,.int .i64 (m:Int),vx] w (WB w (nE mC w.heap.size (pre++(xs++post)))):=by
 obtain ⟨i0,hi,bv,bx,bz⟩:=info_parts tH;have cf:e.length=pre.length+(NA t).length+post.length:=by rw [he];simp;omega
 have cd:=bD t;have cm:sB pre<=1048576/\sB post<=1048576:=by
  rw [he,sC,sC] at ht;omega
 have bc:e.take (m+1)=pre++NA t:=by rw [hm,he];exact xF _ _ _
 have bq:e=[]++(pre++(NA t++post)):=by rw [he];rfl
 have bs:e=(pre++NA t)++(post++[]):=by rw [he];simp
 obtain ⟨p,hp⟩:=pA7 pre.length;have st:=AO w e pre t m _ h hok (by omega) h9 bc;rw [<-hp] at st;have cj:=hL.out;have r1:OA w (lt w) pre [.slice (some ⟨ba,oa,none⟩) p c]:=by
  have:=RF (i:=0) (k:=p) h hL.out bq (by simp) (by simp [hp]);rw [Nat.zero_mul,Nat.add_zero,Nat.sub_zero,Nat.sub_zero] at this;exact this
 have r3:∀A,m+1=n->OA w (lt w) post [.slice A 0 0]:=fun A cg=>by
  have ck:post=[]:=List.eq_nil_of_length_eq_zero (by omega);rw [ck];exact ⟨A,0,rfl,Nat.le_refl _,by simp [maxLen],fun k x hx=>by simp at hx⟩
 have r2:OA w (lt w) post [.slice (some ⟨ba,oa+(m+1)*6,none⟩) (n-(m+1)) (c-(m+1))]:=by
  have:=RF (i:=m+1) (k:=n) h hL.out bs (by rw [List.length_append];omega) (by rw [List.length_append];omega);exact this
 have R3:=pA6 r3;have hpn:p<=n:=by omega
 have cg:m+1<=n:=by omega
 have bt:pre.length<=9/\post.length<=9:=by omega
 have bb:=pA6 bt;have bk:=pA6 cm;have k1:(0:Int)<=(p:Int):=by omega
 have k2:(p:Int)<=(c:Int):=by omega
 have k3:(0:Int)<=(m:Int)+1:=by omega
 have k4:(m:Int)+1<=(n:Int):=by omega
 have k5:(n:Int)<=(c:Int):=by omega
 have hxl':=hxl;clear bc he bq bs hp cf cd cj hok ht hm bt r3 h h9;by_cases hcc:c<=m+1;rotate_left
 focus
  have hcc2:¬c=m+1:=by omega
 rotate_right
 focus
  obtain rfl:n=m+1:=by omega
  obtain rfl:c=m+1:=by omega
  have r2:=R3.out (some ⟨ba,oa,none⟩) rfl;clear hcc
 all_goals
  go_enter func293,ntmps293;go_wp2_with fail;refine (st).mono ?_;rintro e w1 ⟨rfl,bd⟩;have bm:=gG w1 pre _ (Rd.bw jA r1 bd) bk.out.1;clear st;go_wp2_with fail;refine bm.mono ?_;rintro e2 w2 ⟨v2,rfl,⟨F2,o2,f2⟩,cc⟩;have B2:=bd.then cc;have bn:=gG w2 xs vx (hx.bw jA B2) (by omega);have cb:sA w.heap.size F2:=f2.mono bd.size;have cq:=(kA (B:=0)).lt o2;clear bm f2;go_wp2_with fail;refine bn.mono ?_;rintro e3 w3 ⟨v3,rfl,⟨F3,o3,f3⟩,bf⟩;have ct:=nA bf kA o2;have B3:=B2.then bf;have cn:=B2.size;clear bn o2 bf;go_wp2_with (at_builtin;refine QF _ rfl (.tmp 14) (.tmp 16) 25 rfl w 111 i0 _ 6 80 underlying25 hi bv bx bz rfl (by omega) vC v2 pre F2 rfl ct cb v3 rfl xs F3 o3 w2.heap.size cq f3 cn (by have:=bb.out;omega) (by have:=bb.out;omega) B3 ?_;intro v4 w4 F4 o4 f4 B4 hO4 hs4);have cs:=(kA (B:=0)).lt o4;have bp:=gG w4 post _ (Rd.bw jA r2 B4) bk.out.2;have cp:=B4.size;have bj:=pA6 (show (pre++xs).length<=2000 by rw [List.length_append];have:=bb.out;omega);refine bp.mono ?_;rintro e5 w5 ⟨v5,rfl,⟨F5,o5,f5⟩,bg⟩;have cv:=nA bg kA o4;have B5:=B4.then bg;clear bp o4 bg;go_wp2_with (at_builtin;refine QF _ rfl (.tmp 18) (.tmp 23) 25 rfl w 111 i0 _ 6 80 underlying25 hi bv bx bz rfl (by omega) vC v4 (pre++xs) F4 rfl cv f4 v5 rfl post F5 o5 w4.heap.size cs f5 cp (by have:=bj.out;have:=bb.out;omega) (by have:=bj.out;have:=bb.out;omega) B5 ?_;intro v6 w6 F6 o6 f6 B6 hO6 hs6)
  go_ret;rw [List.append_assoc] at o6;exact ⟨_,rfl,⟨F6,o6,f6⟩,B6⟩
abbrev oAv (B:Nat):Fp (List iA):=fSl 30 2 (fSh B XM)
def eAk {α:Type} (S:JC) (R:Rep α):Fp α:=fun w x cs F=>F=[]/\R w S x cs/\∀u∈cs,u.oneCell'=true
theorem oK {α:Type} {B:Nat} {S:JC} {R:Rep α} (hR:rK R) (hS:∀b,S b->b<B):tC B (eAk S R):=
 ⟨fun hw ⟨hF,h,h1⟩=>⟨hF,hR.step ⟨fun _ hb=>hb,fun p hp=>World.cell?_of_block (hw _ (.inr (hS _ hp)))⟩ h,h1⟩,fun h b hb=>by rw [h.1] at hb;simp at hb,fun h=>h.2.2⟩
abbrev XI (S:JC):Fp (List iA):=fSl 30 2 (eAk S XM)
theorem dK {S:JC} {w:World} {xs:List iA} {v:Value} {F:List Nat} (h:XI S w xs [v] F):LA w (fun b=>b∈F\/S b) xs [v]:=by
 obtain ⟨v0,us,Fs,e,bc,bb,bd⟩:=h;injection e with e;subst e;have hl:=qF bb;have bf:∀u∈us,u.length=2:=fun u hu=>by obtain ⟨x,f,hr⟩:=bF bb hu;exact hr.2
 obtain ⟨A,c,rfl,h1,h2,h3⟩:=FT bc hl.1 bf;refine ⟨A,c,rfl,h1,h2,fun k x hx=>?_⟩;obtain ⟨u,f,hu,hf,hr⟩:=QU bb hx;obtain ⟨b,rfl,hb,hc⟩:=h3 k u hu;exact ⟨b,0,u,rfl,.inl (by simp [bd,hb]),hr.2,hc,qG.step ⟨fun _ hb=>.inr hb,fun _ _=>rfl⟩ hr.1.2.1⟩
theorem nAn {w W:World} {S:JC} (hS:∀b,S b->b<w.heap.size) (hB:Bw w W) {x:iA} {A:Option Addr} {c:Nat} (h:aB w S x.vals [.slice A x.vals.length c]):eAk S XM W x [.int .i64 x.id,.slice A x.vals.length c] []:=by
 refine ⟨rfl,⟨_,rfl,?_⟩,fun u hu=>?_⟩
 ·exact dA.step ⟨fun _ h=>h,fun p hp=>Below.cell hB (hS _ hp)⟩ h
 ·simp at hu;rcases hu with rfl | rfl<;>rfl
theorem bAe (w:World) (l:List iA) (ids:List Int) (b:Bool) (v u:Value) (S:JC) (hS:∀b,S b->b<w.heap.size) (h:LA w S l [v]) (h':Rd aB w ids [u]) (hn:l.length<=1048576):Calls prog 98 #[v,u,.bool b] w (WB w (nE (XI S) w.heap.size (QB l ids b))):=by
 obtain ⟨i0,hi,ck,cm,cn⟩:=info_parts IG;obtain ⟨A,n,c,rfl,L,Lc,Lm⟩:=yA h;rw [<-L.out] at hn;have bv:=MA (e:=30) (sz:=2) (R:=eAk S XM) w;go_enter func98,ntmps98;go_wp2
 go_loopg [7,13] n (fun g s i w'=>∃(k:Nat) (F:List Nat),k<=n/\g=n-k/\i=.int .i64 k/\XI S w' (FI l ids b k) [s] F/\sA w.heap.size F/\Bw w w')
 ·exact ⟨0,_,by omega,rfl,rfl,bv,⟨by simp,by simp⟩,(Bw.refl _).alloc _⟩
 ·clear bv;obtain ⟨k,F,hk,rfl,rfl,hv,hF,hb⟩:=hrel;by_cases hlt:k<n
  ·obtain ⟨x,hx⟩:=tA (xs:=l) (k:=k) (by have:=L.out;omega);obtain ⟨ba,oa,Ax,cx,rfl,_,bj,bk,bs⟩:=qB h hx;have i1:(0:Int)<=(k:Int):=by omega
   have i2:(k:Int)<(n:Int):=by omega
   replace bj:=hb.cell bj;replace bk:=hb.cell bk;have hbx:=World.block_lt_of_cell? _ _ bj;have bf:=pA6 (fun hc=>JV (ids:=ids) (b:=b) hx hc);have bz:=pA6 (fun hc=>WY (ids:=ids) (b:=b) hx hc);have HH:=pA6 h;have bx:=pA6 bs;have A1:Bw wr (wr.alloc (.cells #[.int .i64 x.id,.slice Ax x.vals.length cx] 30)):=(Bw.refl wr).alloc _;have bb:=hb.then A1;have GG:tC w.heap.size (XI S):=CC (oK qG hS);have bd:=GG.bw A1 hb.size hv;have bp:=GG.lt bd;obtain ⟨M,hM⟩:=pA7 x.vals.length;rw [<-hM] at bk A1 bb bd bp;have HM:=pA6 hM;clear hx h hv bs hM;go_wp2_with fail;refine (CE _ ids x.id _ (h'.bw dA bb)).mono ?_;rintro e w2 ⟨rfl,bc⟩;have p0:w2.cell? ⟨wr.heap.size,0,none⟩=some (.int .i64 x.id):=bc.cell (by go_simp);have p1:w2.cell? ⟨wr.heap.size,1,none⟩=some (.slice Ax M cx):=bc.cell (by go_simp);have bg:=bb.then bc;have bm:=GG.bw bc bb.size bd;clear bd;by_cases hcb:ids.contains x.id=b
   ·have HB:=pA6 (bf.out hcb);have e1:(ids.contains x.id==b)=true:=by simpa using hcb
    obtain ⟨d,hd⟩:=pA7 (ids.contains x.id);rw [<-hd] at e1 ⊢;have cj:=GG.bw ((Bw.refl w2).alloc (.cells #[.int .i64 x.id,.slice Ax M cx] 30)) bg.size bm;have bq:=bg.alloc (.cells #[.int .i64 x.id,.slice Ax M cx] 30);have cf:∀j t,[Value.int .i64 x.id,.slice Ax M cx][j]? = some t->(w2.alloc (.cells #[.int .i64 x.id,.slice Ax M cx] 30)).cell? ((⟨w2.heap.size,0,none⟩:Addr).add j)=some t:=World.news_of_block (cs:=#[.int .i64 x.id,.slice Ax M cx]) (t:=30) (fr:=(0,0)) (heap_alloc_new w2 _);have hy:eAk S XM (w2.alloc (.cells #[.int .i64 x.id,.slice Ax M cx] 30)) x [.int .i64 x.id,.slice Ax M cx] []:=by rw [HM.out];exact nAn hS (by rw [<-HM.out];exact bq) bx.out
    have bt:=LV (l:=l) (ids:=ids) (b:=b) (k:=k);have bn:=pA6 bt;have cd:=bb.size;clear hcb hd bm bt;go_wp2_with (at_builtin;refine lB _ rfl (.tmp 23) (.tmp 25) 24 rfl w 30 i0 _ 2 32 underlying24 hi ck cm cn rfl (by omega) (oK qG hS) _ (FI l ids b k) F rfl cj hF ⟨w2.heap.size,0,none⟩ 1 rfl x [.int .i64 x.id,.slice Ax M cx] [] cf hy rfl _ bp sA.nil cd (by have:=bn.out;omega) (by have:=bn.out;omega) bq ?_;intro v' w' F' cg cb cc)
    go_roundg (n-(k+1))
    ·exact ⟨k+1,F',by omega,rfl,by go_num,by rw [HB.out];exact cg,cb,cc⟩
    ·omega
   ·have HB:=pA6 (bz.out (by cases hq:ids.contains x.id<;>cases b<;>simp_all));have e1:(ids.contains x.id==b)=false:=by simpa using hcb
    obtain ⟨d,hd⟩:=pA7 (ids.contains x.id);rw [<-hd] at e1 ⊢;clear hcb hd;go_wp2
    go_roundg (n-(k+1))
    ·exact ⟨k+1,F,by omega,rfl,by go_num,by rw [HB.out];exact bm,hF,bg⟩
    ·omega
  ·obtain rfl:k=n:=by omega
   rw [KV (by rw [<-L.out];exact Nat.le_refl _)] at hv;go_wp2;go_ret;exact ⟨_,rfl,⟨F,hv,hF⟩,hb⟩
end Go.Proofs.YtpihighajaeabaaGreat
