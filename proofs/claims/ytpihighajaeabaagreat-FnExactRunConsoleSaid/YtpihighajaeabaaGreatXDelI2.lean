/- An item is taken from a standing answer, in the program: the ways on which it is taken. -/
import Derived.Test.YtpihighajaeabaaGreatXApply
import Derived.Test.YtpihighajaeabaaGreatXDelS
import Derived.Test.YtpihighajaeabaaGreatXSortU
import Derived.Test.YtpihighajaeabaaGreatXExclI
import Derived.Test.YtpihighajaeabaaGreatXDelW
import Derived.Deep.RegionLaw
import Derived.IntWalk
namespace Go.Proofs.YtpihighajaeabaaGreat
open Go.RowKit Go.Proofs.Tryz
set_option linter.all false
set_option maxRecDepth 100000
set_option maxHeartbeats 16000000
noncomputable def PK (e:List mA) (k:Nat):Nat->Nat->Option (List mA)
 | 0,_=>none
 | f+1,r=>if (eE e r k).2 then some (eE e r k).1 else PK e k f (r+1)
noncomputable def cK (e:List mA) (k:Nat):Option (List mA):=PK e k 3 1
noncomputable def pQ (e:List mA):Nat->Nat->Option (List mA)
 | 0,_=>none
 | f+1,k=>match cK e k with
  | some y=>some y
  | none=>pQ e f (k+1)
noncomputable def iU (e:List mA):Option (List mA):=pQ e e.length 0
noncomputable def kL:Nat->List mA->List mA
 | 0,e=>e
 | n+1,e=>match iU e with
  | some y=>kL n y
  | none=>e
noncomputable def FR (e:List mA):List mA:=kL 60 e
theorem zJ (e:List mA) (k f r:Nat):PK e k (f+1) r=if (eE e r k).2 then some (eE e r k).1 else PK e k f (r+1):=rfl
theorem lL (e:List mA) (f k:Nat):pQ e (f+1) k=match cK e k with | some y=>some y | none=>pQ e f (k+1):=rfl
theorem qQ (n:Nat) (e:List mA):kL (n+1) e=match iU e with | some y=>kL n y | none=>e:=rfl
theorem GR {e:List mA} (h:pB e=false) (k:Nat):∀f r,PK e k f r=none
 | 0,_=>rfl
 | f+1,r=>by
  have:=rJ (e:=e) (r:=r) (m:=k) (fun x=>by rw [h] at x;cases x.1);rw [zJ,this,if_neg (by simp)];exact GR h k f (r+1)
theorem dX {e:List mA} (h:pB e=false):∀f k,pQ e f k=none
 | 0,_=>rfl
 | f+1,k=>by
  rw [lL,show cK e k=none from GR h k 3 1];exact dX h f (k+1)
theorem jAs {e:List mA} (h:pB e=false) (n:Nat):kL n e=e:=by
 cases n with
 | zero=>rfl
 | succ n=>rw [qQ,show iU e=none from dX h _ _]
theorem yL {e y:List mA} {k:Nat}:∀ {f r:Nat},PK e k f r=some y->pB y=true
 | 0,_,h=>by cases h
 | f+1,r,h=>by
  rw [zJ] at h
  split at h
  ·rename_i hb
   injection h with h;exact NN (r:=r) (m:=k) (by rw [<-h];exact Prod.ext rfl hb)
  ·exact yL h
theorem jU {e y:List mA}:∀ {f k:Nat},pQ e f k=some y->pB y=true
 | 0,_,h=>by cases h
 | f+1,k,h=>by
  rw [lL] at h
  cases hr:cK e k with
  | some z=>rw [hr] at h;injection h with h;rw [<-h];exact yL hr
  | none=>rw [hr] at h;exact jU h
def NG (xs:List mA) (k r:Nat) (b:Bool) (ys:List mA):Prop:=if b then cK xs k=some ys else ys=xs/\r<=4/\cK xs k=PK xs k (4-r) r
def XK (xs:List mA) (k:Nat) (b:Bool) (ys:List mA):Prop:=if b then iU xs=some ys else ys=xs/\k<=xs.length/\iU xs=pQ xs (xs.length-k) k
theorem NG.start (xs:List mA) (k:Nat):NG xs k 1 false xs:=⟨rfl,by omega,rfl⟩
theorem NG.yes {xs ys:List mA} {k r:Nat} (h:NG xs k r false xs) (hr:r<=3) (ha:eE xs r k=(ys,true)):NG xs k (r+1) true ys:=by
 obtain ⟨_,h1,h2⟩:=h;show cK xs k=some ys
 rw [h2,show 4-r=(3-r)+1 by omega,zJ,ha];rfl
theorem NG.no {xs:List mA} {k r:Nat} (h:NG xs k r false xs) (hr:r<=3) (ha:(eE xs r k).2=false):NG xs k (r+1) false xs:=by
 obtain ⟨_,h1,h2⟩:=h;refine ⟨rfl,by omega,?_⟩;rw [h2,show 4-r=(3-r)+1 by omega,zJ,if_neg (by rw [ha];simp),show 4-(r+1)=3-r by omega]
theorem XK.start (xs:List mA):XK xs 0 false xs:=⟨rfl,Nat.zero_le _,rfl⟩
theorem XK.yes {xs ys:List mA} {k r:Nat} (h:XK xs k false xs) (hk:k<xs.length) (ha:NG xs k r true ys):XK xs (k+1) true ys:=by
 obtain ⟨_,h1,h2⟩:=h;show iU xs=some ys
 rw [h2,show xs.length-k=(xs.length-k-1)+1 by omega,lL,show cK xs k=some ys from ha]
theorem XK.no {xs ys:List mA} {k:Nat} (h:XK xs k false xs) (hk:k<xs.length) (ha:NG xs k 4 false ys):XK xs (k+1) false xs:=by
 obtain ⟨_,h1,h2⟩:=h;obtain ⟨_,_,h3⟩:=ha;refine ⟨rfl,by omega,?_⟩;rw [h2,show xs.length-k=(xs.length-k-1)+1 by omega,lL,h3];show (match (none:Option (List mA)) with | some y=>some y | none=>_)=_
 rw [show xs.length-(k+1)=xs.length-k-1 by omega]
theorem eAa {xs ys:List mA} {k j:Nat} (h:XK xs k true ys):kL (j+1) xs=kL j ys:=by rw [qQ,show iU xs=some ys from h]
theorem iA8 {xs ys:List mA} {k j:Nat} (h:XK xs k false ys) (hk:xs.length<=k):kL (j+1) xs=xs:=by
 obtain ⟨_,_,h2⟩:=h;rw [qQ,h2,show xs.length-k=0 by omega];rfl
theorem XK.expr {xs ys:List mA} {k:Nat} (h:XK xs k true ys):pB ys=true:=jU (show iU xs=some ys from h)
theorem NG.expr {xs ys:List mA} {k r:Nat} (h:NG xs k r true ys):pB ys=true:=yL (show cK xs k=some ys from h)
theorem XK.eq {xs ys:List mA} {k:Nat} (h:XK xs k false ys):ys=xs:=h.1
theorem NG.eq {xs ys:List mA} {k r:Nat} (h:NG xs k r false ys):ys=xs:=h.1
theorem UM (w:World) (e:List mA) (v:Value) (h:Rd OA w e [v]) (ht:sB e<=1048576):Calls prog 281 #[v] w (WB w (nE mC w.heap.size (FR e))):=by
 have bv:=gG w e v h ht;obtain ⟨Y,hY⟩:=pA7 (FR e);have HY:=pA6 (show kL (60-0) e=Y from hY.symm);rw [<-hY];clear hY h;go_enter func281,ntmps281;go_wp2_with fail;refine bv.mono ?_;rintro e1 w1 ⟨v1,rfl,⟨F1,o1,f1⟩,bs⟩;have HT:=pA6 ht;clear bv ht;go_wp2
 go_loopg [3,4,5,6,7] 61 (fun gg s z x5 x6 x7 w'=>∃(j:Nat) (xs:List mA) (F:List Nat),j<=60/\gg=60-j+1/\z=.int .i64 (j:Int)/\mC w' xs [s] F/\sA w.heap.size F/\Bw w w'/\Hid (kL (60-j) xs=Y/\sB xs<=1048576))
 ·exact ⟨0,e,F1,by omega,rfl,rfl,o1,f1,bs,pA6 ⟨HY.out,HT.out⟩⟩
 ·clear o1 f1 bs HY HT;obtain ⟨j,xs,F,hj,rfl,rfl,hv,hF,hb,HI⟩:=hrel;obtain ⟨A,n,c,rfl,hn,hnc,cd⟩:=qA (bB hv);unfold maxLen at cd;have L:=pA6 hn;clear hn;by_cases hj60:j<60
  ·have i1:(j:Int)<60:=by omega
   have k1:=aH wr xs _ (bB hv);by_cases hE:pB xs=true
   ·rw [hE] at k1;have HE:=pA6 hE;have n9:n<=9:=by rw [L.out];exact DO hE
    clear hE;go_wp2_with fail;refine k1.mono ?_;rintro e2 w2 ⟨rfl,bj⟩;have bk:=nA bj kA hv;have B2:=hb.then bj;clear k1 hv hb;go_wp2
    go_loopg [3,5,6,7] (n+1) (fun gg s cb z x7 w'=>∃(k:Nat) (b:Bool) (ys:List mA) (F:List Nat),k<=n/\gg=n-k+1/\cb=.bool b/\z=.int .i64 (k:Int)/\Hid (XK xs k b ys)/\mC w' ys [s] F/\sA w.heap.size F/\Bw w w')
    ·exact ⟨0,false,xs,F,by omega,rfl,rfl,rfl,pA6 (XK.start xs),bk,hF,B2⟩
    ·clear bk B2 hF;obtain ⟨k,b,ys,F,hk,rfl,rfl,rfl,HA,hv,hF,hb⟩:=hrel;obtain ⟨A2,n2,c2,rfl,bx,_⟩:=qA (bB hv);have L2:=pA6 bx;clear bx
     cases b with
     | true=>
      have HN:=pA6 (show kL (60-(j+1)) ys=Y/\sB ys<=1048576 from ⟨by rw [<-HI.out.1,show 60-j=60-(j+1)+1 by omega];exact (eAa HA.out).symm,by have:=wF HA.out.expr;omega⟩);by_cases hk2:k<n2
      all_goals
       go_wp2
       go_roundg (60-(j+1)+1)
       ·exact ⟨j+1,ys,F,by omega,rfl,by go_num,hv,hF,hb,HN⟩
       ·omega
     | false=>
      obtain rfl:xs=ys:=HA.out.eq.symm;obtain rfl:n=n2:=by rw [L.out,L2.out]
      by_cases hk2:k<n
      ·have i3:(k:Int)<(n:Int):=by omega
       have bp:=pA6 (show k<xs.length by rw [<-L.out];exact hk2);clear hk2;go_wp2
       go_loopg [3,5,7] 4 (fun gg s cb z w'=>∃(r:Nat) (b:Bool) (ys:List mA) (F:List Nat),1<=r/\r<=4/\gg=5-r/\cb=.bool b/\z=.int .i64 (r:Int)/\Hid (NG xs k r b ys)/\mC w' ys [s] F/\sA w.heap.size F/\Bw w w')
       ·exact ⟨1,false,xs,F,by omega,by omega,rfl,rfl,rfl,pA6 (NG.start xs k),hv,hF,hb⟩
       ·clear hv hF hb;obtain ⟨r,b,ys,F,hr1,hr4,rfl,rfl,rfl,bd,hv,hF,hb⟩:=hrel
        cases b with
        | true=>
         have bm:=pA6 (XK.yes HA.out bp.out bd.out);by_cases hr3:r<=3
         all_goals
          go_wp2
          go_roundg (n-(k+1)+1)
          ·exact ⟨k+1,true,ys,F,by omega,rfl,rfl,by go_num,bm,hv,hF,hb⟩
          ·omega
        | false=>
         obtain rfl:xs=ys:=bd.out.eq.symm;by_cases hr3:r<=3
         ·have i4:(r:Int)<=3:=by omega
          have bb:=eA8 wr xs (r:Int) (k:Int) _ (bB hv) HI.out.2 (by omega);have bf:=pA6 (fun (ys:List mA) (h:eE xs (r:Int) (k:Int)=(ys,true))=>bd.out.yes hr3 h);have bq:=pA6 (fun (h:(eE xs (r:Int) (k:Int)).2=false)=>bd.out.no hr3 h);obtain ⟨P,hP⟩:=pA7 (eE xs (r:Int) (k:Int));rw [<-hP] at bb bf bq;obtain ⟨y,b⟩:=P;have cc:=hb.size;clear hP hr3;go_wp2_with fail;refine bb.mono ?_;rintro e5 w5 ⟨u5,rfl,⟨v5,rfl,⟨F5,o5,f5⟩⟩,bt⟩;have cf:=nA bt kA hv;have bg:=hb.then bt;have bz:=f5.mono cc;clear bb
          cases b with
          | true=>
           have bc:=pA6 (bf.out y rfl);go_wp2
           go_roundg (5-(r+1))
           ·exact ⟨r+1,true,y,F5,by omega,by omega,rfl,rfl,by go_num,bc,o5,bz,bg⟩
           ·omega
          | false=>
           have bc:=pA6 (bq.out rfl);go_wp2
           go_roundg (5-(r+1))
           ·exact ⟨r+1,false,xs,F,by omega,by omega,rfl,rfl,by go_num,bc,cf,hF,bg⟩
           ·omega
         ·obtain rfl:r=4:=by omega
          have bm:=pA6 (XK.no HA.out bp.out bd.out);clear hr3;go_wp2
          go_roundg (n-(k+1)+1)
          ·exact ⟨k+1,false,xs,F,by omega,rfl,rfl,by go_num,bm,hv,hF,hb⟩
          ·omega
      ·have i3:¬(k:Int)<(n:Int):=by omega
       have HR:=pA6 (show xs=Y by rw [<-HI.out.1,show 60-j=60-(j+1)+1 by omega];exact (iA8 HA.out (by rw [<-L.out];omega)).symm);clear hk2;go_wp2;go_ret;exact ⟨_,rfl,⟨F,by rw [<-HR.out];exact hv,hF⟩,hb⟩
   ·have bn:pB xs=false:=by simpa using hE
    rw [bn] at k1;have HR:=pA6 (show xs=Y by rw [<-HI.out.1,jAs bn]);clear hE bn;go_wp2_with fail;refine k1.mono ?_;rintro e2 w2 ⟨rfl,bj⟩;have bk:=nA bj kA hv;clear k1 hv;go_wp2;go_ret;exact ⟨_,rfl,⟨F,by rw [<-HR.out];exact bk,hF⟩,hb.then bj⟩
  ·obtain rfl:j=60:=by omega
   have HR:=pA6 (show xs=Y from HI.out.1);clear hj60;go_wp2;go_ret;exact ⟨_,rfl,⟨F,by rw [<-HR.out];exact hv,hF⟩,hb⟩
theorem LU (w:World) (s:zA) (x:iA) (va vb vc u:Value) (ha:Rd LA w s.items [va]) (hb:Rd OA w s.wanted [vb]) (hc:Rd aB w s.best [vc]) (hx:Rd aB w x.vals [u]) (t1:jC s.items<=1048576) (t2:sB s.wanted<=1048576) (t3:s.best.length<=1048576) (hno:XE s x=false) :
  Calls prog 11 #[.agg #[va,vb,vc,.int .i64 s.tests],.agg #[.int .i64 x.id,u]] w (WB w (JK GB w.heap.size s (.bool false))):=by
 obtain ⟨A,n,c,rfl,L,Lc,Lm⟩:=yA ha;obtain ⟨B,m,c4,rfl,M,Mc,Mm⟩:=yA hc;obtain ⟨W0,cm,A0,bS,bX,bR,z0⟩:=pAe w (.slice A n c) vb (.slice B m c4) (.int .i64 s.tests) (.int .i64 x.id) u 28 30;have bk:=IE W0 s _ vb _ (ha.bw gA A0) (hb.bw jA A0) (hc.bw dA A0) t1 t2 t3;go_enter func11,ntmps11;go_wp2_with fail;rw [<-cm.out];refine bk.mono ?_;rintro e w1 ⟨cs,F0,rfl,oS,fS,bx⟩;have lS:=(NB (B:=0)).lt oS;obtain ⟨A1,m1,c1,A2,m2,c2,A3,m3,c3,F1,F2,F3,rfl,rfl,bp,bq,bs,o1,o2,o3⟩:=pAa oS;dsimp only;obtain ⟨V,HV,bt,bO,zV,BV,bn⟩:=pAd A0 bx (.slice A1 m1 c1) (.slice A2 m2 c2) (.slice A3 m3 c3) (.int .i64 s.tests) 28;replace bS:=bS.bw bn;replace bX:=bX.bw bn;replace bR:=bR.bw bn;have bv:=bS;rw [HV.out] at bv;obtain ⟨y0,y1,y2,y3,yf⟩:=bv.a4;clear bv;go_wp2_with fail;have zw:w.heap.size+3<=w1.heap.size:=by have:=bx.size;omega
 replace o1:=nA bt rA o1;replace o2:=nA bt kA o2;replace o3:=nA bt aA o3;have fV:sA (w.heap.size+3) (F1++(F2++F3)):=fS.mono (by omega);have HLS:=pA6 lS;have k1:=pA6 (fun W (B:Bw V W)=>rG W s _ vb _ (ha.bw gA (BV.then B)) (hb.bw jA (BV.then B)) (hc.bw dA (BV.then B)));have k2:=pA6 (fun W (B:Bw V W)=>cG W x u (hx.bw dA (BV.then B)));have k3:=pA6 (fun W (B:Bw V W)=>GD W s.items x.id _ (ha.bw gA (BV.then B)));obtain ⟨b6,bz⟩:=pA7 w1.heap.size;rw [<-bz] at bO zV zw;have ck:=pA6 bz;rw [<-HV.out,<-ck.out];clear oS fS bk bx A0 bz lS bn;clear y0 y1 y2 y3 yf;refine (k1.out _ (Bw.refl V)).mono ?_;rintro e w2 ⟨rfl,bj⟩;rcases pA8 (JB s) with e1 | e1
 ·have E1:=pA6 e1;rw [e1];clear e1;have cb:=bS.bw bj;have cf:=bX.bw bj;obtain ⟨y0,y1,y2,y3,yf⟩:=cb.a4;obtain ⟨x0,x1,xf⟩:=cf.a2;have bb:=k2.out _ bj;clear cb cf;go_wp2_with fail;refine bb.mono ?_;rintro e w3 ⟨rfl,cn⟩;have bg:=bj.then cn;clear y0 y1 y2 y3 yf;clear x0 x1 xf;rcases pA8 (gB x) with e2 | e2
  ·have E2:=pA6 e2;rw [e2];clear e2;have cc:=bS.bw bg;have cg:=bX.bw bg;obtain ⟨y0,y1,y2,y3,yf⟩:=cc.a4;obtain ⟨x0,x1,xf⟩:=cg.a2;have bb:=k3.out _ bg;obtain ⟨K,hK⟩:=pA7 (rB s.items x.id);rw [<-hK] at bb;have HK:=pA6 hK;clear cc cg hK;go_wp2_with fail;refine bb.mono ?_;rintro e w4 ⟨rfl,cp⟩;have bc:=bg.then cp;clear y0 y1 y2 y3 yf;clear x0 x1 xf;by_cases hK0:0<=K
   ·clear hno;have bf:=bR.bw bc;have bd:=bO.bw bc;obtain ⟨r0,r1,r2,r3,rf⟩:=bf.a4;obtain ⟨q0,q1,q2,q3,qf⟩:=bd.a4;have bm:=BV.then bc;have p1:=nA bc rA o1;have p2:=nA bc kA o2;have p3:=nA bc aA o3;clear bf bd o1 o2 o3 bR bO;go_wp2;rw [bp.out] at p1 ⊢;rw [bq.out] at p2 ⊢;rw [bs.out] at p3 ⊢;refine bodyPost_ret (v:=.tuple #[.agg #[.slice A1 s.items.length c1,.slice A2 s.wanted.length c2,.slice A3 s.best.length c3,.int .i64 s.tests],.bool false]) (by simp [results,results11,go_sem,r0,r1,r2,r3]) rfl (dC p1 p2 p3 (fV.mono (by omega)) (by omega) bm)
   ·have hK1:¬(0:Int)<=K:=hK0;by_cases hn16:16<=n;rotate_left
    focus
     have cq:((n:Int)==16)=false:=by rw [beq_eq_false_iff_ne];omega
     have ht0:999900<s.tests:=by
      rcases Decidable.em (999900<s.tests) with h | h
      ·exact h
      ·exfalso
       have h2:XE s x=true:=by
        unfold XE;rw [E1.out,E2.out,decide_eq_true (show rB s.items x.id<0 by rw [<-HK.out];omega),decide_eq_true (show s.items.length<16 by rw [<-L.out];omega),decide_eq_true (show s.tests<=999900 by omega)];rfl
       rw [h2] at hno;cases hno
    rotate_right
    focus
     have cj:n=16:=by
      have h1:=VA (AA (wC E1.out).1);have:=L.out;omega
     have cq:((n:Int)==16)=true:=by rw [cj];rfl
     clear cj
    all_goals
     have cd:=bS.bw bc;obtain ⟨y0,y1,y2,y3,yf⟩:=cd.a4;clear hno cd;have bf:=bR.bw bc;have bd:=bO.bw bc;obtain ⟨r0,r1,r2,r3,rf⟩:=bf.a4;obtain ⟨q0,q1,q2,q3,qf⟩:=bd.a4;have bm:=BV.then bc;have p1:=nA bc rA o1;have p2:=nA bc kA o2;have p3:=nA bc aA o3;clear bf bd o1 o2 o3 bR bO;go_wp2;rw [bp.out] at p1 ⊢;rw [bq.out] at p2 ⊢;rw [bs.out] at p3 ⊢;refine bodyPost_ret (v:=.tuple #[.agg #[.slice A1 s.items.length c1,.slice A2 s.wanted.length c2,.slice A3 s.best.length c3,.int .i64 s.tests],.bool false]) (by simp [results,results11,go_sem,r0,r1,r2,r3]) rfl (dC p1 p2 p3 (fV.mono (by omega)) (by omega) bm)
  ·rw [e2];clear e2 hno;have bf:=bR.bw bg;have bd:=bO.bw bg;obtain ⟨r0,r1,r2,r3,rf⟩:=bf.a4;obtain ⟨q0,q1,q2,q3,qf⟩:=bd.a4;have bm:=BV.then bg;have p1:=nA bg rA o1;have p2:=nA bg kA o2;have p3:=nA bg aA o3;clear bf bd o1 o2 o3 bR bO;go_wp2;rw [bp.out] at p1 ⊢;rw [bq.out] at p2 ⊢;rw [bs.out] at p3 ⊢;refine bodyPost_ret (v:=.tuple #[.agg #[.slice A1 s.items.length c1,.slice A2 s.wanted.length c2,.slice A3 s.best.length c3,.int .i64 s.tests],.bool false]) (by simp [results,results11,go_sem,r0,r1,r2,r3]) rfl (dC p1 p2 p3 (fV.mono (by omega)) (by omega) bm)
 ·rw [e1];clear e1 hno;have bf:=bR.bw bj;have bd:=bO.bw bj;obtain ⟨r0,r1,r2,r3,rf⟩:=bf.a4;obtain ⟨q0,q1,q2,q3,qf⟩:=bd.a4;have bm:=BV.then bj;have p1:=nA bj rA o1;have p2:=nA bj kA o2;have p3:=nA bj aA o3;clear bf bd o1 o2 o3 bR bO;go_wp2;rw [bp.out] at p1 ⊢;rw [bq.out] at p2 ⊢;rw [bs.out] at p3 ⊢;refine bodyPost_ret (v:=.tuple #[.agg #[.slice A1 s.items.length c1,.slice A2 s.wanted.length c2,.slice A3 s.best.length c3,.int .i64 s.tests],.bool false]) (by simp [results,results11,go_sem,r0,r1,r2,r3]) rfl (dC p1 p2 p3 (fV.mono (by omega)) (by omega) bm)
theorem OU (w:World) (s:zA) (id:Int) (va vb vc:Value) (ha:Rd LA w s.items [va]) (hb:Rd OA w s.wanted [vb]) (hc:Rd aB w s.best [vc]) (t1:jC s.items<=1048576) (t2:sB s.wanted<=1048576) (t3:s.best.length<=1048576) (hno:YE s id=false) :
  Calls prog 18 #[.agg #[va,vb,vc,.int .i64 s.tests],.int .i64 id] w (WB w (JK GB w.heap.size s (.bool false))):=by
 obtain ⟨K,hK⟩:=pA7 (rB s.items id);have HK:=pA6 hK;clear hK;obtain ⟨A,n,c,rfl,L,Lc,Lm⟩:=yA ha;obtain ⟨B,m,c4,rfl,M,Mc,Mm⟩:=yA hc;obtain ⟨W0,cd,A0,bS,bR,z0⟩:=pAf w (.slice A n c) vb (.slice B m c4) (.int .i64 s.tests) 28;have bd:=IE W0 s _ vb _ (ha.bw gA A0) (hb.bw jA A0) (hc.bw dA A0) t1 t2 t3;go_enter func18,ntmps18;go_wp2_with fail;rw [<-cd.out];refine bd.mono ?_;rintro e w1 ⟨cs,F0,rfl,oS,fS,bp⟩;have lS:=(NB (B:=0)).lt oS;obtain ⟨A1,m1,c1,A2,m2,c2,A3,m3,c3,F1,F2,F3,rfl,rfl,bt,bv,bx,o1,o2,o3⟩:=pAa oS;dsimp only;obtain ⟨V,HV,bj,bO,zV,BV,bk⟩:=pAd A0 bp (.slice A1 m1 c1) (.slice A2 m2 c2) (.slice A3 m3 c3) (.int .i64 s.tests) 28;replace bS:=bS.bw bk;replace bR:=bR.bw bk;have bm:=bS;rw [HV.out] at bm;obtain ⟨y0,y1,y2,y3,yf⟩:=bm.a4;clear bm;go_wp2_with fail;have zw:w.heap.size+2<=w1.heap.size:=by have:=bp.size;omega
 replace o1:=nA bj rA o1;replace o2:=nA bj kA o2;replace o3:=nA bj aA o3;have fV:sA (w.heap.size+2) (F1++(F2++F3)):=fS.mono (by omega);have HLS:=pA6 lS;have k1:=pA6 (fun W (B:Bw V W)=>rG W s _ vb _ (ha.bw gA (BV.then B)) (hb.bw jA (BV.then B)) (hc.bw dA (BV.then B)));have k3:=pA6 (fun W (B:Bw V W)=>GD W s.items id _ (ha.bw gA (BV.then B)));obtain ⟨b6,bs⟩:=pA7 w1.heap.size;rw [<-bs] at bO zV zw;have cc:=pA6 bs;rw [<-HV.out,<-cc.out];clear oS fS bd bp A0 bs lS bk;clear y0 y1 y2 y3 yf;have bb:=k3.out _ (Bw.refl V);rw [<-HK.out] at bb;have y0:=bS.c 0 _ rfl;go_wp2_with fail;refine bb.mono ?_;rintro e w2 ⟨rfl,bq⟩;clear y0;have bz:=bS.bw bq;obtain ⟨y0,y1,y2,y3,yf⟩:=bz.a4;have bb:=k1.out _ bq;clear bz;go_wp2_with fail;refine bb.mono ?_;rintro e w3 ⟨rfl,cf⟩;have bc:=bq.then cf;clear y0 y1 y2 y3 yf;rcases pA8 (JB s) with e1 | e1
 ·have E1:=pA6 e1;rw [e1];clear e1;by_cases hK0:K<0;rotate_left
  focus
   have hK1:¬K<(0:Int):=hK0;have ht0:999900<s.tests:=by
    rcases Decidable.em (999900<s.tests) with h | h
    ·exact h
    ·exfalso
     have h2:YE s id=true:=by
      unfold YE;rw [E1.out,decide_eq_true (show 0<=rB s.items id by rw [<-HK.out];omega),decide_eq_true (show s.tests<=999900 by omega)];rfl
     rw [h2] at hno;cases hno
   have cb:=bS.bw bc;obtain ⟨y0,y1,y2,y3,yf⟩:=cb.a4;clear hno cb
  rotate_right
  focus
   clear hno
  all_goals
   have bg:=bR.bw bc;have bf:=bO.bw bc;obtain ⟨r0,r1,r2,r3,rf⟩:=bg.a4;obtain ⟨q0,q1,q2,q3,qf⟩:=bf.a4;have bn:=BV.then bc;have p1:=nA bc rA o1;have p2:=nA bc kA o2;have p3:=nA bc aA o3;clear bg bf o1 o2 o3 bR bO;go_wp2;rw [bt.out] at p1 ⊢;rw [bv.out] at p2 ⊢;rw [bx.out] at p3 ⊢;refine bodyPost_ret (v:=.tuple #[.agg #[.slice A1 s.items.length c1,.slice A2 s.wanted.length c2,.slice A3 s.best.length c3,.int .i64 s.tests],.bool false]) (by simp [results,results18,go_sem,r0,r1,r2,r3]) rfl (dC p1 p2 p3 (fV.mono (by omega)) (by omega) bn)
 ·rw [e1];clear e1 hno;have bg:=bR.bw bc;have bf:=bO.bw bc;obtain ⟨r0,r1,r2,r3,rf⟩:=bg.a4;obtain ⟨q0,q1,q2,q3,qf⟩:=bf.a4;have bn:=BV.then bc;have p1:=nA bc rA o1;have p2:=nA bc kA o2;have p3:=nA bc aA o3;clear bg bf o1 o2 o3 bR bO;go_wp2;rw [bt.out] at p1 ⊢;rw [bv.out] at p2 ⊢;rw [bx.out] at p3 ⊢;refine bodyPost_ret (v:=.tuple #[.agg #[.slice A1 s.items.length c1,.slice A2 s.wanted.length c2,.slice A3 s.best.length c3,.int .i64 s.tests],.bool false]) (by simp [results,results18,go_sem,r0,r1,r2,r3]) rfl (dC p1 p2 p3 (fV.mono (by omega)) (by omega) bn)
end Go.Proofs.YtpihighajaeabaaGreat
