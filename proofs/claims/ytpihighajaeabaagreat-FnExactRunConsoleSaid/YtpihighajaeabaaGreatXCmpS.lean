/- Comparisons of items by an expression in the reference. -/
import Derived.Test.YtpihighajaeabaaGreatXWishS
import Derived.Test.YtpihighajaeabaaGreatXIntss
import Derived.Test.YtpihighajaeabaaGreatXWishes
namespace Go.Proofs.YtpihighajaeabaaGreat
open Go.RowKit Tryz
set_option linter.all false
set_option maxRecDepth 100000
set_option maxHeartbeats 16000000
theorem hAy (a b:Int):max a b=if a<=b then b else a:=by by_cases h:a<=b<;>simp [h]<;>omega
theorem cA4 (w:World) (x:AB) (a u:Value) (v:Int) (h:Rd aB w x.list [a]) (h':Rd MC w x.pairs [u]) (hx:0<=x.value/\x.value<=9) (hv:0<=v/\v<=9) :
  Calls prog 227 #[.agg #[.int .i64 x.kind,.int .i64 x.field,.int .i64 x.value,a,u],.int .i64 v] w (Ret w (.int .i64 (YD x v))):=by
 have B0:Bw w (w.alloc (.cells #[.int .i64 x.kind,.int .i64 x.field,.int .i64 x.value,a,u] 109)):=(Bw.refl w).alloc _;by_cases k0:x.kind=0
 ·have q0:(x.kind==0)=true:=by simpa using k0
  have K:=pA6 k0;clear k0;go_enter func227,ntmps227;go_wp2;go_ret;exact Ret.int (by rw [YD,if_pos K.out]) (B0)
 have q0:(x.kind==0)=false:=by simpa using k0
 by_cases k1:x.kind=1
 ·have q1:(x.kind==1)=true:=by simpa using k1
  have K:=pA6 (show ¬x.kind=0/\x.kind=1 from ⟨k0,k1⟩);clear k0 k1;go_enter func227,ntmps227;go_wp2;go_ret;exact Ret.int (by rw [YD,if_neg K.out.1,if_pos K.out.2]) (B0)
 have q1:(x.kind==1)=false:=by simpa using k1
 by_cases k2:x.kind=2
 ·have q2:(x.kind==2)=true:=by simpa using k2
  have K:=trivial;by_cases hlt:v-x.value<x.value-v
  ·have E:=pA6 (show YD x v=x.value-v by rw [YD,if_neg k0,if_neg k1,if_pos k2,hAy,if_pos (by omega)]);clear k0 k1 k2 K;go_enter func227,ntmps227;go_wp2;go_ret;exact Ret.int (E.out.symm) (B0)
  ·have E:=pA6 (show YD x v=v-x.value by
    rw [YD,if_neg k0,if_neg k1,if_pos k2,hAy];by_cases he:v-x.value<=x.value-v
    ·rw [if_pos he];omega
    ·rw [if_neg he])
   clear k0 k1 k2 K;go_enter func227,ntmps227;go_wp2;go_ret;exact Ret.int (E.out.symm) (B0)
 have q2:(x.kind==2)=false:=by simpa using k2
 have K:=pA6 (show ¬x.kind=0/\¬x.kind=1/\¬x.kind=2 from ⟨k0,k1,k2⟩);clear k0 k1 k2;go_enter func227,ntmps227;go_wp2_with fail;refine (eM _ x.list v _ (h.bw dA B0)).mono ?_;rintro e w2 ⟨rfl,bb⟩;rcases pA8 (x.list.contains v) with e1 | e1
 all_goals
  have E:=pA6 e1;rw [e1];clear e1;go_wp2;go_ret;exact Ret.int (by rw [YD,if_neg K.out.1,if_neg K.out.2.1,if_neg K.out.2.2,E.out];rfl) (B0.then bb)
theorem cA5 (w:World) (x:AB) (v u:Value) (a b:Int) (h:Rd aB w x.list [v]) (h':Rd MC w x.pairs [u]) (hx:DB x=true) (ha:0<=a/\a<=9) (hb:0<=b/\b<=9) :
  Calls prog 165 #[.agg #[.int .i64 x.kind,.int .i64 x.field,.int .i64 x.value,v,u],.int .i64 a,.int .i64 b] w (Ret w (.int .i64 (AF x a b))):=by
 have B0:Bw w (w.alloc (.cells #[.int .i64 x.kind,.int .i64 x.field,.int .i64 x.value,v,u] 109)):=(Bw.refl w).alloc _;by_cases k4:x.kind=4
 ·have q4:(x.kind==4)=true:=by simpa using k4
  have K:=pA6 k4;have hp:=oH hx k4;have HP:=pA6 (dI hp);have H8:=pA6 (WJ hp);clear k4 hp hx;by_cases eab:a=b
  ·have e1:(a==b)=true:=by simpa using eab
   have E:=pA6 eab;clear eab;go_enter func165,ntmps165;go_wp2;go_ret;exact Ret.int (by rw [AF,if_pos K.out,if_pos E.out]) (B0)
  ·have e1:(a==b)=false:=by simpa using eab
   have E:=pA6 eab;clear eab;go_enter func165,ntmps165;go_wp2_with fail;refine (xS _ x.pairs a b _ (h'.bw RA B0) HP.out H8.out ha hb).mono ?_;rintro e w2 ⟨rfl,bb⟩;obtain ⟨p0,p1,p2,p3,p4⟩:C5 w2 w.heap.size (.int .i64 x.kind) (.int .i64 x.field) (.int .i64 x.value) v u:=bb.c5 (by unfold C5;go_simp);have B2:=B0.then bb;rcases pA8 (iD x.pairs a b) with r1 | r1
   ·have R:=pA6 r1;rw [r1];clear r1;go_wp2;go_ret;exact Ret.int (by rw [AF,if_pos K.out,if_neg E.out,if_pos R.out]) (B2)
   ·have R:=pA6 r1;rw [r1];clear r1;go_wp2_with fail;refine (xS _ x.pairs b a _ (h'.bw RA B2) HP.out H8.out hb ha).mono ?_;rintro e w3 ⟨rfl,bd⟩;rcases pA8 (iD x.pairs b a) with r2 | r2
    all_goals
     have R2:=pA6 r2;rw [r2];clear r2;go_wp2;go_ret;exact Ret.int (by rw [AF,if_pos K.out,if_neg E.out,R.out,R2.out];rfl) (B2.then bd)
 ·have q4:(x.kind==4)=false:=by simpa using k4
  have K:=pA6 k4;have bc:=aF hx;have ra:=RQ hx ha;have rb:=RQ hx hb;clear k4 hx;go_enter func165,ntmps165;go_wp2_with fail;refine (cA4 _ x _ _ a (h.bw dA B0) (h'.bw RA B0) bc ha).mono ?_;rintro e w2 ⟨rfl,bb⟩;obtain ⟨p0,p1,p2,p3,p4⟩:C5 w2 w.heap.size (.int .i64 x.kind) (.int .i64 x.field) (.int .i64 x.value) v u:=bb.c5 (by unfold C5;go_simp);have B2:=B0.then bb;go_wp2_with fail;refine (cA4 _ x _ _ b (h.bw dA B2) (h'.bw RA B2) bc hb).mono ?_;rintro e w3 ⟨rfl,bd⟩;have B3:=B2.then bd;have HC:=pA6 (show AF x a b=if YD x a<YD x b then 1 else if YD x b<YD x a then -1 else 0 by rw [AF,if_neg K.out]);obtain ⟨r,hr⟩:=pA7 (YD x a);obtain ⟨s,hs⟩:=pA7 (YD x b);rw [<-hr,<-hs] at HC;rw [<-hr] at ra ⊢;rw [<-hs] at rb ⊢;clear hr hs;by_cases l1:r<s
  ·have E:=pA6 (show AF x a b=1 by rw [HC.out,if_pos l1]);go_wp2;go_ret;exact Ret.int (E.out.symm) (B3)
  ·by_cases l2:s<r
   ·have E:=pA6 (show AF x a b = -1 by rw [HC.out,if_neg l1,if_pos l2]);go_wp2;go_ret;exact Ret.int (E.out.symm) (B3)
   ·have E:=pA6 (show AF x a b=0 by rw [HC.out,if_neg l1,if_neg l2]);go_wp2;go_ret;exact Ret.int (E.out.symm) (B3)
theorem fAn (w:World) (a b:Int) (ha : -1<=a/\a<=2) (hb : -1<=b/\b<=2):Calls prog 228 #[.int .i64 a,.int .i64 b] w (Ret w (.int .i64 (UE 1 a b))):=by
 have ea:a = -1\/a=0\/a=1\/a=2:=by omega
 have eb:b = -1\/b=0\/b=1\/b=2:=by omega
 clear ha hb;rcases ea with rfl | rfl | rfl | rfl<;>rcases eb with rfl | rfl | rfl | rfl
 all_goals
  go_enter func228,ntmps228;go_wp2;go_ret;exact Ret.int rfl (Bw.refl _)
theorem kAy (w:World) (a b:Int):Calls prog 229 #[.int .i64 a,.int .i64 b] w (Ret w (.int .i64 (UE 4 a b))):=by
 by_cases h:a=b
 ·have e1:(a==b)=true:=by simpa using h
  have H:=pA6 h;clear h;go_enter func229,ntmps229;go_wp2;go_ret;exact Ret.int (by rw [UE,if_neg (by omega),if_neg (by omega),if_pos H.out]) (Bw.refl _)
 ·have e1:(a==b)=false:=by simpa using h
  have H:=pA6 h;clear h;go_enter func229,ntmps229;go_wp2;go_ret;exact Ret.int (by rw [UE,if_neg (by omega),if_neg (by omega),if_neg H.out]) (Bw.refl _)
theorem oA9 (w:World) (op a b:Int) (hop:op=1\/op=2\/op=4) (ha : -1<=a/\a<=2) (hb : -1<=b/\b<=2):Calls prog 166 #[.int .i64 op,.int .i64 a,.int .i64 b] w (Ret w (.int .i64 (UE op a b))):=by
 rcases hop with rfl | rfl | rfl
 ·go_enter func166,ntmps166;go_wp2_with fail;refine (fAn _ a b ha hb).mono ?_;rintro e w2 ⟨rfl,bb⟩;go_wp2;go_ret;exact Ret.int (rfl) (bb)
 ·by_cases h:a=0
  ·have e1:(a != 0)=false:=by simpa using h
   have H:=pA6 h;clear h;go_enter func166,ntmps166;go_wp2;go_ret;exact Ret.int (by rw [UE,if_neg (by omega),if_pos rfl,if_pos H.out]) (Bw.refl _)
  ·have e1:(a != 0)=true:=by simpa using h
   have H:=pA6 h;clear h;go_enter func166,ntmps166;go_wp2;go_ret;exact Ret.int (by rw [UE,if_neg (by omega),if_pos rfl,if_neg H.out]) (Bw.refl _)
 ·go_enter func166,ntmps166;go_wp2_with fail;refine (kAy _ a b).mono ?_;rintro e w2 ⟨rfl,bb⟩;go_wp2;go_ret;exact Ret.int (rfl) (bb)
theorem mAy {w:World} {T:List Int} {a b:Int} {g n c:Nat} {F:List Nat} (h:WA w (T++[a,b]) [.slice (some ⟨g,0,none⟩) n c] F):WA w T [.slice (some ⟨g,0,none⟩) T.length c] F:=by
 have:T++[a,b]=(T++[a])++[b]:=by simp
 rw [this] at h;exact AS (AS h)
theorem cA6 {T:List Int} {a b:Int} {m:Nat} (h:T.length=m):(T++[a]).set m b=T++[b]:=by
 rw [<-h,List.set_append_right _ _ (Nat.le_refl _)];simp
theorem hAz {T:List Int} {a:Int} {m:Nat} (h:T.length=m):(T++[a])[m]? = some a:=by rw [<-h];simp
theorem cA7 {T:List Int} {a b:Int} {m:Nat} (h:T.length=m):(T++[a,b])[m]? = some a:=by rw [<-h];simp
theorem cA8 {T:List Int} {a b:Int} {m:Nat} (h:T.length+1=m):(T++[a,b])[m]? = some b:=by rw [<-h,List.getElem?_append_right (by omega)];simp
theorem EJ {w:World} {xs:List Int} {g n c k:Nat} {F:List Nat} {x:Int} (h:WA w xs [.slice (some ⟨g,0,none⟩) n c] F) (hx:xs[k]? = some x):w.cell? ⟨g,k,none⟩=some (.int .i64 x):=by
 obtain ⟨b,o,e,_,hc⟩:=KB (xA h) hx;injection e with e;injection e with e1 e2;subst e1 e2;rw [Nat.zero_add] at hc;exact hc
theorem pG (w:World) (e:List mA) (p q:iA) (ve v1 v2:Value) (h:Rd OA w e [ve]) (h1:Rd aB w p.vals [v1]) (h2:Rd aB w q.vals [v2]) (hE:pB e=true) (hp:gB p=true) (hq:gB q=true) :
  Calls prog 85 #[ve,.agg #[.int .i64 p.id,v1],.agg #[.int .i64 q.id,v2]] w (Ret w (.int .i64 (zC e p q))):=by
 obtain ⟨i0,hi,fn,fp,fq⟩:=info_parts xC;obtain ⟨A,n,c,rfl,L,Lc,Lm⟩:=yA h;have fg:=jB hp;have fk:=jB hq;have HP:=pA6 hp;have HQ:=pA6 hq;have DE:=pA6 (VJ hE);have n9:n<=9:=by rw [L.out];exact vV hE
 obtain ⟨A1,n1,c1,rfl,L1,L1c,L1m⟩:=qA h1;obtain ⟨A2,n2,c2,rfl,L2,L2c,L2m⟩:=qA h2;rw [fg] at L1;rw [fk] at L2;subst L1 L2;have dp:=MA (e:=3) (sz:=1) (R:=IF) ((w.alloc (.cells #[.int .i64 p.id,.slice A1 3 c1] 30)).alloc (.cells #[.int .i64 q.id,.slice A2 3 c2] 30));rw [show ((w.alloc (.cells #[.int .i64 p.id,.slice A1 3 c1] 30)).alloc (.cells #[.int .i64 q.id,.slice A2 3 c2] 30)).heap.size=w.heap.size+1+1 by simp] at dp;obtain ⟨wB,bs⟩:=pA7 ((w.alloc (.cells #[.int .i64 p.id,.slice A1 3 c1] 30)).alloc (.cells #[.int .i64 q.id,.slice A2 3 c2] 30));have B0:Bw w wB:=by rw [bs];exact ((Bw.refl w).alloc _).alloc _
 have fm:wB.heap.size=w.heap.size+1+1:=by rw [bs];simp
 have fs:wB.cell? ⟨w.heap.size,1,none⟩=some (.slice A1 3 c1):=by rw [bs];go_simp
 have ft:wB.cell? ⟨w.heap.size+1,1,none⟩=some (.slice A2 3 c2):=by rw [bs];go_simp
 have B1:=(Bw.refl wB).alloc (.cells #[] 3);rw [bs] at B1;rw [<-bs] at B1;have dt:Bw wB (((w.alloc (.cells #[.int .i64 p.id,.slice A1 3 c1] 30)).alloc (.cells #[.int .i64 q.id,.slice A2 3 c2] 30)).alloc (.cells #[] 3)):=by rw [bs];exact (Bw.refl _).alloc _
 have fz:=pA6 fm;clear hp hq hE fg fk bs B1 fm;go_enter func85,ntmps85;go_wp2
 go_loopg [7,8] n (fun g s i w'=>∃(k m:Nat) (St:List Int) (F:List Nat) (A':Option Addr) (c':Nat),k<=n/\g=n-k/\i=.int .i64 k/\s=.slice A' m c'/\Hid (m=St.length)/\m<=k/\m<=c'/\WA w' St [.slice A' m c'] F/\sA wB.heap.size F/\Hid (St=MF e p q k)/\Hid (qC (e.drop k) m=some 1)/\Hid (NT St)/\Bw wB w')
 ·exact ⟨0,0,[],_,_,_,by omega,rfl,rfl,rfl,pA6 rfl,by omega,by omega,dp,⟨by simp,by rw [fz.out];simp⟩,pA6 rfl,DE,pA6 (fun v hv=>by simp at hv),dt⟩
 ·clear dp dt;obtain ⟨k,m,St,F,A',c',hk,rfl,rfl,rfl,HL,hmk,ff,hv,hF,HS,HD,HC,hb⟩:=hrel;have ka:=hb.cell fs;have kb:=hb.cell ft;by_cases hlt:k<n
  ·obtain ⟨x,hx⟩:=tA (xs:=e) (k:=k) (by have:=L.out;omega);obtain ⟨ba,oa,Al,cl,Ap,cp,rfl,_,c0,ck,bv,c3,c4,c5,hl,fj⟩:=mE h hx;have i1:(0:Int)<=(k:Int):=by omega
   have i2:(k:Int)<(n:Int):=by omega
   have bf:=B0.then hb;have p0:=bf.cell c0;have p1:=bf.cell ck;have p2:=bf.cell bv;have p3:=bf.cell c3;have p4:=bf.cell c4;have p5:=bf.cell c5;have cv:=Rd.bw dA hl bf;have cz:=Rd.bw RA fj bf;have dc:=h1.bw dA bf;have dd:=h2.bw dA bf;obtain ⟨cx,fd⟩:=SP HD.out hx;have gc:=UY cx;have ct:=DS cx;have HN:=pA6 (AI (x:=p) (y:=q) hx);have HW:=pA6 (fun o0=>iN cx o0);have bq:=pA6 fd;have HH:=pA6 h;have bz:=(aA (B:=0)).lt hv;clear c0 hx h hl fj cx fd;by_cases o0:x.op=0
   ·have q0:(x.op==0)=true:=by simpa using o0
    have hw:=HW.out o0;have gb:=NF hw;obtain ⟨f,hf⟩:∃f:Nat,x.wish.field=f:=⟨x.wish.field.toNat,by omega⟩;have cq:f<=2:=by omega
    have f1:(0:Int)<=(f:Int):=by omega
    have f2:(f:Int)<3:=by omega
    obtain ⟨b1,o1,rfl,_,cf⟩:=KB h1 (EL HP.out cq);obtain ⟨b2,o2,rfl,_,cg⟩:=KB h2 (EL HQ.out cq);have cm:=bf.cell cf;have cn:=bf.cell cg;have Vp:=eN HP.out cq;have Vq:=eN HQ.out cq;have HE:=pA6 (show AF x.wish (LF p f) (LF q f)=PG x.wish p q by unfold PG;rw [hf]);have bb:=QQ x.wish p q;rw [<-HE.out] at bb;have bc:∀W,Bw wr W->Calls prog 165 #[.agg #[.int .i64 x.wish.kind,.int .i64 f,.int .i64 x.wish.value,.slice Al x.wish.list.length cl,.slice Ap x.wish.pairs.length cp],.int .i64 (LF p f),.int .i64 (LF q f)] W (Ret W (.int .i64 (AF x.wish (LF p f) (LF q f)))):=fun W hB=>by
     have:=cA5 W x.wish _ _ (LF p f) (LF q f) (Rd.bw dA cv hB) (Rd.bw RA cz hB) hw Vp Vq
     rwa [hf] at this
    obtain ⟨r,hr⟩:=pA7 (AF x.wish (LF p f) (LF q f));rw [<-hr] at bb HE;simp only [<-hr] at bc;have bp:=pA6 (show St++[r]=MF e p q (k+1) by rw [HN.out,<-HS.out,PP o0,HE.out]);have bt:=pA6 (show qC (e.drop (k+1)) ((m+1:Nat):Int)=some 1 by rw [<-bq.out,o0];congr 1);have bn:=pA6 (iJ HC.out bb);have bk:=pA6 (show m+1=(St++[r]).length by rw [List.length_append,<-HL.out];rfl);have dx:St.length=m:=HL.out.symm;have dv:=pA6 dx;rw [hf] at p2 bv;have D1:Bw wr wr.drew:=(Bw.refl wr).drew;have gd:=(aA (B:=wB.heap.size)).bw D1 hb.size hv;have dz:=hb.then D1;have df:=hb.size;clear o0 hf HN HS HD bq HC hr HW Vp Vq hw gb HE bb hv dc dd cv cz dx;go_wp2_with fail
    go_region_held3 (fun w'=>w'.cell? ⟨ba,oa+k*6+1,none⟩=some (.int .i64 x.wish.kind)/\w'.cell? ⟨ba,oa+k*6+2,none⟩=some (.int .i64 f)/\w'.cell? ⟨ba,oa+k*6+3,none⟩=some (.int .i64 x.wish.value)/\w'.cell? ⟨ba,oa+k*6+4,none⟩=some (.slice Al x.wish.list.length cl)/\w'.cell? ⟨ba,oa+k*6+5,none⟩=some (.slice Ap x.wish.pairs.length cp)/\w'.cell? ⟨w.heap.size,1,none⟩=some (.slice (some ⟨b1,o1,none⟩) 3 c1)/\w'.cell? ⟨w.heap.size+1,1,none⟩=some (.slice (some ⟨b2,o2,none⟩) 3 c2)/\w'.cell? ⟨b1,o1+f,none⟩=some (.int .i64 (LF p f))/\w'.cell? ⟨b2,o2+f,none⟩=some (.int .i64 (LF q f))) (first | go_keep | exact ⟨p1,p2,p3,p4,p5,ka,kb,cm,cn⟩ | exact ⟨bg.cell p1,bg.cell p2,bg.cell p3,bg.cell p4,bg.cell p5,bg.cell ka,bg.cell kb,bg.cell cm,bg.cell cn⟩ | exact ⟨(B0.then bd).cell ck,(B0.then bd).cell bv,(B0.then bd).cell c3,(B0.then bd).cell c4,(B0.then bd).cell c5,bd.cell fs,bd.cell ft,(B0.then bd).cell cf,(B0.then bd).cell cg⟩ | fail)
     (first
      | (go_at_call 165;refine (bc _ D1).mono ?_;rintro e w1 ⟨rfl,bj⟩;replace p1:=bj.cell p1;replace p2:=bj.cell p2;replace p3:=bj.cell p3;replace p4:=bj.cell p4;replace p5:=bj.cell p5;replace ka:=bj.cell ka;replace kb:=bj.cell kb;replace cm:=bj.cell cm;replace cn:=bj.cell cn;have bg:=(Bw.refl w1).alloc (.cells #[.int .i64 r] 3);have cc:=dz.then bj;have db:=(aA (B:=wB.heap.size)).bw bj dz.size gd;have dq:=(aA (B:=wB.heap.size)).bw bg cc.size db;have dj:=cc.then bg;have dm:=cell_one_new w1 (.int .i64 r) 3)
      | (refine eJ _ (by rfl) (.tmp 58) (.tmp 75) 26 (by rfl) wB 3 i0 _ 1 8 underlying26 hi fn fp fq rfl (by omega) YA _ St F (by rfl) dq hF ⟨w1.heap.size,0,none⟩ 1 (by rfl) r [.int .i64 r] [] dm ⟨rfl,rfl⟩ rfl wr.heap.size bz sA.nil df (by rw [dv.out];omega) (by rw [dv.out];omega) dj ?_;intro v' w' F' bm bx bd)
      | fail)
    obtain ⟨A3,c3,rfl,cd,_⟩:=XA (xA bm);rw [<-bk.out] at bm cd ⊢;go_wp2
    go_roundg (n-(k+1))
    ·exact ⟨k+1,m+1,St++[r],F',A3,c3,by omega,rfl,by go_num,rfl,bk,by omega,cd,bm,bx,bp,bt,bn,bd⟩
    ·omega
   ·have q0:(x.op==0)=false:=by simpa using o0
    by_cases o3:x.op=3
    ·have q3:(x.op==3)=true:=by simpa using o3
     rw [show aD x.op=1 by rw [o3];rfl] at ct bq;obtain ⟨T,a,cb⟩:=TY (l:=St) (by rw [<-HL.out];omega);subst cb;have hT:T.length=m-1:=by have:=HL.out;simp at this;omega
     obtain ⟨g,rfl,cj,cs⟩:=CJ hv (by simp);clear cj;have hc:=EJ hv (hAz hT);have ha:=HC.out a (by simp);have bp:=pA6 (show T++[bJ a]=MF e p q (k+1) by rw [HN.out,<-HS.out,QP o3]);have bt:=pA6 (show qC (e.drop (k+1)) (m:Int)=some 1 by rw [<-bq.out];congr 1;omega);have bn:=pA6 (iJ (gM HC.out) (zS ha));have bk:=pA6 (show m=(T++[bJ a]).length by have:=HL.out;simp at this ⊢;exact this);have j1:(0:Int)<=(m:Int)-1:=by omega
     have j2:(m:Int)-1<(m:Int):=by omega
     have HT:=pA6 hT;have m1:1<=m:=by omega
     clear o0 o3 HN HS HD bq HC HW cv cz dc dd gc ct hT ck bv c3 c4 c5;by_cases a2:a=2
     ·have q4:(a != 2)=false:=by simpa using a2
      have fx:=pA6 (show T++[a]=MF e p q (k+1) by rw [<-bp.out,bJ,if_pos a2,a2]);have fv:=pA6 (show NT (T++[a]) by have:=bn.out;rwa [bJ,if_pos a2,<-a2] at this);clear a2 bp bn bk;go_wp2
      go_roundg (n-(k+1))
      ·exact ⟨k+1,m,T++[a],F,_,c',by omega,rfl,by go_num,rfl,HL,by omega,ff,hv,hF,fx,bt,fv,hb⟩
      ·omega
     ·have q4:(a != 2)=true:=by simpa using a2
      have hff:=TF hv (m-1);obtain ⟨F',bm,bx,hg,_,_⟩:=YK (YA (B:=wB.heap.size)) hv hF (k:=m-1) (y:=-a) (u:=[.int .i64 (-a)]) ⟨rfl,rfl⟩ rfl (m:=wr.heap.size) bz sA.nil hb.size (by have:=HT.out;simp;omega);have e1:rE wr g ((m-1)*1) [.int .i64 (-a)]=wr.setCell ⟨g,m-1,none⟩ (.int .i64 (-a)):=by simp [rE]
      rw [e1,cA6 HT.out] at bm;rw [e1] at hg;rw [show bJ a = -a by rw [bJ,if_neg a2]] at bp bn bk;have bd:=hb.grown hg (fun q hq=>by injection hq with hq;have:=hF.ge g cs;omega);clear a2 e1 hg hv hF bz cs HL;go_wp2
      go_roundg (n-(k+1))
      ·exact ⟨k+1,m,T++[-a],F',_,c',by omega,rfl,by go_num,rfl,bk,by omega,ff,bm,bx,bp,bt,bn,bd⟩
      ·omega
    ·have q3:(x.op==3)=false:=by simpa using o3
     have dn:x.op=1\/x.op=2\/x.op=4:=by omega
     rw [show aD x.op=2 by rcases dn with h | h | h<;>rw [h]<;>rfl] at ct bq;obtain ⟨T,a,b,cb⟩:=nAy (l:=St) (by rw [<-HL.out];omega);subst cb;have hT:T.length=m-2:=by have:=HL.out;simp at this;omega
     have m2:2<=m:=by omega
     obtain ⟨g,rfl,cj,cs⟩:=CJ hv (by simp);clear cj;have fb:=EJ hv (cA7 hT);have fc:=EJ (k:=m-1) hv (cA8 (by omega));have ha:=HC.out a (by simp);have dk:=HC.out b (by simp);have bb:=yS (op:=x.op) ha dk;have bp:=pA6 (show T++[UE x.op a b]=MF e p q (k+1) by rw [HN.out,<-HS.out,BS o0 o3]);have bt:=pA6 (show qC (e.drop (k+1)) ((m-2+1:Nat):Int)=some 1 by rw [<-bq.out];congr 1;omega);have bn:=pA6 (iJ (gM HC.out) bb);have bk:=pA6 (show m-2+1=(T++[UE x.op a b]).length by rw [List.length_append,hT];rfl);have HT:=pA6 hT;have bc:∀W,Calls prog 166 #[.int .i64 x.op,.int .i64 a,.int .i64 b] W (Ret W (.int .i64 (UE x.op a b))):=fun W=>oA9 W x.op a b dn ha dk
     obtain ⟨r,hr⟩:=pA7 (UE x.op a b);rw [<-hr] at bp bn bk;simp only [<-hr] at bc;have j1:(0:Int)<=(m:Int)-2:=by omega
     have j2:(m:Int)-2<(m:Int):=by omega
     have j3:(0:Int)<=(m:Int)-1:=by omega
     have j4:(m:Int)-1<(m:Int):=by omega
     have s0:=pA p0;have s1:=pA fb;have s2:=pA fc;have ds:=mAy hv;rw [hT] at ds;clear ck bv c3 c4 c5 o0 o3 dn HN HS HD bq HC HW cv cz dc dd ct hT p1 p2 p3 p4 p5 ka kb fb fc bb hr ha dk hv;go_wp2;refine IA (by kernel_rfl) ?_
     repeat (first | go_big_quiet_skip | (go_big_quiet_want;go_big_quiet_op;first | go_big_quiet_on | (apply Exists.intro;refine ⟨fun _=>?_,?_⟩;(· (((first | (go_at_call 166;exact DA (bc _))))));go_big_quiet_on)))
     refine JA fun wq hbq=>?_
     try dsimp only at *
     have cc:=hb.then hbq;have db:=(aA (B:=wB.heap.size)).bw hbq hb.size ds;have hFq:∀b∈F,b<wr.heap.size:=bz;have dq:=(aA (B:=wB.heap.size)).bw ((Bw.refl wq).alloc (.cells #[.int .i64 r] 3)) cc.size db;have dj:=cc.alloc (.cells #[.int .i64 r] 3);have dm:=cell_one_new wq (.int .i64 r) 3;have df:=hb.size;clear s0 s1 s2 ds db;go_wp2_with (at_builtin;refine lB _ rfl (.tmp 46) (.tmp 48) 26 rfl wB 3 i0 _ 1 8 underlying26 hi fn fp fq rfl (by omega) YA _ T F rfl dq hF ⟨wq.heap.size,0,none⟩ 1 rfl r [.int .i64 r] [] dm ⟨rfl,rfl⟩ rfl wr.heap.size bz sA.nil df (by rw [HT.out];omega) (by rw [HT.out];omega) dj ?_;intro v' w' F' bm bx bd);obtain ⟨A3,c3,rfl,cd,_⟩:=XA (xA bm);rw [<-bk.out] at bm cd ⊢
     go_roundg (n-(k+1))
     ·exact ⟨k+1,m-2+1,T++[r],F',A3,c3,by omega,rfl,by go_num,rfl,bk,by omega,cd,bm,bx,bp,bt,bn,bd⟩
     ·omega
  ·obtain rfl:k=n:=by omega
   have hm:(m:Int)=1:=by
    have:=HD.out;rw [List.drop_of_length_le (by rw [<-L.out];exact Nat.le_refl _),qC] at this;injection this
   obtain rfl:m=1:=by omega
   obtain ⟨T,a,cb⟩:=TY (l:=St) (by rw [<-HL.out];omega);subst cb;have hT:T=[]:=List.eq_nil_of_length_eq_zero (by have:=HL.out;rw [List.length_append] at this;simp only [List.length_singleton] at this;omega);subst hT;obtain ⟨g,rfl,cj,cs⟩:=CJ hv (by simp);clear cj;have hc:=EJ (k:=0) hv rfl;have HF:=pA6 (show a=zC e p q by rw [<-jN (e:=e) (x:=p) (y:=q) (k:=k) (by rw [<-L.out];exact Nat.le_refl _),<-HS.out];rfl);clear HS HD HC HL hm hv;go_wp2;go_ret;exact Ret.int HF.out (B0.then hb)
end Go.Proofs.YtpihighajaeabaaGreat
