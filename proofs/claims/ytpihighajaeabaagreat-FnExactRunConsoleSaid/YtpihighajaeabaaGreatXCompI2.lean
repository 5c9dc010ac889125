/- Comparisons of values and items in the program, by any wish. -/
import Derived.Test.YtpihighajaeabaaGreatXWishI
import Derived.Test.YtpihighajaeabaaGreatXIntss
import Derived.Test.YtpihighajaeabaaGreatXCostOf
namespace Go.Proofs.YtpihighajaeabaaGreat
open Go.RowKit Go.Proofs.Tryz
set_option linter.all false
set_option maxRecDepth 100000
set_option maxHeartbeats 16000000
theorem kAx (a b:Int):max a b=if a<=b then b else a:=by by_cases h:a<=b<;>simp [h]<;>omega
theorem iAu (x:AB) (v:Int) (k0:¬x.kind=0) (k1:¬x.kind=1) (k2:x.kind=2):YD x v=if v-x.value<x.value-v then x.value-v else v-x.value:=by
 rw [YD,if_neg k0,if_neg k1,if_pos k2,kAx];by_cases h:v-x.value<=x.value-v
 ·rw [if_pos h];split<;>omega
 ·rw [if_neg h,if_neg (by omega)]
def VX (w:World) (v:Value) (e:Ending) (w':World):Prop:=e=.returned v/\w'=w
theorem VX.int {w:World} {a b:Int} (h:b=a):VX w (.int .i64 b) (.returned (.int .i64 a)) w:=⟨by rw [h],rfl⟩
theorem SQ (w:World) (a b:Int) (ha : -1<=a/\a<=2) (hb : -1<=b/\b<=2):Calls prog 161 #[.int .i64 1,.int .i64 a,.int .i64 b] w (VX w (.int .i64 (UE 1 a b))):=by
 have ea:a = -1\/a=0\/a=1\/a=2:=by omega
 have eb:b = -1\/b=0\/b=1\/b=2:=by omega
 clear ha hb;rcases ea with rfl | rfl | rfl | rfl<;>rcases eb with rfl | rfl | rfl | rfl
 all_goals
  go_enter func161,ntmps161;go_wp2;go_ret;exact VX.int rfl
theorem DU (w:World) (op a b:Int) (hop:op=1\/op=2\/op=4) (ha : -1<=a/\a<=2) (hb : -1<=b/\b<=2):Calls prog 161 #[.int .i64 op,.int .i64 a,.int .i64 b] w (VX w (.int .i64 (UE op a b))):=by
 rcases hop with rfl | rfl | rfl
 ·exact SQ w a b ha hb
 ·by_cases h:a=0
  ·have e1:(a != 0)=false:=by simpa using h
   have H:=pA6 (show UE 2 a b=b by rw [UE,if_neg (by omega),if_pos rfl,if_pos h]);clear h;go_enter func161,ntmps161;go_wp2;go_ret;exact VX.int H.out
  ·have e1:(a != 0)=true:=by simpa using h
   have H:=pA6 (show UE 2 a b=a by rw [UE,if_neg (by omega),if_pos rfl,if_neg h]);clear h;go_enter func161,ntmps161;go_wp2;go_ret;exact VX.int H.out
 ·by_cases h:a=b
  ·have e1:(a==b)=true:=by simpa using h
   have H:=pA6 (show UE 4 a b=a by rw [UE,if_neg (by omega),if_neg (by omega),if_pos h]);clear h;go_enter func161,ntmps161;go_wp2;go_ret;exact VX.int H.out
  ·have e1:(a==b)=false:=by simpa using h
   have H:=pA6 (show UE 4 a b=2 by rw [UE,if_neg (by omega),if_neg (by omega),if_neg h]);clear h;go_enter func161,ntmps161;go_wp2;go_ret;exact VX.int H.out
theorem Ret.two {w w':World} {a b:Int} {c:Value} (h:a=b) (hb:Bw w w'):Ret w (.tuple #[.int .i64 b,c]) (.returned (.tuple #[.int .i64 a,c])) w':=⟨by rw [h],hb⟩
theorem ZO (w:World) (x:AB) (a u:Value) (v:Int) (h:Rd aB w x.list [a]) (h':Rd MC w x.pairs [u]) (hx:DB x=true) (h4:¬x.kind=4) (hv:0<=v/\v<=9) :
  Calls prog 260 #[.agg #[.int .i64 x.kind,.int .i64 x.field,.int .i64 x.value,a,u],.int .i64 v] w (Ret w (.tuple #[.int .i64 (YD x v),.bool true])):=by
 have B0:Bw w (w.alloc (.cells #[.int .i64 x.kind,.int .i64 x.field,.int .i64 x.value,a,u] 109)):=(Bw.refl w).alloc _;have HX:=pA6 hx;have HV:=pA6 (pD.2 hv);have hval:=aF hx;have hk:=ZG hx;clear hx;go_enter func260,ntmps260;go_wp2_with fail;refine (FL _ x _ _ (h.bw dA B0) (h'.bw RA B0)).mono ?_;rintro e w1 ⟨rfl,bc⟩;rw [HX.out];obtain ⟨p0,p1,p2,p3,p4⟩:C5 w1 w.heap.size (.int .i64 x.kind) (.int .i64 x.field) (.int .i64 x.value) a u:=bc.c5 (by unfold C5;go_simp);have B1:=B0.then bc;go_wp2_with fail;refine (rD _ _ _ _).mono ?_;rintro e w2 ⟨rfl,bb⟩;rw [HV.out];replace p0:=bb.cell p0;replace p2:=bb.cell p2;replace p3:=bb.cell p3;replace B1:=B1.then bb;clear p1 p4;by_cases k0:x.kind=0
 ·have q0:(x.kind==0)=true:=by simpa using k0
  have E:=pA6 (show v=YD x v by rw [YD,if_pos k0]);clear k0 h4;go_wp2;refine bodyPost_ret (v:=.tuple #[.int .i64 v,.bool true]) (by simp [results,results260,go_sem]) rfl (Ret.two (E.out) (B1))
 have q0:(x.kind==0)=false:=by simpa using k0
 by_cases k1:x.kind=1
 ·have q1:(x.kind==1)=true:=by simpa using k1
  have E:=pA6 (show 9-v=YD x v by rw [YD,if_neg k0,if_pos k1]);clear k0 k1 h4;go_wp2;refine bodyPost_ret (v:=.tuple #[.int .i64 (9-v),.bool true]) (by simp [results,results260,go_sem]) rfl (Ret.two (E.out) (B1))
 have q1:(x.kind==1)=false:=by simpa using k1
 by_cases k2:x.kind=2
 ·have q2:(x.kind==2)=true:=by simpa using k2
  have K:=iAu x v k0 k1 k2;by_cases hlt:v-x.value<x.value-v
  ·rw [if_pos hlt] at K;have E:=pA6 K;clear k0 k1 k2 h4 K;go_wp2;refine bodyPost_ret (v:=.tuple #[.int .i64 (x.value-v),.bool true]) (by simp [results,results260,go_sem]) rfl (Ret.two (E.out.symm) (B1))
  ·rw [if_neg hlt] at K;have E:=pA6 K;clear k0 k1 k2 h4 K;go_wp2;refine bodyPost_ret (v:=.tuple #[.int .i64 (v-x.value),.bool true]) (by simp [results,results260,go_sem]) rfl (Ret.two (E.out.symm) (B1))
 have q2:(x.kind==2)=false:=by simpa using k2
 have k3:x.kind=3:=by omega
 have q3:(x.kind==3)=true:=by simpa using k3
 have E:=pA6 (show YD x v=if x.list.contains v then 0 else 1 by rw [YD,if_neg k0,if_neg k1,if_neg k2]);clear k0 k1 k2 k3 h4 hk;go_wp2_with fail;refine (CE _ x.list v _ (h.bw dA B1)).mono ?_;rintro e w3 ⟨rfl,bd⟩;rcases pA8 (x.list.contains v) with e1 | e1
 ·have R:=pA6 e1;rw [e1];clear e1;go_wp2;refine bodyPost_ret (v:=.tuple #[.int .i64 0,.bool true]) (by simp [results,results260,go_sem]) rfl (Ret.two ((by rw [E.out,R.out];rfl)) ((B1.then bd)))
 ·have R:=pA6 e1;rw [e1];clear e1;go_wp2;refine bodyPost_ret (v:=.tuple #[.int .i64 1,.bool true]) (by simp [results,results260,go_sem]) rfl (Ret.two ((by rw [E.out,R.out];rfl)) ((B1.then bd)))
theorem EU (w:World) (x:AB) (v u:Value) (a b:Int) (h:Rd aB w x.list [v]) (h':Rd MC w x.pairs [u]) (hx:DB x=true) (ha:0<=a/\a<=9) (hb:0<=b/\b<=9) :
  Calls prog 206 #[.agg #[.int .i64 x.kind,.int .i64 x.field,.int .i64 x.value,v,u],.int .i64 a,.int .i64 b] w (Ret w (.int .i64 (AF x a b))):=by
 have B0:Bw w (w.alloc (.cells #[.int .i64 x.kind,.int .i64 x.field,.int .i64 x.value,v,u] 109)):=(Bw.refl w).alloc _;have HX:=pA6 hx;have HA:=pA6 (pD.2 ha);have HB:=pA6 (pD.2 hb);have ra:=RQ hx ha;have rb:=RQ hx hb;obtain ⟨i,rfl⟩:∃i:Nat,a=i:=⟨a.toNat,by omega⟩;obtain ⟨j,rfl⟩:∃j:Nat,b=j:=⟨b.toNat,by omega⟩;go_enter func206,ntmps206;go_wp2_with fail;refine (FL _ x _ _ (h.bw dA B0) (h'.bw RA B0)).mono ?_;rintro e w1 ⟨rfl,bq⟩;rw [HX.out];obtain ⟨p0,p1,p2,p3,p4⟩:C5 w1 w.heap.size (.int .i64 x.kind) (.int .i64 x.field) (.int .i64 x.value) v u:=bq.c5 (by unfold C5;go_simp);have B1:=B0.then bq;go_wp2_with fail;refine (rD _ _ _ _).mono ?_;rintro e w2 ⟨rfl,bf⟩;rw [HA.out];replace p0:=bf.cell p0;replace p1:=bf.cell p1;replace p2:=bf.cell p2;replace p3:=bf.cell p3;replace p4:=bf.cell p4;replace B1:=B1.then bf;go_wp2_with fail;refine (rD _ _ _ _).mono ?_;rintro e w3 ⟨rfl,bg⟩;rw [HB.out];replace p0:=bg.cell p0;replace p1:=bg.cell p1;replace p2:=bg.cell p2;replace p3:=bg.cell p3;replace p4:=bg.cell p4;replace B1:=B1.then bg;by_cases k4:x.kind=4
 ·have q4:(x.kind==4)=true:=by simpa using k4
  have hp:=oH hx k4;have HP:=pA6 (dI hp);have HC:=pA6 (show AF x i j=if (i:Int)=(j:Int) then 0 else if iD x.pairs i j then 1 else if iD x.pairs j i then -1 else 2 by rw [AF,if_pos k4]);clear k4 hp hx ra rb;go_wp2_with fail;refine (hAx _ x.pairs _ (h'.bw RA B1) HP.out).mono ?_;rintro e w4 ⟨rfl,bc⟩;obtain ⟨B,hB⟩:=pA7 (oD (PM x.pairs) 10);rw [<-hB];rw [show iD x.pairs i j=B i j by rw [hB];rfl,show iD x.pairs j i=B j i by rw [hB];rfl] at HC;clear hB;have bd:=pV;rw [<-rF B] at bd;have bm:Tryz.zeroCells228.size=(eD B).size:=by rw [rF];kernel_rfl
  have RR:Row (w4.alloc (.cells (eD B) 228)) w4.heap.size 228 (eD B):=heap_alloc_new _ _;have bp:=(B1.then bc).alloc (.cells (eD B) 228);have bk:(w4.alloc (.cells Tryz.zeroCells228 228)).heap[w4.heap.size]? = some (.cells Tryz.zeroCells228 228 (0,0)):=heap_alloc_new _ _;have bb:(w4.alloc (.cells Tryz.zeroCells228 228)).setRow w4.heap.size (eD B)=w4.alloc (.cells (eD B) 228):=World.setRow_alloc_new w4 _ _ _;have i1:(i:Int)<10:=by omega
  have j1:(j:Int)<10:=by omega
  have bn:=RR.cell (i*10+j);rw [DJ (by omega) (by omega)] at bn;have bj:=RR.cell (j*10+i);rw [DJ (by omega) (by omega)] at bj;obtain ⟨W,hW⟩:=pA7 (w4.alloc (.cells (eD B) 228));rw [<-hW] at bn bj bb bp;clear RR hW;by_cases eij:(i:Int)=j
  ·have e1:((i:Int)==(j:Int))=true:=by simpa using eij
   have E:=pA6 (show AF x i j=0 by rw [HC.out,if_pos eij]);clear eij bn bj HC;go_wp2_with (first | (refine wpList_store_row rfl 228 (.tmp 7) (.tmp 30) rfl w4.heap.size (eD B) rfl rfl 228 Tryz.zeroCells228 bk bd bm (kK _) ?_;rw [bb]));clear bd bm bk bb;go_wp2;go_ret;exact Ret.int (E.out.symm) (bp)
  ·have e1:((i:Int)==(j:Int))=false:=by simpa using eij
   rcases pA8 (B i j) with r1 | r1
   ·rw [r1] at bn;have E:=pA6 (show AF x i j=1 by rw [HC.out,if_neg eij,if_pos r1]);clear eij HC r1 bj;go_wp2_with (first | (refine wpList_store_row rfl 228 (.tmp 7) (.tmp 30) rfl w4.heap.size (eD B) rfl rfl 228 Tryz.zeroCells228 bk bd bm (kK _) ?_;rw [bb]));clear bd bm bk bb;go_wp2;go_ret;exact Ret.int (E.out.symm) (bp)
   ·rw [r1] at bn;rcases pA8 (B j i) with r2 | r2;rotate_left
    focus
     rw [r2] at bj;have E:=pA6 (show AF x i j=2 by rw [HC.out,if_neg eij,r1,r2];rfl)
    rotate_right
    focus
     rw [r2] at bj;have E:=pA6 (show AF x i j = -1 by rw [HC.out,if_neg eij,r1,r2];rfl)
    all_goals
     clear eij HC r1 r2;go_wp2_with (first | (refine wpList_store_row rfl 228 (.tmp 7) (.tmp 30) rfl w4.heap.size (eD B) rfl rfl 228 Tryz.zeroCells228 bk bd bm (kK _) ?_;rw [bb]));clear bd bm bk bb;go_wp2;go_ret;exact Ret.int (E.out.symm) (bp)
 ·have q4:(x.kind==4)=false:=by simpa using k4
  have HC:=pA6 (show AF x i j=if YD x i<YD x j then 1 else if YD x j<YD x i then -1 else 0 by rw [AF,if_neg k4]);have K4:=pA6 k4;clear k4 hx;go_wp2_with fail;refine (ZO _ x _ _ i (h.bw dA B1) (h'.bw RA B1) HX.out K4.out ha).mono ?_;rintro e w4 ⟨rfl,bc⟩;replace p0:=bc.cell p0;replace p1:=bc.cell p1;replace p2:=bc.cell p2;replace p3:=bc.cell p3;replace p4:=bc.cell p4;replace B1:=B1.then bc;go_wp2_with fail;refine (ZO _ x _ _ j (h.bw dA B1) (h'.bw RA B1) HX.out K4.out hb).mono ?_;rintro e w5 ⟨rfl,bs⟩;have B3:=B1.then bs;obtain ⟨r,hr⟩:=pA7 (YD x i);obtain ⟨s,hs⟩:=pA7 (YD x j);rw [<-hr,<-hs] at HC;rw [<-hr] at ra ⊢;rw [<-hs] at rb ⊢;clear hr hs;by_cases l1:r<s
  ·have E:=pA6 (show AF x i j=1 by rw [HC.out,if_pos l1]);go_wp2;go_ret;exact Ret.int (E.out.symm) (B3)
  ·by_cases l2:s<r
   ·have E:=pA6 (show AF x i j = -1 by rw [HC.out,if_neg l1,if_pos l2]);go_wp2;go_ret;exact Ret.int (E.out.symm) (B3)
   ·have E:=pA6 (show AF x i j=0 by rw [HC.out,if_neg l1,if_neg l2]);go_wp2;go_ret;exact Ret.int (E.out.symm) (B3)
theorem wV (w:World) (x:AB) (p q:iA) (v u v1 v2:Value) (h:Rd aB w x.list [v]) (h':Rd MC w x.pairs [u]) (h1:Rd aB w p.vals [v1]) (h2:Rd aB w q.vals [v2]) (hx:DB x=true) (hp:gB p=true) (hq:gB q=true) :
  Calls prog 160 #[.agg #[.int .i64 x.kind,.int .i64 x.field,.int .i64 x.value,v,u],.agg #[.int .i64 p.id,v1],.agg #[.int .i64 q.id,v2]] w (Ret w (.int .i64 (PG x p q))):=by
 have bt:=NF hx;obtain ⟨f,hf⟩:∃f:Nat,x.field=f:=⟨x.field.toNat,by omega⟩;have bq:=jB hp;have bs:=jB hq;have HE:=pA6 (show AF x (LF p f) (LF q f)=PG x p q by unfold PG;rw [hf]);have bg:f<=2:=by omega
 have Vp:=pA6 (eN hp bg);have Vq:=pA6 (eN hq bg);have HX:=pA6 hx;have HP:=pA6 hp;have HQ:=pA6 hq;obtain ⟨A1,n1,c1,rfl,L1,L1c,L1m⟩:=qA h1;obtain ⟨A2,n2,c2,rfl,L2,L2c,L2m⟩:=qA h2;rw [bq] at L1;rw [bs] at L2;subst L1 L2;obtain ⟨b1,o1,rfl,_,bk⟩:=KB h1 (EL hp bg);obtain ⟨b2,o2,rfl,_,bm⟩:=KB h2 (EL hq bg);have B0:Bw w (((w.alloc (.cells #[.int .i64 x.kind,.int .i64 x.field,.int .i64 x.value,v,u] 109)).alloc (.cells #[.int .i64 p.id,.slice (some ⟨b1,o1,none⟩) 3 c1] 30)).alloc (.cells #[.int .i64 q.id,.slice (some ⟨b2,o2,none⟩) 3 c2] 30)):=(((Bw.refl w).alloc _).alloc _).alloc _;have HF:=pA6 hf;clear hx hp hq bq bs bt hf;go_enter func160,ntmps160;go_wp2_with fail;refine (FL _ x _ _ (h.bw dA B0) (h'.bw RA B0)).mono ?_;rintro e w1 ⟨rfl,bd⟩;rw [HX.out];obtain ⟨p0,p1,p2,p3,p4⟩:C5 w1 w.heap.size (.int .i64 x.kind) (.int .i64 x.field) (.int .i64 x.value) v u:=bd.c5 (by unfold C5;go_simp);obtain ⟨q0,q1⟩:C2 w1 (w.heap.size+1) (.int .i64 p.id) (.slice (some ⟨b1,o1,none⟩) 3 c1):=bd.c2 (by unfold C2;go_simp);obtain ⟨r0,r1⟩:C2 w1 (w.heap.size+1+1) (.int .i64 q.id) (.slice (some ⟨b2,o2,none⟩) 3 c2):=bd.c2 (by unfold C2;go_simp);have B1:=B0.then bd;go_wp2_with fail;refine (cG _ p _ (h1.bw dA B1)).mono ?_;rintro e w2 ⟨rfl,bf⟩;rw [HP.out];have B2:=B1.then bf;replace r0:=bf.cell r0;replace r1:=bf.cell r1;go_wp2_with fail;refine (cG _ q _ (h2.bw dA B2)).mono ?_;rintro e w3 ⟨rfl,bj⟩
 rw [HQ.out];have B3:=B2.then bj;have bb:=bf.then bj;replace p0:=bb.cell p0;replace p1:=bb.cell p1;replace p2:=bb.cell p2;replace p3:=bb.cell p3;replace p4:=bb.cell p4;replace q1:=bb.cell q1;replace r1:=bj.cell r1;have bn:=B3.cell bk;have bp:=B3.cell bm;have k1:=h.bw dA B3;have k2:=h'.bw RA B3;rw [HF.out] at p1;have i1:(0:Int)<=(f:Int):=by omega
 have i2:(f:Int)<3:=by omega
 have s0:=pA p0;have s1:=pA p1;have s2:=pA p2;have s3:=pA p3;have s4:=pA p4;have s5:=pA q1;have s6:=pA r1;have s7:=pA bn;have s8:=pA bp;have bc:∀s:eC w3,Calls prog 206 #[.agg #[.int .i64 x.kind,.int .i64 f,.int .i64 x.value,v,u],.int .i64 (LF p f),.int .i64 (LF q f)] s.1 (Ret s.1 (.int .i64 (AF x (LF p f) (LF q f)))):=fun s=>by
  have:=EU s.1 x v u (LF p f) (LF q f) (k1.bw dA s.bw) (k2.bw RA s.bw) HX.out Vp.out Vq.out
  rwa [HF.out] at this
 clear p0 p1 p2 p3 p4 q0 q1 r0 r1 bn bp bk bm;go_wp2;refine IA (by kernel_rfl) ?_
 repeat (first | go_big_quiet_skip | (go_big_quiet_want;go_big_quiet_op;first | go_big_quiet_on | (apply Exists.intro;refine ⟨fun _=>?_,?_⟩;(· (((first | (go_at_call 206;exact DA (bc _))))));go_big_quiet_on)))
 refine JA fun wq hbq=>?_
 try dsimp only at *
 go_wp2;go_ret;exact Ret.int HE.out (B3.then hbq)
end Go.Proofs.YtpihighajaeabaaGreat
