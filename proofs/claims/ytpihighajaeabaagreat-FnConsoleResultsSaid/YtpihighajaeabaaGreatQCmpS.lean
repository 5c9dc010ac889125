/- Comparisons of items by an expression in the reference. -/
import Derived.Test.YtpihighajaeabaaGreatQCompI
import Derived.Test.YtpihighajaeabaaGreatQWishS
import Derived.Test.YtpihighajaeabaaGreatQReach
namespace Go.Proofs.YtpihighajaeabaaGreat
open Go.RowKit
set_option linter.unusedVariables false
set_option linter.unusedSimpArgs false
set_option maxRecDepth 100000 in
set_option maxHeartbeats 3200000 in
theorem sQ (w:World) (x:eB) (v u:Value) (a b:Int) (h:Rd XA w x.list [v]) (h':Rd RB w x.pairs [u]) (hx:gB x=true) (ha:0≤a∧a≤9) (hb:0≤b∧b≤9) :
  Calls Tryz.prog 206 #[.agg #[.int .i64 x.kind,.int .i64 x.field,.int .i64 x.value,v,u],.int .i64 a,.int .i64 b] w (Ret w (.int .i64 (iE x a b))):=by
 have B0:Bw w (w.alloc (.cells #[.int .i64 x.kind,.int .i64 x.field,.int .i64 x.value,v,u] 109)):=(Bw.refl w).alloc _;have HX:=Lib.hid hx;have HA:=Lib.hid (qC.2 ha);have HB:=Lib.hid (qC.2 hb);have ra:=RN hx ha;have rb:=RN hx hb;obtain ⟨i,rfl⟩:∃i:Nat,a=i:=⟨a.toNat,by omega⟩;obtain ⟨j,rfl⟩:∃j:Nat,b=j:=⟨b.toNat,by omega⟩;go_enter Tryz.func206,Tryz.ntmps206;go_wp2_with fail;refine (fG _ x _ _ (h.bw dA B0) (h'.bw DA B0)).mono ?_;rintro e w1 ⟨rfl,hb1⟩;rw [HX.out];have p0:w1.cell? ⟨w.heap.size,0,none⟩=some (.int .i64 x.kind):=hb1.cell (by go_simp);have p1:w1.cell? ⟨w.heap.size,1,none⟩=some (.int .i64 x.field):=hb1.cell (by go_simp);have p2:w1.cell? ⟨w.heap.size,2,none⟩=some (.int .i64 x.value):=hb1.cell (by go_simp);have p3:w1.cell? ⟨w.heap.size,3,none⟩=some (v):=hb1.cell (by go_simp);have p4:w1.cell? ⟨w.heap.size,4,none⟩=some (u):=hb1.cell (by go_simp);have B1:=B0.then hb1;go_wp2_with fail;refine (JC _ _ _ _).mono ?_;rintro e w2 ⟨rfl,hb2⟩;rw [HA.out];replace p0:=hb2.cell p0;replace p1:=hb2.cell p1;replace p2:=hb2.cell p2;replace p3:=hb2.cell p3;replace p4:=hb2.cell p4;replace B1:=B1.then hb2;go_wp2_with fail;refine (JC _ _ _ _).mono ?_;rintro e w3 ⟨rfl,hb3⟩;rw [HB.out];replace p0:=hb3.cell p0;replace p1:=hb3.cell p1;replace p2:=hb3.cell p2;replace p3:=hb3.cell p3;replace p4:=hb3.cell p4;replace B1:=B1.then hb3;by_cases k4:x.kind=4
 ·have q4:(x.kind==4)=true:=by simpa using k4
  have hp:=NF hx k4;have HP:=Lib.hid (wF hp);have HC:=Lib.hid (show iE x i j=if (i:Int)=(j:Int) then 0 else if AC x.pairs i j then 1 else if AC x.pairs j i then -1 else 2 by rw [iE,if_pos k4]);clear k4 hp hx ra rb;go_wp2_with fail;refine (bAh _ x.pairs _ (h'.bw DA B1) HP.out).mono ?_;rintro e w4 ⟨rfl,hb4⟩;obtain ⟨B,hB⟩:∃B,B=FC (IK x.pairs) 10:=⟨_,rfl⟩;rw [← hB];rw [show AC x.pairs i j=B i j by rw [hB];rfl,show AC x.pairs j i=B j i by rw [hB];rfl] at HC;clear hB;have hmi:=VQ;rw [← eE B] at hmi;have hzz:Tryz.zeroCells228.size=(yC B).size:=by rw [eE];kernel_rfl
  have RR:Row (w4.alloc (.cells (yC B) 228)) w4.heap.size 228 (yC B):=heap_alloc_new _ _;have hbW:=(B1.then hb4).alloc (.cells (yC B) 228);have hg0:(w4.alloc (.cells Tryz.zeroCells228 228)).heap[w4.heap.size]? = some (.cells Tryz.zeroCells228 228 (0,0)):=heap_alloc_new _ _;have hset:(w4.alloc (.cells Tryz.zeroCells228 228)).setRow w4.heap.size (yC B)=w4.alloc (.cells (yC B) 228):=World.setRow_alloc_new w4 _ _ _;have i1:(i:Int)<10:=by omega
  have j1:(j:Int)<10:=by omega
  have hc1:=RR.cell (i*10+j);rw [PH (by omega) (by omega)] at hc1;have hc2:=RR.cell (j*10+i);rw [PH (by omega) (by omega)] at hc2;obtain ⟨W,hW⟩:∃W,W=w4.alloc (.cells (yC B) 228):=⟨_,rfl⟩;rw [← hW] at hc1 hc2 hset hbW;clear RR hW;by_cases eij:(i:Int)=j
  ·have e1:((i:Int)==(j:Int))=true:=by simpa using eij
   have E:=Lib.hid (show iE x i j=0 by rw [HC.out,if_pos eij]);clear eij hc1 hc2 HC;go_wp2_with (first | (refine wpList_store_row rfl 228 (.tmp 7) (.tmp 30) rfl w4.heap.size (yC B) rfl rfl 228 Tryz.zeroCells228 hg0 hmi hzz (sI _) ?_;rw [hset]));clear hmi hzz hg0 hset;go_wp2;go_ret;exact Ret.int (E.out.symm) (hbW)
  ·have e1:((i:Int)==(j:Int))=false:=by simpa using eij
   rcases Bool.eq_false_or_eq_true (B i j) with r1 | r1
   ·rw [r1] at hc1;have E:=Lib.hid (show iE x i j=1 by rw [HC.out,if_neg eij,if_pos r1]);clear eij HC r1 hc2;go_wp2_with (first | (refine wpList_store_row rfl 228 (.tmp 7) (.tmp 30) rfl w4.heap.size (yC B) rfl rfl 228 Tryz.zeroCells228 hg0 hmi hzz (sI _) ?_;rw [hset]));clear hmi hzz hg0 hset;go_wp2;go_ret;exact Ret.int (E.out.symm) (hbW)
   ·rw [r1] at hc1;rcases Bool.eq_false_or_eq_true (B j i) with r2 | r2
    ·rw [r2] at hc2;have E:=Lib.hid (show iE x i j = -1 by rw [HC.out,if_neg eij,r1,r2];rfl);clear eij HC r1 r2;go_wp2_with (first | (refine wpList_store_row rfl 228 (.tmp 7) (.tmp 30) rfl w4.heap.size (yC B) rfl rfl 228 Tryz.zeroCells228 hg0 hmi hzz (sI _) ?_;rw [hset]));clear hmi hzz hg0 hset;go_wp2;go_ret;exact Ret.int (E.out.symm) (hbW)
    ·rw [r2] at hc2;have E:=Lib.hid (show iE x i j=2 by rw [HC.out,if_neg eij,r1,r2];rfl);clear eij HC r1 r2;go_wp2_with (first | (refine wpList_store_row rfl 228 (.tmp 7) (.tmp 30) rfl w4.heap.size (yC B) rfl rfl 228 Tryz.zeroCells228 hg0 hmi hzz (sI _) ?_;rw [hset]));clear hmi hzz hg0 hset;go_wp2;go_ret;exact Ret.int (E.out.symm) (hbW)
 ·have q4:(x.kind==4)=false:=by simpa using k4
  have HC:=Lib.hid (show iE x i j=if iD x i<iD x j then 1 else if iD x j<iD x i then -1 else 0 by rw [iE,if_neg k4]);have K4:=Lib.hid k4;clear k4 hx;go_wp2_with fail;refine (wM _ x _ _ i (h.bw dA B1) (h'.bw DA B1) HX.out K4.out ha).mono ?_;rintro e w4 ⟨rfl,hb4⟩;replace p0:=hb4.cell p0;replace p1:=hb4.cell p1;replace p2:=hb4.cell p2;replace p3:=hb4.cell p3;replace p4:=hb4.cell p4;replace B1:=B1.then hb4;go_wp2_with fail;refine (wM _ x _ _ j (h.bw dA B1) (h'.bw DA B1) HX.out K4.out hb).mono ?_;rintro e w5 ⟨rfl,hb5⟩;have B3:=B1.then hb5;obtain ⟨r,hr⟩:∃r,r=iD x i:=⟨_,rfl⟩;obtain ⟨s,hs⟩:∃s,s=iD x j:=⟨_,rfl⟩;rw [← hr,← hs] at HC;rw [← hr] at ra ⊢;rw [← hs] at rb ⊢;clear hr hs;by_cases l1:r<s
  ·have E:=Lib.hid (show iE x i j=1 by rw [HC.out,if_pos l1]);go_wp2;go_ret;exact Ret.int (E.out.symm) (B3)
  ·by_cases l2:s<r
   ·have E:=Lib.hid (show iE x i j = -1 by rw [HC.out,if_neg l1,if_pos l2]);go_wp2;go_ret;exact Ret.int (E.out.symm) (B3)
   ·have E:=Lib.hid (show iE x i j=0 by rw [HC.out,if_neg l1,if_neg l2]);go_wp2;go_ret;exact Ret.int (E.out.symm) (B3)
set_option maxRecDepth 100000 in
set_option maxHeartbeats 3200000 in
theorem ZQ (w:World) (x:eB) (p q:gA) (v u v1 v2:Value) (h:Rd XA w x.list [v]) (h':Rd RB w x.pairs [u]) (h1:Rd XA w p.vals [v1]) (h2:Rd XA w q.vals [v2]) (hx:gB x=true) (hp:LA p=true) (hq:LA q=true) :
  Calls Tryz.prog 160 #[.agg #[.int .i64 x.kind,.int .i64 x.field,.int .i64 x.value,v,u],.agg #[.int .i64 p.id,v1],.agg #[.int .i64 q.id,v2]] w (Ret w (.int .i64 (kF x p q))):=by
 have hf0:=fC hx;obtain ⟨f,hf⟩:∃f:Nat,x.field=f:=⟨x.field.toNat,by omega⟩;have hpl:=YA hp;have hql:=YA hq;have HE:=Lib.hid (show iE x (nE p f) (nE q f)=kF x p q by unfold kF;rw [hf]);have hf2:f≤2:=by omega
 have Vp:=Lib.hid (XK hp hf2);have Vq:=Lib.hid (XK hq hf2);have HX:=Lib.hid hx;have HP:=Lib.hid hp;have HQ:=Lib.hid hq;obtain ⟨A1,n1,c1,rfl,L1,L1c,L1m⟩:=iA h1;obtain ⟨A2,n2,c2,rfl,L2,L2c,L2m⟩:=iA h2;rw [hpl] at L1;rw [hql] at L2;subst L1 L2;obtain ⟨b1,o1,rfl,_,hc1⟩:=GB h1 (MJ hp hf2);obtain ⟨b2,o2,rfl,_,hc2⟩:=GB h2 (MJ hq hf2);have B0:Bw w (((w.alloc (.cells #[.int .i64 x.kind,.int .i64 x.field,.int .i64 x.value,v,u] 109)).alloc (.cells #[.int .i64 p.id,.slice (some ⟨b1,o1,none⟩) 3 c1] 30)).alloc (.cells #[.int .i64 q.id,.slice (some ⟨b2,o2,none⟩) 3 c2] 30)):=(((Bw.refl w).alloc _).alloc _).alloc _;have HF:=Lib.hid hf;clear hx hp hq hpl hql hf0 hf;go_enter Tryz.func160,Tryz.ntmps160;go_wp2_with fail;refine (fG _ x _ _ (h.bw dA B0) (h'.bw DA B0)).mono ?_;rintro e w1 ⟨rfl,hb1⟩;rw [HX.out];have p0:w1.cell? ⟨w.heap.size,0,none⟩=some (.int .i64 x.kind):=hb1.cell (by go_simp);have p1:w1.cell? ⟨w.heap.size,1,none⟩=some (.int .i64 x.field):=hb1.cell (by go_simp);have p2:w1.cell? ⟨w.heap.size,2,none⟩=some (.int .i64 x.value):=hb1.cell (by go_simp);have p3:w1.cell? ⟨w.heap.size,3,none⟩=some (v):=hb1.cell (by go_simp);have p4:w1.cell? ⟨w.heap.size,4,none⟩=some (u):=hb1.cell (by go_simp);have q0:w1.cell? ⟨w.heap.size+1,0,none⟩=some (.int .i64 p.id):=hb1.cell (by go_simp);have q1:w1.cell? ⟨w.heap.size+1,1,none⟩=some (.slice (some ⟨b1,o1,none⟩) 3 c1):=hb1.cell (by go_simp);have r0:w1.cell? ⟨w.heap.size+1+1,0,none⟩=some (.int .i64 q.id):=hb1.cell (by go_simp)
 have r1:w1.cell? ⟨w.heap.size+1+1,1,none⟩=some (.slice (some ⟨b2,o2,none⟩) 3 c2):=hb1.cell (by go_simp);have B1:=B0.then hb1;go_wp2_with fail;refine (IE _ p _ (h1.bw dA B1)).mono ?_;rintro e w2 ⟨rfl,hb2⟩;rw [HP.out];have B2:=B1.then hb2;replace r0:=hb2.cell r0;replace r1:=hb2.cell r1;go_wp2_with fail;refine (IE _ q _ (h2.bw dA B2)).mono ?_;rintro e w3 ⟨rfl,hb3⟩;rw [HQ.out];have B3:=B2.then hb3;have hbC:=hb2.then hb3;replace p0:=hbC.cell p0;replace p1:=hbC.cell p1;replace p2:=hbC.cell p2;replace p3:=hbC.cell p3;replace p4:=hbC.cell p4;replace q1:=hbC.cell q1;replace r1:=hb3.cell r1;have hcp:=B3.cell hc1;have hcq:=B3.cell hc2;have k1:=h.bw dA B3;have k2:=h'.bw DA B3;rw [HF.out] at p1;have i1:(0:Int)≤(f:Int):=by omega
 have i2:(f:Int)<3:=by omega
 have s0:=qA p0;have s1:=qA p1;have s2:=qA p2;have s3:=qA p3;have s4:=qA p4;have s5:=qA q1;have s6:=qA r1;have s7:=qA hcp;have s8:=qA hcq;have hcall:∀s:GC w3,Calls Tryz.prog 206 #[.agg #[.int .i64 x.kind,.int .i64 f,.int .i64 x.value,v,u],.int .i64 (nE p f),.int .i64 (nE q f)] s.1 (Ret s.1 (.int .i64 (iE x (nE p f) (nE q f)))):=fun s=>by
  have:=sQ s.1 x v u (nE p f) (nE q f) (k1.bw dA s.bw) (k2.bw DA s.bw) HX.out Vp.out Vq.out
  rwa [HF.out] at this
 clear p0 p1 p2 p3 p4 q0 q1 r0 r1 hcp hcq hc1 hc2;go_wp2;refine mA (by kernel_rfl) (by kernel_rfl) ?_
 repeat (first | go_big_quiet_skip | (go_big_quiet_want;go_big_quiet_op;first | go_big_quiet_on | (apply Exists.intro;refine ⟨fun _=>?_,?_⟩;(· (((first | (go_at_call 206;exact GA (hcall _))))));go_big_quiet_on)))
 refine wpQuiet_nil ?_;rintro ⟨wq,hbq⟩;dsimp only at *;go_wp2;go_ret;exact Ret.int HE.out (B3.then hbq)
end Go.Proofs.YtpihighajaeabaaGreat
namespace Go.Proofs.YtpihighajaeabaaGreat
open Go.RowKit
set_option linter.unusedVariables false
set_option linter.unusedSimpArgs false
theorem bAi (a b:Int):max a b=if a≤b then b else a:=by by_cases h:a≤b<;>simp [h]<;>omega
set_option maxRecDepth 100000 in
set_option maxHeartbeats 1600000 in
theorem TW (w:World) (x:eB) (a u:Value) (v:Int) (h:Rd XA w x.list [a]) (h':Rd RB w x.pairs [u]) (hx:0≤x.value∧x.value≤9) (hv:0≤v∧v≤9) :
  Calls Tryz.prog 227 #[.agg #[.int .i64 x.kind,.int .i64 x.field,.int .i64 x.value,a,u],.int .i64 v] w (Ret w (.int .i64 (iD x v))):=by
 have B0:Bw w (w.alloc (.cells #[.int .i64 x.kind,.int .i64 x.field,.int .i64 x.value,a,u] 109)):=(Bw.refl w).alloc _;by_cases k0:x.kind=0
 ·have q0:(x.kind==0)=true:=by simpa using k0
  have K:=Lib.hid k0;clear k0;go_enter Tryz.func227,Tryz.ntmps227;go_wp2;go_ret;exact Ret.int (by rw [iD,if_pos K.out]) (B0)
 have q0:(x.kind==0)=false:=by simpa using k0
 by_cases k1:x.kind=1
 ·have q1:(x.kind==1)=true:=by simpa using k1
  have K:=Lib.hid (show ¬x.kind=0∧x.kind=1 from ⟨k0,k1⟩);clear k0 k1;go_enter Tryz.func227,Tryz.ntmps227;go_wp2;go_ret;exact Ret.int (by rw [iD,if_neg K.out.1,if_pos K.out.2]) (B0)
 have q1:(x.kind==1)=false:=by simpa using k1
 by_cases k2:x.kind=2
 ·have q2:(x.kind==2)=true:=by simpa using k2
  have K:=trivial;by_cases hlt:v-x.value<x.value-v
  ·have E:=Lib.hid (show iD x v=x.value-v by rw [iD,if_neg k0,if_neg k1,if_pos k2,bAi,if_pos (by omega)]);clear k0 k1 k2 K;go_enter Tryz.func227,Tryz.ntmps227;go_wp2;go_ret;exact Ret.int (E.out.symm) (B0)
  ·have E:=Lib.hid (show iD x v=v-x.value by
    rw [iD,if_neg k0,if_neg k1,if_pos k2,bAi];by_cases he:v-x.value≤x.value-v
    ·rw [if_pos he];omega
    ·rw [if_neg he])
   clear k0 k1 k2 K;go_enter Tryz.func227,Tryz.ntmps227;go_wp2;go_ret;exact Ret.int (E.out.symm) (B0)
 have q2:(x.kind==2)=false:=by simpa using k2
 have K:=Lib.hid (show ¬x.kind=0∧¬x.kind=1∧¬x.kind=2 from ⟨k0,k1,k2⟩);clear k0 k1 k2;go_enter Tryz.func227,Tryz.ntmps227;go_wp2_with fail;refine (bAf _ x.list v _ (h.bw dA B0)).mono ?_;rintro e w2 ⟨rfl,hb2⟩;rcases Bool.eq_false_or_eq_true (x.list.contains v) with e1 | e1
 ·have E:=Lib.hid e1;rw [e1];clear e1;go_wp2;go_ret;exact Ret.int (by rw [iD,if_neg K.out.1,if_neg K.out.2.1,if_neg K.out.2.2,E.out];rfl) (B0.then hb2)
 ·have E:=Lib.hid e1;rw [e1];clear e1;go_wp2;go_ret;exact Ret.int (by rw [iD,if_neg K.out.1,if_neg K.out.2.1,if_neg K.out.2.2,E.out];rfl) (B0.then hb2)
set_option maxRecDepth 100000 in
set_option maxHeartbeats 1600000 in
theorem VW (w:World) (x:eB) (v u:Value) (a b:Int) (h:Rd XA w x.list [v]) (h':Rd RB w x.pairs [u]) (hx:gB x=true) (ha:0≤a∧a≤9) (hb:0≤b∧b≤9) :
  Calls Tryz.prog 165 #[.agg #[.int .i64 x.kind,.int .i64 x.field,.int .i64 x.value,v,u],.int .i64 a,.int .i64 b] w (Ret w (.int .i64 (iE x a b))):=by
 have B0:Bw w (w.alloc (.cells #[.int .i64 x.kind,.int .i64 x.field,.int .i64 x.value,v,u] 109)):=(Bw.refl w).alloc _;by_cases k4:x.kind=4
 ·have q4:(x.kind==4)=true:=by simpa using k4
  have K:=Lib.hid k4;have hp:=NF hx k4;have HP:=Lib.hid (wF hp);have H8:=Lib.hid (YG hp);clear k4 hp hx;by_cases eab:a=b
  ·have e1:(a==b)=true:=by simpa using eab
   have E:=Lib.hid eab;clear eab;go_enter Tryz.func165,Tryz.ntmps165;go_wp2;go_ret;exact Ret.int (by rw [iE,if_pos K.out,if_pos E.out]) (B0)
  ·have e1:(a==b)=false:=by simpa using eab
   have E:=Lib.hid eab;clear eab;go_enter Tryz.func165,Tryz.ntmps165;go_wp2_with fail;refine (MO _ x.pairs a b _ (h'.bw DA B0) HP.out H8.out ha hb).mono ?_;rintro e w2 ⟨rfl,hb2⟩;have p0:w2.cell? ⟨w.heap.size,0,none⟩=some (.int .i64 x.kind):=hb2.cell (by go_simp);have p1:w2.cell? ⟨w.heap.size,1,none⟩=some (.int .i64 x.field):=hb2.cell (by go_simp);have p2:w2.cell? ⟨w.heap.size,2,none⟩=some (.int .i64 x.value):=hb2.cell (by go_simp);have p3:w2.cell? ⟨w.heap.size,3,none⟩=some (v):=hb2.cell (by go_simp);have p4:w2.cell? ⟨w.heap.size,4,none⟩=some (u):=hb2.cell (by go_simp);have B2:=B0.then hb2;rcases Bool.eq_false_or_eq_true (AC x.pairs a b) with r1 | r1
   ·have R:=Lib.hid r1;rw [r1];clear r1;go_wp2;go_ret;exact Ret.int (by rw [iE,if_pos K.out,if_neg E.out,if_pos R.out]) (B2)
   ·have R:=Lib.hid r1;rw [r1];clear r1;go_wp2_with fail;refine (MO _ x.pairs b a _ (h'.bw DA B2) HP.out H8.out hb ha).mono ?_;rintro e w3 ⟨rfl,hb3⟩;rcases Bool.eq_false_or_eq_true (AC x.pairs b a) with r2 | r2
    ·have R2:=Lib.hid r2;rw [r2];clear r2;go_wp2;go_ret;exact Ret.int (by rw [iE,if_pos K.out,if_neg E.out,R.out,R2.out];rfl) (B2.then hb3)
    ·have R2:=Lib.hid r2;rw [r2];clear r2;go_wp2;go_ret;exact Ret.int (by rw [iE,if_pos K.out,if_neg E.out,R.out,R2.out];rfl) (B2.then hb3)
 ·have q4:(x.kind==4)=false:=by simpa using k4
  have K:=Lib.hid k4;have hval:=gC hx;have ra:=RN hx ha;have rb:=RN hx hb;clear k4 hx;go_enter Tryz.func165,Tryz.ntmps165;go_wp2_with fail;refine (TW _ x _ _ a (h.bw dA B0) (h'.bw DA B0) hval ha).mono ?_;rintro e w2 ⟨rfl,hb2⟩;have p0:w2.cell? ⟨w.heap.size,0,none⟩=some (.int .i64 x.kind):=hb2.cell (by go_simp);have p1:w2.cell? ⟨w.heap.size,1,none⟩=some (.int .i64 x.field):=hb2.cell (by go_simp);have p2:w2.cell? ⟨w.heap.size,2,none⟩=some (.int .i64 x.value):=hb2.cell (by go_simp);have p3:w2.cell? ⟨w.heap.size,3,none⟩=some (v):=hb2.cell (by go_simp);have p4:w2.cell? ⟨w.heap.size,4,none⟩=some (u):=hb2.cell (by go_simp);have B2:=B0.then hb2;go_wp2_with fail;refine (TW _ x _ _ b (h.bw dA B2) (h'.bw DA B2) hval hb).mono ?_;rintro e w3 ⟨rfl,hb3⟩;have B3:=B2.then hb3;have HC:=Lib.hid (show iE x a b=if iD x a<iD x b then 1 else if iD x b<iD x a then -1 else 0 by rw [iE,if_neg K.out]);obtain ⟨r,hr⟩:∃r,r=iD x a:=⟨_,rfl⟩;obtain ⟨s,hs⟩:∃s,s=iD x b:=⟨_,rfl⟩;rw [← hr,← hs] at HC;rw [← hr] at ra ⊢;rw [← hs] at rb ⊢;clear hr hs;by_cases l1:r<s
  ·have E:=Lib.hid (show iE x a b=1 by rw [HC.out,if_pos l1]);go_wp2;go_ret;exact Ret.int (E.out.symm) (B3)
  ·by_cases l2:s<r
   ·have E:=Lib.hid (show iE x a b = -1 by rw [HC.out,if_neg l1,if_pos l2]);go_wp2;go_ret;exact Ret.int (E.out.symm) (B3)
   ·have E:=Lib.hid (show iE x a b=0 by rw [HC.out,if_neg l1,if_neg l2]);go_wp2;go_ret;exact Ret.int (E.out.symm) (B3)
set_option maxRecDepth 100000 in
theorem EZ (w:World) (a b:Int) (ha : -1≤a∧a≤2) (hb : -1≤b∧b≤2):Calls Tryz.prog 228 #[.int .i64 a,.int .i64 b] w (Ret w (.int .i64 (RD 1 a b))):=by
 have ea:a = -1∨a=0∨a=1∨a=2:=by omega
 have eb:b = -1∨b=0∨b=1∨b=2:=by omega
 clear ha hb;rcases ea with rfl | rfl | rfl | rfl<;>rcases eb with rfl | rfl | rfl | rfl
 all_goals
  go_enter Tryz.func228,Tryz.ntmps228;go_wp2;go_ret;exact Ret.int rfl (Bw.refl _)
set_option maxRecDepth 100000 in
theorem eAv (w:World) (a b:Int):Calls Tryz.prog 229 #[.int .i64 a,.int .i64 b] w (Ret w (.int .i64 (RD 4 a b))):=by
 by_cases h:a=b
 ·have e1:(a==b)=true:=by simpa using h
  have H:=Lib.hid h;clear h;go_enter Tryz.func229,Tryz.ntmps229;go_wp2;go_ret;exact Ret.int (by rw [RD,if_neg (by omega),if_neg (by omega),if_pos H.out]) (Bw.refl _)
 ·have e1:(a==b)=false:=by simpa using h
  have H:=Lib.hid h;clear h;go_enter Tryz.func229,Tryz.ntmps229;go_wp2;go_ret;exact Ret.int (by rw [RD,if_neg (by omega),if_neg (by omega),if_neg H.out]) (Bw.refl _)
set_option maxRecDepth 100000 in
theorem iAk (w:World) (op a b:Int) (hop:op=1∨op=2∨op=4) (ha : -1≤a∧a≤2) (hb : -1≤b∧b≤2):Calls Tryz.prog 166 #[.int .i64 op,.int .i64 a,.int .i64 b] w (Ret w (.int .i64 (RD op a b))):=by
 rcases hop with rfl | rfl | rfl
 ·go_enter Tryz.func166,Tryz.ntmps166;go_wp2_with fail;refine (EZ _ a b ha hb).mono ?_;rintro e w2 ⟨rfl,hb2⟩;go_wp2;go_ret;exact Ret.int (rfl) (hb2)
 ·by_cases h:a=0
  ·have e1:(a != 0)=false:=by simpa using h
   have H:=Lib.hid h;clear h;go_enter Tryz.func166,Tryz.ntmps166;go_wp2;go_ret;exact Ret.int (by rw [RD,if_neg (by omega),if_pos rfl,if_pos H.out]) (Bw.refl _)
  ·have e1:(a != 0)=true:=by simpa using h
   have H:=Lib.hid h;clear h;go_enter Tryz.func166,Tryz.ntmps166;go_wp2;go_ret;exact Ret.int (by rw [RD,if_neg (by omega),if_pos rfl,if_neg H.out]) (Bw.refl _)
 ·go_enter Tryz.func166,Tryz.ntmps166;go_wp2_with fail;refine (eAv _ a b).mono ?_;rintro e w2 ⟨rfl,hb2⟩;go_wp2;go_ret;exact Ret.int (rfl) (hb2)
end Go.Proofs.YtpihighajaeabaaGreat
namespace Go.Proofs.YtpihighajaeabaaGreat
open Go.RowKit
set_option linter.unusedVariables false
set_option linter.unusedSimpArgs false
theorem gAt {w:World} {T:List Int} {a b:Int} {g n c:Nat} {F:List Nat} (h:ZA w (T++[a,b]) [.slice (some ⟨g,0,none⟩) n c] F):ZA w T [.slice (some ⟨g,0,none⟩) T.length c] F:=by
 have:T++[a,b]=(T++[a])++[b]:=by simp
 rw [this] at h;exact QO (QO h)
theorem WW {T:List Int} {a b:Int} {m:Nat} (h:T.length=m):(T++[a]).set m b=T++[b]:=by
 rw [← h,List.set_append_right _ _ (Nat.le_refl _)];simp
theorem bAj {T:List Int} {a:Int} {m:Nat} (h:T.length=m):(T++[a])[m]? = some a:=by rw [← h];simp
theorem XW {T:List Int} {a b:Int} {m:Nat} (h:T.length=m):(T++[a,b])[m]? = some a:=by rw [← h];simp
theorem YW {T:List Int} {a b:Int} {m:Nat} (h:T.length+1=m):(T++[a,b])[m]? = some b:=by rw [← h,List.getElem?_append_right (by omega)];simp
theorem QH {w:World} {xs:List Int} {g n c k:Nat} {F:List Nat} {x:Int} (h:ZA w xs [.slice (some ⟨g,0,none⟩) n c] F) (hx:xs[k]? = some x):w.cell? ⟨g,k,none⟩=some (.int .i64 x):=by
 obtain ⟨b,o,e,_,hc⟩:=GB (AA h) hx;injection e with e;injection e with e1 e2;subst e1 e2;rw [Nat.zero_add] at hc;exact hc
set_option maxRecDepth 100000 in
set_option maxHeartbeats 6400000 in
theorem cL (w:World) (e:List kA) (p q:gA) (ve v1 v2:Value) (h:Rd RA w e [ve]) (h1:Rd XA w p.vals [v1]) (h2:Rd XA w q.vals [v2]) (hE:bB e=true) (hp:LA p=true) (hq:LA q=true) :
  Calls Tryz.prog 85 #[ve,.agg #[.int .i64 p.id,v1],.agg #[.int .i64 q.id,v2]] w (Ret w (.int .i64 (CC e p q))):=by
 obtain ⟨i0,hi,hz0,hz1,hz2⟩:=info_parts PC;obtain ⟨A,n,c,rfl,L0,Lc,Lm⟩:=iA h;unfold maxLen at Lm;have L:=Lib.hid L0;clear L0;have hpl:=YA hp;have hql:=YA hq;have HP:=Lib.hid hp;have HQ:=Lib.hid hq;have DE:=Lib.hid (fI hE);have n9:n≤9:=by rw [L.out];exact YQ hE
 obtain ⟨A1,n1,c1,rfl,L1,L1c,L1m⟩:=iA h1;obtain ⟨A2,n2,c2,rfl,L2,L2c,L2m⟩:=iA h2;rw [hpl] at L1;rw [hql] at L2;subst L1 L2;have hv0:=PA (e:=3) (sz:=1) (R:=RG) ((w.alloc (.cells #[.int .i64 p.id,.slice A1 3 c1] 30)).alloc (.cells #[.int .i64 q.id,.slice A2 3 c2] 30));rw [show ((w.alloc (.cells #[.int .i64 p.id,.slice A1 3 c1] 30)).alloc (.cells #[.int .i64 q.id,.slice A2 3 c2] 30)).heap.size=w.heap.size+1+1 by simp] at hv0;obtain ⟨wB,hwB⟩:∃wB,wB=(w.alloc (.cells #[.int .i64 p.id,.slice A1 3 c1] 30)).alloc (.cells #[.int .i64 q.id,.slice A2 3 c2] 30):=⟨_,rfl⟩;have B0:Bw w wB:=by rw [hwB];exact ((Bw.refl w).alloc _).alloc _
 have hsB:wB.heap.size=w.heap.size+1+1:=by rw [hwB];simp
 have ka0:wB.cell? ⟨w.heap.size,1,none⟩=some (.slice A1 3 c1):=by rw [hwB];go_simp
 have kb0:wB.cell? ⟨w.heap.size+1,1,none⟩=some (.slice A2 3 c2):=by rw [hwB];go_simp
 have B1:=(Bw.refl wB).alloc (.cells #[] 3);rw [hwB] at B1;rw [← hwB] at B1;have B1':Bw wB (((w.alloc (.cells #[.int .i64 p.id,.slice A1 3 c1] 30)).alloc (.cells #[.int .i64 q.id,.slice A2 3 c2] 30)).alloc (.cells #[] 3)):=by rw [hwB];exact (Bw.refl _).alloc _
 have HSB:=Lib.hid hsB;clear hp hq hE hpl hql hwB B1 hsB;go_enter Tryz.func85,Tryz.ntmps85;go_wp2
 go_loopg [7,8] n (fun g s i w'=>∃(k m:Nat) (St:List Int) (F:List Nat) (A':Option Addr) (c':Nat),k≤n∧g=n-k∧i=.int .i64 k∧s=.slice A' m c'∧Hid (m=St.length)∧m≤k∧m≤c'∧ZA w' St [.slice A' m c'] F∧pA wB.heap.size F∧Hid (St=oE e p q k)∧Hid (KB (e.drop k) m=some 1)∧Hid (JP St)∧Bw wB w')
 case atStart=>exact ⟨0,0,[],_,_,_,by omega,rfl,rfl,rfl,Lib.hid rfl,by omega,by omega,hv0,⟨by simp,by rw [HSB.out];simp⟩,Lib.hid rfl,DE,Lib.hid (fun v hv=>by simp at hv),B1'⟩
 case round=>
  clear hv0 B1';obtain ⟨k,m,St,F,A',c',hk,rfl,rfl,rfl,HL,hmk,hmc,hv,hF,HS,HD,HC,hb⟩:=hrel;have ka:=hb.cell ka0;have kb:=hb.cell kb0;by_cases hlt:k<n
  ·obtain ⟨x,hx⟩:=rA (xs:=e) (k:=k) (by have:=L.out;omega);obtain ⟨ba,oa,Al,cl,Ap,cp,rfl,_,c0,c1',c2',c3,c4,c5,hl,hpr⟩:=bE h hx;have i1:(0:Int)≤(k:Int):=by omega
   have i2:(k:Int)<(n:Int):=by omega
   have hbw:=B0.then hb;have p0:=hbw.cell c0;have p1:=hbw.cell c1';have p2:=hbw.cell c2';have p3:=hbw.cell c3;have p4:=hbw.cell c4;have p5:=hbw.cell c5;have hl':=Rd.bw dA hl hbw;have hp':=Rd.bw DA hpr hbw;have h1':=h1.bw dA hbw;have h2':=h2.bw dA hbw;obtain ⟨hok,hd2⟩:=VM HD.out hx;have hop:=bU hok;have hge:=SO hok;have HN:=Lib.hid (XG (x:=p) (y:=q) hx);have HW:=Lib.hid (fun o0=>aL hok o0);have HD2:=Lib.hid hd2;have HH:=Lib.hid h;have hFm:=(aA (B:=0)).lt hv;clear c0 hx h hl hpr hok hd2;by_cases o0:x.op=0
   ·have q0:(x.op==0)=true:=by simpa using o0
    have hw:=HW.out o0;have hf0:=fC hw;obtain ⟨f,hf⟩:∃f:Nat,x.wish.field=f:=⟨x.wish.field.toNat,by omega⟩;have hf2:f≤2:=by omega
    have f1:(0:Int)≤(f:Int):=by omega
    have f2:(f:Int)<3:=by omega
    obtain ⟨b1,o1,rfl,_,hcp0⟩:=GB h1 (MJ HP.out hf2);obtain ⟨b2,o2,rfl,_,hcq0⟩:=GB h2 (MJ HQ.out hf2);have hcp:=hbw.cell hcp0;have hcq:=hbw.cell hcq0;have Vp:=XK HP.out hf2;have Vq:=XK HQ.out hf2;have HE:=Lib.hid (show iE x.wish (nE p f) (nE q f)=kF x.wish p q by unfold kF;rw [hf]);have hcode:=QN x.wish p q;rw [← HE.out] at hcode;have hcall:∀W,Bw wr W→Calls Tryz.prog 165 #[.agg #[.int .i64 x.wish.kind,.int .i64 f,.int .i64 x.wish.value,.slice Al x.wish.list.length cl,.slice Ap x.wish.pairs.length cp],.int .i64 (nE p f),.int .i64 (nE q f)] W (Ret W (.int .i64 (iE x.wish (nE p f) (nE q f)))):=fun W hB=>by
     have:=VW W x.wish _ _ (nE p f) (nE q f) (Rd.bw dA hl' hB) (Rd.bw DA hp' hB) hw Vp Vq
     rwa [hf] at this
    obtain ⟨r,hr⟩:∃r,r=iE x.wish (nE p f) (nE q f):=⟨_,rfl⟩;rw [← hr] at hcode HE;simp only [← hr] at hcall;have HS2:=Lib.hid (show St++[r]=oE e p q (k+1) by rw [HN.out,← HS.out,TM o0,HE.out]);have HD3:=Lib.hid (show KB (e.drop (k+1)) ((m+1:Nat):Int)=some 1 by rw [← HD2.out,o0];congr 1);have HC2:=Lib.hid (xH HC.out hcode);have HL2:=Lib.hid (show m+1=(St++[r]).length by rw [List.length_append,← HL.out];rfl);have hSm:St.length=m:=HL.out.symm;have HSm:=Lib.hid hSm;rw [hf] at p2 c2';have D1:Bw wr wr.drew:=(Bw.refl wr).drew;have hvd:=(aA (B:=wB.heap.size)).bw D1 hb.size hv;have hbd:=hb.then D1;have hb0:=hb.size;clear o0 hf HN HS HD HD2 HC hr HW Vp Vq hw hf0 HE hcode hv h1' h2' hl' hp' hSm;go_wp2_with fail
    go_region_held3 (fun w'=>w'.cell? ⟨ba,oa+k*6+1,none⟩=some (.int .i64 x.wish.kind)∧w'.cell? ⟨ba,oa+k*6+2,none⟩=some (.int .i64 f)∧w'.cell? ⟨ba,oa+k*6+3,none⟩=some (.int .i64 x.wish.value)∧w'.cell? ⟨ba,oa+k*6+4,none⟩=some (.slice Al x.wish.list.length cl)∧w'.cell? ⟨ba,oa+k*6+5,none⟩=some (.slice Ap x.wish.pairs.length cp)∧w'.cell? ⟨w.heap.size,1,none⟩=some (.slice (some ⟨b1,o1,none⟩) 3 c1)∧w'.cell? ⟨w.heap.size+1,1,none⟩=some (.slice (some ⟨b2,o2,none⟩) 3 c2)∧w'.cell? ⟨b1,o1+f,none⟩=some (.int .i64 (nE p f))∧w'.cell? ⟨b2,o2+f,none⟩=some (.int .i64 (nE q f))) (first | go_keep | exact ⟨p1,p2,p3,p4,p5,ka,kb,hcp,hcq⟩ | exact ⟨hAl.cell p1,hAl.cell p2,hAl.cell p3,hAl.cell p4,hAl.cell p5,hAl.cell ka,hAl.cell kb,hAl.cell hcp,hAl.cell hcq⟩ | exact ⟨(B0.then hb').cell c1',(B0.then hb').cell c2',(B0.then hb').cell c3,(B0.then hb').cell c4,(B0.then hb').cell c5,hb'.cell ka0,hb'.cell kb0,(B0.then hb').cell hcp0,(B0.then hb').cell hcq0⟩ | fail)
     (first
      | (go_at_call 165;refine (hcall _ D1).mono ?_;rintro e w1 ⟨rfl,hb1⟩;replace p1:=hb1.cell p1;replace p2:=hb1.cell p2;replace p3:=hb1.cell p3;replace p4:=hb1.cell p4;replace p5:=hb1.cell p5;replace ka:=hb1.cell ka;replace kb:=hb1.cell kb;replace hcp:=hb1.cell hcp;replace hcq:=hb1.cell hcq;have hAl:=(Bw.refl w1).alloc (.cells #[.int .i64 r] 3);have hbb:=hbd.then hb1;have hv1:=(aA (B:=wB.heap.size)).bw hb1 hbd.size hvd;have hvW:=(aA (B:=wB.heap.size)).bw hAl hbb.size hv1;have hbW:=hbb.then hAl;have hcl:=cell_one_new w1 (.int .i64 r) 3)
      | (refine KO _ (by rfl) (.tmp 58) (.tmp 75) 26 (by rfl) wB 3 i0 _ 1 8 Tryz.underlying26 hi hz0 hz1 hz2 rfl (by omega) nB _ St F (by rfl) hvW hF ⟨w1.heap.size,0,none⟩ 1 (by rfl) r [.int .i64 r] [] hcl ⟨rfl,rfl⟩ rfl wr.heap.size hFm pA.nil hb0 (by rw [HSm.out];omega) (by rw [HSm.out];omega) hbW ?_;intro v' w' F' hv' hF' hb')
      | fail)
    obtain ⟨A3,c3,rfl,hc3,_⟩:=aB (AA hv');rw [← HL2.out] at hv' hc3 ⊢;go_wp2
    go_roundg (n-(k+1))
    case measure=>omega
    case rel=>exact ⟨k+1,m+1,St++[r],F',A3,c3,by omega,rfl,by go_num,rfl,HL2,by omega,hc3,hv',hF',HS2,HD3,HC2,hb'⟩
   ·have q0:(x.op==0)=false:=by simpa using o0
    by_cases o3:x.op=3
    ·have q3:(x.op==3)=true:=by simpa using o3
     rw [show zC x.op=1 by rw [o3];rfl] at hge HD2;obtain ⟨T,a,hSt⟩:=aU (l:=St) (by rw [← HL.out];omega);subst hSt;have hT:T.length=m-1:=by have:=HL.out;simp at this;omega
     obtain ⟨g,rfl,hz9,hgF⟩:=OH hv (by simp);clear hz9;have hc:=QH hv (bAj hT);have ha:=HC.out a (by simp);have HS2:=Lib.hid (show T++[wH a]=oE e p q (k+1) by rw [HN.out,← HS.out,UM o3]);have HD3:=Lib.hid (show KB (e.drop (k+1)) (m:Int)=some 1 by rw [← HD2.out];congr 1;omega);have HC2:=Lib.hid (xH (mK HC.out) (OO ha));have HL2:=Lib.hid (show m=(T++[wH a]).length by have:=HL.out;simp at this ⊢;exact this);have j1:(0:Int)≤(m:Int)-1:=by omega
     have j2:(m:Int)-1<(m:Int):=by omega
     have HT:=Lib.hid hT;have m1:1≤m:=by omega
     clear o0 o3 HN HS HD HD2 HC HW hl' hp' h1' h2' hop hge hT c1' c2' c3 c4 c5;by_cases a2:a=2
     ·have q4:(a != 2)=false:=by simpa using a2
      have HS3:=Lib.hid (show T++[a]=oE e p q (k+1) by rw [← HS2.out,wH,if_pos a2,a2]);have HC3:=Lib.hid (show JP (T++[a]) by have:=HC2.out;rwa [wH,if_pos a2,← a2] at this);clear a2 HS2 HC2 HL2;go_wp2
      go_roundg (n-(k+1))
      case measure=>omega
      case rel=>exact ⟨k+1,m,T++[a],F,_,c',by omega,rfl,by go_num,rfl,HL,by omega,hmc,hv,hF,HS3,HD3,HC3,hb⟩
     ·have q4:(a != 2)=true:=by simpa using a2
      have hff:=vD hv (m-1);obtain ⟨F',hv',hF',hg,_,_⟩:=IH (nB (B:=wB.heap.size)) hv hF (k:=m-1) (y:=-a) (u:=[.int .i64 (-a)]) ⟨rfl,rfl⟩ rfl (m:=wr.heap.size) hFm pA.nil hb.size (by have:=HT.out;simp;omega);have e1:aD wr g ((m-1)*1) [.int .i64 (-a)]=wr.setCell ⟨g,m-1,none⟩ (.int .i64 (-a)):=by simp [aD]
      rw [e1,WW HT.out] at hv';rw [e1] at hg;rw [show wH a = -a by rw [wH,if_neg a2]] at HS2 HC2 HL2;have hb':=hb.grown hg (fun q hq=>by injection hq with hq;have:=hF.ge g hgF;omega);clear a2 e1 hg hv hF hFm hgF HL;go_wp2
      go_roundg (n-(k+1))
      case measure=>omega
      case rel=>exact ⟨k+1,m,T++[-a],F',_,c',by omega,rfl,by go_num,rfl,HL2,by omega,hmc,hv',hF',HS2,HD3,HC2,hb'⟩
    ·have q3:(x.op==3)=false:=by simpa using o3
     have ho2:x.op=1∨x.op=2∨x.op=4:=by omega
     rw [show zC x.op=2 by rcases ho2 with h | h | h<;>rw [h]<;>rfl] at hge HD2;obtain ⟨T,a,b,hSt⟩:=iAa (l:=St) (by rw [← HL.out];omega);subst hSt;have hT:T.length=m-2:=by have:=HL.out;simp at this;omega
     have m2:2≤m:=by omega
     obtain ⟨g,rfl,hz9,hgF⟩:=OH hv (by simp);clear hz9;have hca:=QH hv (XW hT);have hcb:=QH (k:=m-1) hv (YW (by omega));have ha:=HC.out a (by simp);have hbc:=HC.out b (by simp);have hcode:=NO (op:=x.op) ha hbc;have HS2:=Lib.hid (show T++[RD x.op a b]=oE e p q (k+1) by rw [HN.out,← HS.out,RO o0 o3]);have HD3:=Lib.hid (show KB (e.drop (k+1)) ((m-2+1:Nat):Int)=some 1 by rw [← HD2.out];congr 1;omega);have HC2:=Lib.hid (xH (mK HC.out) hcode);have HL2:=Lib.hid (show m-2+1=(T++[RD x.op a b]).length by rw [List.length_append,hT];rfl);have HT:=Lib.hid hT;have hcall:∀W,Calls Tryz.prog 166 #[.int .i64 x.op,.int .i64 a,.int .i64 b] W (Ret W (.int .i64 (RD x.op a b))):=fun W=>iAk W x.op a b ho2 ha hbc
     obtain ⟨r,hr⟩:∃r,r=RD x.op a b:=⟨_,rfl⟩;rw [← hr] at HS2 HC2 HL2;simp only [← hr] at hcall;have j1:(0:Int)≤(m:Int)-2:=by omega
     have j2:(m:Int)-2<(m:Int):=by omega
     have j3:(0:Int)≤(m:Int)-1:=by omega
     have j4:(m:Int)-1<(m:Int):=by omega
     have s0:=qA p0;have s1:=qA hca;have s2:=qA hcb;have hvp:=gAt hv;rw [hT] at hvp;clear c1' c2' c3 c4 c5 o0 o3 ho2 HN HS HD HD2 HC HW hl' hp' h1' h2' hge hT p1 p2 p3 p4 p5 ka kb hca hcb hcode hr ha hbc hv;go_wp2;refine mA (by kernel_rfl) (by kernel_rfl) ?_
     repeat (first | go_big_quiet_skip | (go_big_quiet_want;go_big_quiet_op;first | go_big_quiet_on | (apply Exists.intro;refine ⟨fun _=>?_,?_⟩;(· (((first | (go_at_call 166;exact GA (hcall _))))));go_big_quiet_on)))
     refine wpQuiet_nil ?_;rintro ⟨wq,hbq⟩;dsimp only at *;have hbb:=hb.then hbq;have hv1:=(aA (B:=wB.heap.size)).bw hbq hb.size hvp;have hFq:∀b∈F,b<wr.heap.size:=hFm;have hvW:=(aA (B:=wB.heap.size)).bw ((Bw.refl wq).alloc (.cells #[.int .i64 r] 3)) hbb.size hv1;have hbW:=hbb.alloc (.cells #[.int .i64 r] 3);have hcl:=cell_one_new wq (.int .i64 r) 3;have hb0:=hb.size;clear s0 s1 s2 hvp hv1;go_wp2_with (at_builtin;refine rB _ rfl (.tmp 46) (.tmp 48) 26 rfl wB 3 i0 _ 1 8 Tryz.underlying26 hi hz0 hz1 hz2 rfl (by omega) nB _ T F rfl hvW hF ⟨wq.heap.size,0,none⟩ 1 rfl r [.int .i64 r] [] hcl ⟨rfl,rfl⟩ rfl wr.heap.size hFm pA.nil hb0 (by rw [HT.out];omega) (by rw [HT.out];omega) hbW ?_;intro v' w' F' hv' hF' hb');obtain ⟨A3,c3,rfl,hc3,_⟩:=aB (AA hv');rw [← HL2.out] at hv' hc3 ⊢
     go_roundg (n-(k+1))
     case measure=>omega
     case rel=>exact ⟨k+1,m-2+1,T++[r],F',A3,c3,by omega,rfl,by go_num,rfl,HL2,by omega,hc3,hv',hF',HS2,HD3,HC2,hb'⟩
  ·obtain rfl:k=n:=by omega
   have hm:(m:Int)=1:=by
    have:=HD.out;rw [List.drop_of_length_le (by rw [← L.out];exact Nat.le_refl _),KB] at this;injection this
   obtain rfl:m=1:=by omega
   obtain ⟨T,a,hSt⟩:=aU (l:=St) (by rw [← HL.out];omega);subst hSt;have hT:T=[]:=List.eq_nil_of_length_eq_zero (by have:=HL.out;rw [List.length_append] at this;simp only [List.length_singleton] at this;omega);subst hT;obtain ⟨g,rfl,hz9,hgF⟩:=OH hv (by simp);clear hz9;have hc:=QH (k:=0) hv rfl;have HF:=Lib.hid (show a=CC e p q by rw [← bL (e:=e) (x:=p) (y:=q) (k:=k) (by rw [← L.out];exact Nat.le_refl _),← HS.out];rfl);clear HS HD HC HL hm hv;go_wp2;go_ret;exact Ret.int HF.out (B0.then hb)
end Go.Proofs.YtpihighajaeabaaGreat
