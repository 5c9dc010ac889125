/- The smallest change, in the program. -/
import Derived.Test.YtpihighajaeabaaGreatXCostOf
import Derived.Test.YtpihighajaeabaaGreatXBestS
namespace Go.Proofs.YtpihighajaeabaaGreat
open Go.RowKit Go.Proofs.Tryz
set_option linter.all false
set_option maxRecDepth 100000
set_option maxHeartbeats 16000000
theorem jA2 (w:World) (l:List iA) (e:List mA) (x:iA) (v u t:Value) (h:Rd LA w l [v]) (h':Rd OA w e [u]) (h2:Rd aB w x.vals [t]) (hI:dB l=true) (hE:pB e=true) (hP:gB x=true) :
  Calls prog 290 #[v,u,.agg #[.int .i64 x.id,t]] w (Ret w (.bool (eH l e x.id x))):=by
 obtain ⟨A,n,c,rfl,L,Lc,Lm⟩:=yA h;have bt:=pA6 hE;have HI:=pA6 hI;have HP:=pA6 hP;have n16:n<=16:=by rw [L.out];exact VA HI.out
 obtain ⟨Ax,cx,rfl,_⟩:=XA h2;rw [jB hP] at h2 ⊢;have B0:Bw w (w.alloc (.cells #[.int .i64 x.id,.slice Ax 3 cx] 30)):=(Bw.refl w).alloc _;have k0:(w.alloc (.cells #[.int .i64 x.id,.slice Ax 3 cx] 30)).cell? ⟨w.heap.size,0,none⟩=some (.int .i64 x.id):=by go_simp
 have k1:(w.alloc (.cells #[.int .i64 x.id,.slice Ax 3 cx] 30)).cell? ⟨w.heap.size,1,none⟩=some (.slice Ax 3 cx):=by go_simp
 obtain ⟨W,hW⟩:=pA7 (w.alloc (.cells #[.int .i64 x.id,.slice Ax 3 cx] 30));rw [<-hW] at B0 k0 k1;have HW:=pA6 hW;clear hE hI hP hW;go_enter func290,ntmps290;go_wp2
 go_loopg [7] n (fun g i w'=>∃(k:Nat),k<=n/\g=n-k/\i=.int .i64 k/\Hid (((l.take k).any fun y=>ID e x.id y x)=false)/\Bw W w')
 ·exact ⟨0,by omega,rfl,rfl,pA6 rfl,by rw [HW.out];exact Bw.refl _⟩
 ·obtain ⟨j,hj,rfl,rfl,HQ,bk⟩:=hrel;have bf:=B0.then bk;have m0:=bk.cell k0;have m1:=bk.cell k1;by_cases hlt2:j<n
  ·obtain ⟨y,hy⟩:=tA (xs:=l) (k:=j) (by have:=L.out;omega);obtain ⟨b2,o2,Ay,cy,rfl,_,bm,bj,bn⟩:=qB h hy;have bs:=pA6 (TA HI.out (List.mem_of_getElem? hy));have bc:=jB bs.out;rw [bc] at bj bn;replace bm:=bf.cell bm;replace bj:=bf.cell bj;have j1:(0:Int)<=(j:Int):=by omega
   have j2:(j:Int)<(n:Int):=by omega
   have HS:=pA6 (LH (fun y=>ID e x.id y x) hy);have s0:=pA m0;have s1:=pA m1;have s2:=pA bm;have s3:=pA bj;have HH:=pA6 h;have bd:=pA6 (List.mem_of_getElem? hy);clear hy bc h;by_cases hid:y.id=x.id
   ·have e0:(y.id != x.id)=false:=by simpa using hid
    have bg:=pA6 (show ((l.take (j+1)).any fun y=>ID e x.id y x)=false by rw [HS.out,HQ.out];simp [ID,hid]);clear HQ HS hid bd m0 m1 bm bj;go_wp2;refine IA (by kernel_rfl) ?_
    repeat (first | go_big_quiet_skip | (go_big_quiet_want;go_big_quiet_op;go_big_quiet_on))
    refine JA fun wq hbq=>?_
    try dsimp only at *
    have h:=HH.out;go_wp2
    go_roundg (n-(j+1))
    ·exact ⟨j+1,by omega,rfl,by go_num,bg,bk.then hbq⟩
    ·omega
   ·have e0:(y.id != x.id)=true:=by simpa using hid
    have bb:∀s:eC wr,Calls prog 85 _ s.1 (Ret s.1 (.int .i64 (zC e y x))):=fun s=>pG _ e y x u _ _ (h'.bw jA (bf.then s.bw)) (Rd.bw dA bn (bf.then s.bw)) (Rd.bw dA h2 (bf.then s.bw)) bt.out bs.out HP.out
    have bg:=pA6 (show ((l.take (j+1)).any fun y=>ID e x.id y x)=decide (zC e y x=1) by rw [HS.out,HQ.out];simp [ID,hid,EC]);have bp:=pA6 (show zC e y x=1->eH l e x.id x=false from fun hr=>by
     unfold eH;rw [Bool.not_eq_false',List.any_eq_true];exact ⟨y,bd.out,by simp [ID,EC,hid,hr]⟩)
    obtain ⟨r,hr⟩:=pA7 (zC e y x);rw [<-hr] at bb bg bp;clear HQ HS hr m0 m1 bm bj hid bd;by_cases hr1:r=1
    ·have e1:(r==1)=true:=by simpa using hr1
     have bq:=pA6 (bp.out hr1);clear hr1 bg bp;go_wp2;refine IA (by kernel_rfl) ?_
     repeat (first | go_big_quiet_skip | (go_big_quiet_want;go_big_quiet_op;first | go_big_quiet_on | (apply Exists.intro;refine ⟨fun _=>?_,?_⟩;(· (((first | (go_at_call 85;exact DA (bb _))))));go_big_quiet_on)))
     refine JA fun wq hbq=>?_
     try dsimp only at *
     go_wp2;go_ret;exact Ret.bool (by rw [bq.out]) (bf.then hbq)
    ·have e1:(r==1)=false:=by simpa using hr1
     have bq:=pA6 (show ((l.take (j+1)).any fun y=>ID e x.id y x)=false by rw [bg.out];simpa using hr1);clear hr1 bg bp;go_wp2;refine IA (by kernel_rfl) ?_
     repeat (first | go_big_quiet_skip | (go_big_quiet_want;go_big_quiet_op;first | go_big_quiet_on | (apply Exists.intro;refine ⟨fun _=>?_,?_⟩;(· (((first | (go_at_call 85;exact DA (bb _))))));go_big_quiet_on)))
     refine JA fun wq hbq=>?_
     try dsimp only at *
     have h:=HH.out;go_wp2
     go_roundg (n-(j+1))
     ·exact ⟨j+1,by omega,rfl,by go_num,bq,bk.then hbq⟩
     ·omega
  ·obtain rfl:j=n:=by omega
   have HF:=pA6 (show eH l e x.id x=true by rw [eH,<-EI (k:=j) _ (by rw [<-L.out];exact Nat.le_refl _),HQ.out];rfl);clear HQ;go_wp2;go_ret;exact Ret.bool (by rw [HF.out]) (bf)
def MS {α:Type} (f:Fp α) (B:Nat) (x:α) (y z:Value) (w:World) (u:Value):Prop:=∃cs,u=.tuple #[.agg cs.toArray,y,z]/\∃F,f w x cs F/\sA B F
theorem oN (w:World) (l:List iA) (e:List mA) (id:Int) (v u:Value) (h:Rd LA w l [v]) (h':Rd OA w e [u]) (hB:kB l e=true) (j:Nat) (p:iA) (hf:rB l id=(j:Int)) (hp:l[j]? = some p) (hid:p.id=id) :
  Calls prog 279 #[v,u,.int .i64 id] w (WB w (MS zH w.heap.size (CG l e p id 1000).1 (.int .i64 (CG l e p id 1000).2) (.bool true))):=by
 obtain ⟨A,n,c,rfl,L,Lc,Lm⟩:=yA h;have HB:=pA6 hB;have hP:=TA (AA hB) (List.mem_of_getElem? hp);have bk:=lE hP;rw [hid] at bk;have hjn:j<n:=by rw [L.out];exact (List.getElem?_eq_some_iff.1 hp).1
 have n16:n<=16:=by rw [L.out];exact VA (AA hB)
 obtain ⟨Y,hY⟩:=pA7 (CG l e p id 1000);rw [<-hY];have HY:=pA6 hY;obtain ⟨ba,oa,Ap,cp,rfl,_,ck,cc,cn⟩:=qB h hp;rw [jB hP] at cc cn;have HPi:=pA6 hP;have cs:=pA6 bk;have A0:Bw w (w.alloc (.cells #[.int .i64 0,.slice none 0 0] 30)):=(Bw.refl w).alloc _;have bc:=fun W (B:Bw w W)=>gD W l id _ (h.bw gA B)
 rw [hf] at bc;have j1:(0:Int)<=(j:Int):=by omega
 have j2:(j:Int)<(n:Int):=by omega
 have j3:¬((j:Int)<0):=by omega
 clear hY hB hP bk hp hf hid;go_enter func279,ntmps279;go_wp2_with fail;refine (bc _ A0).mono ?_;rintro e w1 ⟨rfl,bs⟩;have B1:=A0.then bs;go_wp2_with fail;refine (EE _ l e _ _ (h.bw gA B1) (h'.bw jA B1)).mono ?_;rintro e w2 ⟨rfl,bt⟩;rw [HB.out];have B2:=B1.then bt;obtain ⟨r0,r1⟩:C2 w2 w.heap.size (.int .i64 0) (.slice none 0 0):=(bs.then bt).c2 (by unfold C2;go_simp);have cm:∀o,w2.frozen? ⟨w.heap.size,o,none⟩=false:=fun o=>by rw [oC (bs.then bt) _ _ (by first | (simp;done) | (simp;omega))];go_simp
 have d0:=B2.cell ck;have d1:=B2.cell cc;have HH:=pA6 h;clear bc h ck cc;go_wp2
 go_loopg [11,12] 1000 (fun g s i w'=>∃(k:Nat) (ls:Int) (fd:iA) (A':Option Addr) (c':Nat) (F:List Nat),k<=1000/\g=1000-k/\i=.int .i64 k/\s=.int .i64 ls/\Hid (CG l e p id k=(fd,ls))/\w'.cell? ⟨w2.heap.size,0,none⟩=some (.int .i64 fd.id)/\w'.cell? ⟨w2.heap.size,1,none⟩=some (.slice A' fd.vals.length c')/\(∀o,w'.frozen? ⟨w2.heap.size,o,none⟩=false)/\WA w' fd.vals [.slice A' fd.vals.length c'] F/\sA (w2.heap.size+1) F/\Bw w2 w')
 ·exact ⟨0,-1,⟨0,[]⟩,none,0,[],by omega,rfl,rfl,rfl,pA6 rfl,by go_simp,by go_simp,fun o=>by go_simp,mK _,sA.nil,(Bw.refl _).alloc _⟩
 ·obtain ⟨k,ls,fd,A',c',F,hk,rfl,rfl,rfl,HT,f0,f1,bx,hv,hF,hb⟩:=hrel;by_cases hlt:k<1000
  ·have e0:=hb.cell d0;have e1:=hb.cell d1;have k0:(0:Int)<=(k:Int):=by omega
   have k1:(k:Int)<1000:=by omega
   obtain ⟨W,hW⟩:=pA7 ((wr.alloc (.cells #[.int .i64 ((k:Int) / 100),.int .i64 ((k:Int) / 10 % 10),.int .i64 ((k:Int) % 10)] 3)).alloc (.cells #[.int .i64 id,.slice (some ⟨wr.heap.size,0,none⟩) 3 3] 30));have x3:WA W (lC id k).vals [.slice (some ⟨wr.heap.size,0,none⟩) 3 3] [wr.heap.size]:=by rw [hW];exact (aA (B:=0)).bw ((Bw.refl _).alloc _) (Nat.zero_le _) QT
   have bW:Bw wr W:=by rw [hW];exact ((Bw.refl wr).alloc _).alloc _
   have x0:W.cell? ⟨wr.heap.size+1,0,none⟩=some (.int .i64 id):=by rw [hW];go_simp
   have x1:W.cell? ⟨wr.heap.size+1,1,none⟩=some (.slice (some ⟨wr.heap.size,0,none⟩) 3 3):=by rw [hW];go_simp
   have HW:=pA6 hW;have bw2:=hb.size;have bg:=World.block_lt_of_cell? _ _ f0;have cj:=aZ cs.out hlt;have ct:=pA6 cj;have s0:=pA x0;have s1:=pA x1;have s2:=pA (bW.cell e0);have s3:=pA (bW.cell e1);have cq:=xA x3;have bp:=Rd.bw dA cn ((B2.then hb).then bW);have bv:∀s:eC W,Calls prog 289 #[.agg #[.int .i64 id,.slice (some ⟨wr.heap.size,0,none⟩) 3 3],.agg #[.int .i64 p.id,.slice Ap 3 cp]] s.1 (Ret s.1 (.int .i64 (XD (lC id k) p))):=fun s=>lA1 _ (lC id k) p _ _ (Rd.bw dA cq s.bw) (Rd.bw dA bp s.bw)
   have HC:=pA6 (cAf (lC id k) p);have bb:=pA6 (fun h1 h2=>cAh (l:=l) (e:=e) (p:=p) (id:=id) (n:=k) h1 h2);have bd:=pA6 (fun h1=>iA0 (l:=l) (e:=e) (p:=p) (id:=id) (n:=k) h1);rw [HC.out] at bv;obtain ⟨q,hq⟩:=pA7 (XD p (lC id k));rw [<-hq] at bv bb bd;replace bb:=pA6 (show ls<0\/q<ls->eH l e id (lC id k)=true->CG l e p id (k+1)=(lC id k,q) from fun h1 h2=>bb.out (by rw [HT.out];exact h1) h2);replace bd:=pA6 (show ¬(ls<0\/q<ls)\/eH l e id (lC id k)=false->CG l e p id (k+1)=(fd,ls) from fun h1=>(bd.out (by rw [HT.out];exact h1)).trans HT.out);clear hW hq HC HT cj e0 e1;go_wp2;rw [<-HW.out];refine IA (by kernel_rfl) ?_
   repeat (first | go_big_quiet_skip | (go_big_quiet_want;go_big_quiet_op;first | go_big_quiet_on | (apply Exists.intro;refine ⟨fun _=>?_,?_⟩;(· (((first | (go_at_call 289;exact DA (bv _))))));go_big_quiet_on)))
   refine JA fun wq hbq=>?_
   try dsimp only at *
   have bq:=bW.then hbq;replace x0:=hbq.cell x0;replace x1:=hbq.cell x1;clear s0 s1 s2 s3 bv bp cq;by_cases hg:ls<0\/q<ls
   ·have cd:=jA2 wq l e (lC id k) _ _ _ (HH.out.bw gA ((B2.then hb).then bq)) (h'.bw jA ((B2.then hb).then bq)) ((xA x3).bw dA hbq) (AA HB.out) (yB HB.out) ct.out;have bn:∀w4,Bw wq w4->∃F2,sA (w2.heap.size+1) F2/\WA ((w4.setCell ⟨w2.heap.size,0,none⟩ (.int .i64 id)).setCell ⟨w2.heap.size,1,none⟩ (.slice (some ⟨wr.heap.size,0,none⟩) 3 3)) (lC id k).vals [.slice (some ⟨wr.heap.size,0,none⟩) 3 3] F2:=fun w4 bm=>by
     refine ⟨[wr.heap.size],⟨by simp,by simp;omega⟩,?_⟩;have x4:=(aA (B:=0)).bw (hbq.then bm) (Nat.zero_le _) x3;refine (aA (B:=0)).step (fun b hb=>?_) x4;rcases hb with hb | hb
     ·have:b=wr.heap.size:=by simpa using hb
      have bg':w2.heap.size<wr.heap.size:=bg
      repeat rw [Below.heap_setCell _ _ _ _ (by dsimp only;omega)]
     ·omega
    obtain ⟨fr,bj⟩:=pA7 (eH l e id (lC id k));rw [show eH l e (lC id k).id (lC id k)=fr from bj.symm] at cd;rw [<-bj] at bb bd;have HG:=pA6 hg;have bf:=pA6 bn;clear bj x3 bn;rcases Decidable.em (ls<0) with a1 | a1;rotate_left
    focus
     have a2:q<ls:=hg.resolve_left a1
    rotate_right
    all_goals
     clear hg;go_wp2_with fail;refine (cd).mono ?_;rintro e w4 ⟨rfl,bm⟩;have b4:=bq.then bm;have cx:=b4.cell f0;have cz:=b4.cell f1;have cg:∀o,w4.frozen? ⟨w2.heap.size,o,none⟩=false:=fun o=>(oC b4 w2.heap.size o bg).trans (bx o)
     have cb:=(aA (B:=w2.heap.size)).bw b4 hb.size hv;replace x0:=bm.cell x0;replace x1:=bm.cell x1;clear f0 f1 bx hv cd;rcases pA8 (fr) with e1 | e1
     ·have HT:=pA6 (bb.out HG.out e1);obtain ⟨F2,db,dd⟩:=bf.out w4 bm;have bz:=hb.then b4;rw [e1];clear e1 bb bd bf HG cb;go_wp2
      go_roundg (1000-(k+1))
      ·refine ⟨k+1,q,lC id k,some ⟨wr.heap.size,0,none⟩,3,F2,by omega,rfl,by go_num,rfl,HT,by go_simp;rfl,by go_simp;rfl,fun o=>by go_simp,dd,db,?_⟩
       repeat (first | with_reducible exact bz | with_reducible refine Bw.set ?_ ?_ _)
       all_goals (dsimp only;omega)
      ·omega
     ·have HT:=pA6 (bd.out (.inr e1));have bz:=hb.then b4;rw [e1];clear e1 bb bd bf HG;go_wp2
      go_roundg (1000-(k+1))
      ·exact ⟨k+1,ls,fd,A',c',F,by omega,rfl,by go_num,rfl,HT,cx,cz,cg,cb,hF,bz⟩
      ·omega
   ·have a1:¬ls<0:=fun h=>hg (.inl h)
    have a2:¬q<ls:=fun h=>hg (.inr h)
    have HT:=pA6 (bd.out (.inl hg));have cb:=(aA (B:=w2.heap.size)).bw bq hb.size hv;replace f0:=bq.cell f0;replace f1:=bq.cell f1;have cf:∀o,wq.frozen? ⟨w2.heap.size,o,none⟩=false:=fun o=>(oC bq w2.heap.size o bg).trans (bx o)
    clear hg x0 x1 x3 bx;go_wp2
    go_roundg (1000-(k+1))
    ·exact ⟨k+1,ls,fd,A',c',F,by omega,rfl,by go_num,rfl,HT,f0,f1,cf,cb,hF,hb.then bq⟩
    ·omega
  ·obtain rfl:k=1000:=by omega
   have cv:=pA6 (HY.out.trans HT.out);replace r0:=hb.cell r0;replace r1:=hb.cell r1;have df:w.heap.size<w2.heap.size:=by have:=(bs.then bt).size;simp at this;omega
   have hf4:∀o,wr.frozen? ⟨w.heap.size,o,none⟩=false:=fun o=>(oC hb w.heap.size o df).trans (cm o)
   have dc:∀b∈F,w.heap.size+1<=b:=fun b hb=>by have:=hF.ge b hb;omega
   have fF:sA w.heap.size F:=hF.mono (by omega);have B3:=B2.then hb;clear HY HT cm;go_wp2;obtain rfl:=cv.out;refine bodyPost_ret (v:=.tuple #[.agg #[.int .i64 fd.id,.slice A' fd.vals.length c'],.int .i64 ls,.bool true]) (by simp [results,results279,go_sem,r0,r1]) rfl ⟨_,rfl,⟨[.int .i64 fd.id,.slice A' fd.vals.length c'],rfl,F,⟨_,rfl,?_⟩,fF⟩,?_⟩
   ·refine (aA (B:=0)).step (fun b hb=>?_) hv;rcases hb with hb | hb
    ·have:=dc b hb
     repeat rw [Below.heap_setCell _ _ _ _ (by dsimp only;omega)]
    ·omega
   ·repeat (first | with_reducible exact B3 | with_reducible refine Bw.set ?_ ?_ _)
    all_goals (dsimp only;omega)
theorem OO (w:World) (l:List iA) (e:List mA) (id:Int) (v u:Value) (h:Rd LA w l [v]) (h':Rd OA w e [u]) (hno:MB l e id=false) :
  Calls prog 279 #[v,u,.int .i64 id] w (WB w (MS zH w.heap.size ⟨0,[]⟩ (.int .i64 0) (.bool false))):=by
 have A0:Bw w (w.alloc (.cells #[.int .i64 0,.slice none 0 0] 30)):=(Bw.refl w).alloc _;have bb:=fun W (B:Bw w W)=>gD W l id _ (h.bw gA B)
 have bc:=pA6 (show kB l e=true->rB l id<0 from fun hB=>by
  unfold MB at hno;rw [hB,Bool.true_and,decide_eq_false_iff_not] at hno;omega)
 obtain ⟨K,hK⟩:=pA7 (rB l id);rw [<-hK] at bb bc;clear hno hK;go_enter func279,ntmps279;go_wp2_with fail;refine (bb _ A0).mono ?_;rintro e w1 ⟨rfl,bd⟩;have B1:=A0.then bd;go_wp2_with fail;refine (EE _ l e _ _ (h.bw gA B1) (h'.bw jA B1)).mono ?_;rintro e w2 ⟨rfl,bf⟩;have B2:=B1.then bf;obtain ⟨r0,r1⟩:C2 w2 w.heap.size (.int .i64 0) (.slice none 0 0):=(bd.then bf).c2 (by unfold C2;go_simp);have hfr:∀o,w2.frozen? ⟨w.heap.size,o,none⟩=false:=fun o=>by rw [oC (bd.then bf) _ _ (by first | (simp;done) | (simp;omega))];go_simp
 clear bb;rcases pA8 (kB l e) with e1 | e1;rotate_left
 focus
  rw [e1];clear e1 bc
 rotate_right
 focus
  have k1:=bc.out e1;rw [e1];clear e1
 all_goals
  go_wp2;refine bodyPost_ret (v:=.tuple #[.agg #[.int .i64 0,.slice none 0 0],.int .i64 0,.bool false]) (by simp [results,results279,go_sem,r0,r1]) rfl ⟨_,rfl,⟨[.int .i64 0,.slice none 0 0],rfl,[],⟨_,rfl,mK _⟩,sA.nil⟩,?_⟩
  repeat (first | with_reducible exact B2 | with_reducible refine Bw.set ?_ ?_ _)
  all_goals (dsimp only;omega)
theorem NS (w:World) (l:List iA) (e:List mA) (id:Int) (v u:Value) (h:Rd LA w l [v]) (h':Rd OA w e [u]) :
  Calls prog 279 #[v,u,.int .i64 id] w (WB w (MS zH w.heap.size (AC l e id) (.int .i64 (cD l e id)) (.bool (MB l e id)))):=by
 rcases pA8 (MB l e id) with hc | hc
 ·have h1:=hc;unfold MB at h1;rw [Bool.and_eq_true,decide_eq_true_eq] at h1;rcases OC l id with ⟨hK,_⟩ | ⟨j,x,hK,hx,bb⟩
  ·have:=h1.2;omega
  ·have:=oN w l e id v u h h' h1.1 j x hK hx bb;rw [show AC l e id=(CG l e x id 1000).1 by rw [AC,if_pos hc,lF hK hx],show cD l e id=(CG l e x id 1000).2 by rw [cD,if_pos hc,lF hK hx],hc];exact this
 ·have:=OO w l e id v u h h' hc;rw [show AC l e id=⟨0,[]⟩ by rw [AC,hc];rfl,show cD l e id=0 by rw [cD,hc];rfl,hc];exact this
theorem pN (w:World) (l:List iA) (e:List mA) (id:Int) (v u:Value) (h:Rd LA w l [v]) (h':Rd OA w e [u]) (hB:kB l e=true) (j:Nat) (p:iA) (hf:rB l id=(j:Int)) (hp:l[j]? = some p) (hid:p.id=id) :
  Calls prog 276 #[v,u,.int .i64 id] w (WB w (MS zH w.heap.size (CG l e p id 1000).1 (.int .i64 (CG l e p id 1000).2) (.bool true))):=by
 obtain ⟨A,n,c,rfl,L,Lc,Lm⟩:=yA h;have HB:=pA6 hB;have hP:=TA (AA hB) (List.mem_of_getElem? hp);have bk:=lE hP;rw [hid] at bk;have hjn:j<n:=by rw [L.out];exact (List.getElem?_eq_some_iff.1 hp).1
 have n16:n<=16:=by rw [L.out];exact VA (AA hB)
 obtain ⟨Y,hY⟩:=pA7 (CG l e p id 1000);rw [<-hY];have HY:=pA6 hY;obtain ⟨ba,oa,Ap,cp,rfl,_,cx,cf,df⟩:=qB h hp;rw [jB hP] at cf df;have HPi:=pA6 hP;have cn:=pA6 bk;have A0:Bw w (w.alloc (.cells #[.int .i64 0,.slice none 0 0] 30)):=(Bw.refl w).alloc _;have bb:=fun W (B:Bw w W)=>GD W l id _ (h.bw gA B)
 rw [hf] at bb;have j1:(0:Int)<=(j:Int):=by omega
 have j2:(j:Int)<(n:Int):=by omega
 have j3:¬((j:Int)<0):=by omega
 clear hY hB hP bk hp hf hid;go_enter func276,ntmps276;go_wp2_with fail;refine (bb _ A0).mono ?_;rintro e w1 ⟨rfl,bx⟩;have B1:=A0.then bx;go_wp2_with fail;refine (KE _ l e _ _ (h.bw gA B1) (h'.bw jA B1)).mono ?_;rintro e w2 ⟨rfl,cb⟩;rw [HB.out];have B2:=B1.then cb;obtain ⟨r0,r1⟩:C2 w2 w.heap.size (.int .i64 0) (.slice none 0 0):=(bx.then cb).c2 (by unfold C2;go_simp);have dc:∀o,w2.frozen? ⟨w.heap.size,o,none⟩=false:=fun o=>by rw [oC (bx.then cb) _ _ (by first | (simp;done) | (simp;omega))];go_simp
 have d0:=B2.cell cx;have d1:=B2.cell cf;have HH:=pA6 h;clear bb h cx cf;go_wp2
 go_loopg [11,31] 1000 (fun g s i w'=>∃(k:Nat) (ls:Int) (fd:iA) (A':Option Addr) (c':Nat) (F:List Nat),k<=1000/\g=1000-k/\i=.int .i64 k/\s=.int .i64 ls/\Hid (CG l e p id k=(fd,ls))/\w'.cell? ⟨w2.heap.size,0,none⟩=some (.int .i64 fd.id)/\w'.cell? ⟨w2.heap.size,1,none⟩=some (.slice A' fd.vals.length c')/\(∀o,w'.frozen? ⟨w2.heap.size,o,none⟩=false)/\WA w' fd.vals [.slice A' fd.vals.length c'] F/\sA (w2.heap.size+1) F/\Bw w2 w')
 ·exact ⟨0,-1,⟨0,[]⟩,none,0,[],by omega,rfl,rfl,rfl,pA6 rfl,by go_simp,by go_simp,fun o=>by go_simp,mK _,sA.nil,(Bw.refl _).alloc _⟩
 ·obtain ⟨k,ls,fd,A',c',F,hk,rfl,rfl,rfl,HT,f0,f1,dd,hv,hF,hb⟩:=hrel;obtain ⟨wo,ff⟩:=pA7 wr;subst ff;by_cases hlt:k<1000
  ·have e0:=hb.cell d0;have e1:=hb.cell d1;have k0:(0:Int)<=(k:Int):=by omega
   have k1:(k:Int)<1000:=by omega
   obtain ⟨W,hW⟩:=pA7 ((wo.alloc (.cells #[.int .i64 ((k:Int) / 100),.int .i64 ((k:Int) / 10 % 10),.int .i64 ((k:Int) % 10)] 3)).alloc (.cells #[.int .i64 id,.slice (some ⟨wo.heap.size,0,none⟩) 3 3] 30));have x3:WA W (lC id k).vals [.slice (some ⟨wo.heap.size,0,none⟩) 3 3] [wo.heap.size]:=by rw [hW];exact (aA (B:=0)).bw ((Bw.refl _).alloc _) (Nat.zero_le _) QT
   have bW:Bw wo W:=by rw [hW];exact ((Bw.refl wo).alloc _).alloc _
   have x0:W.cell? ⟨wo.heap.size+1,0,none⟩=some (.int .i64 id):=by rw [hW];go_simp
   have x1:W.cell? ⟨wo.heap.size+1,1,none⟩=some (.slice (some ⟨wo.heap.size,0,none⟩) 3 3):=by rw [hW];go_simp
   have HW:=pA6 hW;have bw2:=hb.size;have bg:=World.block_lt_of_cell? _ _ f0;have ct:=aZ cn.out hlt;have dq:=pA6 ct;have s0:=pA x0;have s1:=pA x1;have s2:=pA (bW.cell e0);have s3:=pA (bW.cell e1);have dk:=xA x3;have bt:=Rd.bw dA df ((B2.then hb).then bW);have cg:∀s:eC W,Calls prog 286 #[.agg #[.int .i64 p.id,.slice Ap 3 cp],.agg #[.int .i64 id,.slice (some ⟨wo.heap.size,0,none⟩) 3 3]] s.1 (Ret s.1 (.int .i64 (XD p (lC id k)))):=fun s=>lA2 _ p (lC id k) _ _ (Rd.bw dA bt s.bw) (Rd.bw dA dk s.bw)
   have bd:=pA6 (fun h1 h2=>cAh (l:=l) (e:=e) (p:=p) (id:=id) (n:=k) h1 h2);have bm:=pA6 (fun h1=>iA0 (l:=l) (e:=e) (p:=p) (id:=id) (n:=k) h1);obtain ⟨q,hq⟩:=pA7 (XD p (lC id k));rw [<-hq] at cg bd bm;replace bd:=pA6 (show ls<0\/q<ls->eH l e id (lC id k)=true->CG l e p id (k+1)=(lC id k,q) from fun h1 h2=>bd.out (by rw [HT.out];exact h1) h2);replace bm:=pA6 (show ¬(ls<0\/q<ls)\/eH l e id (lC id k)=false->CG l e p id (k+1)=(fd,ls) from fun h1=>(bm.out (by rw [HT.out];exact h1)).trans HT.out);clear hW hq HT ct e0 e1;go_wp2;rw [<-HW.out];refine IA (by kernel_rfl) ?_
   repeat (first | go_big_quiet_skip | (go_big_quiet_want;go_big_quiet_op;first | go_big_quiet_on | (apply Exists.intro;refine ⟨fun _=>?_,?_⟩;(· (((first | (go_at_call 286;exact DA (cg _))))));go_big_quiet_on)))
   refine JA fun wq hbq=>?_
   try dsimp only at *
   have bq:=bW.then hbq;replace x0:=hbq.cell x0;replace x1:=hbq.cell x1;have bz:=hb.then bq;have bg2:=bq.size;replace f0:=bq.cell f0;replace f1:=bq.cell f1;have bp:∀o,wq.frozen? ⟨w2.heap.size,o,none⟩=false:=fun o=>(oC bq w2.heap.size o bg).trans (dd o)
   have cm:=(aA (B:=w2.heap.size)).bw bq hb.size hv;have x4:=(aA (B:=0)).bw hbq (Nat.zero_le _) x3;clear s0 s1 s2 s3 cg bt dd hv dk;by_cases hg:ls<0\/q<ls
   ·have dm:=xA x4;have HG:=pA6 hg;have bn:=pA6 (show ∀w4,Bw wq w4->∃F2,sA (w2.heap.size+1) F2/\WA ((w4.setCell ⟨w2.heap.size,0,none⟩ (.int .i64 id)).setCell ⟨w2.heap.size,1,none⟩ (.slice (some ⟨wo.heap.size,0,none⟩) 3 3)) (lC id k).vals [.slice (some ⟨wo.heap.size,0,none⟩) 3 3] F2 from fun w4 hb4=>by
     refine ⟨[wo.heap.size],⟨by simp,by simp;omega⟩,?_⟩;have x5:=(aA (B:=0)).bw hb4 (Nat.zero_le _) x4;refine (aA (B:=0)).step (fun b hb=>?_) x5;rcases hb with hb | hb
     ·have:b=wo.heap.size:=by simpa using hb
      have bg':w2.heap.size<wo.heap.size:=bg
      repeat rw [Below.heap_setCell _ _ _ _ (by dsimp only;omega)]
     ·omega)
    have ds:=pA6 cm;have cz:=fun w4 (B:Bw wq w4) (y:iA) (Ay:Option Addr) (cy:Nat) (hy:Rd aB w4 y.vals [.slice Ay 3 cy]) (hPy:gB y=true)=>(show Calls prog 78 #[u,.agg #[.int .i64 y.id,.slice Ay 3 cy],.agg #[.int .i64 id,.slice (some ⟨wo.heap.size,0,none⟩) 3 3]] w4 (Ret w4 (.int .i64 (zC e y (lC id k)))) from eI w4 e y (lC id k) _ _ _ (h'.bw jA ((B2.then bz).then B)) hy (dm.bw dA B) (yB HB.out) hPy dq.out)
    have dn:=pA6 cz;rcases Decidable.em (ls<0) with a1 | a1;rotate_left
    focus
     have a2:q<ls:=hg.resolve_left a1;have a3:¬(ls<=q):=by omega
     have a4:0<=ls:=by omega
    rotate_right
    focus
     have a3:¬(0<=ls):=by omega
    all_goals
     clear hg cz cm x3 x4 dm;go_wp2
     go_loopg [15,59] n (fun g b i2 w'=>∃(j2:Nat) (qb:Bool),j2<=n/\g=n-j2/\i2=.int .i64 j2/\b=.bool qb/\Hid (qb=(l.take j2).any fun y=>ID e id y (lC id k))/\Bw wq w')
     ·exact ⟨0,false,by omega,rfl,rfl,rfl,pA6 rfl,Bw.refl _⟩
     ·obtain ⟨j2,qb,hj2,rfl,rfl,rfl,HQ,bc⟩:=hrel;have cd:=(B2.then bz).then bc;have fj:=bc.cell x0;have kk1:=bc.cell x1;by_cases hlt2:j2<n
      ·obtain ⟨y,hy⟩:=tA (xs:=l) (k:=j2) (by have:=L.out;omega);obtain ⟨b2,o2,Ay,cy,eA,_,db,cj,bs⟩:=qB HH.out hy;injection eA with eA;injection eA with eA1 eA2;subst eA1 eA2;have cq:=pA6 (TA (AA HB.out) (List.mem_of_getElem? hy));have bj:=jB cq.out;rw [bj] at cj bs;replace db:=cd.cell db;replace cj:=cd.cell cj;have i1:(0:Int)<=(j2:Int):=by omega
       have i2:(j2:Int)<(n:Int):=by omega
       have HS:=pA6 (LH (fun y=>ID e id y (lC id k)) hy);have hby:=World.block_lt_of_cell? _ _ fj;have C1:Bw wr (wr.alloc (.cells #[.int .i64 y.id,.slice Ay 3 cy] 30)):=(Bw.refl wr).alloc _;clear hy bj
       cases qb with
       | true=>
        have bf:=pA6 (show true=(l.take (j2+1)).any fun y=>ID e id y (lC id k) by rw [HS.out,<-HQ.out];rfl);clear HQ HS;go_wp2
        go_roundg (n-(j2+1))
        ·exact ⟨j2+1,true,by omega,rfl,by go_num,rfl,bf,bc.then C1⟩
        ·omega
       | false=>
        have bv:=pA6 (show ID e id y (lC id k)=(l.take (j2+1)).any fun y=>ID e id y (lC id k) by rw [HS.out,<-HQ.out];rfl);clear HQ HS;by_cases hyd:y.id=id
        ·have e0:(y.id != id)=false:=by simpa using hyd
         have bf:=pA6 (show false=(l.take (j2+1)).any fun y=>ID e id y (lC id k) by rw [<-bv.out];simp [ID,hyd]);clear hyd bv;go_wp2
         go_roundg (n-(j2+1))
         ·exact ⟨j2+1,false,by omega,rfl,by go_num,rfl,bf,bc.then C1⟩
         ·omega
        ·have e0:(y.id != id)=true:=by simpa using hyd
         have bb:=dn.out _ (bc.then C1) y Ay cy (Rd.bw dA bs (cd.then C1)) cq.out;have bf:=pA6 (show decide (zC e y (lC id k)=1)=(l.take (j2+1)).any fun y=>ID e id y (lC id k) by rw [<-bv.out];simp [ID,hyd,EC]);obtain ⟨r,hr⟩:=pA7 (zC e y (lC id k));rw [<-hr] at bb bf;clear bv hr hyd;go_wp2_with fail;refine (bb).mono ?_;rintro e w3 ⟨rfl,cv⟩;by_cases hr1:r=1
         ·have e1:(r==1)=true:=by simpa using hr1
          have cc:=pA6 (show true=(l.take (j2+1)).any fun y=>ID e id y (lC id k) by rw [<-bf.out];simpa using hr1);clear hr1 bf;go_wp2
          go_roundg (n-(j2+1))
          ·exact ⟨j2+1,true,by omega,rfl,by go_num,rfl,cc,bc.then (C1.then cv)⟩
          ·omega
         ·have e1:(r==1)=false:=by simpa using hr1
          have cc:=pA6 (show false=(l.take (j2+1)).any fun y=>ID e id y (lC id k) by rw [<-bf.out];simpa using hr1);clear hr1 bf;go_wp2
          go_roundg (n-(j2+1))
          ·exact ⟨j2+1,false,by omega,rfl,by go_num,rfl,cc,bc.then (C1.then cv)⟩
          ·omega
      ·obtain rfl:j2=n:=by omega
       have HF:=pA6 (show eH l e id (lC id k)=!qb by rw [eH,HQ.out,EI _ (by rw [<-L.out];exact Nat.le_refl _)]);have dv:=bc.cell f0;have dx:=bc.cell f1;have ck:∀o,wr.frozen? ⟨w2.heap.size,o,none⟩=false:=fun o=>(oC bc w2.heap.size o (by omega)).trans (bp o)
       have dj:=(aA (B:=w2.heap.size)).bw bc bz.size ds.out;have cs:=bz.then bc;clear HQ hlt2
       cases qb with
       | true=>
        have HT:=pA6 (bm.out (.inr HF.out));go_wp2
        go_roundg (1000-(k+1))
        ·exact ⟨k+1,ls,fd,A',c',F,by omega,rfl,by go_num,rfl,HT,dv,dx,ck,dj,hF,cs⟩
        ·omega
       | false=>
        have HT:=pA6 (bd.out HG.out HF.out);obtain ⟨F2,dz,fc⟩:=bn.out wr bc;clear bd bm bn HG dj f0 f1;go_wp2
        go_roundg (1000-(k+1))
        ·refine ⟨k+1,q,lC id k,some ⟨wo.heap.size,0,none⟩,3,F2,by omega,rfl,by go_num,rfl,HT,by go_simp;rfl,by go_simp;rfl,fun o=>by go_simp,fc,dz,?_⟩
         repeat (first | with_reducible exact cs | with_reducible refine Bw.set ?_ ?_ _)
         all_goals (dsimp only;omega)
        ·omega
   ·have a1:0<=ls:=by omega
    have a2:ls<=q:=by omega
    have HT:=pA6 (bm.out (.inl hg));clear hg x0 x1 x3 x4;go_wp2
    go_roundg (1000-(k+1))
    ·exact ⟨k+1,ls,fd,A',c',F,by omega,rfl,by go_num,rfl,HT,f0,f1,bp,cm,hF,bz⟩
    ·omega
  ·obtain rfl:k=1000:=by omega
   have dp:=pA6 (show ¬(ls<0) by have h1:=RV (p:=p) HB.out cn.out;rw [HT.out] at h1;dsimp only at h1;omega);have dt:=pA6 (HY.out.trans HT.out);replace r0:=hb.cell r0;replace r1:=hb.cell r1;have fg:w.heap.size<w2.heap.size:=by have:=(bx.then cb).size;simp at this;omega
   have hf4:∀o,wo.frozen? ⟨w.heap.size,o,none⟩=false:=fun o=>(oC hb w.heap.size o fg).trans (dc o)
   have fb:∀b∈F,w.heap.size+1<=b:=fun b hb=>by have:=hF.ge b hb;omega
   have fF:sA w.heap.size F:=hF.mono (by omega);have B3:=B2.then hb;clear HY HT dc;have l0:¬(ls<0):=dp.out;go_wp2;obtain rfl:=dt.out;refine bodyPost_ret (v:=.tuple #[.agg #[.int .i64 fd.id,.slice A' fd.vals.length c'],.int .i64 ls,.bool true]) (by simp [results,results276,go_sem,r0,r1]) rfl ⟨_,rfl,⟨[.int .i64 fd.id,.slice A' fd.vals.length c'],rfl,F,⟨_,rfl,?_⟩,fF⟩,?_⟩
   ·refine (aA (B:=0)).step (fun b hb=>?_) hv;rcases hb with hb | hb
    ·have:=fb b hb
     repeat rw [Below.heap_setCell _ _ _ _ (by dsimp only;omega)]
    ·omega
   ·repeat (first | with_reducible exact B3 | with_reducible refine Bw.set ?_ ?_ _)
    all_goals (dsimp only;omega)
theorem QO (w:World) (l:List iA) (e:List mA) (id:Int) (v u:Value) (h:Rd LA w l [v]) (h':Rd OA w e [u]) (hno:MB l e id=false) :
  Calls prog 276 #[v,u,.int .i64 id] w (WB w (MS zH w.heap.size ⟨0,[]⟩ (.int .i64 0) (.bool false))):=by
 have A0:Bw w (w.alloc (.cells #[.int .i64 0,.slice none 0 0] 30)):=(Bw.refl w).alloc _;have bb:=fun W (B:Bw w W)=>GD W l id _ (h.bw gA B)
 have bc:=pA6 (show kB l e=true->rB l id<0 from fun hB=>by
  unfold MB at hno;rw [hB,Bool.true_and,decide_eq_false_iff_not] at hno;omega)
 obtain ⟨K,hK⟩:=pA7 (rB l id);rw [<-hK] at bb bc;clear hno hK;go_enter func276,ntmps276;go_wp2_with fail;refine (bb _ A0).mono ?_;rintro e w1 ⟨rfl,bd⟩;have B1:=A0.then bd;go_wp2_with fail;refine (KE _ l e _ _ (h.bw gA B1) (h'.bw jA B1)).mono ?_;rintro e w2 ⟨rfl,bf⟩;have B2:=B1.then bf;obtain ⟨r0,r1⟩:C2 w2 w.heap.size (.int .i64 0) (.slice none 0 0):=(bd.then bf).c2 (by unfold C2;go_simp);have hfr:∀o,w2.frozen? ⟨w.heap.size,o,none⟩=false:=fun o=>by rw [oC (bd.then bf) _ _ (by first | (simp;done) | (simp;omega))];go_simp
 clear bb;rcases pA8 (kB l e) with e1 | e1;rotate_left
 focus
  rw [e1];clear e1 bc
 rotate_right
 focus
  have k1:=bc.out e1;rw [e1];clear e1
 all_goals
  go_wp2;refine bodyPost_ret (v:=.tuple #[.agg #[.int .i64 0,.slice none 0 0],.int .i64 0,.bool false]) (by simp [results,results276,go_sem,r0,r1]) rfl ⟨_,rfl,⟨[.int .i64 0,.slice none 0 0],rfl,[],⟨_,rfl,mK _⟩,sA.nil⟩,?_⟩
  repeat (first | with_reducible exact B2 | with_reducible refine Bw.set ?_ ?_ _)
  all_goals (dsimp only;omega)
theorem OS (w:World) (l:List iA) (e:List mA) (id:Int) (v u:Value) (h:Rd LA w l [v]) (h':Rd OA w e [u]) :
  Calls prog 276 #[v,u,.int .i64 id] w (WB w (MS zH w.heap.size (AC l e id) (.int .i64 (cD l e id)) (.bool (MB l e id)))):=by
 rcases pA8 (MB l e id) with hc | hc
 ·have h1:=hc;unfold MB at h1;rw [Bool.and_eq_true,decide_eq_true_eq] at h1;rcases OC l id with ⟨hK,_⟩ | ⟨j,x,hK,hx,bb⟩
  ·have:=h1.2;omega
  ·have:=pN w l e id v u h h' h1.1 j x hK hx bb;rw [show AC l e id=(CG l e x id 1000).1 by rw [AC,if_pos hc,lF hK hx],show cD l e id=(CG l e x id 1000).2 by rw [cD,if_pos hc,lF hK hx],hc];exact this
 ·have:=QO w l e id v u h h' hc;rw [show AC l e id=⟨0,[]⟩ by rw [AC,hc];rfl,show cD l e id=0 by rw [cD,hc];rfl,hc];exact this
end Go.Proofs.YtpihighajaeabaaGreat
