/- The best items in the reference. -/
import Derived.Test.YtpihighajaeabaaGreatXCompI2
import Derived.Test.YtpihighajaeabaaGreatXCmpS
import Derived.Deep.WholeRow
import Derived.Test.YtpihighajaeabaaGreatXExprI
import Derived.Test.YtpihighajaeabaaGreatXCostOf
namespace Go.Proofs.YtpihighajaeabaaGreat
open Go.RowKit Go.Proofs.Tryz
set_option linter.all false
set_option maxRecDepth 100000
set_option maxHeartbeats 16000000
theorem iAv {T:List Int} {a b r:Int} {m:Nat} (h:T.length=m):(T++[a,b]).set m r=(T++[r])++[b]:=by
 rw [<-h,List.set_append_right _ _ (Nat.le_refl _)];simp
theorem eI (w:World) (e:List mA) (p q:iA) (ve v1 v2:Value) (h:Rd OA w e [ve]) (h1:Rd aB w p.vals [v1]) (h2:Rd aB w q.vals [v2]) (hE:pB e=true) (hp:gB p=true) (hq:gB q=true) :
  Calls prog 78 #[ve,.agg #[.int .i64 p.id,v1],.agg #[.int .i64 q.id,v2]] w (Ret w (.int .i64 (zC e p q))):=by
 obtain ⟨i0,hi,fs,ft,fv⟩:=info_parts xC;obtain ⟨A,n,c,rfl,L,Lc,Lm⟩:=yA h;have HP:=pA6 hp;have HQ:=pA6 hq;have DE:=pA6 (VJ hE);have n9:n<=9:=by rw [L.out];exact vV hE
 have cv:=MA (e:=3) (sz:=1) (R:=IF) ((w.alloc (.cells #[.int .i64 p.id,v1] 30)).alloc (.cells #[.int .i64 q.id,v2] 30));rw [show ((w.alloc (.cells #[.int .i64 p.id,v1] 30)).alloc (.cells #[.int .i64 q.id,v2] 30)).heap.size=w.heap.size+1+1 by simp] at cv;obtain ⟨wB,bq⟩:=pA7 ((w.alloc (.cells #[.int .i64 p.id,v1] 30)).alloc (.cells #[.int .i64 q.id,v2] 30));have B0:Bw w wB:=by rw [bq];exact ((Bw.refl w).alloc _).alloc _
 have ds:wB.heap.size=w.heap.size+1+1:=by rw [bq];simp
 have fz:wB.cell? ⟨w.heap.size,0,none⟩=some (.int .i64 p.id):=by rw [bq];go_simp
 have gb:wB.cell? ⟨w.heap.size,1,none⟩=some v1:=by rw [bq];go_simp
 have gd:wB.cell? ⟨w.heap.size+1,0,none⟩=some (.int .i64 q.id):=by rw [bq];go_simp
 have gf:wB.cell? ⟨w.heap.size+1,1,none⟩=some v2:=by rw [bq];go_simp
 have cx:Bw wB (((w.alloc (.cells #[.int .i64 p.id,v1] 30)).alloc (.cells #[.int .i64 q.id,v2] 30)).alloc (.cells #[] 3)):=by rw [bq];exact (Bw.refl _).alloc _
 have fd:=pA6 ds;clear hp hq hE bq ds;go_enter func78,ntmps78;go_wp2
 go_loopg [7,14] n (fun g s i w'=>∃(k m:Nat) (St:List Int) (F:List Nat) (A':Option Addr) (c':Nat),k<=n/\g=n-k/\i=.int .i64 k/\s=.slice A' m c'/\Hid (m=St.length)/\m<=k/\m<=c'/\WA w' St [.slice A' m c'] F/\sA wB.heap.size F/\Hid (St=MF e p q k)/\Hid (qC (e.drop k) m=some 1)/\Hid (NT St)/\Bw wB w')
 ·exact ⟨0,0,[],_,_,_,by omega,rfl,rfl,rfl,pA6 rfl,by omega,by omega,cv,⟨by simp,by rw [fd.out];simp⟩,pA6 rfl,DE,pA6 (fun v hv=>by simp at hv),cx⟩
 ·clear cv cx;obtain ⟨k,m,St,F,A',c',hk,rfl,rfl,rfl,HL,hmk,dn,hv,hF,HS,HD,HC,hb⟩:=hrel;by_cases hlt:k<n
  ·obtain ⟨x,hx⟩:=tA (xs:=e) (k:=k) (by have:=L.out;omega);obtain ⟨ba,oa,Al,cl,Ap,cp,rfl,_,c0,db,dc,c3,c4,c5,hl,dp⟩:=mE h hx;have i1:(0:Int)<=(k:Int):=by omega
   have i2:(k:Int)<(n:Int):=by omega
   have bv:=B0.then hb;replace c0:=bv.cell c0;replace db:=bv.cell db;replace dc:=bv.cell dc;replace c3:=bv.cell c3;replace c4:=bv.cell c4;replace c5:=bv.cell c5;have hbx:=World.block_lt_of_cell? _ _ c0;have A1:Bw wr (wr.alloc (.cells #[.int .i64 x.op,.int .i64 x.wish.kind,.int .i64 x.wish.field,.int .i64 x.wish.value,.slice Al x.wish.list.length cl,.slice Ap x.wish.pairs.length cp] 111)):=(Bw.refl wr).alloc _;have bf:=hb.then A1;have bj:=B0.then bf;have ck:=Rd.bw dA hl bj;have cn:=Rd.bw RA dp bj;have cf:=h1.bw dA bj;have cg:=h2.bw dA bj;have bd:=(aA (B:=wB.heap.size)).bw A1 hb.size hv;obtain ⟨cm,dk⟩:=SP HD.out hx;have fp:=UY cm;have cj:=DS cm;have HN:=pA6 (AI (x:=p) (y:=q) hx);have HW:=pA6 (fun o0=>iN cm o0);have bp:=pA6 dk;have HH:=pA6 h;have bt:=(aA (B:=0)).lt bd;have ka:=bf.cell fz;have fx:=bf.cell gb;have kb:=bf.cell gd;have gc:=bf.cell gf;clear hx h hl dp cm dk hv;by_cases o0:x.op=0
   ·have q0:(x.op==0)=true:=by simpa using o0
    have bb:Calls prog 160 _ _ (Ret _ (.int .i64 (PG x.wish p q))):=wV _ x.wish p q _ _ v1 v2 ck cn cf cg (HW.out o0) HP.out HQ.out;have bc:=QQ x.wish p q;obtain ⟨r,hr⟩:=pA7 (PG x.wish p q);rw [<-hr] at bc bb;have bn:=pA6 (show St++[r]=MF e p q (k+1) by rw [HN.out,<-HS.out,PP o0,hr]);have bs:=pA6 (show qC (e.drop (k+1)) ((m+1:Nat):Int)=some 1 by rw [<-bp.out,o0];congr 1);have bm:=pA6 (iJ HC.out bc);have bk:=pA6 (show m+1=(St++[r]).length by rw [List.length_append,<-HL.out];rfl);have cz:=pA6 (show St.length=m from HL.out.symm);clear o0 HN HS HD bp HC hr HW bc cf cg ck cn;go_wp2_with fail;refine (bb).mono ?_;rintro e w1 ⟨rfl,dd⟩;have df:=bf.then dd;have dt:=(aA (B:=wB.heap.size)).bw dd bf.size bd;have fq:=(aA (B:=wB.heap.size)).bw ((Bw.refl w1).alloc (.cells #[.int .i64 r] 3)) df.size dt;have fj:=df.alloc (.cells #[.int .i64 r] 3);have fn:=cell_one_new w1 (.int .i64 r) 3;have fg:=bf.size;clear bb bd dt;go_wp2_with (at_builtin;refine lB _ rfl (.tmp 45) (.tmp 51) 26 rfl wB 3 i0 _ 1 8 underlying26 hi fs ft fv rfl (by omega) YA _ St F rfl fq hF ⟨w1.heap.size,0,none⟩ 1 rfl r [.int .i64 r] [] fn ⟨rfl,rfl⟩ rfl _ bt sA.nil fg (by rw [cz.out];omega) (by rw [cz.out];omega) fj ?_;intro v' w' F' bg bz cc);obtain ⟨A3,ff,rfl,dj,_⟩:=XA (xA bg);rw [<-bk.out] at bg dj ⊢;go_wp2
    go_roundg (n-(k+1))
    ·exact ⟨k+1,m+1,St++[r],F',A3,ff,by omega,rfl,by go_num,rfl,bk,by omega,dj,bg,bz,bn,bs,bm,cc⟩
    ·omega
   ·have q0:(x.op==0)=false:=by simpa using o0
    by_cases o3:x.op=3
    ·have q3:(x.op==3)=true:=by simpa using o3
     rw [show aD x.op=1 by rw [o3];rfl] at cj bp;obtain ⟨T,a,cb⟩:=TY (l:=St) (by rw [<-HL.out];omega);subst cb;have hT:T.length=m-1:=by have:=HL.out;simp at this;omega
     obtain ⟨g,rfl,cd,bx⟩:=CJ bd (by simp);clear cd;have hc:=EJ bd (hAz hT);have ha:=HC.out a (by simp);have bn:=pA6 (show T++[bJ a]=MF e p q (k+1) by rw [HN.out,<-HS.out,QP o3]);have bs:=pA6 (show qC (e.drop (k+1)) (m:Int)=some 1 by rw [<-bp.out];congr 1;omega);have bm:=pA6 (iJ (gM HC.out) (zS ha));have bk:=pA6 (show m=(T++[bJ a]).length by have:=HL.out;simp at this ⊢;exact this);have j1:(0:Int)<=(m:Int)-1:=by omega
     have j2:(m:Int)-1<(m:Int):=by omega
     have HT:=pA6 hT;have m1:1<=m:=by omega
     clear o0 o3 HN HS HD bp HC HW ck cn cf cg fp cj hT;by_cases a2:a=2
     ·have q4:(a != 2)=false:=by simpa using a2
      have fc:=pA6 (show T++[a]=MF e p q (k+1) by rw [<-bn.out,bJ,if_pos a2,a2]);have fb:=pA6 (show NT (T++[a]) by have:=bm.out;rwa [bJ,if_pos a2,<-a2] at this);clear a2 bn bm bk;go_wp2
      go_roundg (n-(k+1))
      ·exact ⟨k+1,m,T++[a],F,_,c',by omega,rfl,by go_num,rfl,HL,by omega,dn,bd,hF,fc,bs,fb,bf⟩
      ·omega
     ·have q4:(a != 2)=true:=by simpa using a2
      have dm:=TF bd (m-1);obtain ⟨F',bg,bz,hg,_,_⟩:=YK (YA (B:=wB.heap.size)) bd hF (k:=m-1) (y:=-a) (u:=[.int .i64 (-a)]) ⟨rfl,rfl⟩ rfl bt sA.nil bf.size (by have:=HT.out;simp;omega);simp only [rE,Nat.mul_one] at bg hg;rw [cA6 HT.out] at bg;rw [show bJ a = -a by rw [bJ,if_neg a2]] at bn bm bk;have cc:=bf.grown hg (fun q hq=>by injection hq with hq;have:=hF.ge g bx;omega);clear a2 hg bd hF bt bx HL;go_wp2
      go_roundg (n-(k+1))
      ·exact ⟨k+1,m,T++[-a],F',_,c',by omega,rfl,by go_num,rfl,bk,by omega,dn,bg,bz,bn,bs,bm,cc⟩
      ·omega
    ·have q3:(x.op==3)=false:=by simpa using o3
     have ct:x.op=1\/x.op=2\/x.op=4:=by omega
     rw [show aD x.op=2 by rcases ct with h | h | h<;>rw [h]<;>rfl] at cj bp;obtain ⟨T,a,b,cb⟩:=nAy (l:=St) (by rw [<-HL.out];omega);subst cb;have hT:T.length=m-2:=by have:=HL.out;simp at this;omega
     have m2:2<=m:=by omega
     obtain ⟨g,rfl,cd,bx⟩:=CJ bd (by simp);clear cd;have fk:=EJ bd (cA7 hT);have fm:=EJ (k:=m-1) bd (cA8 (by omega));have dm:=TF bd (m-2);have ha:=HC.out a (by simp);have cq:=HC.out b (by simp);have bc:=yS (op:=x.op) ha cq;have bn:=pA6 (show T++[UE x.op a b]=MF e p q (k+1) by rw [HN.out,<-HS.out,BS o0 o3]);have bs:=pA6 (show qC (e.drop (k+1)) ((m-1:Nat):Int)=some 1 by rw [<-bp.out];congr 1;omega);have bm:=pA6 (iJ (gM HC.out) bc);have bk:=pA6 (show m-1=(T++[UE x.op a b]).length by rw [List.length_append,hT];simp;omega);have HT:=pA6 hT;have bb:∀W,Calls prog 161 #[.int .i64 x.op,.int .i64 a,.int .i64 b] W (VX W (.int .i64 (UE x.op a b))):=fun W=>DU W x.op a b ct ha cq
     obtain ⟨r,hr⟩:=pA7 (UE x.op a b);rw [<-hr] at bn bm bk;simp only [<-hr] at bb;have j1:(0:Int)<=(m:Int)-2:=by omega
     have j2:(m:Int)-2<(m:Int):=by omega
     have j3:(0:Int)<=(m:Int)-1:=by omega
     have j4:(m:Int)-1<(m:Int):=by omega
     have dz:(wr.alloc (.cells #[.int .i64 x.op,.int .i64 x.wish.kind,.int .i64 x.wish.field,.int .i64 x.wish.value,.slice Al x.wish.list.length cl,.slice Ap x.wish.pairs.length cp] 111)).cell? ⟨wr.heap.size,0,none⟩=some (.int .i64 x.op):=by go_simp
     obtain ⟨W,hW⟩:=pA7 (wr.alloc (.cells #[.int .i64 x.op,.int .i64 x.wish.kind,.int .i64 x.wish.field,.int .i64 x.wish.value,.slice Al x.wish.list.length cl,.slice Ap x.wish.pairs.length cp] 111));rw [<-hW] at dz fk fm dm bt;have dv:WA W.drew (T++[a,b]) [.slice (some ⟨g,0,none⟩) m c'] F:=by rw [hW];exact (aA (B:=wB.heap.size)).bw ((Bw.refl _).drew) bf.size bd
     have cs:Bw wB W.drew:=by rw [hW];exact bf.drew
     obtain ⟨F',bg,bz,hg,_,_⟩:=YK (YA (B:=wB.heap.size)) dv hF (k:=m-2) (y:=r) (u:=[.int .i64 r]) ⟨rfl,rfl⟩ rfl (m:=W.heap.size) bt sA.nil cs.size (by have:=HT.out;simp;omega);simp only [rE,Nat.mul_one] at bg hg;rw [iAv HT.out] at bg;have dx:=AS bg;rw [<-bk.out] at dx;have cc:=cs.grown hg (fun q hq=>by injection hq with hq;have:=hF.ge g bx;omega);clear o0 o3 ct HN HS HD bp HC HW ck cn cf cg cj hT hr ha cq bg dv hg bx hF bt bd bf cs bc ka fx kb gc A1 bj;go_wp2_with fail;rw [<-hW];obtain ⟨qq,dq⟩:=pA7 wr.heap.size;rw [<-dq] at dz ⊢;clear hW dq;refine wp_region_still_tail 17 (by kernel_rfl) (by kernel_rfl) ?_;simp only [List.take_succ_cons,List.take_zero,List.drop_succ_cons,List.drop_zero];refine dG (w:=W.drew) ?_
     repeat (first | go_big_quiet_skip | (go_big_quiet_want;go_big_quiet_op;first | go_big_quiet_on | (apply Exists.intro;refine ⟨?_,?_⟩;(· first | exact bb _ | (intro _;exact bb _) | (intro _ hh;subst hh;exact bb _));go_big_quiet_on)))
     refine wpQuiet_nil ?_
     change wpList _ _ _ _ _ W.drew
     go_wp2
     go_roundg (n-(k+1))
     ·exact ⟨k+1,m-1,T++[r],F',_,c',by omega,rfl,by go_num,rfl,bk,by omega,by omega,dx,bz,bn,bs,bm,cc⟩
     ·omega
  ·obtain rfl:k=n:=by omega
   have hm:(m:Int)=1:=by
    have:=HD.out;rw [List.drop_of_length_le (by rw [<-L.out];exact Nat.le_refl _),qC] at this;injection this
   obtain rfl:m=1:=by omega
   obtain ⟨T,a,cb⟩:=TY (l:=St) (by rw [<-HL.out];omega);subst cb;have hT:T=[]:=List.eq_nil_of_length_eq_zero (by have:=HL.out;rw [List.length_append] at this;simp only [List.length_singleton] at this;omega);subst hT;obtain ⟨g,rfl,cd,bx⟩:=CJ hv (by simp);clear cd;have hc:=EJ (k:=0) hv rfl;have HF:=pA6 (show a=zC e p q by rw [<-jN (e:=e) (x:=p) (y:=q) (k:=k) (by rw [<-L.out];exact Nat.le_refl _),<-HS.out];rfl);clear HS HD HC HL hm hv;go_wp2;go_ret;exact Ret.int HF.out (B0.then hb)
theorem KE (w:World) (l:List iA) (e:List mA) (v u:Value) (h:Rd LA w l [v]) (h':Rd OA w e [u]):Calls prog 92 #[v,u] w (Ret w (.bool (kB l e))):=by
 go_enter func92,ntmps92;go_wp2_with fail;refine (nV _ l _ h).mono ?_;rintro e w2 ⟨rfl,bb⟩;rcases pA8 (dB l) with e1 | e1
 ·have E:=pA6 e1;rw [e1];clear e1;go_wp2_with fail;refine (CI _ e _ (h'.bw jA bb)).mono ?_;rintro e w3 ⟨rfl,bc⟩;rcases pA8 (pB e) with e2 | e2
  all_goals
   have E2:=pA6 e2;rw [e2];clear e2;go_wp2;go_ret;exact Ret.bool (by rw [kB,E.out,E2.out];rfl) (bb.then bc)
 ·have E:=pA6 e1;rw [e1];clear e1;go_wp2;go_ret;exact Ret.bool (by rw [kB,E.out];rfl) (bb)
theorem aAe (w:World) (l:List iA) (e:List mA) (v u:Value) (h:Rd LA w l [v]) (h':Rd OA w e [u]) (hE:kB l e=true):Calls prog 97 #[v,u] w (WB w (nE WA w.heap.size (wD l e))):=by
 obtain ⟨i0,hi,df,dj,dk⟩:=info_parts xC;obtain ⟨A,n,c,rfl,L,Lc,Lm⟩:=yA h;have cp:=pA6 (yB hE);have HI:=pA6 (AA hE);have n16:n<=16:=by rw [L.out];exact VA HI.out
 have ck:=MA (e:=3) (sz:=1) (R:=IF) w;clear hE;go_enter func97,ntmps97;go_wp2
 go_loopg [5,14] n (fun g s i w'=>∃(k:Nat) (F:List Nat),k<=n/\g=n-k/\i=.int .i64 k/\WA w' (DI l e k) [s] F/\sA w.heap.size F/\Bw w w')
 ·exact ⟨0,_,by omega,rfl,rfl,ck,⟨by simp,by simp⟩,(Bw.refl _).alloc _⟩
 ·clear ck;obtain ⟨k,F,hk,rfl,rfl,hv,hF,hb⟩:=hrel;by_cases hlt:k<n
  ·obtain ⟨x,hx⟩:=tA (xs:=l) (k:=k) (by have:=L.out;omega);obtain ⟨ba,oa,Ax,cx,rfl,_,bs,bt,cj⟩:=qB h hx;have HP:=pA6 (TA HI.out (List.mem_of_getElem? hx));have bk:=jB HP.out;rw [bk] at bt cj;have i1:(0:Int)<=(k:Int):=by omega
   have i2:(k:Int)<(n:Int):=by omega
   replace bs:=hb.cell bs;replace bt:=hb.cell bt;have hbx:=World.block_lt_of_cell? _ _ bs;have bq:=pA6 (fun hf=>EV (e:=e) hx hf);have cq:=pA6 (fun hf=>VY (e:=e) hx hf);have HH:=pA6 h;have A1:Bw wr (wr.alloc (.cells #[.int .i64 x.id,.slice Ax 3 cx] 30)):=(Bw.refl wr).alloc _;have bm:=hb.then A1;have bn:=(aA (B:=w.heap.size)).bw A1 hb.size hv;have cc:=(aA (B:=0)).lt bn;have cm:(wr.alloc (.cells #[.int .i64 x.id,.slice Ax 3 cx] 30)).cell? ⟨wr.heap.size,0,none⟩=some (.int .i64 x.id):=by go_simp
   have cn:(wr.alloc (.cells #[.int .i64 x.id,.slice Ax 3 cx] 30)).cell? ⟨wr.heap.size,1,none⟩=some (.slice Ax 3 cx):=by go_simp
   obtain ⟨W,hW⟩:=pA7 (wr.alloc (.cells #[.int .i64 x.id,.slice Ax 3 cx] 30));rw [<-hW] at cm cn bm bn cc;have HW:=pA6 hW;clear hx h bk hW A1 hv;go_wp2
   go_loopg [8,20] n (fun g b i2 w'=>∃(j:Nat) (q:Bool),j<=n/\g=n-j/\i2=.int .i64 j/\b=.bool q/\Hid (q=(l.take j).any fun y=>EC e y x)/\Bw W w')
   ·exact ⟨0,false,by omega,rfl,rfl,rfl,pA6 rfl,by rw [HW.out];exact Bw.refl _⟩
   ·obtain ⟨j,qb,hj,rfl,rfl,rfl,HQ,bg⟩:=hrel;have bb:=bm.then bg;have dm:=bg.cell cm;have kk1:=bg.cell cn;by_cases hlt2:j<n
    ·obtain ⟨y,hy⟩:=tA (xs:=l) (k:=j) (by have:=L.out;omega);obtain ⟨b2,o2,Ay,cy,eA,_,cg,bv,bj⟩:=qB HH.out hy;injection eA with eA;injection eA with eA1 eA2;subst eA1 eA2;have cb:=pA6 (TA HI.out (List.mem_of_getElem? hy));have bd:=jB cb.out;rw [bd] at bv bj;replace cg:=bb.cell cg;replace bv:=bb.cell bv;have j1:(0:Int)<=(j:Int):=by omega
     have j2:(j:Int)<(n:Int):=by omega
     have HS:=pA6 (LH (fun y=>EC e y x) hy);have hby:=World.block_lt_of_cell? _ _ dm;have C1:Bw wr (wr.alloc (.cells #[.int .i64 y.id,.slice Ay 3 cy] 30)):=(Bw.refl wr).alloc _;clear hy bd
     cases qb with
     | true=>
      have bf:=pA6 (show true=(l.take (j+1)).any fun y=>EC e y x by rw [HS.out,<-HQ.out];rfl);clear HQ HS;go_wp2
      go_roundg (n-(j+1))
      ·exact ⟨j+1,true,by omega,rfl,by go_num,rfl,bf,bg.then C1⟩
      ·omega
     | false=>
      have bc:=eI _ e y x _ _ _ (h'.bw jA (bb.then C1)) (Rd.bw dA bj (bb.then C1)) (Rd.bw dA cj (bb.then C1)) cp.out cb.out HP.out;have bf:=pA6 (show decide (zC e y x=1)=(l.take (j+1)).any fun y=>EC e y x by rw [HS.out,<-HQ.out];rfl);obtain ⟨r,hr⟩:=pA7 (zC e y x);rw [<-hr] at bc bf;clear HQ HS hr;go_wp2_with fail;refine (bc).mono ?_;rintro e w3 ⟨rfl,cd⟩;by_cases hr1:r=1
      ·have e1:(r==1)=true:=by simpa using hr1
       have bp:=pA6 (show true=(l.take (j+1)).any fun y=>EC e y x by rw [<-bf.out];simpa using hr1);clear hr1 bf;go_wp2
       go_roundg (n-(j+1))
       ·exact ⟨j+1,true,by omega,rfl,by go_num,rfl,bp,bg.then (C1.then cd)⟩
       ·omega
      ·have e1:(r==1)=false:=by simpa using hr1
       have bp:=pA6 (show false=(l.take (j+1)).any fun y=>EC e y x by rw [<-bf.out];simpa using hr1);clear hr1 bf;go_wp2
       go_roundg (n-(j+1))
       ·exact ⟨j+1,false,by omega,rfl,by go_num,rfl,bp,bg.then (C1.then cd)⟩
       ·omega
    ·obtain rfl:j=n:=by omega
     have HF:=pA6 (show DH l e x=!qb by rw [DH,HQ.out,EI _ (by rw [<-L.out];exact Nat.le_refl _)]);have bx:=(aA (B:=w.heap.size)).bw bg bm.size bn;clear HQ hlt2 bn
     cases qb with
     | true=>
      have HB:=pA6 (cq.out HF.out);go_wp2
      go_roundg (j-(k+1))
      ·exact ⟨k+1,F,by omega,rfl,by go_num,by rw [HB.out];exact bx,hF,bb⟩
      ·omega
     | false=>
      have HB:=pA6 (bq.out HF.out);have cf:=IV (l:=l) (e:=e) (k:=k);have bz:=pA6 cf;have dd:=(aA (B:=w.heap.size)).bw ((Bw.refl wr).alloc (.cells #[.int .i64 x.id] 3)) bb.size bx;have cz:=bb.alloc (.cells #[.int .i64 x.id] 3);have db:=cell_one_new wr (.int .i64 x.id) 3;have cv:=bm.size;clear bx cf;go_wp2_with (at_builtin;refine lB _ rfl (.tmp 35) (.tmp 38) 26 rfl w 3 i0 _ 1 8 underlying26 hi df dj dk rfl (by omega) YA _ (DI l e k) F rfl dd hF ⟨wr.heap.size,0,none⟩ 1 rfl x.id [.int .i64 x.id] [] db ⟨rfl,rfl⟩ rfl _ cc sA.nil cv (by have:=bz.out;omega) (by have:=bz.out;omega) cz ?_;intro v' w' F' dc cs ct)
      go_roundg (j-(k+1))
      ·exact ⟨k+1,F',by omega,rfl,by go_num,by rw [HB.out];exact dc,cs,ct⟩
      ·omega
  ·obtain rfl:k=n:=by omega
   rw [GV (by rw [<-L.out];exact Nat.le_refl _)] at hv;go_wp2;go_ret;exact ⟨_,rfl,⟨F,hv,hF⟩,hb⟩
theorem fI (w:World) (l:List iA) (e:List mA) (v u:Value) (h:Rd LA w l [v]) (h':Rd OA w e [u]):Calls prog 37 #[v,u] w (WB w (nE WA w.heap.size (eB l e))):=by
 go_enter func37,ntmps37;go_wp2_with fail;refine (KE _ l e _ _ h h').mono ?_;rintro e w2 ⟨rfl,bb⟩;rcases pA8 (kB l e) with e1 | e1
 ·have E:=pA6 e1;rw [e1];clear e1;go_wp2_with fail;refine (aAe _ l e _ _ (h.bw gA bb) (h'.bw jA bb) E.out).mono ?_;rintro e w3 ⟨v3,rfl,⟨F,o,f⟩,bd⟩;rw [show wD l e=eB l e by rw [eB,if_pos E.out]] at o;go_wp2;go_ret;exact ⟨_,rfl,⟨F,o,f.mono bb.size⟩,bb.then bd⟩
 ·have E:=pA6 e1;rw [e1];clear e1;have bc:=MA (e:=3) (sz:=1) (R:=IF) w2;rw [show ([]:List Int)=eB l e by rw [eB,E.out];rfl] at bc;have hz:=bb.size;go_wp2;go_ret;exact ⟨_,rfl,⟨_,bc,⟨by simp,by simpa using hz⟩⟩,bb.alloc _⟩
theorem EE (w:World) (l:List iA) (e:List mA) (v u:Value) (h:Rd LA w l [v]) (h':Rd OA w e [u]):Calls prog 102 #[v,u] w (Ret w (.bool (kB l e))):=by
 go_enter func102,ntmps102;go_wp2_with fail;refine (mV _ l _ h).mono ?_;rintro e w2 ⟨rfl,bb⟩;rcases pA8 (dB l) with e1 | e1
 ·have E:=pA6 e1;rw [e1];clear e1;go_wp2_with fail;refine (aH _ e _ (h'.bw jA bb)).mono ?_;rintro e w3 ⟨rfl,bc⟩;rcases pA8 (pB e) with e2 | e2
  all_goals
   have E2:=pA6 e2;rw [e2];clear e2;go_wp2;go_ret;exact Ret.bool (by rw [kB,E.out,E2.out];rfl) (bb.then bc)
 ·have E:=pA6 e1;rw [e1];clear e1;go_wp2;go_ret;exact Ret.bool (by rw [kB,E.out];rfl) (bb)
theorem AK (w:World) (l:List iA) (e:List mA) (v u:Value) (h:Rd LA w l [v]) (h':Rd OA w e [u]) (hI:dB l=true) (hE:pB e=true):Calls prog 101 #[v,u] w (WB w (nE WA w.heap.size (wD l e))):=by
 obtain ⟨i0,hi,cv,cz,db⟩:=info_parts xC;obtain ⟨A,n,c,rfl,L,Lc,Lm⟩:=yA h;have cd:=pA6 hE;have HI:=pA6 hI;have n16:n<=16:=by rw [L.out];exact VA HI.out
 have cc:=MA (e:=3) (sz:=1) (R:=IF) w;clear hE hI;go_enter func101,ntmps101;go_wp2
 go_loopg [5,6] n (fun g s i w'=>∃(k:Nat) (F:List Nat),k<=n/\g=n-k/\i=.int .i64 k/\WA w' (DI l e k) [s] F/\sA w.heap.size F/\Bw w w')
 ·exact ⟨0,_,by omega,rfl,rfl,cc,⟨by simp,by simp⟩,(Bw.refl _).alloc _⟩
 ·clear cc;obtain ⟨k,F,hk,rfl,rfl,hv,hF,hb⟩:=hrel;by_cases hlt:k<n
  ·obtain ⟨x,hx⟩:=tA (xs:=l) (k:=k) (by have:=L.out;omega);obtain ⟨ba,oa,Ax,cx,rfl,_,cp,bz,cb⟩:=qB h hx;have HP:=pA6 (TA HI.out (List.mem_of_getElem? hx));have bm:=jB HP.out;rw [bm] at bz cb;have i1:(0:Int)<=(k:Int):=by omega
   have i2:(k:Int)<(n:Int):=by omega
   have bq:=pA6 (fun hf=>EV (e:=e) hx hf);have cf:=pA6 (fun hf=>VY (e:=e) hx hf);have HH:=pA6 h;have cj:=(aA (B:=0)).lt hv;have k0:=hb.cell cp;have k1:=hb.cell bz;clear hx h bm;go_wp2
   go_loopg [7,8] n (fun g b i2 w'=>∃(j:Nat) (q:Bool),j<=n/\g=n-j/\i2=.int .i64 j/\b=.bool q/\Hid ((!q)=(l.take j).any fun y=>EC e y x)/\Bw wr w')
   ·exact ⟨0,true,by omega,rfl,rfl,rfl,pA6 rfl,Bw.refl _⟩
   ·obtain ⟨j,qb,hj,rfl,rfl,rfl,HQ,bg⟩:=hrel;have bc:=hb.then bg;have m0:=bg.cell k0;have m1:=bg.cell k1;by_cases hlt2:j<n
    ·obtain ⟨y,hy⟩:=tA (xs:=l) (k:=j) (by have:=L.out;omega);obtain ⟨b2,o2,Ay,cy,eA,_,bn,bj,bk⟩:=qB HH.out hy;injection eA with eA;injection eA with eA1 eA2;subst eA1 eA2;have bv:=pA6 (TA HI.out (List.mem_of_getElem? hy));have bd:=jB bv.out;rw [bd] at bj bk;replace bn:=bc.cell bn;replace bj:=bc.cell bj;have j1:(0:Int)<=(j:Int):=by omega
     have j2:(j:Int)<(n:Int):=by omega
     have HS:=pA6 (LH (fun y=>EC e y x) hy);have s0:=pA m0;have s1:=pA m1;have s2:=pA bn;have s3:=pA bj;clear hy bd
     cases qb with
     | false=>
      have bf:=pA6 (show (!false)=(l.take (j+1)).any fun y=>EC e y x by rw [HS.out,<-HQ.out];rfl);clear HQ HS;go_wp2;refine IA (by kernel_rfl) ?_
      repeat (first | go_big_quiet_skip | (go_big_quiet_want;go_big_quiet_op;go_big_quiet_on))
      refine JA fun wq hbq=>?_
      try dsimp only at *
      go_wp2
      go_roundg (n-(j+1))
      ·exact ⟨j+1,false,by omega,rfl,by go_num,rfl,bf,bg.then hbq⟩
      ·omega
     | true=>
      have bb:∀s:eC wr,Calls prog 85 _ s.1 (Ret s.1 (.int .i64 (zC e y x))):=fun s=>pG _ e y x u _ _ (h'.bw jA (bc.then s.bw)) (Rd.bw dA bk (bc.then s.bw)) (Rd.bw dA cb (bc.then s.bw)) cd.out bv.out HP.out
      have bf:=pA6 (show decide (zC e y x=1)=(l.take (j+1)).any fun y=>EC e y x by rw [HS.out,<-HQ.out];rfl);obtain ⟨r,hr⟩:=pA7 (zC e y x);rw [<-hr] at bb bf;clear HQ HS hr m0 m1 bn bj;by_cases hr1:r=1
      ·have e1:(r != 1)=false:=by simpa using hr1
       have bp:=pA6 (show (!false)=(l.take (j+1)).any fun y=>EC e y x by rw [<-bf.out];simpa using hr1);clear hr1 bf;go_wp2;refine IA (by kernel_rfl) ?_
       repeat (first | go_big_quiet_skip | (go_big_quiet_want;go_big_quiet_op;first | go_big_quiet_on | (apply Exists.intro;refine ⟨fun _=>?_,?_⟩;(· (((first | (go_at_call 85;exact DA (bb _))))));go_big_quiet_on)))
       refine JA fun wq hbq=>?_
       try dsimp only at *
       go_wp2
       go_roundg (n-(j+1))
       ·exact ⟨j+1,false,by omega,rfl,by go_num,rfl,bp,bg.then hbq⟩
       ·omega
      ·have e1:(r != 1)=true:=by simpa using hr1
       have bp:=pA6 (show (!true)=(l.take (j+1)).any fun y=>EC e y x by rw [<-bf.out];simpa using hr1);clear hr1 bf;go_wp2;refine IA (by kernel_rfl) ?_
       repeat (first | go_big_quiet_skip | (go_big_quiet_want;go_big_quiet_op;first | go_big_quiet_on | (apply Exists.intro;refine ⟨fun _=>?_,?_⟩;(· (((first | (go_at_call 85;exact DA (bb _))))));go_big_quiet_on)))
       refine JA fun wq hbq=>?_
       try dsimp only at *
       go_wp2
       go_roundg (n-(j+1))
       ·exact ⟨j+1,true,by omega,rfl,by go_num,rfl,bp,bg.then hbq⟩
       ·omega
    ·obtain rfl:j=n:=by omega
     have HF:=pA6 (show DH l e x=qb by rw [DH,<-EI (k:=j) _ (by rw [<-L.out];exact Nat.le_refl _),<-HQ.out];simp);have bs:=(aA (B:=w.heap.size)).bw bg hb.size hv;clear HQ hlt2
     cases qb with
     | false=>
      have HB:=pA6 (cf.out HF.out);go_wp2
      go_roundg (j-(k+1))
      ·exact ⟨k+1,F,by omega,rfl,by go_num,by rw [HB.out];exact bs,hF,bc⟩
      ·omega
     | true=>
      have HB:=pA6 (bq.out HF.out);have bx:=IV (l:=l) (e:=e) (k:=k);have bt:=pA6 bx;have ct:=(aA (B:=w.heap.size)).bw ((Bw.refl wr).alloc (.cells #[.int .i64 x.id] 3)) bc.size bs;have cn:=bc.alloc (.cells #[.int .i64 x.id] 3);have cq:=cell_one_new wr (.int .i64 x.id) 3;have cm:=hb.size;clear bs bx hv;go_wp2_with (at_builtin;refine lB _ rfl (.tmp 37) (.tmp 43) 26 rfl w 3 i0 _ 1 8 underlying26 hi cv cz db rfl (by omega) YA _ (DI l e k) F rfl ct hF ⟨wr.heap.size,0,none⟩ 1 rfl x.id [.int .i64 x.id] [] cq ⟨rfl,rfl⟩ rfl _ cj sA.nil cm (by have:=bt.out;omega) (by have:=bt.out;omega) cn ?_;intro v' w' F' cs cg ck)
      go_roundg (j-(k+1))
      ·exact ⟨k+1,F',by omega,rfl,by go_num,by rw [HB.out];exact cs,cg,ck⟩
      ·omega
  ·obtain rfl:k=n:=by omega
   rw [GV (by rw [<-L.out];exact Nat.le_refl _)] at hv;go_wp2;go_ret;exact ⟨_,rfl,⟨F,hv,hF⟩,hb⟩
end Go.Proofs.YtpihighajaeabaaGreat
