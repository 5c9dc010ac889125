/- A standing answer stays right when items come and go; exclusive regions do not overlap. No program in sight. -/
import Derived.Test.YtpihighajaeabaaGreatXDelI2
import Derived.Deep.RegionLaw
import Derived.Test.YtpihighajaeabaaGreatXDelS
import Derived.Test.YtpihighajaeabaaGreatXDelA
import Derived.Test.YtpihighajaeabaaGreatXStandM
import Derived.Test.YtpihighajaeabaaGreatXCostOf
namespace Go.Proofs.YtpihighajaeabaaGreat
open Go.RowKit Go.Proofs.Tryz
set_option linter.all false
set_option maxRecDepth 100000
set_option maxHeartbeats 16000000
theorem RL {W:World} {b c o k:Nat} {x u:Value} (h:b≠c) (hc:W.cell? ⟨b,k,none⟩=some x):(W.setCell ⟨c,o,none⟩ u).cell? ⟨b,k,none⟩=some x:=(World.cell?_of_block (Below.heap_setCell _ _ _ _ h)).trans hc
theorem qT (w:World) (s:zA) (x:iA) (va vb vc u:Value) (ha:Rd LA w s.items [va]) (hb:Rd OA w s.wanted [vb]) (hc:Rd aB w s.best [vc]) (hx:Rd aB w x.vals [u]) (t1:jC s.items<=1048576) (t2:sB s.wanted<=1048576) (t3:s.best.length<=1048576) (hok:XE s x=true) :
  Calls prog 11 #[.agg #[va,vb,vc,.int .i64 s.tests],.agg #[.int .i64 x.id,u]] w (WB w (JK GB w.heap.size (zG s x) (.bool true))):=by
 obtain ⟨i0,hi,mj,mk,mm⟩:=info_parts xC;obtain ⟨E1,E2,mc,nf,hts⟩:=qI hok;have HB:=pA6 (wC E1).1;have HI:=pA6 (AA HB.out);have hts0:=(mI E1).1;have hml:=iE E1;obtain ⟨A,n,c,rfl,L,Lc,Lm⟩:=yA ha;obtain ⟨B,m,c4,rfl,M,Mc,Mm⟩:=yA hc;obtain ⟨W0,mv,A0,bS,bX,bR,z0⟩:=pAe w (.slice A n c) vb (.slice B m c4) (.int .i64 s.tests) (.int .i64 x.id) u 28 30;have bx:=IE W0 s _ vb _ (ha.bw gA A0) (hb.bw jA A0) (hc.bw dA A0) t1 t2 t3;go_enter func11,ntmps11;go_wp2_with fail;rw [<-mv.out];refine bx.mono ?_;rintro e w1 ⟨cs,F0,rfl,oS,fS,jf⟩;have lS:=(NB (B:=0)).lt oS;obtain ⟨A1,m1,c1,A2,m2,c2,A3,m3,c3,F1,F2,F3,rfl,rfl,HM1,HM2,HM3,o1,o2,o3⟩:=pAa oS;dsimp only;obtain ⟨V,HV,dq,bO,zV,BV,ds⟩:=pAd A0 jf (.slice A1 m1 c1) (.slice A2 m2 c2) (.slice A3 m3 c3) (.int .i64 s.tests) 28;replace bS:=bS.bw ds;replace bX:=bX.bw ds;replace bR:=bR.bw ds;have gg:=bS;rw [HV.out] at gg;obtain ⟨y0,y1,y2,y3,yf⟩:=gg.a4;clear gg;go_wp2_with fail;have zw:w.heap.size+3<=w1.heap.size:=by have:=jf.size;omega
 replace o1:=nA dq rA o1;replace o2:=nA dq kA o2;replace o3:=nA dq aA o3;have fV:sA (w.heap.size+3) (F1++(F2++F3)):=fS.mono (by omega);have mt:=pA6 lS;have k1:=pA6 (fun W (B:Bw V W)=>rG W s _ vb _ (ha.bw gA (BV.then B)) (hb.bw jA (BV.then B)) (hc.bw dA (BV.then B)));have k2:=pA6 (fun W (B:Bw V W)=>cG W x u (hx.bw dA (BV.then B)));have k3:=pA6 (fun W (B:Bw V W)=>GD W s.items x.id _ (ha.bw gA (BV.then B)));obtain ⟨b6,bn⟩:=pA7 w1.heap.size;rw [<-bn] at bO zV zw;have fn:=pA6 bn;rw [<-HV.out,<-fn.out];clear oS fS bx jf A0 bn lS ds;clear y0 y1 y2 y3 yf;refine (k1.out _ (Bw.refl V)).mono ?_;rintro e w2 ⟨rfl,cz⟩;rw [E1];have kg:=bS.bw cz;have km:=bX.bw cz;obtain ⟨y0,y1,y2,y3,yf⟩:=kg.a4;obtain ⟨x0,x1,xf⟩:=km.a2;have bc:=k2.out _ cz;rw [E2] at bc;clear kg km;go_wp2_with fail;refine bc.mono ?_;rintro e w3 ⟨rfl,kt⟩;have ct:=cz.then kt;clear y0 y1 y2 y3 yf;clear x0 x1 xf;have kj:=bS.bw ct;have kn:=bX.bw ct;obtain ⟨y0,y1,y2,y3,yf⟩:=kj.a4;obtain ⟨x0,x1,xf⟩:=kn.a2;have bc:=k3.out _ ct;obtain ⟨K,hK⟩:=pA7 (rB s.items x.id);rw [<-hK] at bc mc;have HK:=pA6 hK;clear kj kn hK;go_wp2_with fail;refine bc.mono ?_;rintro e w4 ⟨rfl,kv⟩;have bm:=ct.then kv;clear y0 y1 y2 y3 yf;clear x0 x1 xf;have hm16:m<=16:=by have:=M.out;omega
 have gj:=bS.bw bm;have kp:=bX.bw bm;have kc:=bR.bw bm;have gb:=bO.bw bm;obtain ⟨y0,y1,y2,y3,yf⟩:=gj.a4;obtain ⟨q0,q1,q2,q3,qf⟩:=gb.a4;have hK1:¬(0:Int)<=K:=by omega
 have hn1:((n:Int)==16)=false:=by rw [beq_eq_false_iff_ne];have:=L.out;omega
 have ht1:¬(999900:Int)<s.tests:=by omega
 have ns:b6≠w.heap.size/\b6≠w.heap.size+1/\b6≠w.heap.size+1+1:=by omega
 obtain ⟨jn,jp,dm⟩:=ns;have hne4:=jn.symm;have hne5:=jp.symm;have jq:=dm.symm;obtain ⟨X,hX⟩:=pA7 (w4.setCell ⟨b6,3,none⟩ (.int .i64 (s.tests+(m:Int))));have zX:X.heap.size=w4.heap.size:=by rw [hX];simp
 have z4:=bm.size;have BX:Bw w X:=by rw [hX];exact (BV.then bm).set (by dsimp only;omega) _
 have UX:Bw w1 X:=by rw [hX];exact (dq.then bm).set (p:=⟨b6,3,none⟩) (by have:=fn.out;dsimp only;omega) _
 have cO:Box X b6 [.slice A1 m1 c1,.slice A2 m2 c2,.slice A3 m3 c3,.int .i64 (s.tests+(m:Int))]:=by rw [hX];exact gb.set (by simp) _
 have cS:Box X w.heap.size [.slice A n c,vb,.slice B m c4,.int .i64 s.tests]:=by rw [hX];exact gj.only (GA _ _ _ _) (by simp;omega)
 have cX:Box X (w.heap.size+1) [.int .i64 x.id,u]:=by rw [hX];exact kp.only (GA _ _ _ _) (by simp;omega)
 have cR:Box X (w.heap.size+1+1) [.slice none 0 0,.slice none 0 0,.slice none 0 0,.int .i64 0]:=by rw [hX];exact kc.only (GA _ _ _ _) (by simp;omega)
 have cj:=mt.out;rw [<-fn.out] at cj;have n1:b6∉F1:=fun h=>by have:=cj b6 (List.mem_append_left _ h);omega
 have n2:b6∉F2:=fun h=>by have:=cj b6 (List.mem_append_right _ (List.mem_append_left _ h));omega
 have n3:b6∉F3:=fun h=>by have:=cj b6 (List.mem_append_right _ (List.mem_append_right _ h));omega
 have bf:∀c∈F1++(F2++F3),c<b6:=cj;have p1:tD X s.items [.slice A1 m1 c1] F1:=by rw [hX];exact UA rA (nA bm rA o1) n1
 have p2:mC X s.wanted [.slice A2 m2 c2] F2:=by rw [hX];exact UA kA (nA bm kA o2) n2
 have p3:WA X s.best [.slice A3 m3 c3] F3:=by rw [hX];exact UA aA (nA bm aA o3) n3
 have mf:=MA (e:=3) (sz:=1) (R:=IF) X;have B5:Bw X (X.alloc (.cells #[] 3)):=(Bw.refl X).alloc _;have j2:=(cS.bw B5).c 2 _ rfl;rw [hX] at j2;have HX:=pA6 hX;have kb:=pA6 E1;have ck:=pA6 E2;have HA:=pA6 ha;have HC:=pA6 hc;clear gj kp kc gb bc k1 k2 k3 hok E1 E2 cz kt kv ct ha hc hX cj o1 o2 o3;go_wp2;rw [<-HX.out];rw [show w4.heap.size=X.heap.size from zX.symm];rw [<-zX] at z4;clear zX
 go_loopg [7,8,53] m (fun g s7 s8 s9 w'=>∃(k:Nat) (F:List Nat),k<=m/\g=m-k/\s9=.int .i64 k/\s7=.bool (lG s x k)/\WA w' (nD s x k) [s8] F/\sA X.heap.size F/\Bw X w')
 ·exact ⟨0,[X.heap.size],by omega,rfl,rfl,rfl,mf,⟨by simp,by simp⟩,B5⟩
 ·clear y0 y1 y2 y3 yf;clear q0 q1 q2 q3 qf;clear mf B5 j2;obtain ⟨k,F,hk,rfl,rfl,rfl,hv,hF,bj⟩:=hrel;obtain ⟨Q,hQ⟩:=pA7 (lG s x k);rw [<-hQ];have HQ:=pA6 hQ;have fq:=pA6 (rQ s x k);clear hQ;have cn:=cS.bw bj;have cp:=BX.then bj;by_cases hlt:k<m
  ·obtain ⟨d,hd⟩:=tA (xs:=s.best) (k:=k) (by have:=M.out;omega);obtain ⟨bb,ob,rfl,_,np⟩:=KB (HC.out.bw dA cp) hd;have jm:=List.mem_of_getElem? hd;obtain ⟨bA,oA,rfl⟩:∃b o,A=some ⟨b,o,none⟩:=by
    obtain ⟨y,hy,_⟩:=lI kb.out jm;obtain ⟨k',nq⟩:=List.mem_iff_getElem?.1 hy;obtain ⟨b,o,A2,c2,e,_⟩:=qB HA.out nq;exact ⟨b,o,e⟩
   obtain ⟨kd,Ad,cd,kz,hdn,mb,df,dj,dk⟩:=BM HA.out L.out HI.out (lI kb.out jm);have i1:(0:Int)<=(k:Int):=by omega
   have i2:(k:Int)<(m:Int):=by omega
   have i3:(0:Int)<=(kd:Int):=by omega
   have i4:(kd:Int)<(n:Int):=by omega
   have D1:Bw wr wr.drew:=(Bw.refl wr).drew;have nc:=cp.then D1;have f2:=fun W (B:Bw wr W)=>GD W s.items d _ (HA.out.bw gA (cp.then B))
   rw [kz] at f2;have cg:=cp.cell df;have fb:=cp.cell dj;have dv:=pA6 mb;have fp:=pA6 dk;have fm:=cn.c 0 _ rfl;have px:=cn.c 1 _ rfl;have pz:=cn.c 2 _ rfl;have fc:=((Bw.refl wr).alloc (.cells #[.int .i64 0,.slice none 0 0] 30)).drew;have mn:w.heap.size≠wr.heap.size:=by have:=cn.lt;omega
   have fk:bA≠wr.heap.size:=by have:=World.block_lt_of_cell? _ _ cg;dsimp only at this;omega
   have cc:=pA6 (lU (x:=x) hd);have fv:=pA6 (fun h=>jX (x:=x) hd h);have fs:=pA6 (fun h=>LZ (x:=x) hd h);obtain ⟨y,hy⟩:=pA7 (VB s.items d);rw [<-hy] at cg cc fv fs dv fp;clear hd jm kz mb df dj dk hy;go_wp2_with fail
   go_region_held3 (fun w'=>w'.cell? ⟨w.heap.size,0,none⟩=some (.slice (some ⟨bA,oA,none⟩) n c)/\w'.cell? ⟨bA,oA+kd*2,none⟩=some (.int .i64 y.id)/\w'.cell? ⟨bA,oA+kd*2+1,none⟩=some (.slice Ad 3 cd)) (first | go_keep | exact ⟨fm,cg,fb⟩ | exact ⟨fc.cell fm,fc.cell cg,fc.cell fb⟩ | exact ⟨y0,g0,g1⟩ | exact ⟨RL mn (RL mn y0),RL fk (RL fk g0),RL fk (RL fk g1)⟩)
    (first
     | (go_at_call 77;(first
      | (refine (f2 _ (Bw.refl wr).drew).mono ?_;rintro e w5 ⟨rfl,fg⟩;have bn:=(Bw.refl wr).drew.then fg)
      | (refine (f2 _ ((Bw.refl wr).alloc (.cells #[.int .i64 0,.slice none 0 0] 30)).drew).mono ?_;rintro e w5 ⟨rfl,fg⟩;have bn:=((Bw.refl wr).alloc (.cells #[.int .i64 0,.slice none 0 0] 30)).drew.then fg;have bY:=(Box.new wr #[.int .i64 0,.slice none 0 0] 30).bw ((Bw.refl _).drew.then fg);have h0:=bY.c 0 _ rfl;have h1:=bY.c 1 _ rfl;have hf:=bY.fr));have y0:=bn.cell fm;have g0:=bn.cell cg;have g1:=bn.cell fb))
   all_goals
    first
     | (obtain ⟨U,hU⟩:=pA7 (w5.alloc (.cells #[.int .i64 y.id,.slice Ad 3 cd] 30));obtain ⟨gs,cb⟩:=pA7 w5.heap.size;rw [<-hU,<-cb];have gp:Box U gs [.int .i64 y.id,.slice Ad 3 cd]:=(by rw [hU,cb];exact Box.new w5 #[.int .i64 y.id,.slice Ad 3 cd] 30);have jj:Bw wr U:=(by rw [hU];exact bn.then ((Bw.refl w5).alloc _)))
     | (obtain ⟨U,hU⟩:=pA7 ((w5.setCell ⟨wr.heap.size,0,none⟩ (.int .i64 y.id)).setCell ⟨wr.heap.size,1,none⟩ (.slice Ad 3 cd));obtain ⟨gs,cb⟩:=pA7 wr.heap.size;rw [<-hU,<-cb];have gp:Box U gs [.int .i64 y.id,.slice Ad 3 cd]:=(by rw [hU,cb];exact (bY.set (by simp) _).set (by simp) _);have jj:Bw wr U:=(by rw [hU];exact (bn.set (p:=⟨wr.heap.size,0,none⟩) (Nat.le_refl _) _).set (p:=⟨wr.heap.size,1,none⟩) (Nat.le_refl _) _))
    have HU:=pA6 hU;have HBY:=pA6 cb;clear hU cb
   all_goals
    have bk:=bj.then jj;have kk:=cS.bw bk;have kq:=cX.bw bk;have vU:=nA jj aA hv;have cf:=BX.then bk;have c1:=pA6 (fun W (B:Bw U W)=>eI W s.wanted y x _ _ _ (hb.bw jA (cf.then B)) (fp.out.bw dA (cf.then B)) (hx.bw dA (cf.then B)) (yB HB.out) dv.out ck.out);have c2:=pA6 (fun W (B:Bw U W)=>eI W s.wanted x y _ _ _ (hb.bw jA (cf.then B)) (hx.bw dA (cf.then B)) (fp.out.bw dA (cf.then B)) (yB HB.out) ck.out dv.out);have fj:zC s.wanted x y=1↔zC s.wanted y x = -1:=by
     rw [(GJ (yB HB.out)).anti x y ck.out dv.out];unfold bJ
     split<;>omega
    obtain ⟨r,hr⟩:=pA7 (zC s.wanted y x);obtain ⟨r2,md⟩:=pA7 (zC s.wanted x y);rw [<-hr] at c1 cc fv fs fj;rw [<-md] at c2 fj;rw [<-HQ.out] at cc;have jz:=pA6 fj;clear fj hr md np fm px pz y0 g0 g1 cg fb f2 cn D1 nc fc hv;obtain ⟨y0,y1,y2,y3,yf⟩:=kk.a4;obtain ⟨z0,z1,zf⟩:=kq.a2;obtain ⟨h0,h1,hf⟩:=gp.a2
    cases Q
    rotate_left
    focus
     have dt:=pA6 (show lG s x (k+1)=true by rw [cc.out];simp);go_wp2_with fail;refine (c2.out _ (Bw.refl U)).mono ?_;rintro e w7 ⟨rfl,db⟩;have v7:=nA db aA vU;have bs:=bk.then db
    rotate_right
    focus
     go_wp2_with fail;refine (c1.out _ (Bw.refl U)).mono ?_;rintro e w6 ⟨rfl,bg⟩;clear y0 y1 y2 y3 yf;clear z0 z1 zf;clear h0 h1 hf;have gm:=kk.bw bg;have gn:=kq.bw bg;have gq:=gp.bw bg;obtain ⟨y0,y1,y2,y3,yf⟩:=gm.a4;obtain ⟨z0,z1,zf⟩:=gn.a2;obtain ⟨h0,h1,hf⟩:=gq.a2;have bc:=c2.out _ bg;by_cases r1:r=1
     focus
      have e1:(r==1)=true:=by simpa using r1
      have dt:=pA6 (show lG s x (k+1)=true by rw [cc.out,r1];rfl)
     rotate_left
     focus
      have e1:(r==1)=false:=by simpa using r1
      have dt:=pA6 (show lG s x (k+1)=false by rw [cc.out,decide_eq_false r1];rfl)
     rotate_right
     all_goals
      clear r1;go_wp2_with fail;refine bc.mono ?_;rintro e w7 ⟨rfl,db⟩;have v7:=nA (bg.then db) aA vU;have bs:=bk.then (bg.then db)
    all_goals
     by_cases rm:r2=1
     ·have e2:(r2==1)=true:=by simpa using rm
      have ft:=pA6 (fs.out (jz.out.1 rm));clear rm;go_wp2
      go_roundg (m-(k+1))
      ·exact ⟨k+1,F,by omega,rfl,by go_num,by (have dc:=dt.out;first | (simp [dc];done) | (simp [dc,e1];done)),by rw [ft.out];exact v7,hF,bs⟩
      ·omega
     ·have e2:(r2==1)=false:=by simpa using rm
      have ft:=pA6 (fv.out (fun h=>rm (jz.out.2 h)));have jb:=(aA (B:=0)).lt v7;have nx:=nA ((Bw.refl w7).alloc (.cells #[.int .i64 d] 3)) aA v7;have jk:=bs.alloc (.cells #[.int .i64 d] 3);have dd:=cell_one_new w7 (.int .i64 d) 3;have nn:=bs.size;clear v7 rm;go_wp2_with (at_builtin;refine lB _ rfl (.tmp 80) (.tmp 82) 26 rfl X 3 i0 _ 1 8 underlying26 hi mj mk mm rfl (by omega) YA _ (nD s x k) F rfl nx hF ⟨w7.heap.size,0,none⟩ 1 rfl d [.int .i64 d] [] dd ⟨rfl,rfl⟩ rfl _ jb sA.nil nn (by have:=fq.out;omega) (by have:=fq.out;omega) jk ?_;intro v' w' F' dn fd jd)
      go_roundg (m-(k+1))
      ·exact ⟨k+1,F',by omega,rfl,by go_num,by (have dc:=dt.out;first | (simp [dc];done) | (simp [dc,e1];done)),by rw [ft.out];exact dn,fd,jd⟩
      ·omega
  ·obtain rfl:k=m:=by omega
   obtain ⟨A7,c7,rfl,_⟩:=XA (xA hv);have dx:=pA6 (show s.best.length=k from M.out.symm);have jx:=pA6 (show Q=lG s x s.best.length by rw [HQ.out,dx.out]);have bz:=pA6 (show (nD s x k).length<=16 by have:=fq.out;have:=dx.out;omega);have fx:=pA6 (show s.items.length<16 from nf);have zk:=bj.size;have b6X:b6<X.heap.size:=cO.lt;have zwX:w.heap.size+3<=X.heap.size:=by have:=BX.size;omega
   have nk:sA w.heap.size F1:=⟨(List.nodup_append.1 fV.nodup).1,fun b hb=>by have:=fV.ge b (List.mem_append_left _ hb);omega⟩;have nx1:w.heap.size+1∉F1:=fun h=>by have:=fV.ge _ (List.mem_append_left _ h);omega
   have pm:w.heap.size+1+1∉F1:=fun h=>by have:=fV.ge _ (List.mem_append_left _ h);omega
   cases Q
   rotate_left
   focus
    have dz:=pA6 (show zG s x=⟨oG s.items x,s.wanted,s.best,s.tests+(k:Int)⟩ by unfold zG;rw [<-jx.out,dx.out];rfl);have cm:=cO.bw bj;have ks:=cX.bw bj;have kf:=cR.bw bj;have q1:=nA bj rA p1;have q2:=nA bj kA p2;have q3:=nA bj aA p3;have BY:=BX.then bj;have nH:F3.Nodup:=(List.nodup_append.1 (List.nodup_append.1 fV.nodup).2.1).2.1;have dH:∀c∈F3,c∉F1/\c∉F2/\c≠b6/\w.heap.size+3<=c/\c<wr.heap.size:=fun c hc=>⟨fun h=>(List.nodup_append.1 fV.nodup).2.2 c h c (List.mem_append_right _ hc) rfl,fun h=>(List.nodup_append.1 (List.nodup_append.1 fV.nodup).2.1).2.2 c h c hc rfl,fun e=>n3 (e▸hc),fV.ge c (List.mem_append_right _ (List.mem_append_right _ hc)),by have:=bf c (List.mem_append_right _ (List.mem_append_right _ hc));omega⟩
    clear hv;generalize wr=Y at *;generalize F3=H at q3 nH dH;generalize A3=PA at *;generalize m3=PL at *;generalize c3=PC at *;generalize s.best=Bst at q3 dz
   rotate_right
   focus
    have dz:=pA6 (show zG s x=⟨oG s.items x,s.wanted,kG (nD s x k++[x.id]),s.tests+(k:Int)⟩ by unfold zG;rw [<-jx.out,dx.out];rfl);have nb:=cX.bw bj;obtain ⟨z0,z1,zf⟩:=nb.a2;have AW:=(Bw.refl wr).alloc (.cells #[.int .i64 x.id] 3);have vW:=nA AW aA hv;have UW:=bj.then AW;have jb:=(aA (B:=0)).lt hv;have dd:=cell_one_new wr (.int .i64 x.id) 3;go_wp2_with (at_builtin;refine iC _ rfl (.tmp 87) (.tmp 90) 26 rfl X 3 i0 _ 1 8 underlying26 hi mj mk mm rfl (by omega) YA _ (nD s x k) F rfl vW hF ⟨wr.heap.size,0,none⟩ 1 rfl x.id [.int .i64 x.id] [] dd ⟨rfl,rfl⟩ rfl wr.heap.size jb sA.nil zk (by have:=bz.out;omega) (by have:=bz.out;omega) UW ?_;intro v8 w8 F8 js gz bv nm nv;obtain ⟨g8,L8,c8,rfl,l8,_⟩:=vK js (by simp);have d8:=cO.bw bv;have e2:=d8.c 2 _ rfl;have ef:=d8.fr);obtain ⟨Y1,bq⟩:=pA7 (w8.setCell ⟨b6,2,none⟩ (.slice (some ⟨g8,0,none⟩) L8 c8));rw [<-bq];have zb8:=bv.size;have n8:b6∉F8:=fun h=>by have:=gz.ge _ h;omega
    have v9:WA Y1 (nD s x k++[x.id]) [.slice (some ⟨g8,0,none⟩) L8 c8] F8:=by rw [bq];exact UA aA js n8
    have bc:=lAy Y1 (nD s x k++[x.id]) g8 c8 F8 (by rw [l8.out];exact v9) (by have:=bz.out;simp;omega);rw [l8.out] at bc;refine bc.mono ?_;rintro e wq ⟨rfl,q3,cx,ng⟩;have B1:Bw w Y1:=by rw [bq];exact (BX.then bv).set (by dsimp only;omega) _
    have bt:∀c∈F8,X.heap.size<=c:=gz.ge;have BY:=ng w B1 (fun b hb=>by have:=bt b hb;omega);have cm:Box wq b6 [.slice A1 m1 c1,.slice A2 m2 c2,.slice (some ⟨g8,0,none⟩) L8 c8,.int .i64 (s.tests+(k:Int))]:=Box.only (by rw [bq];exact d8.set (by simp) _) cx n8;have ks:Box wq (w.heap.size+1) [.int .i64 x.id,u]:=Box.only (by rw [bq];exact (cX.bw bv).only (GA _ _ _ _) (by simp;omega)) cx (fun h=>by have:=bt _ h;omega);have kf:Box wq (w.heap.size+1+1) [.slice none 0 0,.slice none 0 0,.slice none 0 0,.int .i64 0]:=Box.only (by rw [bq];exact (cR.bw bv).only (GA _ _ _ _) (by simp;omega)) cx (fun h=>by have:=bt _ h;omega);have q1:tD wq s.items [.slice A1 m1 c1] F1:=cx.keeps rA (by rw [bq];exact UA rA (nA bv rA p1) n1) (fun c h h2=>by have:=bt c h2;have:=bf c (List.mem_append_left _ h);omega);have q2:mC wq s.wanted [.slice A2 m2 c2] F2:=cx.keeps kA (by rw [bq];exact UA kA (nA bv kA p2) n2) (fun c h h2=>by have:=bt c h2;have:=bf c (List.mem_append_right _ (List.mem_append_left _ h));omega);have nH:F8.Nodup:=gz.nodup;have pk:=(aA (B:=0)).lt q3;have dH:∀c∈F8,c∉F1/\c∉F2/\c≠b6/\w.heap.size+3<=c/\c<wq.heap.size:=fun c hc=>⟨fun h=>by have:=bt c hc;have:=bf c (List.mem_append_left _ h);omega,fun h=>by have:=bt c hc;have:=bf c (List.mem_append_right _ (List.mem_append_left _ h));omega,fun e=>n8 (e▸hc),by have:=bt c hc;omega,pk c hc⟩
    clear hv bc vW e2 ef bq z0 z1 zf js d8 v9 bv nm nv;generalize wq=Y at *;generalize F8=H at q3 nH dH;generalize (some ⟨g8,0,none⟩:Option Addr)=PA at cm q3;generalize L8=PL at *;generalize c8=PC at *;generalize kG (nD s x k++[x.id])=Bst at q3 dz
   all_goals
    have hYb:b6<Y.heap.size:=cm.lt;have pv:=BY.size;have nj:(Y.drew).heap.size=Y.heap.size:=rfl;obtain ⟨y0,y1,y2,y3,yf⟩:=cm.a4;obtain ⟨z0,z1,zf⟩:=ks.a2;have D1:Bw Y Y.drew:=(Bw.refl _).drew;have nz:=hx.bw dA (BY.then D1);have pb:x.vals.length<=1048576:=by rw [jB ck.out];omega
    have jt:=(rA (B:=0)).lt q1;obtain ⟨j0,ji,pf,pg,pj⟩:=info_parts IG;go_wp2_with fail
    go_region_law
     (first
      | (refine RE _ (by rfl) (.tmp 97) (.tmp 100) 24 (by rfl) w 30 j0 _ 2 32 underlying24 ji pf pg pj rfl (by omega) sD _ s.items F1 (by rfl) qW nk ⟨dp.heap.size,0,none⟩ 1 (by rfl) x [.int .i64 x.id,.slice Av x.vals.length cv] jv dd ⟨_,rfl,oW⟩ rfl Y.heap.size jt cq pv (by have:=fx.out;omega) (by have:=fx.out;omega) jk ?_;intro v' w' F' dn fd jd ff nt;obtain ⟨g',L',c',rfl,l',_⟩:=vK dn (by simp);have gc:=mx.only ff n1;have e0:=gc.c 0 _ rfl;have ef:=gc.fr)
      | (go_simp;go_at_call 80;refine (dQ _ x _ nz pb).mono ?_;rintro e dp ⟨v10,rfl,⟨jv,mp,nd⟩,jg⟩;obtain ⟨Av,cv,rfl,_⟩:=XA (xA mp);have kx:=D1.then jg;have y0:=kx.cell y0;have gv:=(Bw.refl dp).alloc (.cells #[.int .i64 x.id,.slice Av x.vals.length cv] 30);have ya:=gv.cell y0;have bd:=kx.then gv;have qW:=nA bd rA q1;have oW:=nA gv aA mp;have jk:=BY.then bd;have cq:sA Y.heap.size jv:=nd.mono (by rw [nj];exact Nat.le_refl _);have mx:=cm.bw bd;have dd:∀j t,[Value.int .i64 x.id,.slice Av x.vals.length cv][j]? = some t->(dp.alloc (.cells #[.int .i64 x.id,.slice Av x.vals.length cv] 30)).cell? ((⟨dp.heap.size,0,none⟩:Addr).add j)=some t:=World.news_of_block (cs:=#[.int .i64 x.id,.slice Av x.vals.length cv]) (t:=30) (fr:=(0,0)) (heap_alloc_new dp _);go_wp2_with fail))
    all_goals
     obtain ⟨Z,hZ⟩:=pA7 (w'.setCell ⟨b6,0,none⟩ (.slice (some ⟨g',0,none⟩) L' c'));rw [<-hZ];have mF:∀b∈F',b∉F2/\b∉H/\b≠b6/\w.heap.size+3<=b:=by
      intro b hb;have h1:=bd.size;rcases nt b hb with h | h | h
      ·refine ⟨fun h2=>?_,fun h2=>(dH b h2).1 h,fun e=>n1 (e▸h),fV.ge b (List.mem_append_left _ h)⟩;exact (List.nodup_append.1 fV.nodup).2.2 b h b (List.mem_append_left _ h2) rfl
      ·have h3:=cq.ge b h;refine ⟨fun h2=>?_,fun h2=>?_,by omega,by omega⟩
       ·have:=bf b (List.mem_append_right _ (List.mem_append_left _ h2));omega
       ·have:=(dH b h2).2.2.2.2;omega
      ·refine ⟨fun h2=>?_,fun h2=>?_,by omega,by omega⟩
       ·have:=bf b (List.mem_append_right _ (List.mem_append_left _ h2));omega
       ·have:=(dH b h2).2.2.2.2;omega
     have gF:g'∈F':=by
      obtain ⟨g2,c2',e,_,_,hg⟩:=aL dn (by simp);injection e with e;injection e with e;injection e with e;rw [e];exact hg
     have mg:=mF g' gF;have Zb:Bw w Z:=by rw [hZ];exact jd.set (by dsimp only;omega) _
     have qZ:tD Z (s.items++[x]) [.slice (some ⟨g',0,none⟩) L' c'] F':=by rw [hZ];exact UA rA dn (fun h=>(mF b6 h).2.2.1 rfl)
     have gd:Box Z b6 [.slice (some ⟨g',0,none⟩) L' c',.slice A2 m2 c2,.slice PA PL PC,.int .i64 (s.tests+(k:Int))]:=by rw [hZ];exact gc.set (by simp) _
     have mz:Box Z (w.heap.size+1+1) [.slice none 0 0,.slice none 0 0,.slice none 0 0,.int .i64 0]:=by rw [hZ];exact ((kf.bw bd).only ff pm).only (GA _ _ _ _) (by simp;omega)
     have pq:mC Z s.wanted [.slice A2 m2 c2] F2:=by rw [hZ];exact UA kA (ff.keeps kA (nA bd kA q2) (fun c h h2=>(List.nodup_append.1 fV.nodup).2.2 c h2 c (List.mem_append_left _ h) rfl)) n2
     have pt:WA Z Bst [.slice PA PL PC] H:=by rw [hZ];exact UA aA (ff.keeps aA (nA bd aA q3) (fun c h=>(dH c h).1)) (fun h=>(dH b6 h).2.2.1 rfl)
     have bc:=mU Z (s.items++[x]) g' c' F' (by rw [l'.out];exact qZ) fd.nodup (fun y hy=>lE ((List.mem_append.1 hy).elim (fun h=>TA HI.out h) (fun h=>by rw [List.mem_singleton.1 h];exact ck.out))) (by have:=fx.out;simp;omega);rw [l'.out] at bc;have HZ:=pA6 hZ;have e0:=gd.c 0 _ rfl;clear hZ y0 y1 y2 y3 yf z0 z1 zf e0 ef;have e0:=gd.c 0 _ rfl;go_wp2_with fail;refine bc.mono ?_;rintro e w12 ⟨rfl,ys,ms,hp,pd,pn,jc,bp,gx⟩;have pc:ys=oG s.items x:=eAe hp pd (yG HI.out) (EO (by rw [<-HK.out];exact mc));subst pc;have fz:=gd.only bp (by simp;exact fun e=>mg.2.2.1 e.symm);have gf:=mz.only bp (by simp;omega);have pp:=bp.keeps kA pq (fun c h h2=>by rw [List.mem_singleton.1 h2] at h;exact mg.1 h);have ps:=bp.keeps aA pt (fun c h h2=>by rw [List.mem_singleton.1 h2] at h;exact mg.2.1 h);have mq:=gx w Zb (by omega);clear bc e0;obtain ⟨t0,t1,t2,t3,tf⟩:=fz.a4;obtain ⟨r0,r1,r2,r3,rf⟩:=gf.a4;go_wp2;rw [dz.out];refine bodyPost_ret (v:=.tuple #[.agg #[.slice (some ⟨g',0,none⟩) L' c',.slice A2 m2 c2,.slice PA PL PC,.int .i64 (s.tests+(k:Int))],.bool true]) (by simp [results,results11,go_sem,t0,t1,t2,t3,r0,r1,r2,r3,dm,jq]) rfl ?_;refine dC (y:=⟨oG s.items x,s.wanted,Bst,s.tests+(k:Int)⟩) (F:=ms) (G:=F2) (H:=H) pn pp ps ⟨?_,?_⟩ (by omega) mq
     ·rw [List.nodup_append,List.nodup_append];refine ⟨jc.nodup_iff.2 fd.nodup,⟨(List.nodup_append.1 (List.nodup_append.1 fV.nodup).2.1).1,nH,fun a ha b hb e=>(dH b hb).2.1 (e▸ha)⟩,fun a ha b hb e=>?_⟩;have h1:=mF a (jc.mem_iff.1 ha);exact (List.mem_append.1 hb).elim (fun h=>h1.1 (e▸h)) (fun h=>h1.2.1 (e▸h))
     ·intro b hb;rcases List.mem_append.1 hb with hb | hb
      ·have:=(mF b (jc.mem_iff.1 hb)).2.2.2;omega
      ·rcases List.mem_append.1 hb with hb | hb
       ·have:=fV.ge b (List.mem_append_right _ (List.mem_append_left _ hb));omega
       ·have:=(dH b hb).2.2.2.1;omega
theorem OR (w:World) (s:zA) (x:iA) (va vb vc u:Value) (ha:Rd LA w s.items [va]) (hb:Rd OA w s.wanted [vb]) (hc:Rd aB w s.best [vc]) (hx:Rd aB w x.vals [u]) (t1:jC s.items<=1048576) (t2:sB s.wanted<=1048576) (t3:s.best.length<=1048576) :
  Calls prog 12 #[.agg #[va,vb,vc,.int .i64 s.tests],.agg #[.int .i64 x.id,u]] w (WB w (JK GB w.heap.size (AG s x) (.bool (XE s x)))):=by
 cases h:XE s x with
 | true=>rw [show AG s x=zG s x by unfold AG;rw [h];rfl];exact oT w s x va vb vc u ha hb hc hx t1 t2 t3 h
 | false=>rw [show AG s x=s by unfold AG;rw [h];rfl];exact KU w s x va vb vc u ha hb hc hx t1 t2 t3 h
theorem PR (w:World) (s:zA) (x:iA) (va vb vc u:Value) (ha:Rd LA w s.items [va]) (hb:Rd OA w s.wanted [vb]) (hc:Rd aB w s.best [vc]) (hx:Rd aB w x.vals [u]) (t1:jC s.items<=1048576) (t2:sB s.wanted<=1048576) (t3:s.best.length<=1048576) :
  Calls prog 11 #[.agg #[va,vb,vc,.int .i64 s.tests],.agg #[.int .i64 x.id,u]] w (WB w (JK GB w.heap.size (AG s x) (.bool (XE s x)))):=by
 cases h:XE s x with
 | true=>rw [show AG s x=zG s x by unfold AG;rw [h];rfl];exact qT w s x va vb vc u ha hb hc hx t1 t2 t3 h
 | false=>rw [show AG s x=s by unfold AG;rw [h];rfl];exact LU w s x va vb vc u ha hb hc hx t1 t2 t3 h
theorem MZ {α:Type} (f:α->Nat) (n:Nat):∀ {l:List α},(∀x∈l,f x=n)->JH f l=l.length*n
 | [],_=>by simp [JH]
 | a::l,h=>by
  have h1:=MZ f n (l:=l) (fun x hx=>h x (by simp [hx]));have h2:=h a (by simp);simp only [JH,List.length_cons,h1,h2,Nat.succ_mul];omega
theorem kA1 {l:List iA} {x:iA} (hl:∀y∈l,gB y=true) (hx:gB x=true) (hn:l.length<16):jC (oG l x)<=1048576:=by
 have h1:∀y∈oG l x,y.vals.length=3:=fun y hy=>jB ((eAd hy).elim (hl y) (fun e=>by rw [e];exact hx))
 have h2:=MZ (fun y:iA=>y.vals.length) 3 h1;have h3:=MR l x;unfold jC;rw [h2,h3];omega
theorem gAs {s:zA} {x:iA} (h:ZJ s):ZJ (AG s x):=by
 unfold AG
 split
 ·rename_i hok
  obtain ⟨E1,E2,_,h16,_⟩:=qI hok;have hI:=AA (wC E1).1;have hl:=iE E1;refine ⟨kA1 (fun y hy=>TA hI hy) E2 h16,h.2.1,?_⟩;unfold zG;dsimp only
  split
  ·omega
  ·have:=rQ s x s.best.length;rw [nT,List.length_append,List.length_singleton];omega
 ·exact h
theorem oA1 {α:Type} {r:α->α->Prop}:∀ {l:List α},l≠[]->(∀x∈l,¬r x x)->(∀x∈l,∀y∈l,∀z∈l,r x y->r y z->r x z)->∃m∈l,∀y∈l,¬r y m
 | [],hl,_,_=>absurd rfl hl
 | x::l,_,hi,ht=>by
  by_cases hl:l=[]
  ·subst hl;exact ⟨x,by simp,fun y hy=>by rw [List.mem_singleton] at hy;rw [hy];exact hi x (by simp)⟩
  ·obtain ⟨m,hm,htop⟩:=oA1 (r:=r) hl (fun y hy=>hi y (by simp [hy])) (fun a ha b hb c hc=>ht a (by simp [ha]) b (by simp [hb]) c (by simp [hc]));by_cases hb:r x m
   ·refine ⟨x,by simp,fun y hy he=>?_⟩;rcases List.mem_cons.1 hy with rfl | hy
    ·exact hi _ (by simp) he
    ·exact htop y hy (ht y (by simp [hy]) x (by simp) m (by simp [hm]) he hb)
   ·exact ⟨m,by simp [hm],fun y hy=>by
     rcases List.mem_cons.1 hy with rfl | hy
     ·exact hb
     ·exact htop y hy⟩
theorem bV {a b:List Int} (ha:a.Pairwise (· < ·)) (hb:b.Pairwise (· < ·)) (h:∀v,v∈a↔v∈b):a=b:=by
 have na:a.Nodup:=ha.imp (fun h=>by omega);have nb:b.Nodup:=hb.imp (fun h=>by omega);have hp:a.Perm b:=(List.perm_ext_iff_of_nodup na nb).2 h;exact List.Perm.eq_of_pairwise (le:=fun x y:Int=>x<y) (fun x y _ _ h1 h2=>by omega) ha hb hp
theorem eAs {l:List Int} (h:l.Nodup):(kG l).Pairwise (· < ·):=by
 have h1:=LR l;have h2:(kG l).Nodup:=(CM l).nodup_iff.2 h;exact h1.imp₂ (fun h3 h4=>by omega) h2
theorem eAt {l:List Int} {v:Int}:v∈kG l↔v∈l:=(CM l).mem_iff
theorem tJ {l:List iA} (e:List mA) (h:dB l=true):(wD l e).Pairwise (· < ·):=by
 unfold wD;exact List.pairwise_map.2 ((yG h).sublist List.filter_sublist)
def XN (l:List iA) (e:List mA) (y:iA):Prop:=∀z∈l,EC e z y=false
theorem eAu {l:List iA} {e:List mA} {y:iA}:DH l e y=true↔XN l e y:=by
 unfold DH XN;rw [Bool.not_eq_true',List.any_eq_false];exact ⟨fun h z hz=>by simpa using h z hz,fun h z hz=>by simp [h z hz]⟩
theorem PE {l:List iA} {e:List mA} {v:Int}:v∈wD l e↔∃y∈l,XN l e y/\y.id=v:=by
 unfold wD;rw [List.mem_map];constructor
 ·rintro ⟨y,hy,rfl⟩;obtain ⟨h1,h2⟩:=List.mem_filter.1 hy;exact ⟨y,h1,eAu.1 h2,rfl⟩
 ·rintro ⟨y,h1,h2,rfl⟩;exact ⟨y,List.mem_filter.2 ⟨h1,eAu.2 h2⟩,rfl⟩
section
variable {e:List mA} (hE:pB e=true)
include hE
theorem WR {x y z:iA} (hx:gB x=true) (hy:gB y=true) (hz:gB z=true) (h1:EC e x y=true) (h2:EC e y z=true):EC e x z=true:=by
 unfold EC at h1 h2 ⊢;rw [decide_eq_true_eq] at h1 h2 ⊢;rw [(GJ hE).tr x y z hx hy hz (by omega) (by omega) (by omega) (by omega),h1,h2];rfl
theorem pAr {x:iA} (hx:gB x=true):EC e x x=false:=by
 unfold EC;rw [(GJ hE).refl x hx];rfl
theorem RK {l:List iA} (hl:∀x∈l,gB x=true) {y:iA} (hy:gB y=true) (h:¬XN l e y):∃m∈l,XN l e m/\EC e m y=true:=by
 have bd:(l.filter fun z=>EC e z y)≠[]:=fun hn=>by
  apply h;intro z hz;have:=List.filter_eq_nil_iff.1 hn z hz
  simpa using this
 obtain ⟨m,hm,ht⟩:=oA1 (r:=fun a b=>EC e a b=true) bd
  (fun x hx=>by rw [pAr hE (hl x (List.mem_filter.1 hx).1)];simp)
  (fun x hx y hy z hz h1 h2=>WR hE (hl x (List.mem_filter.1 hx).1) (hl y (List.mem_filter.1 hy).1) (hl z (List.mem_filter.1 hz).1) h1 h2)
 obtain ⟨bb,bc⟩:=List.mem_filter.1 hm;refine ⟨m,bb,fun z hz=>?_,bc⟩
 cases hb:EC e z m with
 | false=>rfl
 | true=>
  have h3:EC e z y=true:=WR hE (hl z hz) (hl m bb) hy hb bc;exact absurd hb (ht z (List.mem_filter.2 ⟨hz,h3⟩))
end
theorem xH {l:List iA} {x z:iA}:z∈oG l x↔z∈l\/z=x:=by
 rw [(sJ l x).mem_iff];simp
theorem XR {y:zA} (h1:dB y.items=true) (h2:pB y.wanted=true) (h3:y.best=wD y.items y.wanted) (h4:0<=y.tests/\y.tests<=1000000):JB y=true:=by
 unfold JB kB;rw [h1,h2,decide_eq_true h3];have:inB y.tests 0 1000000=true:=pD.2 h4;rw [this];rfl
section
variable {s:zA} {x:iA} (h:XE s x=true)
include h
theorem nAo:dB (oG s.items x)=true:=by
 obtain ⟨h1,h2,h3,h4,h5⟩:=qI h;obtain ⟨hB,hb⟩:=wC h1;have hn:=EO h3;refine kU (fun y hy=>?_) (QN (yG (AA hB)) hn) (by rw [MR];omega);rcases xH.1 hy with hy | rfl
 ·exact TA (AA hB) hy
 ·exact h2
theorem YR:lG s x s.best.length=true↔¬XN s.items s.wanted x:=by
 obtain ⟨h1,h2,h3,h4,h5⟩:=qI h;obtain ⟨hB,hb⟩:=wC h1;have hI:=AA hB;unfold lG;rw [List.take_length,List.any_eq_true];constructor
 ·rintro ⟨id,bb,hc⟩ hf;rw [decide_eq_true_eq] at hc;rw [hb] at bb;obtain ⟨y,hy,_,rfl⟩:=PE.1 bb;rw [gE hI hy] at hc;have:=hf y hy;unfold EC at this;rw [decide_eq_false_iff_not] at this;exact this hc
 ·intro hf;obtain ⟨m,hm,bd,bc⟩:=RK (yB hB) (fun z hz=>TA hI hz) h2 hf;refine ⟨m.id,by rw [hb];exact PE.2 ⟨m,hm,bd,rfl⟩,?_⟩;rw [gE hI hm];unfold EC at bc;exact bc
theorem kA6:JB (zG s x)=true:=by
 obtain ⟨h1,h2,h3,h4,h5⟩:=qI h;obtain ⟨hB,hb⟩:=wC h1;have hI:=AA hB;have hE:=yB hB;have hn:=EO h3;have hbl:=iE h1;have ht:=mI h1;have hA:=nAo h;refine XR (by exact hA) (by exact hE) ?_ (by show 0<=s.tests+(s.best.length:Int)/\s.tests+(s.best.length:Int)<=1000000;omega);show (if lG s x s.best.length then s.best else kG (nD s x s.best.length++[x.id]))=wD (oG s.items x) s.wanted
 have bk:=pAr hE h2
 cases hbt:lG s x s.best.length with
 | true=>
  rw [if_pos rfl];have bj:=(YR h).1 hbt;obtain ⟨m,hm,hmf,bd⟩:=RK hE (fun z hz=>TA hI hz) h2 bj;refine bV (by rw [hb];exact tJ _ hI) (tJ _ hA) (fun v=>?_);rw [hb,PE,PE];constructor
  ·rintro ⟨y,hy,hf,rfl⟩;refine ⟨y,xH.2 (.inl hy),fun z hz=>?_,rfl⟩;rcases xH.1 hz with hz | rfl
   ·exact hf z hz
   ·cases hq:EC s.wanted z y with
    | false=>rfl
    | true=>
     have:=WR hE (TA hI hm) h2 (TA hI hy) bd hq;rw [hf m hm] at this;cases this
  ·rintro ⟨y,hy,hf,rfl⟩;rcases xH.1 hy with hy | rfl
   ·exact ⟨y,hy,fun z hz=>hf z (xH.2 (.inl hz)),rfl⟩
   ·have:=hf m (xH.2 (.inl hm));rw [bd] at this;cases this
 | false=>
  rw [if_neg (by simp)];have bb:XN s.items s.wanted x:=by
   by_cases hq:XN s.items s.wanted x
   ·exact hq
   ·have:=(YR h).2 hq;rw [hbt] at this;cases this
  have bc:∀v,v∈nD s x s.best.length↔∃y∈s.items,XN s.items s.wanted y/\EC s.wanted x y=false/\y.id=v:=by
   intro v;unfold nD;rw [List.take_length,List.mem_filter,hb,PE];have bf:∀y∈s.items,((!decide (zC s.wanted (VB s.items y.id) x = -1))=true↔EC s.wanted x y=false):=by
    intro y hy;rw [gE hI hy];have ha:=(GJ hE).anti x y h2 (TA hI hy);have hc:=(GJ hE).code x y;unfold EC;rw [decide_eq_false_iff_not,Bool.not_eq_true',decide_eq_false_iff_not,ha];unfold bJ
    split<;>constructor<;>intro hh<;>omega
   constructor
   ·rintro ⟨⟨y,hy,hf,rfl⟩,hk⟩;exact ⟨y,hy,hf,(bf y hy).1 hk,rfl⟩
   ·rintro ⟨y,hy,hf,hk,rfl⟩;exact ⟨⟨y,hy,hf,rfl⟩,(bf y hy).2 hk⟩
  have bg:(nD s x s.best.length++[x.id]).Nodup:=by
   rw [List.nodup_append];refine ⟨?_,by simp,fun a ha b hb2 eab=>?_⟩
   ·unfold nD;rw [List.take_length];exact (tQ h1).sublist List.filter_sublist
   ·rw [List.mem_singleton] at hb2;obtain ⟨y,hy,_,_,e⟩:=(bc a).1 ha;exact hn y hy (by rw [e,eab,hb2])
  refine bV (eAs bg) (tJ _ hA) (fun v=>?_);rw [eAt,List.mem_append,bc,List.mem_singleton,PE];constructor
  ·rintro (⟨y,hy,hf,hk,rfl⟩ | rfl)
   ·refine ⟨y,xH.2 (.inl hy),fun z hz=>?_,rfl⟩;rcases xH.1 hz with hz | rfl
    ·exact hf z hz
    ·exact hk
   ·refine ⟨x,xH.2 (.inr rfl),fun z hz=>?_,rfl⟩;rcases xH.1 hz with hz | rfl
    ·exact bb z hz
    ·exact bk
  ·rintro ⟨y,hy,hf,rfl⟩;rcases xH.1 hy with hy | rfl
   ·exact .inl ⟨y,hy,fun z hz=>hf z (xH.2 (.inl hz)),hf x (xH.2 (.inr rfl)),rfl⟩
   ·exact .inr rfl
end
theorem hAe {s:zA} {x:iA} (h:XE s x=true):JB (AG s x)=true:=by unfold AG;rw [if_pos h];exact kA6 h
theorem ZE {l:List iA} {id:Int} {y:iA}:y∈QB l [id] false↔y∈l/\y.id≠id:=by
 unfold QB;rw [List.mem_filter];simp
theorem mA9 {s:zA} (h:JB s=true) {id v:Int}:v∈XC s id↔id∈s.best/\∃y∈s.items,EC s.wanted (VB s.items id) y=true/\(∀b∈s.best,b=id\/EC s.wanted (VB s.items b) y=false)/\y.id=v:=by
 by_cases hid:id∈s.best
 ·rw [gX h (List.contains_iff_mem.2 hid)];unfold eG gAn;rw [List.mem_map];constructor
  ·rintro ⟨y,hy,rfl⟩;obtain ⟨h1,h2⟩:=List.mem_filter.1 hy;rw [Bool.and_eq_true,List.all_eq_true] at h2;exact ⟨hid,y,h1,h2.1,fun b hb=>by simpa using h2.2 b hb,rfl⟩
  ·rintro ⟨_,y,h1,h2,h3,rfl⟩;refine ⟨y,List.mem_filter.2 ⟨h1,?_⟩,rfl⟩;rw [Bool.and_eq_true,List.all_eq_true];exact ⟨h2,fun b hb=>by simpa using h3 b hb⟩
 ·rw [JR (by rw [h,Bool.true_and];simpa using hid)];simp [hid]
section
variable {s:zA} {id:Int} (h:YE s id=true)
include h
theorem kA7:JB (SL s id)=true:=by
 obtain ⟨h1,h2,h3⟩:=sI h;obtain ⟨hB,hb⟩:=wC h1;have hI:=AA hB;have hE:=yB hB;have ht:=mI h1;have hA:=OJ hI [id] false;have bc:∀z∈s.items,gB z=true:=fun z hz=>TA hI hz
 have cf:∀z∈QB s.items [id] false,gB z=true:=fun z hz=>bc z (ZE.1 hz).1
 obtain ⟨p,hp,bm⟩:∃p∈s.items,p.id=id:=by
  rcases OC s.items id with ⟨hf,_⟩ | ⟨j,y,_,hj,e⟩
  ·omega
  ·exact ⟨y,List.mem_of_getElem? hj,e⟩
 have ck:VB s.items id=p:=by rw [<-bm];exact gE hI hp
 have bb:∀y∈s.items,y.id=id->y=p:=fun y hy e=>YU hI hy hp (e.trans bm.symm)
 unfold SL;by_cases hin:s.best.contains id=true
 ·rw [if_pos hin];have bj:id∈s.best:=List.contains_iff_mem.1 hin;have hexl:(XC s id).length<=16:=Nat.le_trans (jAu s id trivial) (VA hI);refine XR (by exact hA) (by exact hE) ?_ (by show 0<=s.tests+((XC s id).length:Int)/\s.tests+((XC s id).length:Int)<=1000000;omega);show kG (WD s id++yF s id)=wD (QB s.items [id] false) s.wanted
  have bg:∀v,v∈WD s id↔∃y∈s.items,XN s.items s.wanted y/\y.id≠id/\y.id=v:=by
   intro v;unfold WD;rw [List.mem_filter,hb,PE];constructor
   ·rintro ⟨⟨y,hy,hf,rfl⟩,hk⟩;exact ⟨y,hy,hf,by simpa using hk,rfl⟩
   ·rintro ⟨y,hy,hf,hk,rfl⟩;exact ⟨⟨y,hy,hf,rfl⟩,by simpa using hk⟩
  have bt:∀y,(y∈QB s.items (XC s id) true↔y∈s.items/\EC s.wanted p y=true/\∀b∈s.best,b=id\/EC s.wanted (VB s.items b) y=false):=by
   intro y;unfold QB;rw [List.mem_filter];have e1:((XC s id).contains y.id==true)=(XC s id).contains y.id:=by simp
   rw [e1,List.contains_iff_mem,mA9 h1,ck];constructor
   ·rintro ⟨hy,_,z,hz,h4,h5,e⟩;obtain rfl:=YU hI hz hy e;exact ⟨hy,h4,h5⟩
   ·rintro ⟨hy,h4,h5⟩;exact ⟨hy,bj,y,hy,h4,h5,rfl⟩
  have cm:=pAr hE (bc p hp);have bs:∀v,v∈yF s id↔∃y∈QB s.items (XC s id) true,XN (QB s.items (XC s id) true) s.wanted y/\y.id=v:=fun v=>PE
  have bp:∀y∈QB s.items (XC s id) true,y∈QB s.items [id] false:=fun y hy=>by
   obtain ⟨h4,h5,_⟩:=(bt y).1 hy;refine ZE.2 ⟨h4,fun e=>?_⟩;rw [bb y h4 e,cm] at h5;cases h5
  have bq:∀y∈QB s.items [id] false,XN (QB s.items [id] false) s.wanted y->¬XN s.items s.wanted y->y∈QB s.items (XC s id) true:=by
   intro y hy hf cj;have bn:=(ZE.1 hy).1;refine (bt y).2 ⟨bn,?_,fun b hb2=>?_⟩
   ·obtain ⟨m,hm,_,bd⟩:=RK hE bc (bc y bn) cj;by_cases bf:m.id=id
    ·rw [<-bb m hm bf];exact bd
    ·rw [hf m (ZE.2 ⟨hm,bf⟩)] at bd;cases bd
   ·by_cases hbid:b=id
    ·exact .inl hbid
    ·refine .inr ?_;rw [hb] at hb2;obtain ⟨z,hz,_,e⟩:=PE.1 hb2;rw [<-e,gE hI hz];exact hf z (ZE.2 ⟨hz,by rw [e];exact hbid⟩)
  have bv:∀v,v∈WD s id->v∉yF s id:=by
   intro v hv cn;obtain ⟨y,hy,hf,cb,rfl⟩:=(bg v).1 hv;obtain ⟨z,hz,_,e⟩:=(bs y.id).1 cn;obtain ⟨cq,cd,_⟩:=(bt z).1 hz;obtain rfl:=YU hI cq hy e;rw [hf p hp] at cd;cases cd
  have cg:(WD s id++yF s id).Nodup:=by
   rw [List.nodup_append];refine ⟨(tQ h1).sublist List.filter_sublist,?_,fun a ha b hb2 e=>bv a ha (e▸hb2)⟩;exact (tJ s.wanted (OJ hI (XC s id) true)).imp (fun h=>by omega)
  refine bV (eAs cg) (tJ _ hA) (fun v=>?_);rw [eAt,List.mem_append,bg,bs,PE];constructor
  ·rintro (⟨y,hy,hf,cb,rfl⟩ | ⟨y,hy,hf,rfl⟩)
   ·exact ⟨y,ZE.2 ⟨hy,cb⟩,fun z hz=>hf z (ZE.1 hz).1,rfl⟩
   ·refine ⟨y,bp y hy,?_,rfl⟩;obtain ⟨bn,hyb,cp⟩:=(bt y).1 hy;by_cases hq:XN (QB s.items [id] false) s.wanted y
    ·exact hq
    ·exfalso
     obtain ⟨m,hm,bx,bd⟩:=RK hE cf (bc y bn) hq;have bz:=(ZE.1 hm).1;by_cases hmfree:XN s.items s.wanted m
     ·have bk:m.id∈s.best:=by rw [hb];exact PE.2 ⟨m,bz,hmfree,rfl⟩
      rcases cp m.id bk with e | e
      ·exact (ZE.1 hm).2 e
      ·rw [gE hI bz,bd] at e;cases e
     ·have:=hf m (bq m hm bx hmfree);rw [bd] at this;cases this
  ·rintro ⟨y,hy,hf,rfl⟩;by_cases hq:XN s.items s.wanted y
   ·exact .inl ⟨y,(ZE.1 hy).1,hq,(ZE.1 hy).2,rfl⟩
   ·exact .inr ⟨y,bq y hy hf hq,fun z hz=>hf z (bp z hz),rfl⟩
 ·rw [if_neg hin];have bj:id∉s.best:=fun hm=>hin (List.contains_iff_mem.2 hm)
  refine XR (by exact hA) (by exact hE) ?_ (by exact ht);show s.best=wD (QB s.items [id] false) s.wanted
  have cc:¬XN s.items s.wanted p:=fun hf=>bj (by rw [hb];exact PE.2 ⟨p,hp,hf,bm⟩)
  obtain ⟨m,hm,bx,bd⟩:=RK hE bc (bc p hp) cc;have bf:m.id≠id:=fun e=>by
   rw [bb m hm e,pAr hE (bc p hp)] at bd;cases bd
  rw [hb];refine bV (tJ _ hI) (tJ _ hA) (fun v=>?_);rw [PE,PE];constructor
  ·rintro ⟨y,hy,hf,rfl⟩;refine ⟨y,ZE.2 ⟨hy,fun e=>cc ?_⟩,fun z hz=>hf z (ZE.1 hz).1,rfl⟩;rw [<-bb y hy e];exact hf
  ·rintro ⟨y,hy,hf,rfl⟩;obtain ⟨bn,hyid⟩:=ZE.1 hy;refine ⟨y,bn,fun z hz=>?_,rfl⟩;by_cases hzid:z.id=id
   ·rw [bb z hz hzid]
    cases hq:EC s.wanted p y with
    | false=>rfl
    | true=>
     have:=WR hE (bc m hm) (bc p hp) (bc y bn) bd hq;rw [hf m (ZE.2 ⟨hm,bf⟩)] at this;cases this
   ·exact hf z (ZE.2 ⟨hz,hzid⟩)
end
theorem hAf {s:zA} {id:Int} (h:YE s id=true):JB (FH s id)=true:=by unfold FH;rw [if_pos h];exact kA7 h
section
variable {s:zA} (h:JB s=true)
include h
end
end Go.Proofs.YtpihighajaeabaaGreat
