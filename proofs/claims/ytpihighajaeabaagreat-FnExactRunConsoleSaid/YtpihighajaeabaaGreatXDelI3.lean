/- An item is taken from a standing answer, in the program: one of the best. -/
import Derived.Test.YtpihighajaeabaaGreatXDelI2
import Derived.Test.YtpihighajaeabaaGreatXOnly
import Derived.Test.YtpihighajaeabaaGreatXDelA
import Derived.Test.YtpihighajaeabaaGreatXDelS2
import Derived.Test.YtpihighajaeabaaGreatXStandC
import Derived.Deep.RegionHeld3
import Derived.Deep.Cut
namespace Go.Proofs.YtpihighajaeabaaGreat
open Go.RowKit Go.Proofs.Tryz
set_option linter.all false
set_option maxRecDepth 100000
set_option maxHeartbeats 16000000
theorem pK {W:World} {b c o k:Nat} {x u:Value} (h:b≠c) (hc:W.cell? ⟨b,k,none⟩=some x):(W.setCell ⟨c,o,none⟩ u).cell? ⟨b,k,none⟩=some x:=(World.cell?_of_block (Below.heap_setCell _ _ _ _ h)).trans hc
theorem pAc (w:World) (s:zA) (id:Int) (va vb vc:Value) (ha:Rd LA w s.items [va]) (hb:Rd OA w s.wanted [vb]) (hc:Rd aB w s.best [vc]) (t1:jC s.items<=1048576) (t2:sB s.wanted<=1048576) (t3:s.best.length<=1048576) (hok:YE s id=true) :
  Calls prog 18 #[.agg #[va,vb,vc,.int .i64 s.tests],.int .i64 id] w (WB w (JK GB w.heap.size (SL s id) (.bool true))):=by
 obtain ⟨E1,mp,hts⟩:=sI hok;have jj:=pA6 E1;have HI:=pA6 (AA (wC E1).1);have HB:=pA6 (wC E1).1;have ms:=iE E1;have hts0:=(mI E1).1;obtain ⟨j0,ji,kj,km,kn⟩:=info_parts IG;obtain ⟨i0,hi,ff,fg,fj⟩:=info_parts xC;obtain ⟨kk,jz,kb⟩:∃kk:Nat,rB s.items id=(kk:Int)/\kk<s.items.length:=by
  rcases OC s.items id with ⟨h,_⟩ | ⟨j,x,h1,h2,_⟩
  ·omega
  ·exact ⟨j,h1,(List.getElem?_eq_some_iff.1 h2).1⟩
 have HK:=pA6 jz.symm;have kt:=pA6 kb;clear jz kb mp E1 hok;obtain ⟨A,n,c,rfl,L,Lc,Lm⟩:=yA ha;obtain ⟨B,m,c4,rfl,M,Mc,Mm⟩:=yA hc;obtain ⟨W0,kv,A0,bS,bR,z0⟩:=pAf w (.slice A n c) vb (.slice B m c4) (.int .i64 s.tests) 28;have cj:=IE W0 s _ vb _ (ha.bw gA A0) (hb.bw jA A0) (hc.bw dA A0) t1 t2 t3;go_enter func18,ntmps18;go_wp2_with fail;rw [<-kv.out];refine cj.mono ?_;rintro e w1 ⟨cs,F0,rfl,oS,fS,gd⟩;have lS:=(NB (B:=0)).lt oS;obtain ⟨A1,m1,c1,A2,m2,c2,A3,m3,c3,F1,F2,F3,rfl,rfl,fp,HM2,HM3,o1,o2,o3⟩:=pAa oS;dsimp only;obtain ⟨V,HV,fk,bO,zV,BV,fm⟩:=pAd A0 gd (.slice A1 m1 c1) (.slice A2 m2 c2) (.slice A3 m3 c3) (.int .i64 s.tests) 28;replace bS:=bS.bw fm;replace bR:=bR.bw fm;have fv:=bS;rw [HV.out] at fv;obtain ⟨y0,y1,y2,y3,yf⟩:=fv.a4;clear fv;go_wp2_with fail;have zw:w.heap.size+2<=w1.heap.size:=by have:=gd.size;omega
 replace o1:=nA fk rA o1;replace o2:=nA fk kA o2;replace o3:=nA fk aA o3;have fV:sA (w.heap.size+2) (F1++(F2++F3)):=fS.mono (by omega);have dv:=pA6 lS;have k1:=pA6 (fun W (B:Bw V W)=>rG W s _ vb _ (ha.bw gA (BV.then B)) (hb.bw jA (BV.then B)) (hc.bw dA (BV.then B)));have k3:=pA6 (fun W (B:Bw V W)=>GD W s.items id _ (ha.bw gA (BV.then B)));obtain ⟨b6,bj⟩:=pA7 w1.heap.size;rw [<-bj] at bO zV zw;have dc:=pA6 bj;rw [<-HV.out,<-dc.out];clear oS fS cj gd A0 bj lS fm;clear y0 y1 y2 y3 yf;have bc:=k3.out _ (Bw.refl V);rw [<-HK.out] at bc;have y0:=bS.c 0 _ rfl;go_wp2_with fail;refine bc.mono ?_;rintro e w2 ⟨rfl,gf⟩;clear y0;have jm:=bS.bw gf;obtain ⟨y0,y1,y2,y3,yf⟩:=jm.a4;have bc:=k1.out _ gf;rw [jj.out] at bc;clear jm;go_wp2_with fail;refine bc.mono ?_;rintro e w3 ⟨rfl,mk⟩;have gb:=gf.then mk;clear y0 y1 y2 y3 yf;have hK1:¬((kk:Nat):Int)<(0:Int):=by omega
 have ht1:¬(999900:Int)<s.tests:=by omega
 have mt:b6≠w.heap.size/\b6≠w.heap.size+1:=by omega
 obtain ⟨gp,cv⟩:=mt;have bp:=gp.symm;have dp:=cv.symm;have kc:kk<m1:=by have h1:=kt.out;have h2:=fp.out;omega
 obtain ⟨g1,mq,gm,hgF⟩:=CJ o1 (by have:=fp.out;omega);subst mq;clear gm;have Lc1:=(ZL (pC o1)).2.1;have mb:=(ZL (pC o1)).2.2;unfold maxLen at mb;have i1:(0:Int)<=(kk:Int):=by omega
 have i2:(kk:Int)<=(m1:Int):=by omega
 have i3:(kk:Int)+1<=(m1:Int):=by omega
 have i4:(kk:Int)<=(c1:Int):=by omega
 have i5:(kk:Int)<=(kk:Int)+1:=by omega
 have i6:(0:Int)<=(kk:Int)+1:=by omega
 have i7:((kk:Int)+1).toNat=kk+1:=by omega
 have i8:IntKind.i64.wrap ((kk:Int)+1)=(kk:Int)+1:=IntWalk.i64_in _ (by omega);have i9:(m1:Int)<=(c1:Int):=by omega
 have D1:Bw w3 w3.drew:=(Bw.refl w3).drew;have cg:=gb.then D1;have fb:=bO.bw cg;have jn:=bS.bw cg;have jk:=bR.bw cg;have vW:=nA cg rA o1;have gg:=BV.then cg;have jq:sA w.heap.size F1:=⟨(List.nodup_append.1 fV.nodup).1,fun b hb=>by have:=fV.ge b (List.mem_append_left _ hb);omega⟩;have dn:=dv.out;rw [<-dc.out] at dn;have jd:b6∉F1:=fun h=>by have:=dn b6 (List.mem_append_left _ h);omega
 have nb:w.heap.size∉F1:=fun h=>by have:=fV.ge _ (List.mem_append_left _ h);omega
 have mz:w.heap.size+1∉F1:=fun h=>by have:=fV.ge _ (List.mem_append_left _ h);omega
 have cb:=pA6 (show m1<=16 by rw [fp.out];exact VA HI.out);have dd:=bO.bw gb;have df:=bS.bw gb;obtain ⟨y0,y1,y2,y3,yf⟩:=df.a4;obtain ⟨x0,x1,x2,x3,xf⟩:=dd.a4;clear dd df;go_wp2_with fail
 go_cut [] from 29 (fun wx=>∃(A5:Option Addr) (n5 c5:Nat) (F':List Nat),n5=(QB s.items [id] false).length/\Bw w wx/\Box wx b6 [.slice A5 n5 c5,.slice A2 m2 c2,.slice A3 m3 c3,.int .i64 s.tests]/\Box wx w.heap.size [.slice A n c,vb,.slice B m c4,.int .i64 s.tests]/\Box wx (w.heap.size+1) [.slice none 0 0,.slice none 0 0,.slice none 0 0,.int .i64 0]/\tD wx (QB s.items [id] false) [.slice A5 n5 c5] F'/\mC wx s.wanted [.slice A2 m2 c2] F2/\WA wx s.best [.slice A3 m3 c3] F3/\F'.Nodup/\∀b∈F',b∉F2++F3/\b≠b6/\w.heap.size+2<=b)
 case first=>
  by_cases hcap:c1=kk+1;rotate_left
  focus
   have hcap2:=hcap
   go_region_law (refine eK _ (by rfl) (.tmp 32) (.tmp 37) 24 (by rfl) w 30 j0 _ 2 32 underlying24 ji kj km kn rfl (by omega) sD g1 m1 _ s.items F1 vW jq kk kc (by rfl) _ _ _ (by rfl) (by omega) (fun h=>rfl) (by have:=cb.out;omega) (by have:=cb.out;omega) gg ?_;intro v' w' F' ck jp jt cn kf;rw [<-AJ HI.out HK.out.symm] at ck;obtain ⟨A5,c5,rfl,_⟩:=XA (pC ck);obtain ⟨n5,bz⟩:=pA7 ((QB s.items [id] false).length);rw [<-bz] at ck ⊢;have fq:=pA6 bz;clear bz;have eP:=fb.only cn jd;have e0:=eP.c 0 _ rfl;have ef:=eP.fr)
  rotate_right
  focus
   subst hcap
   go_region_law (refine eK _ (by rfl) (.tmp 32) (.tmp 37) 24 (by rfl) w 30 j0 _ 2 32 underlying24 ji kj km kn rfl (by omega) sD g1 m1 _ s.items F1 vW jq kk kc (by rfl) _ _ _ (by rfl) (by omega) (fun h=>by exfalso;omega) (by have:=cb.out;omega) (by have:=cb.out;omega) gg ?_;intro v' w' F' ck jp jt cn kf;rw [<-AJ HI.out HK.out.symm] at ck;obtain ⟨A5,c5,rfl,_⟩:=XA (pC ck);obtain ⟨n5,bz⟩:=pA7 ((QB s.items [id] false).length);rw [<-bz] at ck ⊢;have fq:=pA6 bz;clear bz;have eP:=fb.only cn jd;have e0:=eP.c 0 _ rfl;have ef:=eP.fr)
  all_goals
   obtain ⟨X,hX⟩:=pA7 (w'.setCell ⟨b6,0,none⟩ (.slice A5 n5 c5));rw [<-hX];clear y0 y1 y2 y3 yf;clear x0 x1 x2 x3 xf;have n2:b6∉F2:=fun h=>by have:=dn b6 (List.mem_append_right _ (List.mem_append_left _ h));omega
   have n3:b6∉F3:=fun h=>by have:=dn b6 (List.mem_append_right _ (List.mem_append_right _ h));omega
   have mv:∀c∈F2++F3,c<b6:=fun c h=>dn c (List.mem_append_right _ h)
   have b6W:b6<w3.drew.heap.size:=fb.lt;have mF:∀b∈F',b∉F2++F3/\b≠b6/\w.heap.size+2<=b:=by
    intro b hb;rcases kf b hb with h | h
    ·exact ⟨fun h2=>(List.nodup_append.1 fV.nodup).2.2 b h b h2 rfl,fun e=>jd (e▸h),fV.ge b (List.mem_append_left _ h)⟩
    ·exact ⟨fun h2=>by have:=mv b h2;omega,by omega,by omega⟩
   have BX:Bw w X:=by rw [hX];exact jt.set (by dsimp only;omega) _
   have cO:Box X b6 [.slice A5 n5 c5,.slice A2 m2 c2,.slice A3 m3 c3,.int .i64 s.tests]:=by rw [hX];exact eP.set (by simp) _
   have cS:Box X w.heap.size [.slice A n c,vb,.slice B m c4,.int .i64 s.tests]:=by rw [hX];exact (jn.only cn nb).only (GA _ _ _ _) (by simp;omega)
   have cR:Box X (w.heap.size+1) [.slice none 0 0,.slice none 0 0,.slice none 0 0,.int .i64 0]:=by rw [hX];exact (jk.only cn mz).only (GA _ _ _ _) (by simp;omega)
   have p1:tD X (QB s.items [id] false) [.slice A5 n5 c5] F':=by rw [hX];exact UA rA ck (fun h=>(mF _ h).2.1 rfl)
   have p2:mC X s.wanted [.slice A2 m2 c2] F2:=by rw [hX];exact UA kA (cn.keeps kA (nA cg kA o2) (fun c h h2=>(List.nodup_append.1 fV.nodup).2.2 c h2 c (List.mem_append_left _ h) rfl)) n2
   have p3:WA X s.best [.slice A3 m3 c3] F3:=by rw [hX];exact UA aA (cn.keeps aA (nA cg aA o3) (fun c h h2=>(List.nodup_append.1 fV.nodup).2.2 c h2 c (List.mem_append_right _ h) rfl)) n3
   clear e0 ef i1 i2 i3 i4 i5 i6 i7 i8 i9;go_wp2_with fail
   go_meet
   exact ⟨A5,n5,c5,F',fq.out,BX,cO,cS,cR,p1,p2,p3,jp.nodup,mF⟩
 case rest=>
  revert wc
  intro X cp;obtain ⟨A5,n5,c5,F5,bz,BX,cO,cS,cR,p1,p2,p3,kp,mF⟩:=cp;clear y0 y1 y2 y3 yf;clear x0 x1 x2 x3 xf;have fq:=pA6 bz;clear bz i1 i2 i3 i4 i5 i6 i7 i8 i9 bO bS bR o1 o2 o3 vW gg cg D1 fb jn jk k1 k3;rcases pA8 (s.best.contains id) with gj | gq;rotate_left
  focus
   have HY:=pA6 (show SL s id=⟨QB s.items [id] false,s.wanted,s.best,s.tests⟩ by unfold SL;rw [gq];rfl);have bc:=QG X s.best id _ (hc.bw dA BX);have cc:=KH id s.best 0;obtain ⟨K2,js⟩:=pA7 (nL id s.best 0);rw [<-js] at bc cc;clear js;obtain ⟨y0,y1,y2,y3,yf⟩:=cS.a4;go_wp2_with fail;refine bc.mono ?_;rintro e w6 ⟨rfl,bj⟩;clear bc;clear y0 y1 y2 y3 yf;rw [gq] at cc;have hi0:¬(0:Int)<=K2:=by simpa using cc
   have md:=cO.bw bj;have mf:=cR.bw bj;have B6:=BX.then bj;obtain ⟨q0,q1,q2,q3,qf⟩:=md.a4;obtain ⟨r0,r1,r2,r3,rf⟩:=mf.a4;clear cc gq;go_wp2;rw [HY.out];refine bodyPost_ret (v:=.tuple #[.agg #[.slice A5 n5 c5,.slice A2 m2 c2,.slice A3 m3 c3,.int .i64 s.tests],.bool true]) (by simp [results,results18,go_sem,q0,q1,q2,q3,r0,r1,r2,r3,cv,dp]) rfl ?_;exact dC (y:=⟨QB s.items [id] false,s.wanted,s.best,s.tests⟩) (F:=F5) (G:=F2) (H:=F3) (nA bj rA p1) (nA bj kA p2) (nA bj aA p3) ⟨List.nodup_append.2 ⟨kp,(List.nodup_append.1 fV.nodup).2.1,fun a ha b hb e=>(mF a ha).1 (e▸hb)⟩,fun b hb=>(List.mem_append.1 hb).elim (fun h=>by have:=(mF b h).2.2;omega) (fun h=>fV.ge b (List.mem_append_right _ h))⟩ (by omega) B6
  rotate_right;have HY:=pA6 (show SL s id=⟨QB s.items [id] false,s.wanted,kG (WD s id++yF s id),s.tests+((XC s id).length:Int)⟩ by unfold SL;rw [gj];rfl);obtain ⟨j,jx,fd⟩:∃j:Nat,nL id s.best 0=(j:Int)/\s.best[j]? = some id:=by
   have h1:=KH id s.best 0;rw [gj] at h1;obtain ⟨j,e,hj⟩:=iAa (x:=id) (l:=s.best) (i:=0) (k:=nL id s.best 0) rfl (by simpa using h1);exact ⟨j,by rw [e];simp,hj⟩
  have hjl:j<m:=by have:=(List.getElem?_eq_some_iff.1 fd).1;have:=M.out;omega
  have HJ:=pA6 (bAd jj.out fd);have ks:=pA6 fd;have bc:=QG X s.best id _ (hc.bw dA BX);rw [jx] at bc;clear fd jx gj;obtain ⟨y0,y1,y2,y3,yf⟩:=cS.a4;go_wp2_with fail;refine bc.mono ?_;rintro e w6 ⟨rfl,bj⟩;clear bc;clear y0 y1 y2 y3 yf;have B6:=BX.then bj;have eS:=cS.bw bj;obtain ⟨y0,y1,y2,y3,yf⟩:=eS.a4;have i1:(0:Int)<=(j:Int):=by omega
  have bc:=zY w6 s id _ vb _ (ha.bw gA B6) (hb.bw jA B6) (hc.bw dA B6);go_wp2_with fail;refine bc.mono ?_;rintro e w7 ⟨v7,rfl,⟨F7,o7,f7⟩,mm⟩;obtain ⟨A7,c7,rfl,_⟩:=XA (xA o7);obtain ⟨M7,fc⟩:=pA7 ((XC s id).length);rw [<-fc] at o7 ⊢;have L7:=pA6 fc;have cz:=bj.then mm;have BY:=BX.then cz;have wY:=BY.size;clear y0 y1 y2 y3 yf;have dO:=cO.bw cz;have dS:=cS.bw cz;have dR:=cR.bw cz;have q1:=nA cz rA p1;have q2:=nA cz kA p2;have hM16:M7<=16:=by
   rw [fc];unfold XC
   split
   ·unfold eG;rw [List.length_map];exact Nat.le_trans (List.length_filter_le _ _) (VA HI.out)
   ·simp
  have b67:b6<w7.heap.size:=dO.lt;have lt7:=(aA (B:=0)).lt o7;have n7:b6∉F7:=fun h=>by have:=f7.ge b6 h;have:=(cO.bw bj).lt;omega
  obtain ⟨Y,hY⟩:=pA7 (w7.setCell ⟨b6,3,none⟩ (.int .i64 (s.tests+(M7:Int))));have bf:Bw w Y:=by rw [hY];exact BY.set (by dsimp only;omega) _
  have gO:Box Y b6 [.slice A5 n5 c5,.slice A2 m2 c2,.slice A3 m3 c3,.int .i64 (s.tests+(M7:Int))]:=by rw [hY];exact dO.set (by simp) _
  have gS:Box Y w.heap.size [.slice A n c,vb,.slice B m c4,.int .i64 s.tests]:=by rw [hY];exact dS.only (GA _ _ _ _) (by simp;omega)
  have gR:Box Y (w.heap.size+1) [.slice none 0 0,.slice none 0 0,.slice none 0 0,.int .i64 0]:=by rw [hY];exact dR.only (GA _ _ _ _) (by simp;omega)
  have r1:tD Y (QB s.items [id] false) [.slice A5 n5 c5] F5:=by rw [hY];exact UA rA q1 (fun h=>(mF _ h).2.1 rfl)
  have r2:mC Y s.wanted [.slice A2 m2 c2] F2:=by rw [hY];exact UA kA q2 (fun h=>by have h1:=dv.out _ (List.mem_append_right _ (List.mem_append_left _ h));have h2:=dc.out;omega)
  have r7:WA Y (XC s id) [.slice A7 M7 c7] F7:=by rw [hY];exact UA aA o7 n7
  have kz:=pA6 hY;obtain ⟨y0,y1,y2,y3,yf⟩:=dS.a4;obtain ⟨x0,x1,x2,x3,xf⟩:=dO.a4;clear hY fc bc q1 q2 cO cS cR eS B6
  go_upto_region 10 with fail
  rw [<-kz.out];clear y0 y1 y2 y3 yf;clear x0 x1 x2 x3 xf;obtain ⟨y0,y1,y2,y3,yf⟩:=gS.a4;obtain ⟨x0,x1,x2,x3,xf⟩:=gO.a4
  go_cut [] from 55 (fun wx=>∃(g n9 c9:Nat) (F9:List Nat),n9=(WD s id++yF s id).length/\Bw w wx/\Box wx b6 [.slice A5 n5 c5,.slice A2 m2 c2,.slice (some ⟨g,0,none⟩) n9 c9,.int .i64 (s.tests+(M7:Int))]/\Box wx (w.heap.size+1) [.slice none 0 0,.slice none 0 0,.slice none 0 0,.int .i64 0]/\tD wx (QB s.items [id] false) [.slice A5 n5 c5] F5/\mC wx s.wanted [.slice A2 m2 c2] F2/\WA wx (WD s id++yF s id) [.slice (some ⟨g,0,none⟩) n9 c9] F9/\F9.Nodup/\∀b∈F9,b∉F5/\b∉F2/\b≠b6/\w.heap.size+2<=b)
  case first=>
   obtain ⟨bb,ob,rfl,_,hcw⟩:=KB hc ks.out;have dq:Rd aB w (s.best.take j) [.slice (some ⟨bb,ob,none⟩) j c4]:=UI hc (by omega);have kd:(s.best.take j).length<=1048576:=by rw [List.length_take];omega
   have cf:=pA6 (show tC w.heap.size (XI (lt w)) from CC (oK qG (fun b h=>h)));have h7:=xA r7;have D0:Bw Y Y.drew:=(Bw.refl Y).drew;have hq:Bw Y Y.drew:=D0;have kg:s.items.length<=1048576:=by have:=VA HI.out;omega
   have i2:(j:Int)<(m:Int):=by omega
   have i3:(j:Int)+1<=(m:Int):=by omega
   have i4:(j:Int)<=(c4:Int):=by have:=Lc;omega
   have i5:(j:Int)<=(j:Int)+1:=by omega
   have i6:(0:Int)<=(j:Int)+1:=by omega
   have i7:((j:Int)+1).toNat=j+1:=by omega
   have i8:IntKind.i64.wrap ((j:Int)+1)=(j:Int)+1:=IntWalk.i64_in _ (by omega);have i9:(m:Int)<=(c4:Int):=by omega
   have gz:(s.best.take j++s.best.drop (j+1)).length<=32:=by rw [List.length_append,List.length_take,List.length_drop];omega
   have gx:(s.best.take j).length+(s.best.drop (j+1)).length<=32:=by rw [List.length_take,List.length_drop];omega
   have ds:=pA6 gx;have dt:=pA6 gz;have dz:=pA6 (EM HI.out id);have mn:=yB HB.out;have jv:kB (QB s.items (XC s id) true) s.wanted=true:=by unfold kB;rw [OJ HI.out,mn];rfl
   by_cases hcap:c4=j+1
   ·subst hcap;have cx:Rd aB w (s.best.drop (j+1)) [.slice (some ⟨bb,ob,none⟩) 0 0]:=sQ (by rw [List.length_drop];have:=M.out;omega) rfl
    go_region_held3 (fun w'=>w'.cell? ⟨w.heap.size,0,none⟩=some (.slice A n c)/\w'.cell? ⟨w.heap.size,1,none⟩=some vb/\w'.cell? ⟨w.heap.size,2,none⟩=some (.slice (some ⟨bb,ob,none⟩) m (j+1))) (first | with_reducible exact ⟨y0,y1,y2⟩ | with_reducible exact ⟨D0.cell y0,D0.cell y1,D0.cell y2⟩ | with_reducible exact ⟨pK bp s0,pK bp s1,pK bp s2⟩ | go_keep)
     (first
      | (go_at_call 96;refine (pU _ (s.best.take j) _ (dq.bw dA (bf.then hq)) kd).mono ?_;rintro e wA ⟨vA,rfl,⟨⟨FA,oA,fA⟩,gn⟩,bk⟩;have dm:sA Y.heap.size FA:=fA.mono hq.size;(try (have dk:∀c∈FO,c∉FA:=fun c h h2=>absurd (fA.ge c h2) (Nat.not_le.2 (cf.out.lt oO c h));replace oO:=cf.out.bw bk (bf.then hq).size oO));(try (have dj:∀c∈FB,c∉FA:=fun c h h2=>absurd (fA.ge c h2) (Nat.not_le.2 ((aA (B:=0)).lt oB c h));replace oB:=nA bk aA oB));replace y0:=bk.cell y0;replace y1:=bk.cell y1;replace y2:=bk.cell y2;replace hq:=hq.then bk)
      | (go_at_call 98;refine (bAe _ s.items (XC s id) true _ _ (lt w) (fun b h=>Nat.lt_of_lt_of_le h (bf.then hq).size) (gA.step ⟨fun _ h=>h,fun p hp=>Below.cell (bf.then hq) hp⟩ ha) (h7.bw dA hq) kg).mono ?_;rintro e wO ⟨vO,rfl,⟨FO,oO,fO⟩,bn⟩;(try (have dk:∀c∈FO,c∉FA:=fun c h h2=>absurd (fO.ge c h) (Nat.not_le.2 ((aA (B:=0)).lt oA c h2));replace oA:=nA bn aA oA));(try replace bx:=nA bn aA bx);replace y0:=bn.cell y0;replace y1:=bn.cell y1;replace y2:=bn.cell y2;replace hq:=hq.then bn)
      | (go_at_call 97;refine (aAe _ (QB s.items (XC s id) true) s.wanted _ _ (gA.step ⟨fun b hb=>hb.elim (fun h=>cf.out.lt oO b h) (fun h=>Nat.lt_of_lt_of_le h (bf.then hq).size),fun p hp=>rfl⟩ (dK oO)) (hb.bw jA (bf.then hq)) jv).mono ?_;rintro e wB ⟨vB,rfl,⟨FB,oB,fB⟩,bm⟩;(try (have dj:∀c∈FB,c∉FA:=fun c h h2=>absurd (fB.ge c h) (Nat.not_le.2 ((aA (B:=0)).lt oA c h2));replace oA:=nA bm aA oA));(try replace bx:=nA bm aA bx);replace y0:=bm.cell y0;replace y1:=bm.cell y1;replace y2:=bm.cell y2;replace hq:=hq.then bm)
      | (refine wH _ (by rfl) (.tmp 59) (.tmp 64) 26 (by rfl) Y 3 i0 _ 1 8 underlying26 hi ff fg fj rfl (by omega) YA _ (s.best.take j) FA (by rfl) oA dm _ (by rfl) (s.best.drop (j+1)) (cx.bw dA (bf.then hq)) (fun y u h=>⟨h,rfl⟩) (by have:=ds.out;omega) (by have:=ds.out;omega) hq ?_;intro nc nf fn bx fx bg bt gs cq;(try replace oO:=bt.keepsB' cf.out (bf.then hq).size (fun c h=>by have:=dm.ge c h;omega) oO dk);(try replace oB:=bt.keeps aA oB dj);have y0:=(gS.bw bg).c 0 _ rfl;have y1:=(gS.bw bg).c 1 _ rfl;have y2:=(gS.bw bg).c 2 _ rfl;replace hq:=bg)
      | (refine wH _ (by rfl) (.tmp 65) (.tmp 72) 26 (by rfl) Y 3 i0 _ 1 8 underlying26 hi ff fg fj rfl (by omega) YA _ (s.best.take j++s.best.drop (j+1)) fn (by rfl) bx fx _ (by rfl) (yF s id) (xA oB) (fun y u h=>⟨h,rfl⟩) (by have:=dt.out;have:=dz.out;omega) (by have:=dt.out;have:=dz.out;omega) hq ?_;intro nd ng db cd bs bd gc gv ct;rw [<-HJ.out] at cd;obtain ⟨g9,c9,rfl⟩:=mX cd (fun e=>gn (cq (ct e)));obtain ⟨n9,bq⟩:=pA7 ((WD s id++yF s id).length);rw [<-bq] at cd ⊢;have dx:=pA6 bq;clear bq;have eP:=gO.bw bd;have e2:=eP.c 2 _ rfl;have ef:=eP.fr;have s0:=(gS.bw bd).c 0 _ rfl;have s1:=(gS.bw bd).c 1 _ rfl;have s2:=(gS.bw bd).c 2 _ rfl)
      | fail)
    all_goals
     have jc:=(rA (B:=0)).lt r1;have jb:=(kA (B:=0)).lt r2;have mc:b6<Y.heap.size:=gO.lt;have nj:=bf.size;have jg:b6∉F5:=fun h=>(mF _ h).2.1 rfl
     have jf:b6∉F2:=fun h=>by have h1:=dv.out _ (List.mem_append_right _ (List.mem_append_left _ h));have h2:=dc.out;omega
     have bv:b6∉db:=fun h=>by have:=bs.ge _ h;omega
     clear x0 x1 x2 x3 xf;clear y0 y1 y2 y3 yf;clear e2 ef s0 s1 s2 i1 i2 i3 i4 i5 i6 i7 i8 i9;go_wp2_with fail
     go_meet
     exact ⟨g9,n9,c9,db,dx.out,(bf.then bd).set (by dsimp only;omega) _,eP.set (by simp) _,(gR.bw bd).only (GA _ _ _ _) (by simp;omega),UA rA (nA bd rA r1) jg,UA kA (nA bd kA r2) jf,UA aA cd bv,bs.nodup,fun b hb=>⟨fun h=>by have:=bs.ge b hb;have:=jc b h;omega,fun h=>by have:=bs.ge b hb;have:=jb b h;omega,fun e=>bv (e▸hb),by have:=bs.ge b hb;omega⟩⟩
   ·have cx:Rd aB w (s.best.drop (j+1)) [.slice (some ⟨bb,ob+(j+1),none⟩) (m-(j+1)) (c4-(j+1))]:=VI hc (by omega)
    go_region_held3 (fun w'=>w'.cell? ⟨w.heap.size,0,none⟩=some (.slice A n c)/\w'.cell? ⟨w.heap.size,1,none⟩=some vb/\w'.cell? ⟨w.heap.size,2,none⟩=some (.slice (some ⟨bb,ob,none⟩) m (c4))) (first | with_reducible exact ⟨y0,y1,y2⟩ | with_reducible exact ⟨D0.cell y0,D0.cell y1,D0.cell y2⟩ | with_reducible exact ⟨pK bp s0,pK bp s1,pK bp s2⟩ | go_keep)
     (first
      | (go_at_call 96;refine (pU _ (s.best.take j) _ (dq.bw dA (bf.then hq)) kd).mono ?_;rintro e wA ⟨vA,rfl,⟨⟨FA,oA,fA⟩,gn⟩,bk⟩;have dm:sA Y.heap.size FA:=fA.mono hq.size;(try (have dk:∀c∈FO,c∉FA:=fun c h h2=>absurd (fA.ge c h2) (Nat.not_le.2 (cf.out.lt oO c h));replace oO:=cf.out.bw bk (bf.then hq).size oO));(try (have dj:∀c∈FB,c∉FA:=fun c h h2=>absurd (fA.ge c h2) (Nat.not_le.2 ((aA (B:=0)).lt oB c h));replace oB:=nA bk aA oB));replace y0:=bk.cell y0;replace y1:=bk.cell y1;replace y2:=bk.cell y2;replace hq:=hq.then bk)
      | (go_at_call 98;refine (bAe _ s.items (XC s id) true _ _ (lt w) (fun b h=>Nat.lt_of_lt_of_le h (bf.then hq).size) (gA.step ⟨fun _ h=>h,fun p hp=>Below.cell (bf.then hq) hp⟩ ha) (h7.bw dA hq) kg).mono ?_;rintro e wO ⟨vO,rfl,⟨FO,oO,fO⟩,bn⟩;(try (have dk:∀c∈FO,c∉FA:=fun c h h2=>absurd (fO.ge c h) (Nat.not_le.2 ((aA (B:=0)).lt oA c h2));replace oA:=nA bn aA oA));(try replace bx:=nA bn aA bx);replace y0:=bn.cell y0;replace y1:=bn.cell y1;replace y2:=bn.cell y2;replace hq:=hq.then bn)
      | (go_at_call 97;refine (aAe _ (QB s.items (XC s id) true) s.wanted _ _ (gA.step ⟨fun b hb=>hb.elim (fun h=>cf.out.lt oO b h) (fun h=>Nat.lt_of_lt_of_le h (bf.then hq).size),fun p hp=>rfl⟩ (dK oO)) (hb.bw jA (bf.then hq)) jv).mono ?_;rintro e wB ⟨vB,rfl,⟨FB,oB,fB⟩,bm⟩;(try (have dj:∀c∈FB,c∉FA:=fun c h h2=>absurd (fB.ge c h) (Nat.not_le.2 ((aA (B:=0)).lt oA c h2));replace oA:=nA bm aA oA));(try replace bx:=nA bm aA bx);replace y0:=bm.cell y0;replace y1:=bm.cell y1;replace y2:=bm.cell y2;replace hq:=hq.then bm)
      | (refine wH _ (by rfl) (.tmp 59) (.tmp 64) 26 (by rfl) Y 3 i0 _ 1 8 underlying26 hi ff fg fj rfl (by omega) YA _ (s.best.take j) FA (by rfl) oA dm _ (by rfl) (s.best.drop (j+1)) (cx.bw dA (bf.then hq)) (fun y u h=>⟨h,rfl⟩) (by have:=ds.out;omega) (by have:=ds.out;omega) hq ?_;intro nc nf fn bx fx bg bt gs cq;(try replace oO:=bt.keepsB' cf.out (bf.then hq).size (fun c h=>by have:=dm.ge c h;omega) oO dk);(try replace oB:=bt.keeps aA oB dj);have y0:=(gS.bw bg).c 0 _ rfl;have y1:=(gS.bw bg).c 1 _ rfl;have y2:=(gS.bw bg).c 2 _ rfl;replace hq:=bg)
      | (refine wH _ (by rfl) (.tmp 65) (.tmp 72) 26 (by rfl) Y 3 i0 _ 1 8 underlying26 hi ff fg fj rfl (by omega) YA _ (s.best.take j++s.best.drop (j+1)) fn (by rfl) bx fx _ (by rfl) (yF s id) (xA oB) (fun y u h=>⟨h,rfl⟩) (by have:=dt.out;have:=dz.out;omega) (by have:=dt.out;have:=dz.out;omega) hq ?_;intro nd ng db cd bs bd gc gv ct;rw [<-HJ.out] at cd;obtain ⟨g9,c9,rfl⟩:=mX cd (fun e=>gn (cq (ct e)));obtain ⟨n9,bq⟩:=pA7 ((WD s id++yF s id).length);rw [<-bq] at cd ⊢;have dx:=pA6 bq;clear bq;have eP:=gO.bw bd;have e2:=eP.c 2 _ rfl;have ef:=eP.fr;have s0:=(gS.bw bd).c 0 _ rfl;have s1:=(gS.bw bd).c 1 _ rfl;have s2:=(gS.bw bd).c 2 _ rfl)
      | fail)
    all_goals
     have jc:=(rA (B:=0)).lt r1;have jb:=(kA (B:=0)).lt r2;have mc:b6<Y.heap.size:=gO.lt;have nj:=bf.size;have jg:b6∉F5:=fun h=>(mF _ h).2.1 rfl
     have jf:b6∉F2:=fun h=>by have h1:=dv.out _ (List.mem_append_right _ (List.mem_append_left _ h));have h2:=dc.out;omega
     have bv:b6∉db:=fun h=>by have:=bs.ge _ h;omega
     clear x0 x1 x2 x3 xf;clear y0 y1 y2 y3 yf;clear e2 ef s0 s1 s2 i1 i2 i3 i4 i5 i6 i7 i8 i9;go_wp2_with fail
     go_meet
     exact ⟨g9,n9,c9,db,dx.out,(bf.then bd).set (by dsimp only;omega) _,eP.set (by simp) _,(gR.bw bd).only (GA _ _ _ _) (by simp;omega),UA rA (nA bd rA r1) jg,UA kA (nA bd kA r2) jf,UA aA cd bv,bs.nodup,fun b hb=>⟨fun h=>by have:=bs.ge b hb;have:=jc b h;omega,fun h=>by have:=bs.ge b hb;have:=jb b h;omega,fun e=>bv (e▸hb),by have:=bs.ge b hb;omega⟩⟩
  case rest=>
   revert wc
   intro Z cp;obtain ⟨g,n9,c9,F9,bq,BZ,zO,zR,z1,z2,z9,mx,cm⟩:=cp;have mg:=Nat.le_trans (SN s id) ms;have mj:=EM HI.out id;have bc:=lAy Z (WD s id++yF s id) g c9 F9 (by rw [<-bq];exact z9) (by rw [List.length_append];omega);rw [<-bq] at bc;have dx:=pA6 bq;have kx:=pA6 (show SL s id=⟨QB s.items [id] false,s.wanted,kG (WD s id++yF s id),s.tests+(M7:Int)⟩ by rw [HY.out,L7.out]);clear x0 x1 x2 x3 xf;clear y0 y1 y2 y3 yf;obtain ⟨x0,x1,x2,x3,xf⟩:=zO.a4;clear bq mg mj gO gS gR r1 r2 r7;go_wp2_with fail;refine bc.mono ?_;rintro e w11 ⟨rfl,nn,hO,fz⟩;have fs:=zO.only hO (fun h=>(cm _ h).2.2.1 rfl);have ft:=zR.only hO (fun h=>by have:=(cm _ h).2.2.2;omega);have nk:=hO.keeps rA z1 (fun c h h2=>(cm c h2).1 h);have nm:=hO.keeps kA z2 (fun c h h2=>(cm c h2).2.1 h);have kq:=fz w BZ (fun b hb=>by have:=(cm b hb).2.2.2;omega);clear x0 x1 x2 x3 xf;clear bc;obtain ⟨t0,t1,t2,t3,tf⟩:=fs.a4;obtain ⟨r0,r1,r2,r3,rf⟩:=ft.a4;go_wp2;rw [kx.out];refine bodyPost_ret (v:=.tuple #[.agg #[.slice A5 n5 c5,.slice A2 m2 c2,.slice (some ⟨g,0,none⟩) n9 c9,.int .i64 (s.tests+(M7:Int))],.bool true]) (by simp [results,results18,go_sem,t0,t1,t2,t3,r0,r1,r2,r3,cv,dp]) rfl ?_;refine dC (y:=⟨QB s.items [id] false,s.wanted,kG (WD s id++yF s id),s.tests+(M7:Int)⟩) (F:=F5) (G:=F2) (H:=F9) nk nm nn ⟨?_,?_⟩ (by omega) kq
   ·rw [List.nodup_append,List.nodup_append];refine ⟨kp,⟨(List.nodup_append.1 (List.nodup_append.1 fV.nodup).2.1).1,mx,fun a ha b hb e=>(cm b hb).2.1 (e▸ha)⟩,fun a ha b hb e=>?_⟩;rcases List.mem_append.1 hb with hb | hb
    ·exact (mF a ha).1 (List.mem_append_left _ (e▸hb))
    ·exact (cm b hb).1 (e▸ha)
   ·intro b hb;rcases List.mem_append.1 hb with hb | hb
    ·have:=(mF b hb).2.2;omega
    ·rcases List.mem_append.1 hb with hb | hb
     ·have:=fV.ge b (List.mem_append_right _ (List.mem_append_left _ hb));omega
     ·have:=(cm b hb).2.2.2;omega
end Go.Proofs.YtpihighajaeabaaGreat
