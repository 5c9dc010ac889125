/- An item is taken from a standing answer, in the reference. -/
import Derived.Test.YtpihighajaeabaaGreatXExclI
import Derived.Test.YtpihighajaeabaaGreatXStandC
import Derived.Test.YtpihighajaeabaaGreatXDelA
namespace Go.Proofs.YtpihighajaeabaaGreat
open Go.RowKit Go.Proofs.Tryz
set_option linter.all false
set_option maxRecDepth 100000
set_option maxHeartbeats 16000000
theorem SB {w:World} {x:zA} {a b c d:Value} {F:List Nat} (h:GB w x [a,b,c,d] F):∃Fa Fb Fc,tD w x.items [a] Fa/\mC w x.wanted [b] Fb/\WA w x.best [c] Fc/\F=Fa++(Fb++Fc):=by
 obtain ⟨va,vb,vc,Fa,Fb,Fc,e,h1,h2,h3,hF⟩:=h;injection e with e1 e;injection e with e2 e;injection e with e3 e;subst e1 e2 e3;exact ⟨Fa,Fb,Fc,h1,h2,h3,hF⟩
theorem dC {w V:World} {y:zA} {b:Bool} {b0:Nat} {v1 v2 v3:Value} {F G H:List Nat} {a0 a1 a2 a3:Value} (h1:tD V y.items [v1] F) (h2:mC V y.wanted [v2] G) (h3:WA V y.best [v3] H) (f:sA (b0+1) (F++(G++H))) (hb0:w.heap.size<=b0) (B:Bw w V) :
  WB w (JK GB w.heap.size y (.bool b)) (.returned (.tuple #[.agg #[v1,v2,v3,.int .i64 y.tests],.bool b])) (nA9 V b0 a0 a1 a2 a3):=by
 have n1:b0∉F:=fun h=>by have:=f.ge b0 (List.mem_append_left _ h);omega
 have n2:b0∉G:=fun h=>by have:=f.ge b0 (List.mem_append_right _ (List.mem_append_left _ h));omega
 have n3:b0∉H:=fun h=>by have:=f.ge b0 (List.mem_append_right _ (List.mem_append_right _ h));omega
 exact ⟨_,rfl,⟨[v1,v2,v3,.int .i64 y.tests],rfl,F++(G++H),⟨_,_,_,F,G,H,rfl,KJ rA h1 n1,KJ kA h2 n2,KJ aA h3 n3,rfl⟩,f.mono (by omega)⟩,B.set4 hb0⟩
theorem pAa {w:World} {x:zA} {cs:List Value} {F:List Nat} (h:GB w x cs F):∃A1 m1 c1 A2 m2 c2 A3 m3 c3 F1 F2 F3,cs=[.slice A1 m1 c1,.slice A2 m2 c2,.slice A3 m3 c3,.int .i64 x.tests]/\F=F1++(F2++F3)/\Hid (m1=x.items.length)/\Hid (m2=x.wanted.length)/\Hid (m3=x.best.length)/\tD w x.items [.slice A1 m1 c1] F1/\mC w x.wanted [.slice A2 m2 c2] F2/\WA w x.best [.slice A3 m3 c3] F3:=by
 obtain ⟨A1,c1,A2,c2,A3,c3,rfl⟩:=LB h;obtain ⟨F1,F2,F3,o1,o2,o3,rfl⟩:=SB h;exact ⟨A1,_,c1,A2,_,c2,A3,_,c3,F1,F2,F3,rfl,rfl,rfl,rfl,rfl,o1,o2,o3⟩
theorem pAf (w:World) (v0 v1 v2 v3:Value) (t:TypeId):∃W0,Hid (W0=(w.alloc (.cells #[v0,v1,v2,v3] t)).alloc (.cells #[.slice none 0 0,.slice none 0 0,.slice none 0 0,.int .i64 0] t))/\Bw w W0/\Box W0 w.heap.size [v0,v1,v2,v3]/\Box W0 (w.heap.size+1) [.slice none 0 0,.slice none 0 0,.slice none 0 0,.int .i64 0]/\W0.heap.size=w.heap.size+2:=by
 have e:(w.alloc (.cells #[v0,v1,v2,v3] t)).heap.size=w.heap.size+1:=by simp
 refine ⟨_,rfl,((Bw.refl w).alloc _).alloc _,(Box.new w #[v0,v1,v2,v3] t).bw ((Bw.refl _).alloc _),?_,by simp⟩;have h:=Box.new (w.alloc (.cells #[v0,v1,v2,v3] t)) #[.slice none 0 0,.slice none 0 0,.slice none 0 0,.int .i64 0] t;rw [e] at h;exact h
theorem pAe (w:World) (v0 v1 v2 v3 x0 x1:Value) (t t':TypeId):∃W0,Hid (W0=((w.alloc (.cells #[v0,v1,v2,v3] t)).alloc (.cells #[x0,x1] t')).alloc (.cells #[.slice none 0 0,.slice none 0 0,.slice none 0 0,.int .i64 0] t))/\Bw w W0/\Box W0 w.heap.size [v0,v1,v2,v3]/\Box W0 (w.heap.size+1) [x0,x1]/\Box W0 (w.heap.size+1+1) [.slice none 0 0,.slice none 0 0,.slice none 0 0,.int .i64 0]/\W0.heap.size=w.heap.size+3:=by
 have e:(w.alloc (.cells #[v0,v1,v2,v3] t)).heap.size=w.heap.size+1:=by simp
 have e2:((w.alloc (.cells #[v0,v1,v2,v3] t)).alloc (.cells #[x0,x1] t')).heap.size=w.heap.size+1+1:=by simp
 have h:=Box.new (w.alloc (.cells #[v0,v1,v2,v3] t)) #[x0,x1] t';have h2:=Box.new ((w.alloc (.cells #[v0,v1,v2,v3] t)).alloc (.cells #[x0,x1] t')) #[.slice none 0 0,.slice none 0 0,.slice none 0 0,.int .i64 0] t;rw [e] at h;rw [e2] at h2;exact ⟨_,rfl,(((Bw.refl w).alloc _).alloc _).alloc _,(Box.new w #[v0,v1,v2,v3] t).bw (((Bw.refl _).alloc _).alloc _),h.bw ((Bw.refl _).alloc _),h2,by simp⟩
theorem pAd {w W0 w1:World} (A:Bw w W0) (B:Bw W0 w1) (v0 v1 v2 v3:Value) (t:TypeId):∃V,Hid (V=w1.alloc (.cells #[v0,v1,v2,v3] t))/\Bw w1 V/\Box V w1.heap.size [v0,v1,v2,v3]/\V.heap.size=w1.heap.size+1/\Bw w V/\Bw W0 V:=
 ⟨_,rfl,(Bw.refl w1).alloc _,Box.new w1 #[v0,v1,v2,v3] t,by simp,(A.then B).alloc _,B.alloc _⟩
theorem KU (w:World) (s:zA) (x:iA) (va vb vc u:Value) (ha:Rd LA w s.items [va]) (hb:Rd OA w s.wanted [vb]) (hc:Rd aB w s.best [vc]) (hx:Rd aB w x.vals [u]) (t1:jC s.items<=1048576) (t2:sB s.wanted<=1048576) (t3:s.best.length<=1048576) (hno:XE s x=false) :
  Calls prog 12 #[.agg #[va,vb,vc,.int .i64 s.tests],.agg #[.int .i64 x.id,u]] w (WB w (JK GB w.heap.size s (.bool false))):=by
 obtain ⟨A,n,c,rfl,L,Lc,Lm⟩:=yA ha;obtain ⟨B,m,c4,rfl,M,Mc,Mm⟩:=yA hc;obtain ⟨W0,ck,A0,bS,bX,bR,z0⟩:=pAe w (.slice A n c) vb (.slice B m c4) (.int .i64 s.tests) (.int .i64 x.id) u 28 30;have bk:=rI W0 s _ vb _ (ha.bw gA A0) (hb.bw jA A0) (hc.bw dA A0) t1 t2 t3;go_enter func12,ntmps12;go_wp2_with fail;rw [<-ck.out];refine bk.mono ?_;rintro e w1 ⟨cs,F0,rfl,oS,fS,bx⟩;have lS:=(NB (B:=0)).lt oS;obtain ⟨A1,m1,c1,A2,m2,c2,A3,m3,c3,F1,F2,F3,rfl,rfl,bp,bq,bs,o1,o2,o3⟩:=pAa oS;dsimp only;obtain ⟨V,HV,bt,bO,zV,BV,bn⟩:=pAd A0 bx (.slice A1 m1 c1) (.slice A2 m2 c2) (.slice A3 m3 c3) (.int .i64 s.tests) 28;replace bS:=bS.bw bn;replace bX:=bX.bw bn;replace bR:=bR.bw bn;have bv:=bS;rw [HV.out] at bv;obtain ⟨y0,y1,y2,y3,yf⟩:=bv.a4;clear bv;go_wp2_with fail;have zw:w.heap.size+3<=w1.heap.size:=by have:=bx.size;omega
 replace o1:=nA bt rA o1;replace o2:=nA bt kA o2;replace o3:=nA bt aA o3;have fV:sA (w.heap.size+3) (F1++(F2++F3)):=fS.mono (by omega);have HLS:=pA6 lS;have k1:=pA6 (fun W (B:Bw V W)=>sG W s _ vb _ (ha.bw gA (BV.then B)) (hb.bw jA (BV.then B)) (hc.bw dA (BV.then B)));have k2:=pA6 (fun W (B:Bw V W)=>XG W x u (hx.bw dA (BV.then B)));have k3:=pA6 (fun W (B:Bw V W)=>gD W s.items x.id _ (ha.bw gA (BV.then B)));obtain ⟨b6,bz⟩:=pA7 w1.heap.size;rw [<-bz] at bO zV zw;have cj:=pA6 bz;rw [<-HV.out,<-cj.out];clear oS fS bk bx A0 bz lS bn;clear y0 y1 y2 y3 yf;refine (k1.out _ (Bw.refl V)).mono ?_;rintro e w2 ⟨rfl,bj⟩;rcases pA8 (JB s) with e1 | e1
 ·have E1:=pA6 e1;rw [e1];clear e1;have cb:=bS.bw bj;have cf:=bX.bw bj;obtain ⟨y0,y1,y2,y3,yf⟩:=cb.a4;obtain ⟨x0,x1,xf⟩:=cf.a2;have bb:=k2.out _ bj;clear cb cf;go_wp2_with fail;refine bb.mono ?_;rintro e w3 ⟨rfl,cm⟩;have bg:=bj.then cm;clear y0 y1 y2 y3 yf;clear x0 x1 xf;rcases pA8 (gB x) with e2 | e2
  ·have E2:=pA6 e2;rw [e2];clear e2;have cc:=bS.bw bg;have cg:=bX.bw bg;obtain ⟨y0,y1,y2,y3,yf⟩:=cc.a4;obtain ⟨x0,x1,xf⟩:=cg.a2;have bb:=k3.out _ bg;obtain ⟨K,hK⟩:=pA7 (rB s.items x.id);rw [<-hK] at bb;have HK:=pA6 hK;clear cc cg hK;go_wp2_with fail;refine bb.mono ?_;rintro e w4 ⟨rfl,cn⟩;have bc:=bg.then cn;clear y0 y1 y2 y3 yf;clear x0 x1 xf;by_cases hK0:0<=K
   ·clear hno;have bf:=bR.bw bc;have bd:=bO.bw bc;obtain ⟨r0,r1,r2,r3,rf⟩:=bf.a4;obtain ⟨q0,q1,q2,q3,qf⟩:=bd.a4;have bm:=BV.then bc;have p1:=nA bc rA o1;have p2:=nA bc kA o2;have p3:=nA bc aA o3;clear bf bd o1 o2 o3 bR bO;go_wp2;rw [bp.out] at p1 ⊢;rw [bq.out] at p2 ⊢;rw [bs.out] at p3 ⊢;refine bodyPost_ret (v:=.tuple #[.agg #[.slice A1 s.items.length c1,.slice A2 s.wanted.length c2,.slice A3 s.best.length c3,.int .i64 s.tests],.bool false]) (by simp [results,results12,go_sem,r0,r1,r2,r3]) rfl (dC p1 p2 p3 (fV.mono (by omega)) (by omega) bm)
   ·have hK1:¬(0:Int)<=K:=hK0;by_cases hn16:16<=n;rotate_left
    focus
     have cp:¬(16:Int)<=(n:Int):=by omega
     have ht0:999900<s.tests:=by
      rcases Decidable.em (999900<s.tests) with h | h
      ·exact h
      ·exfalso
       have h2:XE s x=true:=by
        unfold XE;rw [E1.out,E2.out,decide_eq_true (show rB s.items x.id<0 by rw [<-HK.out];omega),decide_eq_true (show s.items.length<16 by rw [<-L.out];omega),decide_eq_true (show s.tests<=999900 by omega)];rfl
       rw [h2] at hno;cases hno
    rotate_right
    focus
     have cp:(16:Int)<=(n:Int):=by omega
    all_goals
     have cd:=bS.bw bc;obtain ⟨y0,y1,y2,y3,yf⟩:=cd.a4;clear hno cd;have bf:=bR.bw bc;have bd:=bO.bw bc;obtain ⟨r0,r1,r2,r3,rf⟩:=bf.a4;obtain ⟨q0,q1,q2,q3,qf⟩:=bd.a4;have bm:=BV.then bc;have p1:=nA bc rA o1;have p2:=nA bc kA o2;have p3:=nA bc aA o3;clear bf bd o1 o2 o3 bR bO;go_wp2;rw [bp.out] at p1 ⊢;rw [bq.out] at p2 ⊢;rw [bs.out] at p3 ⊢;refine bodyPost_ret (v:=.tuple #[.agg #[.slice A1 s.items.length c1,.slice A2 s.wanted.length c2,.slice A3 s.best.length c3,.int .i64 s.tests],.bool false]) (by simp [results,results12,go_sem,r0,r1,r2,r3]) rfl (dC p1 p2 p3 (fV.mono (by omega)) (by omega) bm)
  ·rw [e2];clear e2 hno;have bf:=bR.bw bg;have bd:=bO.bw bg;obtain ⟨r0,r1,r2,r3,rf⟩:=bf.a4;obtain ⟨q0,q1,q2,q3,qf⟩:=bd.a4;have bm:=BV.then bg;have p1:=nA bg rA o1;have p2:=nA bg kA o2;have p3:=nA bg aA o3;clear bf bd o1 o2 o3 bR bO;go_wp2;rw [bp.out] at p1 ⊢;rw [bq.out] at p2 ⊢;rw [bs.out] at p3 ⊢;refine bodyPost_ret (v:=.tuple #[.agg #[.slice A1 s.items.length c1,.slice A2 s.wanted.length c2,.slice A3 s.best.length c3,.int .i64 s.tests],.bool false]) (by simp [results,results12,go_sem,r0,r1,r2,r3]) rfl (dC p1 p2 p3 (fV.mono (by omega)) (by omega) bm)
 ·rw [e1];clear e1 hno;have bf:=bR.bw bj;have bd:=bO.bw bj;obtain ⟨r0,r1,r2,r3,rf⟩:=bf.a4;obtain ⟨q0,q1,q2,q3,qf⟩:=bd.a4;have bm:=BV.then bj;have p1:=nA bj rA o1;have p2:=nA bj kA o2;have p3:=nA bj aA o3;clear bf bd o1 o2 o3 bR bO;go_wp2;rw [bp.out] at p1 ⊢;rw [bq.out] at p2 ⊢;rw [bs.out] at p3 ⊢;refine bodyPost_ret (v:=.tuple #[.agg #[.slice A1 s.items.length c1,.slice A2 s.wanted.length c2,.slice A3 s.best.length c3,.int .i64 s.tests],.bool false]) (by simp [results,results12,go_sem,r0,r1,r2,r3]) rfl (dC p1 p2 p3 (fV.mono (by omega)) (by omega) bm)
theorem oT (w:World) (s:zA) (x:iA) (va vb vc u:Value) (ha:Rd LA w s.items [va]) (hb:Rd OA w s.wanted [vb]) (hc:Rd aB w s.best [vc]) (hx:Rd aB w x.vals [u]) (t1:jC s.items<=1048576) (t2:sB s.wanted<=1048576) (t3:s.best.length<=1048576) (hok:XE s x=true) :
  Calls prog 12 #[.agg #[va,vb,vc,.int .i64 s.tests],.agg #[.int .i64 x.id,u]] w (WB w (JK GB w.heap.size (zG s x) (.bool true))):=by
 obtain ⟨i0,hi,jd,jf,jg⟩:=info_parts xC;obtain ⟨E1,E2,jz,h16,hts⟩:=qI hok;have HB:=pA6 (wC E1).1;have HI:=pA6 (AA HB.out);have hts0:=(mI E1).1;have hml:=iE E1;obtain ⟨A,n,c,rfl,L,Lc,Lm⟩:=yA ha;obtain ⟨B,m,c4,rfl,M,Mc,Mm⟩:=yA hc;obtain ⟨W0,jj,A0,bS,bX,bR,z0⟩:=pAe w (.slice A n c) vb (.slice B m c4) (.int .i64 s.tests) (.int .i64 x.id) u 28 30;have bn:=rI W0 s _ vb _ (ha.bw gA A0) (hb.bw jA A0) (hc.bw dA A0) t1 t2 t3;go_enter func12,ntmps12;go_wp2_with fail;rw [<-jj.out];refine bn.mono ?_;rintro e w1 ⟨cs,F0,rfl,oS,fS,dx⟩;have lS:=(NB (B:=0)).lt oS;obtain ⟨A1,m1,c1,A2,m2,c2,A3,m3,c3,F1,F2,F3,rfl,rfl,HM1,HM2,HM3,o1,o2,o3⟩:=pAa oS;dsimp only;obtain ⟨V,HV,cn,bO,zV,BV,cp⟩:=pAd A0 dx (.slice A1 m1 c1) (.slice A2 m2 c2) (.slice A3 m3 c3) (.int .i64 s.tests) 28;replace bS:=bS.bw cp;replace bX:=bX.bw cp;replace bR:=bR.bw cp;have dk:=bS;rw [HV.out] at dk;obtain ⟨y0,y1,y2,y3,yf⟩:=dk.a4;clear dk;go_wp2_with fail;have zw:w.heap.size+3<=w1.heap.size:=by have:=dx.size;omega
 replace o1:=nA cn rA o1;replace o2:=nA cn kA o2;replace o3:=nA cn aA o3;have fV:sA (w.heap.size+3) (F1++(F2++F3)):=fS.mono (by omega);have fn:=pA6 lS;have k1:=pA6 (fun W (B:Bw V W)=>sG W s _ vb _ (ha.bw gA (BV.then B)) (hb.bw jA (BV.then B)) (hc.bw dA (BV.then B)));have k2:=pA6 (fun W (B:Bw V W)=>XG W x u (hx.bw dA (BV.then B)));have k3:=pA6 (fun W (B:Bw V W)=>gD W s.items x.id _ (ha.bw gA (BV.then B)));obtain ⟨b6,dz⟩:=pA7 w1.heap.size;rw [<-dz] at bO zV zw;have bs:=pA6 dz;rw [<-HV.out,<-bs.out];clear oS fS bn dx A0 dz lS cp;clear y0 y1 y2 y3 yf;refine (k1.out _ (Bw.refl V)).mono ?_;rintro e w2 ⟨rfl,cb⟩;rw [E1];have gd:=bS.bw cb;have gj:=bX.bw cb;obtain ⟨y0,y1,y2,y3,yf⟩:=gd.a4;obtain ⟨x0,x1,xf⟩:=gj.a2;have bc:=k2.out _ cb;rw [E2] at bc;clear gd gj;go_wp2_with fail;refine bc.mono ?_;rintro e w3 ⟨rfl,gn⟩;have bz:=cb.then gn;clear y0 y1 y2 y3 yf;clear x0 x1 xf;have gf:=bS.bw bz;have gm:=bX.bw bz;obtain ⟨y0,y1,y2,y3,yf⟩:=gf.a4;obtain ⟨x0,x1,xf⟩:=gm.a2;have bc:=k3.out _ bz;obtain ⟨K,hK⟩:=pA7 (rB s.items x.id);rw [<-hK] at bc jz;have HK:=pA6 hK;clear gf gm hK;go_wp2_with fail;refine bc.mono ?_;rintro e w4 ⟨rfl,gp⟩;have ds:=bz.then gp;clear y0 y1 y2 y3 yf;clear x0 x1 xf;have gg:=bS.bw ds;obtain ⟨y0,y1,y2,y3,yf⟩:=gg.a4;have hK1:¬(0:Int)<=K:=by omega
 have hn1:¬(16:Int)<=(n:Int):=by have:=L.out;omega
 have ht1:¬(999900:Int)<s.tests:=by omega
 have gz:=MA (e:=3) (sz:=1) (R:=IF) w4;have B5:Bw V (w4.alloc (.cells #[] 3)):=ds.alloc _;have kf:=ds.size;have fq:=pA6 E1;have fm:=pA6 E2;have HA:=pA6 ha;have HC:=pA6 hc;have hm16:m<=16:=by have:=M.out;omega
 clear gg bc k1 k2 k3 hok E1 E2 cb gn gp bz ha hc;go_wp2
 go_loopg [7,8,9] m (fun g s7 s8 s9 w'=>∃(k:Nat) (F:List Nat),k<=m/\g=m-k/\s9=.int .i64 k/\s8=.bool (!lG s x k)/\WA w' (nD s x k) [s7] F/\sA V.heap.size F/\Bw V w')
 ·exact ⟨0,[w4.heap.size],by omega,rfl,rfl,rfl,gz,⟨by simp,by simpa using kf⟩,B5⟩
 ·clear y0 y1 y2 y3 yf;clear gz B5;obtain ⟨k,F,hk,rfl,rfl,rfl,hv,hF,bt⟩:=hrel;obtain ⟨Q,hQ⟩:=pA7 (lG s x k);rw [<-hQ];have HQ:=pA6 hQ;have db:=pA6 (rQ s x k);clear hQ;have dm:=bS.bw bt;have dp:=bX.bw bt;obtain ⟨y0,y1,y2,y3,yf⟩:=dm.a4;obtain ⟨z0,z1,zf⟩:=dp.a2;have bg:=BV.then bt;by_cases hlt:k<m
  ·obtain ⟨d,hd⟩:=tA (xs:=s.best) (k:=k) (by have:=M.out;omega);obtain ⟨bb,ob,rfl,_,fc⟩:=KB (HC.out.bw dA bg) hd;have ff:=List.mem_of_getElem? hd;obtain ⟨bA,oA,rfl⟩:∃b o,A=some ⟨b,o,none⟩:=by
    obtain ⟨y,hy,_⟩:=lI fq.out ff;obtain ⟨k',kb⟩:=List.mem_iff_getElem?.1 hy;obtain ⟨b,o,A2,c2,e,_⟩:=qB HA.out kb;exact ⟨b,o,e⟩
   obtain ⟨kd,Ad,cd,gs,gx,gv,cg,cj,ck⟩:=BM HA.out L.out HI.out (lI fq.out ff);have i1:(0:Int)<=(k:Int):=by omega
   have i2:(k:Int)<(m:Int):=by omega
   have s0:=pA y0;have s1:=pA y1;have s2:=pA y2;have s3:=pA fc;have s4:=pA z0;have s5:=pA z1;have c8:∀q:eC wr,Calls prog 86 #[.slice (some ⟨bA,oA,none⟩) n c,.int .i64 d] q.1 (Ret q.1 (.agg #[.int .i64 (VB s.items d).id,.slice Ad 3 cd])):=fun q=>IR q.1 s.items d bA oA n c kd (VB s.items d) Ad 3 cd (HA.out.bw gA (bg.then q.bw)) gs gx ((bg.then q.bw).cell cg) ((bg.then q.bw).cell cj)
   have c5:∀q:eC wr,Calls prog 85 #[vb,.agg #[.int .i64 (VB s.items d).id,.slice Ad 3 cd],.agg #[.int .i64 x.id,u]] q.1 (Ret q.1 (.int .i64 (zC s.wanted (VB s.items d) x))):=fun q=>pG q.1 s.wanted (VB s.items d) x _ _ _ (hb.bw jA (bg.then q.bw)) (ck.bw dA (bg.then q.bw)) (hx.bw dA (bg.then q.bw)) (yB HB.out) gv fm.out
   have bm:=pA6 (lU (x:=x) hd);have bx:=pA6 (fun h=>jX (x:=x) hd h);have bv:=pA6 (fun h=>LZ (x:=x) hd h);obtain ⟨y,hy⟩:=pA7 (VB s.items d);rw [<-hy] at c8 c5 bm bx bv;obtain ⟨r,hr⟩:=pA7 (zC s.wanted y x);rw [<-hr] at c5 bm bx bv;clear hd ff gs gx gv cg cj ck hy hr;go_wp2_with fail;refine IA (by kernel_rfl) ?_
   repeat (first | go_big_quiet_skip | (go_big_quiet_want;go_big_quiet_op;first | go_big_quiet_on | (apply Exists.intro;refine ⟨fun _=>?_,?_⟩;(· (((first | (go_at_call 86;exact DA (c8 _)) | (go_at_call 85;exact DA (c5 _))))));go_big_quiet_on)))
   refine JA fun wq hbq=>?_
   try dsimp only at *
   have bj:=bt.then hbq;have cx:=nA hbq aA hv;have jp:=bS.bw bj;have hcdq:=hbq.cell fc;clear s0 s1 s2 s3 s4 s5 c8 c5 hv fc dm dp;clear y0 y1 y2 y3 yf;clear z0 z1 zf;obtain ⟨y0,y1,y2,y3,yf⟩:=jp.a4;rw [<-HQ.out] at bm;by_cases r2:r = -1
   ·subst r2;have cq:=pA6 (show lG s x (k+1)=Q by rw [bm.out];simp);have dc:=pA6 (bv.out rfl);clear bv bx bm
    cases Q
    all_goals
     clear HQ;go_wp2
     go_roundg (m-(k+1))
     ·exact ⟨k+1,F,by omega,rfl,by go_num,by (have cf:=cq.out;first | (simp [cf];done) | (simp [cf];omega)),by rw [dc.out];exact cx,hF,bj⟩
     ·omega
   have dc:=pA6 (bx.out r2);by_cases r1:r=1
   focus
    subst r1;have cq:=pA6 (show lG s x (k+1)=true by rw [bm.out];simp);clear r2
   rotate_left
   focus
    have cq:=pA6 (show lG s x (k+1)=Q by rw [bm.out];simp [r1]);have e1:(r==1)=false:=by simpa using r1
    have e2:(r==-1)=false:=by simpa using r2
   rotate_right
   all_goals
    clear bv bx bm
    cases Q
    all_goals
     clear HQ;have dv:=(aA (B:=0)).lt cx;have kk:=nA ((Bw.refl wq).alloc (.cells #[.int .i64 d] 3)) aA cx;have jv:=bj.alloc (.cells #[.int .i64 d] 3);have fd:=cell_one_new wq (.int .i64 d) 3;have jx:=bj.size;clear cx;go_wp2_with (at_builtin;refine lB _ rfl (.tmp 68) (.tmp 74) 26 rfl V 3 i0 _ 1 8 underlying26 hi jd jf jg rfl (by omega) YA _ (nD s x k) F rfl kk hF ⟨wq.heap.size,0,none⟩ 1 rfl d [.int .i64 d] [] fd ⟨rfl,rfl⟩ rfl _ dv sA.nil jx (by have:=db.out;omega) (by have:=db.out;omega) jv ?_;intro v' w' F' kj dt jt)
     go_roundg (m-(k+1))
     ·exact ⟨k+1,F',by omega,rfl,by go_num,by (have cf:=cq.out;first | (simp [cf];done) | (simp [cf];omega)),by rw [dc.out];exact kj,dt,jt⟩
     ·omega
  ·obtain rfl:k=m:=by omega
   have i4:(k:Int)<=16:=by omega
   obtain ⟨A7,L7,c7,rfl,l7,_⟩:=qA (xA hv);replace l7:=pA6 l7;have bc:=mA0 wr s.items x _ u (HA.out.bw gA bg) (hx.bw dA bg) (by omega) (fun y hy=>by rw [jB (TA HI.out hy)];omega) (by rw [jB fm.out];omega);clear dm dp;go_wp2_with fail;refine bc.mono ?_;rintro e w5 ⟨v5,rfl,⟨F5,o5,f5⟩,gq⟩;obtain ⟨A5,n5,c5,rfl,l5,_⟩:=qA (pC o5);replace l5:=pA6 l5;have bd:=bt.then gq;have jn:=bS.bw bd;have dn:=bX.bw bd;have dj:=bR.bw bd;have dd:=bO.bw bd;clear y0 y1 y2 y3 yf;clear z0 z1 zf;obtain ⟨y0,y1,y2,y3,yf⟩:=jn.a4;obtain ⟨q0,q1,q2,q3,qf⟩:=dd.a4;have js:=BV.then bd;have zk:=bt.size;have zk5:=bd.size;have kn:=(aA (B:=0)).lt hv;have jb:=nA gq aA hv;clear bc hv;obtain ⟨X1,bf⟩:=pA7 ((w5.setCell ⟨b6,0,none⟩ (.slice A5 n5 c5)).setCell ⟨b6,3,none⟩ (.int .i64 (s.tests+(k:Int))));have bk:Bw w X1:=by rw [bf];exact (js.set (by dsimp only;omega) _).set (by dsimp only;omega) _
   have U1:Bw w1 X1:=by rw [bf];exact ((cn.then bd).set (p:=⟨b6,0,none⟩) (by have:=bs.out;dsimp only;omega) _).set (p:=⟨b6,3,none⟩) (by have:=bs.out;dsimp only;omega) _
   have ft:Box X1 b6 [.slice A5 n5 c5,.slice A2 m2 c2,.slice A3 m3 c3,.int .i64 (s.tests+(k:Int))]:=by rw [bf];exact (dd.set (by simp) _).set (by simp) _
   have kp:b6∉[b6]->False:=by simp
   have fz:Box X1 (w.heap.size+1+1) [.slice none 0 0,.slice none 0 0,.slice none 0 0,.int .i64 0]:=by rw [bf];exact (dj.only (GA _ _ _ _) (by simp;omega)).only (GA _ _ _ _) (by simp;omega)
   have jq:Box X1 (w.heap.size+1) [.int .i64 x.id,u]:=by rw [bf];exact (dn.only (GA _ _ _ _) (by simp;omega)).only (GA _ _ _ _) (by simp;omega)
   have g5:∀c∈F5,V.heap.size<=c:=fun c hc=>by have:=f5.ge c hc;omega
   have o6:tD X1 (oG s.items x) [.slice A5 n5 c5] F5:=by rw [bf];exact UA rA (UA rA o5 (fun h=>by have:=g5 _ h;omega)) (fun h=>by have:=g5 _ h;omega)
   have v6:WA X1 (nD s x k) [.slice A7 L7 c7] F:=by rw [bf];exact UA aA (UA aA jb (fun h=>by have:=hF.ge _ h;omega)) (fun h=>by have:=hF.ge _ h;omega)
   have cv:=fn.out;rw [<-bs.out] at cv;have n2:b6∉F2:=fun h=>by have:=cv b6 (List.mem_append_right _ (List.mem_append_left _ h));omega
   have n3:b6∉F3:=fun h=>by have:=cv b6 (List.mem_append_right _ (List.mem_append_right _ h));omega
   have p2:mC X1 s.wanted [.slice A2 m2 c2] F2:=by rw [bf];exact UA kA (UA kA (nA bd kA o2) n2) n2
   have p3:WA X1 s.best [.slice A3 m3 c3] F3:=by rw [bf];exact UA aA (UA aA (nA bd aA o3) n3) n3
   have zX:X1.heap.size=w5.heap.size:=by rw [bf];simp
   have fs:=pA6 bf;have ct:=pA6 (show s.best.length=k from M.out.symm);have fp:=pA6 (show Q=lG s x s.best.length by rw [HQ.out,ct.out]);have kc:b6≠w.heap.size/\b6≠w.heap.size+1/\b6≠w.heap.size+1+1:=by omega
   obtain ⟨fg,fj,cm⟩:=kc;have hne4:=fg.symm;have hne5:=fj.symm;have fk:=cm.symm;obtain ⟨r0,r1,r2,r3,rf⟩:=dj.a4;obtain ⟨z0,z1,zf⟩:=dn.a2;have dq:sA (w.heap.size+3) (F2++F3):=⟨(List.nodup_append.1 fV.nodup).2.1,fun b hb=>fV.ge b (List.mem_append_right _ hb)⟩;have cz:∀c∈F2++F3,c<b6:=fun c hc=>by have:=fn.out c (List.mem_append_right _ hc);have:=bs.out;omega
   have fE:sA (w.heap.size+1+1+1) (F5++(F2++F3)):=⟨List.nodup_append.2 ⟨f5.nodup,dq.nodup,fun a ha b hb e=>by have:=g5 a ha;have:=cz b hb;omega⟩,fun b hb=>(List.mem_append.1 hb).elim (fun h=>by have:=g5 b h;omega) (fun h=>by have:=dq.ge b h;omega)⟩;clear bf o5 jb dj dn kp cv dd dq
   cases Q with
   | true=>
    have HY:=pA6 (show zG s x=⟨oG s.items x,s.wanted,s.best,s.tests+(k:Int)⟩ by unfold zG;rw [<-fp.out,ct.out];rfl);have HL5:=pA6 (l5.out);clear ft jq v6;go_wp2;rw [<-fs.out,HY.out];obtain ⟨t0,t1,t2,t3,tf⟩:=fz.a4;refine bodyPost_ret (v:=.tuple #[.agg #[.slice A5 n5 c5,.slice A2 m2 c2,.slice A3 m3 c3,.int .i64 (s.tests+(k:Int))],.bool true]) (by simp [results,results12,go_sem,t0,t1,t2,t3]) rfl ?_;exact dC (y:=⟨oG s.items x,s.wanted,s.best,s.tests+(k:Int)⟩) o6 p2 p3 fE (by omega) bk
   | false=>
    have HY:=pA6 (show zG s x=⟨oG s.items x,s.wanted,kG (nD s x k++[x.id]),s.tests+(k:Int)⟩ by unfold zG;rw [<-fp.out,ct.out];rfl);have AW:=(Bw.refl X1).alloc (.cells #[.int .i64 x.id] 3);have vW:=nA AW aA v6;have UW:=U1.then AW;have dv:=(aA (B:=0)).lt v6;have fd:=cell_one_new X1 (.int .i64 x.id) 3;have dt:sA w1.heap.size F:=hF.mono (by have:=bs.out;omega);have kt:w1.heap.size<=X1.heap.size:=U1.size;have fv:=ft.bw AW;have gb:=fz.bw AW;have q6:=nA AW rA o6;have q2:=nA AW kA p2;have bp:=pA6 (show (nD s x k).length<=16 by have:=db.out;have:=ct.out;omega);go_wp2_with (at_builtin;rw [<-fs.out];refine iC _ rfl (.tmp 89) (.tmp 92) 26 rfl w1 3 i0 _ 1 8 underlying26 hi jd jf jg rfl (by omega) YA _ (nD s x k) F (by first | rfl | (go_simp;done)) vW dt ⟨X1.heap.size,0,none⟩ 1 (by first | rfl | (go_simp;done)) x.id [.int .i64 x.id] [] fd ⟨rfl,rfl⟩ rfl X1.heap.size dv sA.nil kt (by have:=bp.out;omega) (by have:=bp.out;omega) UW ?_;intro v8 w8 F8 jc hF8 fb bq kg);have bc:=eAg w8 (nD s x k++[x.id]) v8 (xA jc) (by have:=bp.out;simp;omega);have fx:=fv.only bq (fun h=>by have:=hF.ge _ h;omega);have gc:=gb.only bq (fun h=>by have:=hF.ge _ h;omega);have q7:=bq.keeps rA q6 (fun c hc h=>by have:=f5.ge c hc;have:=kn c h;omega);have q3:=bq.keeps kA q2 (fun c hc h=>by have:=cz c (List.mem_append_left _ hc);have:=hF.ge c h;omega)
    have km:=(rA (B:=0)).lt q7;refine bc.mono ?_;rintro e w9 ⟨v9,rfl,⟨F9,o9,f9⟩,cc⟩;obtain ⟨A9,n9,c9,rfl,l9,_⟩:=qA (xA o9);replace l9:=pA6 l9;have jk:=fx.bw cc;have jm:=gc.bw cc;have q8:=nA cc rA q7;have q4:=nA cc kA q3;have z8:X1.heap.size<=w8.heap.size:=by have:=bq.1;simp at this;omega
    have kq:Bw w w8:=⟨fb.os.trans (by have h1:=U1.os;have h2:=bk.os;exact h1.symm.trans h2),fb.tape.trans (by have h1:=U1.tape;have h2:=bk.tape;exact h1.symm.trans h2),fb.output.trans (by have h1:=U1.output;have h2:=bk.output;exact h1.symm.trans h2),by have:=bk.size;omega,fun c hc=>by
     have h1:=bq.2 c (by have:=bk.size;simp;omega) (fun h=>by have:=hF.ge c h;omega);rw [h1,Below.heap_alloc _ _ _ (by have:=bk.size;omega)];exact Below.block bk c hc⟩
    have ks:=kq.then cc;obtain ⟨a0,a1,a2,a3,af⟩:=jk.a4;obtain ⟨d0,d1,d2,d3,df⟩:=jm.a4;clear bc vW jc fv gb fx gc q6 q2 q7 q3 bq kg;clear r0 r1 r2 r3 rf;go_wp2;rw [HY.out];refine bodyPost_ret (v:=.tuple #[.agg #[.slice A5 n5 c5,.slice A2 m2 c2,.slice A9 n9 c9,.int .i64 (s.tests+(k:Int))],.bool true]) (by simp [results,results12,go_sem,d0,d1,d2,d3,cm,fk]) rfl ?_;refine dC (y:=⟨oG s.items x,s.wanted,kG (nD s x k++[x.id]),s.tests+(k:Int)⟩) (F:=F5) (G:=F2) (H:=F9) (UA rA q8 (fun h=>by have:=g5 _ h;omega)) (UA kA q4 n2) (UA aA o9 (fun h=>by have:=f9.ge _ h;omega)) ⟨?_,?_⟩ (by omega) (ks.set (by dsimp only;omega) _)
    ·rw [List.nodup_append,List.nodup_append];refine ⟨f5.nodup,⟨(List.nodup_append.1 (List.nodup_append.1 fV.nodup).2.1).1,f9.nodup,fun a ha b hb e=>by have:=cz a (List.mem_append_left _ ha);have:=f9.ge b hb;omega⟩,fun a ha b hb e=>?_⟩;rcases List.mem_append.1 hb with hb | hb
     ·have:=g5 a ha;have:=cz b (List.mem_append_left _ hb);omega
     ·have:=km a ha;have:=f9.ge b hb;omega
    ·intro b hb;rcases List.mem_append.1 hb with hb | hb
     ·have:=g5 b hb;omega
     ·rcases List.mem_append.1 hb with hb | hb
      ·have:=fV.ge b (List.mem_append_right _ (List.mem_append_left _ hb));omega
      ·have:=f9.ge b hb;omega
theorem PZ (w:World) (x:Int) (t:TypeId):Rd aB (w.alloc (.cells #[.int .i64 x] t)) [x] [.slice (some ⟨w.heap.size,0,none⟩) 1 1]:=by
 refine ⟨_,1,rfl,Nat.le_refl _,by unfold maxLen;omega,fun k y hk=>?_⟩
 cases k with
 | zero=>
  injection hk with hk;subst hk;exact ⟨w.heap.size,0,[.int .i64 x],rfl,by simp,rfl,fun j u hj=>by
   cases j with
   | zero=>have h:=cell_one_new w (.int .i64 x) t 0 u hj;simpa [Addr.add] using h
   | succ j=>simp at hj,rfl⟩
 | succ k=>simp at hk
theorem MU (w:World) (s:zA) (id:Int) (va vb vc:Value) (ha:Rd LA w s.items [va]) (hb:Rd OA w s.wanted [vb]) (hc:Rd aB w s.best [vc]) (t1:jC s.items<=1048576) (t2:sB s.wanted<=1048576) (t3:s.best.length<=1048576) (hno:YE s id=false) :
  Calls prog 19 #[.agg #[va,vb,vc,.int .i64 s.tests],.int .i64 id] w (WB w (JK GB w.heap.size s (.bool false))):=by
 obtain ⟨A,n,c,rfl,L,Lc,Lm⟩:=yA ha;obtain ⟨B,m,c4,rfl,M,Mc,Mm⟩:=yA hc;obtain ⟨W0,cd,A0,bS,bR,z0⟩:=pAf w (.slice A n c) vb (.slice B m c4) (.int .i64 s.tests) 28;have bd:=rI W0 s _ vb _ (ha.bw gA A0) (hb.bw jA A0) (hc.bw dA A0) t1 t2 t3;go_enter func19,ntmps19;go_wp2_with fail;rw [<-cd.out];refine bd.mono ?_;rintro e w1 ⟨cs,F0,rfl,oS,fS,bq⟩;have lS:=(NB (B:=0)).lt oS;obtain ⟨A1,m1,c1,A2,m2,c2,A3,m3,c3,F1,F2,F3,rfl,rfl,bt,bv,bx,o1,o2,o3⟩:=pAa oS;dsimp only;obtain ⟨V,HV,bk,bO,zV,BV,bm⟩:=pAd A0 bq (.slice A1 m1 c1) (.slice A2 m2 c2) (.slice A3 m3 c3) (.int .i64 s.tests) 28;replace bS:=bS.bw bm;replace bR:=bR.bw bm;have bn:=bS;rw [HV.out] at bn;obtain ⟨y0,y1,y2,y3,yf⟩:=bn.a4;clear bn;go_wp2_with fail;have zw:w.heap.size+2<=w1.heap.size:=by have:=bq.size;omega
 replace o1:=nA bk rA o1;replace o2:=nA bk kA o2;replace o3:=nA bk aA o3;have fV:sA (w.heap.size+2) (F1++(F2++F3)):=fS.mono (by omega);have HLS:=pA6 lS;have k1:=pA6 (fun W (B:Bw V W)=>sG W s _ vb _ (ha.bw gA (BV.then B)) (hb.bw jA (BV.then B)) (hc.bw dA (BV.then B)));have k3:=pA6 (fun W (B:Bw V W)=>gD W s.items id _ (ha.bw gA (BV.then B)));obtain ⟨b6,bs⟩:=pA7 w1.heap.size;rw [<-bs] at bO zV zw;have cc:=pA6 bs;rw [<-HV.out,<-cc.out];clear oS fS bd bq A0 bs lS bm;clear y0 y1 y2 y3 yf;refine (k1.out _ (Bw.refl V)).mono ?_;rintro e w2 ⟨rfl,bb⟩;rcases pA8 (JB s) with e1 | e1
 ·have E1:=pA6 e1;rw [e1];clear e1;have bz:=bS.bw bb;obtain ⟨y0,y1,y2,y3,yf⟩:=bz.a4;have bc:=k3.out _ bb;obtain ⟨K,hK⟩:=pA7 (rB s.items id);rw [<-hK] at bc;have HK:=pA6 hK;clear bz hK;go_wp2_with fail;refine bc.mono ?_;rintro e w3 ⟨rfl,cf⟩;have bf:=bb.then cf;clear y0 y1 y2 y3 yf;by_cases hK0:K<0;rotate_left
  focus
   have hK1:¬K<(0:Int):=hK0;have ht0:999900<s.tests:=by
    rcases Decidable.em (999900<s.tests) with h | h
    ·exact h
    ·exfalso
     have h2:YE s id=true:=by
      unfold YE;rw [E1.out,decide_eq_true (show 0<=rB s.items id by rw [<-HK.out];omega),decide_eq_true (show s.tests<=999900 by omega)];rfl
     rw [h2] at hno;cases hno
   have cb:=bS.bw bf;obtain ⟨y0,y1,y2,y3,yf⟩:=cb.a4;clear hno cb
  rotate_right
  focus
   clear hno
  all_goals
   have bj:=bR.bw bf;have bg:=bO.bw bf;obtain ⟨r0,r1,r2,r3,rf⟩:=bj.a4;obtain ⟨q0,q1,q2,q3,qf⟩:=bg.a4;have bp:=BV.then bf;have p1:=nA bf rA o1;have p2:=nA bf kA o2;have p3:=nA bf aA o3;clear bj bg o1 o2 o3 bR bO;go_wp2;rw [bt.out] at p1 ⊢;rw [bv.out] at p2 ⊢;rw [bx.out] at p3 ⊢;refine bodyPost_ret (v:=.tuple #[.agg #[.slice A1 s.items.length c1,.slice A2 s.wanted.length c2,.slice A3 s.best.length c3,.int .i64 s.tests],.bool false]) (by simp [results,results19,go_sem,r0,r1,r2,r3]) rfl (dC p1 p2 p3 (fV.mono (by omega)) (by omega) bp)
 ·rw [e1];clear e1 hno;have bj:=bR.bw bb;have bg:=bO.bw bb;obtain ⟨r0,r1,r2,r3,rf⟩:=bj.a4;obtain ⟨q0,q1,q2,q3,qf⟩:=bg.a4;have bp:=BV.then bb;have p1:=nA bb rA o1;have p2:=nA bb kA o2;have p3:=nA bb aA o3;clear bj bg o1 o2 o3 bR bO;go_wp2;rw [bt.out] at p1 ⊢;rw [bv.out] at p2 ⊢;rw [bx.out] at p3 ⊢;refine bodyPost_ret (v:=.tuple #[.agg #[.slice A1 s.items.length c1,.slice A2 s.wanted.length c2,.slice A3 s.best.length c3,.int .i64 s.tests],.bool false]) (by simp [results,results19,go_sem,r0,r1,r2,r3]) rfl (dC p1 p2 p3 (fV.mono (by omega)) (by omega) bp)
end Go.Proofs.YtpihighajaeabaaGreat
