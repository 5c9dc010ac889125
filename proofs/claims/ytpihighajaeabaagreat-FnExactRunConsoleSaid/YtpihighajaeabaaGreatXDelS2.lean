/- An item is taken from a standing answer, in the reference: the ways on which it is taken. -/
import Derived.Test.YtpihighajaeabaaGreatXDelS
import Derived.Test.YtpihighajaeabaaGreatXStandM
namespace Go.Proofs.YtpihighajaeabaaGreat
open Go.RowKit Go.Proofs.Tryz
set_option linter.all false
set_option maxRecDepth 100000
set_option maxHeartbeats 16000000
theorem kA3 {s:zA} {id d:Int} (h:d∈XC s id):∃y∈s.items,y.id=d:=by
 unfold XC at h
 split at h
 ·obtain ⟨y,hy,e⟩:=List.mem_map.1 h;exact ⟨y,(List.mem_filter.1 hy).1,e⟩
 ·simp at h
theorem hAa {s:zA} (h:dB s.items=true) (id:Int):(XC s id).length<=16:=by
 unfold XC
 split
 ·unfold eG;rw [List.length_map];exact Nat.le_trans (List.length_filter_le _ _) (VA h)
 ·simp
theorem TB.keepsB' {α:Type} {R:Fp α} {B:Nat} {F G:List Nat} {w w':World} (h:TB F w w') (hR:tC B R) (hB:B<=w.heap.size) (hF:∀b∈F,B<=b) {x:α} {cs:List Value} (hx:R w x cs G) (hd:∀b∈G,b∉F):R w' x cs G:=
 hR.step (fun b hb=>by
  rcases hb with hb | hb
  ·exact h.2 b (hR.lt hx b hb) (hd b hb)
  ·exact h.2 b (by omega) (fun hf=>by have:=hF b hf;omega)) hx
theorem eAm {W:World} {b o B:Nat} {u:Value} {α:Type} {R:Fp α} (hR:tC B R) (hB:B<=W.heap.size) (hb:B<=b) {x:α} {cs:List Value} {F:List Nat} (hx:R W x cs F) (hF:b∉F):R (W.setCell ⟨b,o,none⟩ u) x cs F:=
 (GA b o W u).keepsB' hR hB (fun c hc=>by simp at hc;omega) hx fun c hc e=>by simp at e;exact hF (e▸hc)
theorem mA3 {w W:World} (hB:Bw w W) {x:iA} {A:Option Addr} {n c:Nat} (h:Rd aB w x.vals [.slice A n c]):eAk (lt w) XM W x [.int .i64 x.id,.slice A n c] []:=by
 refine ⟨rfl,⟨_,rfl,dA.step ⟨fun _ h=>h,fun p hp=>Below.cell hB hp⟩ h⟩,fun u hu=>?_⟩;simp at hu;rcases hu with rfl | rfl<;>rfl
theorem pAb (w:World) (s:zA) (id:Int) (va vb vc:Value) (ha:Rd LA w s.items [va]) (hb:Rd OA w s.wanted [vb]) (hc:Rd aB w s.best [vc]) (t1:jC s.items<=1048576) (t2:sB s.wanted<=1048576) (t3:s.best.length<=1048576) (hok:YE s id=true) :
  Calls prog 19 #[.agg #[va,vb,vc,.int .i64 s.tests],.int .i64 id] w (WB w (JK GB w.heap.size (SL s id) (.bool true))):=by
 obtain ⟨E1,mj,hts⟩:=sI hok;have HI:=pA6 (AA (wC E1).1);have HB:=pA6 (wC E1).1;have HST:=pA6 E1;have jq:=iE E1;have hts0:=(mI E1).1;obtain ⟨j0,ji,mq,ms,mt⟩:=info_parts IG;obtain ⟨i0,hi,jz,kb,kc⟩:=info_parts xC;obtain ⟨A,n,c,rfl,L,Lc,Lm⟩:=yA ha;obtain ⟨B,m,c4,rfl,M,Mc,Mm⟩:=yA hc;obtain ⟨W0,kq,A0,bS,bR,z0⟩:=pAf w (.slice A n c) vb (.slice B m c4) (.int .i64 s.tests) 28;have bv:=rI W0 s _ vb _ (ha.bw gA A0) (hb.bw jA A0) (hc.bw dA A0) t1 t2 t3;go_enter func19,ntmps19;go_wp2_with fail;rw [<-kq.out];refine bv.mono ?_;rintro e w1 ⟨cs,F0,rfl,oS,fS,fq⟩;have lS:=(NB (B:=0)).lt oS;obtain ⟨A1,m1,c1,A2,m2,c2,A3,m3,c3,F1,F2,F3,rfl,rfl,HM1,HM2,HM3,o1,o2,o3⟩:=pAa oS;dsimp only;obtain ⟨V,HV,dk,bO,zV,BV,dx⟩:=pAd A0 fq (.slice A1 m1 c1) (.slice A2 m2 c2) (.slice A3 m3 c3) (.int .i64 s.tests) 28;replace bS:=bS.bw dx;replace bR:=bR.bw dx;have fc:=bS;rw [HV.out] at fc;obtain ⟨y0,y1,y2,y3,yf⟩:=fc.a4;clear fc;go_wp2_with fail;have zw:w.heap.size+2<=w1.heap.size:=by have:=fq.size;omega
 replace o1:=nA dk rA o1;replace o2:=nA dk kA o2;replace o3:=nA dk aA o3;have fV:sA (w.heap.size+2) (F1++(F2++F3)):=fS.mono (by omega);have kp:=pA6 lS;have k1:=pA6 (fun W (B:Bw V W)=>sG W s _ vb _ (ha.bw gA (BV.then B)) (hb.bw jA (BV.then B)) (hc.bw dA (BV.then B)));have k3:=pA6 (fun W (B:Bw V W)=>gD W s.items id _ (ha.bw gA (BV.then B)));obtain ⟨b6,bf⟩:=pA7 w1.heap.size;rw [<-bf] at bO zV zw;have ck:=pA6 bf;rw [<-HV.out,<-ck.out];clear oS fS bv fq A0 bf lS dx;clear y0 y1 y2 y3 yf;refine (k1.out _ (Bw.refl V)).mono ?_;rintro e w2 ⟨rfl,dt⟩;rw [E1];have jb:=bS.bw dt;obtain ⟨y0,y1,y2,y3,yf⟩:=jb.a4;have bc:=k3.out _ dt;obtain ⟨K,hK⟩:=pA7 (rB s.items id);rw [<-hK] at bc mj;have HK:=pA6 hK;clear jb hK;go_wp2_with fail;refine bc.mono ?_;rintro e w3 ⟨rfl,jj⟩;have dp:=dt.then jj;clear y0 y1 y2 y3 yf;have jc:=bS.bw dp;have bO3:=bO.bw dp;obtain ⟨y0,y1,y2,y3,yf⟩:=jc.a4;have hK1:¬K<(0:Int):=by omega
 have ht1:¬(999900:Int)<s.tests:=by omega
 have mn:b6≠w.heap.size/\b6≠w.heap.size+1:=by omega
 obtain ⟨gb,cb⟩:=mn;have hne4:=gb.symm;have dc:=cb.symm;have A4:=(Bw.refl w3).alloc (.cells #[.int .i64 id] 3);have cp:=dp.then A4;have bc:=FM (w3.alloc (.cells #[.int .i64 id] 3)) s.items [id] _ _ (ha.bw gA (BV.then cp)) (PZ w3 id 3) (by have:=VA HI.out;omega) (fun x hx=>by rw [jB (TA HI.out hx)];omega);clear jc;go_wp2_with fail;refine bc.mono ?_;rintro e w5 ⟨v5,rfl,⟨F5,o5,f5⟩,jk⟩;obtain ⟨A5,c5,rfl,_⟩:=XA (pC o5);obtain ⟨n5,fz⟩:=pA7 ((QB s.items [id] false).length);rw [<-fz] at o5 ⊢;have HN5:=pA6 fz;have bp:=cp.then jk;have z5:=bp.size;clear y0 y1 y2 y3 yf;have fd:=bS.bw bp;have fb:=bO.bw bp;have gz:=bR.bw bp;obtain ⟨y0,y1,y2,y3,yf⟩:=fd.a4;obtain ⟨q0,q1,q2,q3,qf⟩:=fb.a4;obtain ⟨X,hX⟩:=pA7 (w5.setCell ⟨b6,0,none⟩ (.slice A5 n5 c5));have BX:Bw w X:=by rw [hX];exact (BV.then bp).set (by dsimp only;omega) _
 have UX:Bw w1 X:=by rw [hX];exact (dk.then bp).set (p:=⟨b6,0,none⟩) (by have:=ck.out;dsimp only;omega) _
 have cO:Box X b6 [.slice A5 n5 c5,.slice A2 m2 c2,.slice A3 m3 c3,.int .i64 s.tests]:=by rw [hX];exact fb.set (by simp) _
 have cS:Box X w.heap.size [.slice A n c,vb,.slice B m c4,.int .i64 s.tests]:=by rw [hX];exact fd.only (GA _ _ _ _) (by simp;omega)
 have cR:Box X (w.heap.size+1) [.slice none 0 0,.slice none 0 0,.slice none 0 0,.int .i64 0]:=by rw [hX];exact gz.only (GA _ _ _ _) (by simp;omega)
 have db:=kp.out;rw [<-ck.out] at db;have n1:b6∉F5:=fun h=>by have:=f5.ge b6 h;have:=cp.size;omega
 have n2:b6∉F2:=fun h=>by have:=db b6 (List.mem_append_right _ (List.mem_append_left _ h));omega
 have n3:b6∉F3:=fun h=>by have:=db b6 (List.mem_append_right _ (List.mem_append_right _ h));omega
 have dd:∀c∈F2++F3,c<b6:=fun c h=>db c (List.mem_append_right _ h)
 have g5:∀c∈F5,b6<c:=fun c h=>by have:=f5.ge c h;have:=cp.size;omega
 have p1:tD X (QB s.items [id] false) [.slice A5 n5 c5] F5:=by rw [hX];exact UA rA o5 n1
 have p2:mC X s.wanted [.slice A2 m2 c2] F2:=by rw [hX];exact UA kA (nA bp kA o2) n2
 have p3:WA X s.best [.slice A3 m3 c3] F3:=by rw [hX];exact UA aA (nA bp aA o3) n3
 have zX:b6<X.heap.size:=cO.lt;have bc:=eM X s.best id _ (hc.bw dA BX);have kj:=f5.nodup;have HX:=pA6 hX;clear fd fb gz hX db o1 o2 o3 o5 fz z5 k1 k3 dt jj dp A4 cp jk;go_wp2_with fail;rw [<-HX.out];refine bc.mono ?_;rintro e w6 ⟨rfl,bf⟩;clear y0 y1 y2 y3 yf;clear q0 q1 q2 q3 qf;clear bc;rcases pA8 (s.best.contains id) with fx | gc
 focus
  have HY:=pA6 (show SL s id=⟨QB s.items [id] false,s.wanted,kG (WD s id++yF s id),s.tests+((XC s id).length:Int)⟩ by unfold SL;rw [fx];rfl);have hm16:m<=16:=by have:=M.out;omega
  rw [fx];clear fx hok E1;have B6:=BX.then bf;have jd:=cS.bw bf;obtain ⟨y0,y1,y2,y3,yf⟩:=jd.a4;have bc:=rY w6 s id _ vb _ (ha.bw gA B6) (hb.bw jA B6) (hc.bw dA B6);go_wp2_with fail;refine bc.mono ?_;rintro e w7 ⟨v7,rfl,⟨F7,o7,f7⟩,kz⟩;obtain ⟨A7,c7,rfl,_⟩:=XA (xA o7);obtain ⟨M7,ds⟩:=pA7 ((XC s id).length);rw [<-ds] at o7 ⊢;have L7:=pA6 ds;have hM16:M7<=16:=by rw [ds];exact hAa HI.out id
  have r7:=xA o7;have cf:=bf.then kz;have BY:=BX.then cf;have wY:=BY.size;clear y0 y1 y2 y3 yf;have dO:=cO.bw cf;have dS:=cS.bw cf;have dR:=cR.bw cf;have q1:=nA cf rA p1;have q2:=nA cf kA p2;have jt:=MA (e:=30) (sz:=2) (R:=eAk (lt w) XM) w7;have B7:Bw w7 (w7.alloc (.cells #[] 30)):=(Bw.refl w7).alloc _;have GG:tC w7.heap.size (eAk (lt w) XM):=oK qG (fun b h=>Nat.lt_of_lt_of_le h wY);have GL:tC w7.heap.size (XI (lt w)):=CC GG;have G0:=pA6 (show tC w.heap.size (XI (lt w)) from CC (oK qG (fun b h=>h)));have HA:=pA6 ha;have HC:=pA6 hc;have gq:=pA6 GG;have cm:=pA6 GL;have HO7:=pA6 o7;clear bc ds p1 p2 p3 cO cS cR jd B6 o7 ha hc GG GL;go_wp2
  go_loopg [8,9] M7 (fun g s8 s9 w'=>∃(k:Nat) (F:List Nat),k<=M7/\g=M7-k/\s9=.int .i64 k/\XI (lt w) w' (DM s.items (XC s id) k) [s8] F/\sA w7.heap.size F/\Bw w7 w')
  ·exact ⟨0,[w7.heap.size],by omega,rfl,rfl,jt,⟨by simp,by simp⟩,B7⟩
  ·clear jt B7;obtain ⟨k,F,hk,rfl,rfl,hv,hF,bz⟩:=hrel;have gv:=pA6 (gAt s.items (XC s id) k);have jg:=dS.bw bz;have bm:=BY.then bz;by_cases hlt:k<M7
   ·obtain ⟨d,hd⟩:=tA (xs:=(XC s id)) (k:=k) (by have:=L7.out;omega);obtain ⟨bb,ob,rfl,_,cq⟩:=KB r7 hd;have bt:=bz.cell cq;have fv:=kA3 (List.mem_of_getElem? hd);obtain ⟨bA,oA,rfl⟩:∃b o,A=some ⟨b,o,none⟩:=by
     obtain ⟨y,hy,_⟩:=fv;obtain ⟨k',mk⟩:=List.mem_iff_getElem?.1 hy;obtain ⟨b,o,A2,c2,e,_⟩:=qB HA.out mk;exact ⟨b,o,e⟩
    obtain ⟨kd,Ad,cd,jm,jn,bx,ct,cv,cz⟩:=BM HA.out L.out HI.out fv;have i1:(0:Int)<=(k:Int):=by omega
    have i2:(k:Int)<(M7:Int):=by omega
    have c8:=fun (W:World) (B:Bw wr W)=>IR W s.items d bA oA n c kd (VB s.items d) Ad 3 cd (HA.out.bw gA (bm.then B)) jm jn ((bm.then B).cell ct) ((bm.then B).cell cv)
    have gx:=pA6 (eAh (l:=s.items) hd);have gn:=pA6 cz;obtain ⟨y,hy⟩:=pA7 (VB s.items d);rw [<-hy] at c8 gx gn;have y0:=jg.c 0 _ rfl;have D1:Bw wr wr.drew:=(Bw.refl wr).drew;have jv:=bz.size;clear hd fv jm jn bx ct cv cz hy;go_wp2_with fail
    go_region_held3 (fun w'=>w'.cell? ⟨w.heap.size,0,none⟩=some (.slice (some ⟨bA,oA,none⟩) n c)/\w'.cell? ⟨bb,ob+k,none⟩=some (.int .i64 d)) (first | with_reducible exact ⟨y0,bt⟩ | with_reducible exact ⟨D1.cell y0,D1.cell bt⟩ | with_reducible exact ⟨fj.cell y0,fj.cell bt⟩ | with_reducible exact ⟨s0,s1⟩ | go_keep)
     (first
      | (go_at_call 86;refine (c8 _ D1).mono ?_;rintro e w8 ⟨rfl,mb⟩;have bk:=D1.then mb;replace y0:=bk.cell y0;replace bt:=bk.cell bt;have fj:=(Bw.refl w8).alloc (.cells #[.int .i64 y.id,.slice Ad 3 cd] 30);have bs:=bk.then fj;have mp:=cm.out.bw bs jv hv;have mc:=bz.then bs;have fm:=cm.out.lt hv;have mg:=mA3 (bm.then bs) gn.out;have ft:∀j t,[Value.int .i64 y.id,.slice Ad 3 cd][j]? = some t->(w8.alloc (.cells #[.int .i64 y.id,.slice Ad 3 cd] 30)).cell? ((⟨w8.heap.size,0,none⟩:Addr).add j)=some t:=World.news_of_block (cs:=#[.int .i64 y.id,.slice Ad 3 cd]) (t:=30) (fr:=(0,0)) (heap_alloc_new w8 _))
      | (refine RE _ (by rfl) (.tmp 51) (.tmp 59) 24 (by rfl) w7 30 j0 _ 2 32 underlying24 ji mq ms mt rfl (by omega) gq.out _ (DM s.items (XC s id) k) F (by rfl) mp hF ⟨w8.heap.size,0,none⟩ 1 (by rfl) y [.int .i64 y.id,.slice Ad 3 cd] [] ft mg rfl _ fm sA.nil jv (by have:=gv.out;have:=L7.out;omega) (by have:=gv.out;have:=L7.out;omega) mc ?_;intro v' w' F' cj dq bq bg gd;have s0:=(dS.bw bq).c 0 _ rfl;have s1:=bq.cell cq)
      | fail)
    go_wp2
    go_roundg (M7-(k+1))
    ·exact ⟨k+1,F',by omega,rfl,by go_num,by rw [gx.out];exact cj,dq,bq⟩
    ·omega
   ·obtain rfl:k=M7:=by omega
    rw [gAx HI.out (by rw [<-L7.out];exact Nat.le_refl _)] at hv;have gj:=(Bw.refl wr).alloc (.cells #[] 3);have cg:=bz.then gj;have ff:=dO.bw cg;have fg:=dS.bw cg;have jf:=dR.bw cg;obtain ⟨z,hz⟩:=pA7 wr.heap.size;have zk:w7.heap.size<=z:=by rw [hz];exact bz.size
    have b67:b6<w7.heap.size:=dO.lt;have b6z:b6<z:=by omega
    have mv:∀c∈F,c<z:=by rw [hz];exact cm.out.lt hv
    have jp:=MA (e:=3) (sz:=1) (R:=IF) wr;have BA:=BY.then cg;have wA:=BA.size;obtain ⟨X2,bn⟩:=pA7 ((wr.alloc (.cells #[] 3)).setCell ⟨b6,2,none⟩ (.slice (some ⟨wr.heap.size,0,none⟩) 0 0));have gm:Bw w X2:=by rw [bn];exact BA.set (by dsimp only;omega) _
    have eO:Box X2 b6 [.slice A5 n5 c5,.slice A2 m2 c2,.slice (some ⟨wr.heap.size,0,none⟩) 0 0,.int .i64 s.tests]:=by rw [bn];exact ff.set (by simp) _
    have eS:Box X2 w.heap.size [.slice A n c,vb,.slice B m c4,.int .i64 s.tests]:=by rw [bn];exact fg.only (GA _ _ _ _) (by simp;omega)
    have eR:Box X2 (w.heap.size+1) [.slice none 0 0,.slice none 0 0,.slice none 0 0,.int .i64 0]:=by rw [bn];exact jf.only (GA _ _ _ _) (by simp;omega)
    have r1:tD X2 (QB s.items [id] false) [.slice A5 n5 c5] F5:=by rw [bn];exact UA rA (nA cg rA q1) n1
    have r2:mC X2 s.wanted [.slice A2 m2 c2] F2:=by rw [bn];exact UA kA (nA cg kA q2) n2
    have r8:XI (lt w) X2 (QB s.items (XC s id) true) [u8] F:=by rw [bn];exact eAm G0.out wA (by omega) (cm.out.bw gj (by omega) hv) (fun h=>by have:=hF.ge _ h;have:=dO.lt;omega)
    have r3:WA X2 (GF s id 0) [.slice (some ⟨wr.heap.size,0,none⟩) 0 0] [wr.heap.size]:=by rw [bn];exact UA aA jp (by simp;omega)
    have km:z<=X2.heap.size:=by rw [bn,hz];simp
    have kg:=(rA (B:=0)).lt q1;have cc:∀c∈F5,c<z:=fun c h=>by have:=kg c h;omega
    obtain ⟨x0,x1,x2,x3,xf⟩:=ff.a4;obtain ⟨y0,y1,y2,y3,yf⟩:=fg.a4;have ks:=pA6 bn;have HZ:=pA6 hz;clear bn hz hv jg jp q1 q2 kg ff fg jf dO dS dR gq cm r7;go_wp2;rw [<-ks.out];clear x0 x1 x2 x3 xf;clear y0 y1 y2 y3 yf;rw [<-HZ.out] at eO r3;rw [<-HZ.out]
    go_loopg [10] m (fun gk s10 w'=>∃(k g Lx cx:Nat) (F9:List Nat),k<=m/\gk=m-k/\s10=.int .i64 k/\WA w' (GF s id k) [.slice (some ⟨g,0,none⟩) Lx cx] F9/\sA z F9/\z<=w'.heap.size/\Bw w w'/\Box w' b6 [.slice A5 n5 c5,.slice A2 m2 c2,.slice (some ⟨g,0,none⟩) Lx cx,.int .i64 s.tests]/\Box w' w.heap.size [.slice A n c,vb,.slice B m c4,.int .i64 s.tests]/\Box w' (w.heap.size+1) [.slice none 0 0,.slice none 0 0,.slice none 0 0,.int .i64 0]/\tD w' (QB s.items [id] false) [.slice A5 n5 c5] F5/\mC w' s.wanted [.slice A2 m2 c2] F2/\XI (lt w) w' (QB s.items (XC s id) true) [u8] F)
    ·exact ⟨0,z,0,0,[z],by omega,rfl,rfl,r3,⟨by simp,by simp⟩,km,gm,eO,eS,eR,r1,r2,r8⟩
    ·clear r3 eO eS eR r1 r2 r8 gm km;obtain ⟨k9,g,Lx,cx,F9,hk9,rfl,rfl,hv,bd,hz,bm,eO,eS,eR,r1,r2,r8⟩:=hrel;have gp:=pA6 (xY s id k9);have gs:=pA6 jq;obtain ⟨y0,y1,y2,y3,yf⟩:=eS.a4;by_cases hlt:k9<m
     ·obtain ⟨d,hd⟩:=tA (xs:=s.best) (k:=k9) (by have:=M.out;omega);obtain ⟨bb,ob,rfl,_,md⟩:=KB HC.out hd;have bt:=bm.cell md;have i1:(0:Int)<=(k9:Int):=by omega
      have i2:(k9:Int)<(m:Int):=by omega
      by_cases bx:d=id
      ·have e1:(d != id)=false:=by simp [bx]
       have HT:=pA6 (bAc hd bx);clear hd bx;go_wp2
       go_roundg (m-(k9+1))
       ·exact ⟨k9+1,g,Lx,cx,F9,by omega,rfl,by go_num,by rw [HT.out];exact hv,bd,hz,bm,eO,eS,eR,r1,r2,r8⟩
       ·omega
      ·have e1:(d != id)=true:=by simp [bx]
       have HT:=pA6 (sY hd bx);clear hd bx;have AD:Bw wr (wr.alloc (.cells #[.int .i64 d] 3)).drew:=((Bw.refl wr).alloc (.cells #[.int .i64 d] 3)).drew;have vW:=nA AD aA hv;have eW:=eO.bw AD;have eZ:=eO.bw ((Bw.refl wr).alloc (.cells #[.int .i64 d] 3));have sZ:=eS.bw ((Bw.refl wr).alloc (.cells #[.int .i64 d] 3));have mf:=((Bw.refl wr).alloc (.cells #[.int .i64 d] 3)).cell bt;have bs:=bm.then AD;have fm:=(aA (B:=0)).lt hv;have ft:∀j t,[Value.int .i64 d][j]? = some t->(wr.alloc (.cells #[.int .i64 d] 3)).drew.cell? ((⟨wr.heap.size,0,none⟩:Addr).add j)=some t:=cell_one_new wr (.int .i64 d) 3;have wz:w.heap.size<=z:=by have:=UX.size;have:=ck.out;omega
       have fn:sA w.heap.size F9:=bd.mono wz;have nF:b6∉F9:=fun h=>by have:=bd.ge _ h;omega
       have nS:w.heap.size∉F9:=fun h=>by have:=bd.ge _ h;omega
       have nR:w.heap.size+1∉F9:=fun h=>by have:=bd.ge _ h;omega
       have jx:=bm.size;obtain ⟨x0,x1,x2,x3,xf⟩:=eO.a4;obtain ⟨u0,u1,u2,u3,uf⟩:=eZ.a4;obtain ⟨v0,v1,v2,v3,vf⟩:=sZ.a4;clear eZ sZ;go_wp2_with fail
       go_region_law (refine RE _ (by rfl) (.tmp 78) (.tmp 84) 26 (by rfl) w 3 i0 _ 1 8 underlying26 hi jz kb kc rfl (by omega) YA _ (GF s id k9) F9 (by rfl) vW fn ⟨wr.heap.size,0,none⟩ 1 (by rfl) d [.int .i64 d] [] ft ⟨rfl,rfl⟩ rfl wr.heap.size fm sA.nil jx (by have:=gp.out;have:=gs.out;omega) (by have:=gp.out;have:=gs.out;omega) bs ?_;intro v' w' F' cj dq bq bg gd;obtain ⟨g',L',c',rfl,l',_⟩:=vK cj (by simp);have eP:=eW.only bg nF;have e2:=eP.c 2 _ rfl;have ef:=eP.fr)
       all_goals
        have zr:∀b∈F',z<=b:=fun b hb=>by
         rcases gd b hb with h | h | h
         ·exact bd.ge b h
         ·simp at h
         ·have:=AD.size;omega
        have mx:b6∉F':=fun h=>by have:=zr _ h;omega
        have sP:=(eS.bw AD).only bg nS;have rP:=(eR.bw AD).only bg nR;have gf:=bg.keeps rA (nA AD rA r1) (fun c h h2=>by have:=bd.ge c h2;have:=cc c h;omega);have gg:=bg.keeps kA (nA AD kA r2) (fun c h h2=>by have:=bd.ge c h2;have:=dd c (List.mem_append_left _ h);omega);have nb:=bg.keepsB' G0.out bs.size (fun c h=>by have:=bd.ge c h;omega) (G0.out.bw AD jx r8) (fun c h h2=>by have:=bd.ge c h2;have:=mv c h;omega);clear x0 x1 x2 x3 xf;clear u0 u1 u2 u3 uf;clear v0 v1 v2 v3 vf;clear y0 y1 y2 y3 yf;clear e2 ef mf bt;go_wp2
        go_roundg (m-(k9+1))
        ·exact ⟨k9+1,g',L',c',F',by omega,rfl,by go_num,by rw [HT.out];exact UA aA cj mx,⟨dq.nodup,zr⟩,by have:=bg.1;have:=AD.size;simp;omega,bq.set (by dsimp only;omega) _,eP.set (by simp) _,sP.only (GA _ _ _ _) (by simp;omega),rP.only (GA _ _ _ _) (by simp;omega),UA rA gf n1,UA kA gg n2,eAm G0.out bq.size (by omega) nb (fun h=>by have:=hF.ge _ h;have:=UX.size;omega)⟩
        ·omega
     ·obtain rfl:k9=m:=by omega
      rw [tY (by rw [<-M.out];exact Nat.le_refl _)] at hv;have kt:=pA6 (show SL s id=⟨QB s.items [id] false,s.wanted,kG (WD s id++yF s id),s.tests+(k:Int)⟩ by rw [HY.out,L7.out]);have df:=G0.out.lt r8;have nf:=bm.size;have js:Rd LA wr (QB s.items (XC s id) true) [u8]:=gA.step ⟨fun b hb=>hb.elim (fun h=>df b h) (fun h=>Nat.lt_of_lt_of_le h nf),fun p hp=>rfl⟩ (dK r8);have mm:=pA6 (fun (W:World) (B:Bw wr W)=>AK W (QB s.items (XC s id) true) s.wanted u8 vb (js.bw gA B) (hb.bw jA (bm.then B)) (OJ HI.out _ _) (yB HB.out));have D1:Bw wr wr.drew:=(Bw.refl wr).drew;have wz:w.heap.size<=z:=by have:=UX.size;have:=ck.out;omega
      have fn:sA w.heap.size F9:=bd.mono wz;have nF:b6∉F9:=fun h=>by have:=bd.ge _ h;omega
      have nS:w.heap.size∉F9:=fun h=>by have:=bd.ge _ h;omega
      have nR:w.heap.size+1∉F9:=fun h=>by have:=bd.ge _ h;omega
      have fk:=pA6 (Nat.le_trans (SN s id) jq);have fp:=pA6 (EM HI.out id);obtain ⟨x0,x1,x2,x3,xf⟩:=eO.a4;clear js df;go_wp2_with fail
      go_region_law
       (first
        | (refine QD _ (by rfl) (.tmp 88) (.tmp 92) 26 (by rfl) w 3 i0 _ 1 8 underlying26 hi jz kb kc rfl (by omega) YA _ (WD s id) F9 (by rfl) vW fn nc (by rfl) (yF s id) (xA mz) (fun y u h=>⟨h,rfl⟩) (by have:=fk.out;have:=fp.out;omega) (by have:=fk.out;have:=fp.out;omega) bs ?_;intro v' w' F' cj dq bq bg gd)
        | (go_simp;go_at_call 101;refine (mm.out _ D1).mono ?_;rintro e w10 ⟨nc,rfl,⟨F10,mz,f10⟩,fs⟩;have bk:=D1.then fs;have x2:=bk.cell x2;have vW:=nA bk aA hv;have bs:=bm.then bk;go_wp2_with fail)
        | (go_simp;go_at_call 88;refine (eAg w' (WD s id++yF s id) v' (xA cj) (by have:=fk.out;have:=fp.out;simp;omega)).mono ?_;rintro e nd ⟨v11,rfl,⟨dz,kk,cn⟩,bj⟩;obtain ⟨dm,dv,dn,rfl,kf,_⟩:=qA (xA kk);replace kf:=pA6 kf;have eP:=((eO.bw bk).only bg nF).bw bj;have e2:=eP.c 2 _ rfl;have ef:=eP.fr;go_wp2_with fail))
      all_goals
       have sP:=((eS.bw bk).only bg nS).bw bj;have rP:=((eR.bw bk).only bg nR).bw bj;have wz1:z<=w'.heap.size:=by have:=bg.1;have:=bk.size;omega
       have gf:=nA bj rA (bg.keeps rA (nA bk rA r1) (fun c h h2=>by have:=bd.ge c h2;have:=cc c h;omega));have gg:=nA bj kA (bg.keeps kA (nA bk kA r2) (fun c h h2=>by have:=bd.ge c h2;have:=dd c (List.mem_append_left _ h);omega));have dj:b6∉dz:=fun h=>by have:=cn.ge _ h;omega
       have kn:=bq.then bj;obtain ⟨Z,hZ⟩:=pA7 (nd.setCell ⟨b6,2,none⟩ (.slice dm dv dn));have oZ:Box Z b6 [.slice A5 n5 c5,.slice A2 m2 c2,.slice dm dv dn,.int .i64 s.tests]:=by rw [hZ];exact eP.set (by simp) _
       have sZ:Box Z w.heap.size [.slice A n c,vb,.slice B k9 c4,.int .i64 s.tests]:=by rw [hZ];exact sP.only (GA _ _ _ _) (by simp;omega)
       have rZ:Box Z (w.heap.size+1) [.slice none 0 0,.slice none 0 0,.slice none 0 0,.int .i64 0]:=by rw [hZ];exact rP.only (GA _ _ _ _) (by simp;omega)
       have u1:tD Z (QB s.items [id] false) [.slice A5 n5 c5] F5:=by rw [hZ];exact UA rA gf n1
       have u2:mC Z s.wanted [.slice A2 m2 c2] F2:=by rw [hZ];exact UA kA gg n2
       have u3:WA Z (kG (WD s id++yF s id)) [.slice dm dv dn] dz:=by rw [hZ];exact UA aA kk dj
       have BZ:Bw w Z:=by rw [hZ];exact kn.set (by dsimp only;omega) _
       clear x0 x1 x2 x3 xf;clear e2 ef;rw [<-hZ];have HZ2:=pA6 hZ;obtain ⟨x0,x1,x2,x3,xf⟩:=oZ.a4;obtain ⟨y0,y1,y2,y3,yf⟩:=sZ.a4;obtain ⟨r0,r1,r2,r3,rf⟩:=rZ.a4;clear hZ;go_wp2;rw [kt.out];refine bodyPost_ret (v:=.tuple #[.agg #[.slice A5 n5 c5,.slice A2 m2 c2,.slice dm dv dn,.int .i64 (s.tests+(k:Int))],.bool true]) (by simp [results,results19,go_sem,r0,r1,r2,r3,x0,x1,x2,x3,cb,dc]) rfl ?_;refine dC (y:=⟨QB s.items [id] false,s.wanted,kG (WD s id++yF s id),s.tests+(k:Int)⟩) (F:=F5) (G:=F2) (H:=dz) (UA rA u1 n1) (UA kA u2 n2) (UA aA u3 dj) ⟨?_,?_⟩ (by omega) (BZ.set (by dsimp only;omega) _)
       ·rw [List.nodup_append,List.nodup_append];refine ⟨kj,⟨(List.nodup_append.1 (List.nodup_append.1 fV.nodup).2.1).1,cn.nodup,fun a ha b hb e=>by have:=dd a (List.mem_append_left _ ha);have:=cn.ge b hb;omega⟩,fun a ha b hb e=>?_⟩;rcases List.mem_append.1 hb with hb | hb
        ·have:=g5 a ha;have:=dd b (List.mem_append_left _ hb);omega
        ·have:=cc a ha;have:=cn.ge b hb;omega
       ·intro b hb;rcases List.mem_append.1 hb with hb | hb
        ·have:=g5 b hb;omega
        ·rcases List.mem_append.1 hb with hb | hb
         ·have:=fV.ge b (List.mem_append_right _ (List.mem_append_left _ hb));omega
         ·have:=cn.ge b hb;omega
 focus
  have HY:=pA6 (show SL s id=⟨QB s.items [id] false,s.wanted,s.best,s.tests⟩ by unfold SL;rw [gc];rfl);rw [gc];have kv:=cO.bw bf;have kx:=cR.bw bf;have q1:=nA bf rA p1;have q2:=nA bf kA p2;have q3:=nA bf aA p3;have B6:=BX.then bf;clear gc hok;obtain ⟨q0,q1,q2,q3,qf⟩:=kv.a4;obtain ⟨r0,r1,r2,r3,rf⟩:=kx.a4;go_wp2;rw [HY.out];refine bodyPost_ret (v:=.tuple #[.agg #[.slice A5 n5 c5,.slice A2 m2 c2,.slice A3 m3 c3,.int .i64 s.tests],.bool true]) (by simp [results,results19,go_sem,q0,q1,q2,q3,r0,r1,r2,r3,cb,dc]) rfl ?_;exact dC (y:=⟨QB s.items [id] false,s.wanted,s.best,s.tests⟩) (F:=F5) (G:=F2) (H:=F3) (nA bf rA p1) (nA bf kA p2) (nA bf aA p3) ⟨List.nodup_append.2 ⟨kj,(List.nodup_append.1 fV.nodup).2.1,fun a ha b hb e=>by have:=g5 a ha;have:=dd b hb;omega⟩,fun b hb=>(List.mem_append.1 hb).elim (fun h=>by have:=g5 b h;omega) (fun h=>fV.ge b (List.mem_append_right _ h))⟩ (by omega) B6
end Go.Proofs.YtpihighajaeabaaGreat
