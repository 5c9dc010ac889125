/- An item of a standing answer is changed, in the program. -/
import Derived.Test.YtpihighajaeabaaGreatXParseI
import Derived.Deep.RegionLaw
import Derived.Test.YtpihighajaeabaaGreatXDelS2
import Derived.Test.YtpihighajaeabaaGreatXDelI3
import Derived.Test.YtpihighajaeabaaGreatXStandP
import Derived.Deep.Cut
namespace Go.Proofs.YtpihighajaeabaaGreat
open Go.RowKit Go.Proofs.Tryz
set_option linter.all false
set_option maxRecDepth 100000
set_option maxHeartbeats 16000000
def cT (P:List ByteArray) (k:Nat):List Int:=(P.take k).map tG
theorem dT {P:List ByteArray} {k:Nat} {t:ByteArray} (h:P[k]? = some t):cT P (k+1)=cT P k++[tG t]:=by unfold cT;rw [List.take_add_one,h,List.map_append];rfl
theorem GW (P:List ByteArray) (k:Nat):(cT P k).length<=k:=by unfold cT;rw [List.length_map,List.length_take];omega
theorem IW {P:List ByteArray} {k:Nat} (h:P.length<=k):cT P k=P.map tG:=by unfold cT;rw [List.take_of_length_le h]
theorem xP {s:ByteArray} (h:s.size=0):s.toList.isEmpty=true:=by rw [qO,DK.2 h];rfl
theorem gA9 {s a b:ByteArray} (h:MD s 58=[a,b]):vL s=some ⟨tG a,lP b⟩:=by unfold vL;rw [h]
theorem gAa {s a:ByteArray} (h:(MD s 58)[0]? = some a) (h2:(MD s 58).length≠2):vL s=some ⟨tG a,[]⟩:=by
 unfold vL
 match hc:MD s 58,h,h2 with
 | [],h,_=>simp at h
 | [x],h,_=>simp at h;subst h;rfl
 | [x,y],_,h2=>exact absurd rfl h2
 | x::y::z::l,h,_=>simp at h;subst h;rfl
theorem oR {s:ByteArray} {x:iA} (h:vL s=some x):YF s=if s.size≠0/\FC x=s then (x,true) else (QJ,false):=by
 rw [<-nA7];unfold pOf;rw [h]
theorem YT (w:World) (s:ByteArray) (hs:s.size<=1048576):Calls prog 252 #[.string s] w (WB w (JK zH w.heap.size (YF s).1 (.bool (YF s).2))):=by
 obtain ⟨i0,hi,fk,fm,fn⟩:=info_parts xC;obtain ⟨Y,hY⟩:=pA7 (YF s);have HY:=pA6 hY;rw [<-hY];have A0:Bw w (w.alloc (.cells #[.int .i64 0,.slice none 0 0] 30)):=(Bw.refl w).alloc _;have bR:=Box.new w #[.int .i64 0,.slice none 0 0] 30;obtain ⟨P,hP⟩:=pA7 (MD s 58);have bb:=XJ (w.alloc (.cells #[.int .i64 0,.slice none 0 0] 30)) s 58 58 rfl hs;rw [<-hP] at bb;have HP:=pA6 hP;have HM:=pA6 (show ∀t∈P,t.size<=s.size from fun t ht=>iH (by rw [<-hP];exact ht));have cq:0<P.length:=by rw [hP];exact lAd _ _
 clear hP hY;go_enter func252,ntmps252;go_wp2_with fail;refine bb.mono ?_;rintro e w1 ⟨v1,rfl,⟨F1,o1,f1⟩,cm⟩;have r1:=DC o1;obtain ⟨A,n,c,rfl,L,Lc,Lm⟩:=yA r1;rw [<-L.out] at cq;have B1:=A0.then cm;replace bR:=bR.bw cm;obtain ⟨a,ha⟩:=tA (xs:=P) (k:=0) (by have:=L.out;omega);obtain ⟨ba,oa,rfl,_,ca⟩:=BC r1 ha;rw [Nat.add_zero] at ca;have fq:=HM.out a (List.mem_of_getElem? ha);have HA:=pA6 ha;have R1:=pA6 r1;clear bb o1 f1 ha r1;have bb:=YJ w1 a (by omega);obtain ⟨N,hN⟩:=pA7 (tG a);rw [<-hN] at bb;have HN:=pA6 hN;have i1:(0:Int)<(n:Int):=by omega
 clear hN fq;go_wp2_with fail;refine bb.mono ?_;rintro e w2 ⟨rfl,bp⟩;have B2:=B1.then bp;have cc:=(Bw.refl w2).alloc (.cells #[.int .i64 N,.slice none 0 0] 30);have bX:=Box.new w2 #[.int .i64 N,.slice none 0 0] 30;have bj:=(bR.bw bp).bw cc;have hRb:w.heap.size<w2.heap.size:=by have:=bR.lt;have:=bp.size;omega
 obtain ⟨bx,cp⟩:=pA7 w2.heap.size;obtain ⟨W,hW⟩:=pA7 (w2.alloc (.cells #[.int .i64 N,.slice none 0 0] 30));have bs:=pA6 (show w.heap.size<=bx/\w.heap.size≠bx by omega);rw [<-hW] at cc bX bj;rw [<-cp] at bX;have HW:=pA6 hW;have HB:=pA6 cp;have BW:=B2.then cc;clear hW cp bb ca;by_cases hn:n=2
 ·subst hn;obtain ⟨a',b,bn⟩:=WU (P:=P) (by rw [<-L.out]);have HX:=pA6 (show vL s=some ⟨N,lP b⟩ by
   rw [gA9 (by rw [<-HP.out,bn]),HN.out];have:=HA.out;rw [bn] at this;injection this with this;rw [this])
  obtain ⟨_,_,e,_,cb⟩:=BC (k:=1) R1.out (x:=b) (by rw [bn];rfl);injection e with e;injection e with e1 e2;subst e1 e2;have df:=HM.out b (by rw [bn];simp);obtain ⟨V,hV⟩:=pA7 (MD b 44);have bb:=XJ W b 44 44 rfl (by omega);rw [<-hV] at bb;have HV:=pA6 (show lP b=V.map tG by rw [hV];rfl);have dn:=pA6 (show ∀t∈V,t.size<=b.size from fun t ht=>iH (by rw [<-hV];exact ht));have dm:=pA6 (show V.length<=s.size+1 by rw [hV];have:=wN b 44;omega);have dk:=pA6 df;replace cb:=cc.cell (bp.cell cb);rw [HW.out] at cb;clear bn hV df;go_wp2_with fail;rw [<-HW.out,<-HB.out];refine bb.mono ?_;rintro e w3 ⟨v3,rfl,⟨F3,o3,f3⟩,cn⟩;clear bb cb;have r3:=DC o3;obtain ⟨A3,n3,c3,rfl,L3,L3c,L3m⟩:=yA r3;have cg:=bX.bw cn;have bt:=bj.bw cn;have B3:=BW.then cn;have O3:=pA6 o3;have Z3:=pA6 (show ∀z∈F3,z∉[bx] from fun z hz=>by have h1:=f3.ge z hz;have h2:=bX.lt;simp;omega);clear bX bj o3 f3 r3 bR;go_wp2
  go_loopg [7] n3 (fun g i w'=>∃(k:Nat) (va:Value) (F:List Nat),k<=n3/\g=n3-k/\i=.int .i64 k/\Box w' bx [.int .i64 N,va]/\Box w' w.heap.size [.int .i64 0,.slice none 0 0]/\WA w' (cT V k) [va] F/\sA w3.heap.size F/\TB [bx] w3 w'/\Bw w w')
  ·exact ⟨0,_,[],by omega,rfl,rfl,cg,bt,XB _,sA.nil,TB.refl _ _,B3⟩
  ·obtain ⟨k,va,F,hk,rfl,rfl,bX,bR,hv,hF,hO,hb⟩:=hrel;obtain ⟨A4,n4,c4,rfl,l4,_⟩:=qA (xA hv);have L4:=pA6 l4;clear l4;by_cases hlt:k<n3
   ·obtain ⟨x,hx⟩:=tA (xs:=V) (k:=k) (by have:=L3.out;omega);obtain ⟨bv,ov,rfl,_,ff⟩:=BC (DC (hO.keeps iB O3.out Z3.out)) hx;have HS:=pA6 (dT hx);have fj:=dn.out x (List.mem_of_getElem? hx);have bb:=YJ wr.drew x (by have:=dk.out;omega);obtain ⟨M,hM⟩:=pA7 (tG x);rw [<-hM] at bb HS;have cz:=pA6 (GW V k);have cx:=pA6 (show n3<=s.size+1 by rw [L3.out];exact dm.out);have i1:(0:Int)<=(k:Int):=by omega
    have i2:(k:Int)<(n3:Int):=by omega
    have AD:Bw wr wr.drew:=(Bw.refl wr).drew;have db:=bX.bw AD;have cv:=nA AD aA hv;have hcd:=AD.cell ff;have ds:sA w.heap.size F:=hF.mono B3.size;have dj:bx∉F:=fun h=>by have:=hF.ge _ h;have:=cg.lt;omega
    clear hx fj hM;obtain ⟨x0,x1,xf⟩:=bX.a2;obtain ⟨y0,y1,yf⟩:=db.a2;go_wp2_with fail
    go_region_law (first
     | (refine RE _ (by rfl) (.tmp 29) (.tmp 35) 26 (by rfl) w 3 i0 _ 1 8 underlying26 hi fk fm fn rfl (by omega) YA _ (cT V k) F (by rfl) vW ds ⟨w4.heap.size,0,none⟩ 1 (by rfl) M [.int .i64 M] [] dd ⟨rfl,rfl⟩ rfl w4.heap.size dv sA.nil fp (by have:=cz.out;have:=cx.out;omega) (by have:=cz.out;have:=cx.out;omega) fd ?_;intro v' w' F' ct dq fb cd cs;obtain ⟨A',N',c',rfl,l',_⟩:=qA (xA ct);replace l':=pA6 l';have eP:=ck.only cd dj;have e0:=eP.c 0 _ rfl;have e1:=eP.c 1 _ rfl;have ef:=eP.fr)
     | (go_simp;go_at_call 278;refine bb.mono ?_;rintro e w4 ⟨rfl,bq⟩;have bz:=db.bw bq;have u0:=bz.c 0 _ rfl;have u1:=bz.c 1 _ rfl;have uf:=bz.fr;have cf:=(Bw.refl w4).alloc (.cells #[.int .i64 M] 3);have vW:=nA (bq.then cf) aA cv;have ck:=bz.bw cf;have t1:=ck.c 1 _ rfl;have dd:=cell_one_new w4 (.int .i64 M) 3;have dv:=(aA (B:=0)).lt (nA bq aA cv);have dc:=(hb.then AD).then bq;have fd:=dc.then cf;have fp:=dc.size))
    all_goals
     have bg:=(AD.then bq).then cf;have eQ:=eP.set (j:=1) (by simp) (.slice A' N' c');have dp:=((bR.bw bg).only cd (fun h=>by have:=hF.ge _ h;have:=bt.lt;omega)).only (GA bx 1 w' (.slice A' N' c')) (by simp;exact bs.out.2);have nb:bx∉F':=fun h=>(cs bx h).elim dj (fun h=>h.elim (fun h=>by simp at h) (fun h=>by have:=ck.lt;omega))
     have fg:=UA (b:=bx) (o:=1) (u:=.slice A' N' c') aA ct nb;have dt:sA w3.heap.size F':=⟨dq.nodup,fun z hz=>(cs z hz).elim (fun h=>hF.ge z h) (fun h=>h.elim (fun h=>by simp at h) (fun h=>by have:=bg.size;have:=hO.1;omega))⟩;have dz:=(TB.push (hO.then (bg.only [bx]) (fun _ h=>h)) cd (fun z hz=>.inr (hF.ge z hz))).two (GA bx 1 w' (.slice A' N' c'));have fc:=fb.set (p:=⟨bx,1,none⟩) bs.out.1 (.slice A' N' c');clear x0 x1 xf;clear y0 y1 yf;clear u0 u1 uf;clear e0 e1 ef;clear t1 bb hv cv vW dd cd cs ct eP;go_wp2
     go_roundg (n3-(k+1))
     ·exact ⟨k+1,_,F',by omega,rfl,by go_num,eQ,dp,by rw [HS.out];exact fg,dt,dz,fc⟩
     ·omega
   ·obtain rfl:k=n3:=by omega
    rw [IW (by rw [<-L3.out];exact Nat.le_refl _),<-HV.out] at hv;have dx:sA w.heap.size F:=hF.mono B3.size;have nR:w.heap.size∉F:=fun h=>by have:=hF.ge _ h;have:=bt.lt;omega
    clear hlt cg bt;have hk:=sH wr ⟨N,lP b⟩ _ (xA hv);have HQ:=pA6 (oR HX.out);obtain ⟨T,hT⟩:=pA7 (FC ⟨N,lP b⟩);rw [<-hT] at hk HQ;clear hT;have bc:=bs.out.2;have bf:=Ne.symm bc;by_cases hs0:s.size=0
    ·have e0:=xP hs0;have HE:=pA6 (show Y=(QJ,false) by rw [HY.out,HQ.out,if_neg (fun h=>h.1 hs0)]);obtain ⟨r0,r1,rf⟩:=bR.a2;clear hs0;go_wp2;have zb:=(bR.set (j:=0) (by simp) (.int .i64 0)).set (j:=1) (by simp) (.slice none 0 0);obtain ⟨z0,z1,zf⟩:=zb.a2;refine bodyPost_ret (v:=.tuple #[.agg #[.int .i64 0,.slice none 0 0],.bool false]) (by simp [results,results252,go_sem,z0,z1]) rfl ?_;exact ⟨_,rfl,⟨_,by rw [HE.out],[],by rw [HE.out];exact pJ _,sA.nil⟩,hb.put2 (Nat.le_refl _)⟩
    ·have e0:s.toList.isEmpty=false:=LG (by omega);obtain ⟨x0,x1,xf⟩:=bX.a2;go_wp2_with fail;refine hk.mono ?_;rintro e w5 ⟨rfl,bd⟩;clear x0 x1 xf;have cj:=Box.bw bX bd;have bk:=Box.bw bR bd;have o5:=nA bd aA hv;have B5:=Bw.then hb bd;clear hk bd;by_cases hq:T=s
     ·have HE:=pA6 (show Y=(⟨N,lP b⟩,true) by rw [HY.out,HQ.out,if_pos ⟨hs0,hq⟩]);have e1:=JD hq;have e2:(T.toList != s.toList)=false:=by rw [bne,e1];rfl
      obtain ⟨x0,x1,xf⟩:=cj.a2;obtain ⟨r0,r1,rf⟩:=bk.a2;clear hq hs0;go_wp2;refine bodyPost_ret (v:=.tuple #[.agg #[.int .i64 N,.slice A4 n4 c4],.bool true]) (by simp [results,results252,go_sem,r0,r1,bc,bf]) rfl ?_;exact ⟨_,rfl,⟨_,by rw [HE.out],_,by rw [HE.out];exact ⟨_,rfl,sW aA o5 nR⟩,dx⟩,B5.put2 (Nat.le_refl _)⟩
     ·have HE:=pA6 (show Y=(QJ,false) by rw [HY.out,HQ.out,if_neg (fun h=>hq h.2)]);have e1:=WC hq;have e2:(T.toList != s.toList)=true:=by rw [bne,e1];rfl
      obtain ⟨r0,r1,rf⟩:=bk.a2;clear hq hs0;go_wp2;refine bodyPost_ret (v:=.tuple #[.agg #[.int .i64 0,.slice none 0 0],.bool false]) (by simp [results,results252,go_sem,r0,r1,bc,bf]) rfl ?_;exact ⟨_,rfl,⟨_,by rw [HE.out],[],by rw [HE.out];exact pJ _,sA.nil⟩,B5.put2 (Nat.le_refl _)⟩
 ·have HX:=pA6 (show vL s=some ⟨N,[]⟩ by rw [gAa (by rw [<-HP.out];exact HA.out) (by rw [<-HP.out,<-L.out];exact hn),HN.out]);have hv:WA W [] [.slice none 0 0] []:=XB _;have hn2:((n:Int)==2)=false:=by simp;omega
  have e:=HW.out;subst e;have e:=HB.out;subst e;have bm:=bR.bw bp;obtain ⟨q0,q1,qf⟩:=bm.a2;clear hn cm;have hk:=sH (w2.alloc (.cells #[.int .i64 N,.slice none 0 0] 30)) ⟨N,[]⟩ _ (xA hv);have HQ:=pA6 (oR HX.out);obtain ⟨T,hT⟩:=pA7 (FC ⟨N,[]⟩);rw [<-hT] at hk HQ;clear hT;have bc:=bs.out.2;have bf:=Ne.symm bc;by_cases hs0:s.size=0
  ·have e0:=xP hs0;have HE:=pA6 (show Y=(QJ,false) by rw [HY.out,HQ.out,if_neg (fun h=>h.1 hs0)]);obtain ⟨r0,r1,rf⟩:=bj.a2;clear hs0;go_wp2;have zb:=((bm.set (j:=0) (by simp) (.int .i64 0)).set (j:=1) (by simp) (.slice none 0 0)).bw ((Bw.refl _).alloc (.cells #[.int .i64 N,.slice none 0 0] 30));obtain ⟨z0,z1,zf⟩:=zb.a2;refine bodyPost_ret (v:=.tuple #[.agg #[.int .i64 0,.slice none 0 0],.bool false]) (by simp [results,results252,go_sem,z0,z1]) rfl ?_;exact ⟨_,rfl,⟨_,by rw [HE.out],[],by rw [HE.out];exact pJ _,sA.nil⟩,(B2.put2 (Nat.le_refl _)).alloc _⟩
  ·have e0:s.toList.isEmpty=false:=LG (by omega);obtain ⟨x0,x1,xf⟩:=bX.a2;go_wp2_with fail;refine hk.mono ?_;rintro e w5 ⟨rfl,bd⟩;clear x0 x1 xf;have cj:=Box.bw bX bd;have bk:=Box.bw bj bd;have o5:=nA bd aA hv;have B5:=Bw.then BW bd;clear hk bd;by_cases hq:T=s
   ·have HE:=pA6 (show Y=(⟨N,[]⟩,true) by rw [HY.out,HQ.out,if_pos ⟨hs0,hq⟩]);have e1:=JD hq;have e2:(T.toList != s.toList)=false:=by rw [bne,e1];rfl
    obtain ⟨x0,x1,xf⟩:=cj.a2;obtain ⟨r0,r1,rf⟩:=bk.a2;clear hq hs0;go_wp2;refine bodyPost_ret (v:=.tuple #[.agg #[.int .i64 N,.slice none 0 0],.bool true]) (by simp [results,results252,go_sem,r0,r1,bc,bf]) rfl ?_;exact ⟨_,rfl,⟨_,by rw [HE.out],_,by rw [HE.out];exact ⟨_,rfl,sW aA o5 (by simp)⟩,sA.nil⟩,B5.put2 (Nat.le_refl _)⟩
   ·have HE:=pA6 (show Y=(QJ,false) by rw [HY.out,HQ.out,if_neg (fun h=>hq h.2)]);have e1:=WC hq;have e2:(T.toList != s.toList)=true:=by rw [bne,e1];rfl
    obtain ⟨r0,r1,rf⟩:=bk.a2;clear hq hs0;go_wp2;refine bodyPost_ret (v:=.tuple #[.agg #[.int .i64 0,.slice none 0 0],.bool false]) (by simp [results,results252,go_sem,r0,r1,bc,bf]) rfl ?_;exact ⟨_,rfl,⟨_,by rw [HE.out],[],by rw [HE.out];exact pJ _,sA.nil⟩,B5.put2 (Nat.le_refl _)⟩
theorem TR (w:World) (s:zA) (id:Int) (va vb vc:Value) (ha:Rd LA w s.items [va]) (hb:Rd OA w s.wanted [vb]) (hc:Rd aB w s.best [vc]) (t1:jC s.items<=1048576) (t2:sB s.wanted<=1048576) (t3:s.best.length<=1048576) :
  Calls prog 19 #[.agg #[va,vb,vc,.int .i64 s.tests],.int .i64 id] w (WB w (JK GB w.heap.size (FH s id) (.bool (YE s id)))):=by
 cases h:YE s id with
 | true=>
  rw [show FH s id=SL s id by unfold FH;rw [h];rfl];exact pAb w s id va vb vc ha hb hc t1 t2 t3 h
 | false=>rw [show FH s id=s by unfold FH;rw [h];rfl];exact MU w s id va vb vc ha hb hc t1 t2 t3 h
theorem UR (w:World) (s:zA) (id:Int) (va vb vc:Value) (ha:Rd LA w s.items [va]) (hb:Rd OA w s.wanted [vb]) (hc:Rd aB w s.best [vc]) (t1:jC s.items<=1048576) (t2:sB s.wanted<=1048576) (t3:s.best.length<=1048576) :
  Calls prog 18 #[.agg #[va,vb,vc,.int .i64 s.tests],.int .i64 id] w (WB w (JK GB w.heap.size (FH s id) (.bool (YE s id)))):=by
 cases h:YE s id with
 | true=>
  rw [show FH s id=SL s id by unfold FH;rw [h];rfl];exact pAc w s id va vb vc ha hb hc t1 t2 t3 h
 | false=>rw [show FH s id=s by unfold FH;rw [h];rfl];exact OU w s id va vb vc ha hb hc t1 t2 t3 h
theorem nX {α:Type} (f:α->Nat) (n:Nat):∀ {l:List α},(∀x∈l,f x=n)->JH f l=l.length*n
 | [],_=>by simp [JH]
 | a::l,h=>by
  have h1:=nX f n (l:=l) (fun x hx=>h x (by simp [hx]));have h2:=h a (by simp);simp only [JH,List.length_cons,h1,h2,Nat.succ_mul];omega
theorem eAn {l:List iA} (h:dB l=true):jC l<=64:=by
 have h2:=nX (fun y:iA=>y.vals.length) 3 (fun y hy=>jB (TA h hy));have h3:=VA h;unfold jC;rw [h2];omega
theorem wQ {s:zA} {id:Int} (h:ZJ s):ZJ (FH s id):=by
 unfold FH
 split
 ·rename_i hok
  obtain ⟨E1,_,_⟩:=sI hok;have hI:=AA (wC E1).1;have hl:=iE E1;have h4:=eAn (OJ hI [id] false);have h5:=SN s id;have h6:=EM hI id;unfold SL
  split
  ·refine ⟨by dsimp only;omega,h.2.1,?_⟩;dsimp only;rw [nT,List.length_append];omega
  ·exact ⟨by dsimp only;omega,h.2.1,h.2.2⟩
 ·exact h
def zF (s:zA) (x:iA):Bool:=gB x && (YE s x.id && XE (FH s x.id) x)
def BG (s:zA) (x:iA):zA:=if zF s x then AG (FH s x.id) x else s
theorem bAh (w:World) (s:zA) (x:iA) (va vb vc u:Value) (ha:Rd LA w s.items [va]) (hb:Rd OA w s.wanted [vb]) (hc:Rd aB w s.best [vc]) (hx:Rd aB w x.vals [u]) (t1:jC s.items<=1048576) (t2:sB s.wanted<=1048576) (t3:s.best.length<=1048576) :
  Calls prog 14 #[.agg #[va,vb,vc,.int .i64 s.tests],.agg #[.int .i64 x.id,u]] w (WB w (JK GB w.heap.size (BG s x) (.bool (zF s x)))):=by
 obtain ⟨A,n,c,rfl,L,Lc,Lm⟩:=yA ha;obtain ⟨B,m,c4,rfl,M,Mc,Mm⟩:=yA hc;obtain ⟨W0,cm,A0,bS,bX,bR,z0⟩:=pAe w (.slice A n c) vb (.slice B m c4) (.int .i64 s.tests) (.int .i64 x.id) u 28 30;have bb:=XG W0 x u (hx.bw dA A0);go_enter func14,ntmps14;go_wp2_with fail;rw [<-cm.out];refine bb.mono ?_;rintro e w2 ⟨rfl,bd⟩;clear bb;rcases pA8 (gB x) with e1 | e1
 ·have E1:=pA6 e1;rw [e1];clear e1;have bz:=bS.bw bd;have cb:=bX.bw bd;obtain ⟨y0,y1,y2,y3,yf⟩:=bz.a4;obtain ⟨z0,z1,zf⟩:=cb.a2;have bb:=TR w2 s x.id _ vb _ (ha.bw gA (A0.then bd)) (hb.bw jA (A0.then bd)) (hc.bw dA (A0.then bd)) t1 t2 t3;clear bz cb;go_wp2_with fail;refine bb.mono ?_;rintro e w3 ⟨_,rfl,⟨cs,rfl,⟨G3,o3,f3⟩⟩,cn⟩;clear bb;obtain ⟨D,hD⟩:=pA7 (FH s x.id);rw [<-hD] at o3;have bs:ZJ D:=by rw [hD];exact wQ ⟨t1,t2,t3⟩
  have HD:=pA6 hD;clear hD;obtain ⟨A1,c1,A2,c2,A3,c3,rfl⟩:=LB o3;clear y0 y1 y2 y3 yf;clear z0 z1 zf;have AV:=(Bw.refl w3).alloc (.cells #[.slice A1 D.items.length c1,.slice A2 D.wanted.length c2,.slice A3 D.best.length c3,.int .i64 D.tests] 28);have bc:=(bd.then cn).then AV;rcases pA8 (YE s x.id) with e2 | e2
  ·have E2:=pA6 e2;rw [e2];clear e2;have cc:=bX.bw bc;have bt:=Box.new w3 #[.slice A1 D.items.length c1,.slice A2 D.wanted.length c2,.slice A3 D.best.length c3,.int .i64 D.tests] 28;obtain ⟨z0,z1,zf⟩:=cc.a2;obtain ⟨d0,d1,d2,d3,df⟩:=bt.a4;obtain ⟨cf,cg,cj,_⟩:=vP (nA AV NB o3);have bb:=OR _ D x _ _ _ u cf cg cj (hx.bw dA (A0.then bc)) bs.1 bs.2.1 bs.2.2;clear cf cg cj cc bt;go_wp2_with fail;refine bb.mono ?_;rintro e w4 ⟨_,rfl,⟨cs,rfl,⟨G4,o4,f4⟩⟩,cd⟩;clear bb;clear z0 z1 zf;clear d0 d1 d2 d3 df;obtain ⟨I,hI⟩:=pA7 (AG D x);rw [<-hI] at o4;have HI:=pA6 hI;clear hI;obtain ⟨B1,d1,B2,d2,B3,d3,rfl⟩:=LB o4;have AW:=(Bw.refl w4).alloc (.cells #[.slice B1 I.items.length d1,.slice B2 I.wanted.length d2,.slice B3 I.best.length d3,.int .i64 I.tests] 28);have bj:=(bc.then cd).then AW;rcases pA8 (XE D x) with e3 | e3
   ·have bq:zF s x=true:=by unfold zF;rw [E1.out,E2.out,<-HD.out,e3];rfl
    have HY:=pA6 (show BG s x=I by unfold BG;rw [bq,<-HD.out,<-HI.out];rfl);have ck:=pA6 bq;rw [e3];clear e3 bq;have bx:=bR.bw bj;have bv:=Box.new w4 #[.slice B1 I.items.length d1,.slice B2 I.wanted.length d2,.slice B3 I.best.length d3,.int .i64 I.tests] 28;have BB:=A0.then bj;have z4:=(bc.then cd).size;have z3:=bc.size;obtain ⟨F1,F2,F3,o1,o2,cp,rfl⟩:=SB (nA AW NB o4);have fz:=bc.size;obtain ⟨r0,r1,r2,r3,rf⟩:=bx.a4;obtain ⟨k0,k1,k2,k3,kf⟩:=bv.a4;clear o4 bv bx;go_wp2;rw [HY.out,ck.out];refine bodyPost_ret (v:=.tuple #[.agg #[.slice B1 I.items.length d1,.slice B2 I.wanted.length d2,.slice B3 I.best.length d3,.int .i64 I.tests],.bool true]) (by simp [results,results14,go_sem,r0,r1,r2,r3]) rfl (dC o1 o2 cp (f4.mono (by omega)) (by omega) BB)
   ·have bg:zF s x=false:=by unfold zF;rw [<-HD.out,e3];simp
    rw [e3];clear e3;have bn:=pA6 (show BG s x=s by unfold BG;rw [bg];rfl);have bf:=pA6 bg;clear bg;have bk:=bS.bw bj;obtain ⟨y0,y1,y2,y3,yf⟩:=bk.a4;have bb:=rI _ s _ vb _ (ha.bw gA (A0.then bj)) (hb.bw jA (A0.then bj)) (hc.bw dA (A0.then bj)) t1 t2 t3;clear bk;go_wp2_with fail;refine bb.mono ?_;rintro e w9 ⟨cs,F9,rfl,o9,f9,bm⟩;obtain ⟨A1,c1,A2,c2,A3,c3,rfl⟩:=LB o9;obtain ⟨F1,F2,F3,o1,o2,o3,rfl⟩:=SB o9;clear y0 y1 y2 y3 yf;have bp:=bR.bw (bj.then bm);have BB:=A0.then (bj.then bm);have zB:=(bj).size;clear bb o9;obtain ⟨r0,r1,r2,r3,rf⟩:=bp.a4;go_wp2;rw [bn.out,bf.out];refine bodyPost_ret (v:=.tuple #[.agg #[.slice A1 s.items.length c1,.slice A2 s.wanted.length c2,.slice A3 s.best.length c3,.int .i64 s.tests],.bool false]) (by simp [results,results14,go_sem,r0,r1,r2,r3]) rfl (dC o1 o2 o3 (f9.mono (by omega)) (by omega) BB)
  ·have bg:zF s x=false:=by unfold zF;rw [e2];simp
   rw [e2];clear e2;have bn:=pA6 (show BG s x=s by unfold BG;rw [bg];rfl);have bf:=pA6 bg;clear bg;have bk:=bS.bw bc;obtain ⟨y0,y1,y2,y3,yf⟩:=bk.a4;have bb:=rI _ s _ vb _ (ha.bw gA (A0.then bc)) (hb.bw jA (A0.then bc)) (hc.bw dA (A0.then bc)) t1 t2 t3;clear bk;go_wp2_with fail;refine bb.mono ?_;rintro e w9 ⟨cs,F9,rfl,o9,f9,bm⟩;obtain ⟨A1,c1,A2,c2,A3,c3,rfl⟩:=LB o9;obtain ⟨F1,F2,F3,o1,o2,o3,rfl⟩:=SB o9;clear y0 y1 y2 y3 yf;have bp:=bR.bw (bc.then bm);have BB:=A0.then (bc.then bm);have zB:=(bc).size;clear bb o9;obtain ⟨r0,r1,r2,r3,rf⟩:=bp.a4;go_wp2;rw [bn.out,bf.out];refine bodyPost_ret (v:=.tuple #[.agg #[.slice A1 s.items.length c1,.slice A2 s.wanted.length c2,.slice A3 s.best.length c3,.int .i64 s.tests],.bool false]) (by simp [results,results14,go_sem,r0,r1,r2,r3]) rfl (dC o1 o2 o3 (f9.mono (by omega)) (by omega) BB)
 ·have bg:zF s x=false:=by unfold zF;rw [e1];rfl
  rw [e1];clear e1;have bn:=pA6 (show BG s x=s by unfold BG;rw [bg];rfl);have bf:=pA6 bg;clear bg;have bk:=bS.bw bd;obtain ⟨y0,y1,y2,y3,yf⟩:=bk.a4;have bb:=rI _ s _ vb _ (ha.bw gA (A0.then bd)) (hb.bw jA (A0.then bd)) (hc.bw dA (A0.then bd)) t1 t2 t3;clear bk;go_wp2_with fail;refine bb.mono ?_;rintro e w9 ⟨cs,F9,rfl,o9,f9,bm⟩;obtain ⟨A1,c1,A2,c2,A3,c3,rfl⟩:=LB o9;obtain ⟨F1,F2,F3,o1,o2,o3,rfl⟩:=SB o9;clear y0 y1 y2 y3 yf;have bp:=bR.bw (bd.then bm);have BB:=A0.then (bd.then bm);have zB:=(bd).size;clear bb o9;obtain ⟨r0,r1,r2,r3,rf⟩:=bp.a4;go_wp2;rw [bn.out,bf.out];refine bodyPost_ret (v:=.tuple #[.agg #[.slice A1 s.items.length c1,.slice A2 s.wanted.length c2,.slice A3 s.best.length c3,.int .i64 s.tests],.bool false]) (by simp [results,results14,go_sem,r0,r1,r2,r3]) rfl (dC o1 o2 o3 (f9.mono (by omega)) (by omega) BB)
theorem bAi (w:World) (s:zA) (x:iA) (va vb vc u:Value) (ha:Rd LA w s.items [va]) (hb:Rd OA w s.wanted [vb]) (hc:Rd aB w s.best [vc]) (hx:Rd aB w x.vals [u]) (t1:jC s.items<=1048576) (t2:sB s.wanted<=1048576) (t3:s.best.length<=1048576) :
  Calls prog 13 #[.agg #[va,vb,vc,.int .i64 s.tests],.agg #[.int .i64 x.id,u]] w (WB w (JK GB w.heap.size (BG s x) (.bool (zF s x)))):=by
 obtain ⟨A,n,c,rfl,L,Lc,Lm⟩:=yA ha;obtain ⟨B,m,c4,rfl,M,Mc,Mm⟩:=yA hc;obtain ⟨W0,ct,A0,bS,bX,bR,z0⟩:=pAe w (.slice A n c) vb (.slice B m c4) (.int .i64 s.tests) (.int .i64 x.id) u 28 30;have bb:=cG W0 x u (hx.bw dA A0);go_enter func13,ntmps13;go_wp2_with fail;rw [<-ct.out];refine bb.mono ?_;rintro e w2 ⟨rfl,bc⟩;clear bb;rcases pA8 (gB x) with e1 | e1
 ·have E1:=pA6 e1;rw [e1];clear e1;have cd:=bS.bw bc;have cf:=bX.bw bc;obtain ⟨y0,y1,y2,y3,yf⟩:=cd.a4;obtain ⟨z0,z1,zf⟩:=cf.a2;have bb:=UR w2 s x.id _ vb _ (ha.bw gA (A0.then bc)) (hb.bw jA (A0.then bc)) (hc.bw dA (A0.then bc)) t1 t2 t3;clear cd cf;go_wp2_with fail;refine bb.mono ?_;rintro e w3 ⟨_,rfl,⟨cs,rfl,⟨G3,o3,f3⟩⟩,cj⟩;clear bb;obtain ⟨D,hD⟩:=pA7 (FH s x.id);rw [<-hD] at o3;have bv:ZJ D:=by rw [hD];exact wQ ⟨t1,t2,t3⟩
  have HD:=pA6 hD;clear hD;obtain ⟨A1,c1,A2,c2,A3,c3,rfl⟩:=LB o3;clear y0 y1 y2 y3 yf;clear z0 z1 zf;have AV:=(Bw.refl w3).alloc (.cells #[.slice A1 D.items.length c1,.slice A2 D.wanted.length c2,.slice A3 D.best.length c3,.int .i64 D.tests] 28);have bf:=(bc.then cj).then AV;rcases pA8 (YE s x.id) with e2 | e2
  ·have E2:=pA6 e2;rw [e2];clear e2;have cg:=bX.bw bf;have bz:=Box.new w3 #[.slice A1 D.items.length c1,.slice A2 D.wanted.length c2,.slice A3 D.best.length c3,.int .i64 D.tests] 28;obtain ⟨z0,z1,zf⟩:=cg.a2;obtain ⟨d0,d1,d2,d3,df⟩:=bz.a4;obtain ⟨cm,cn,cp,_⟩:=vP (nA AV NB o3);have bb:=PR _ D x _ _ _ u cm cn cp (hx.bw dA (A0.then bf)) bv.1 bv.2.1 bv.2.2;clear cm cn cp cg bz;go_wp2_with fail;refine bb.mono ?_;rintro e w4 ⟨_,rfl,⟨cs,rfl,⟨G4,o4,f4⟩⟩,ck⟩;clear bb;clear z0 z1 zf;clear d0 d1 d2 d3 df;obtain ⟨I,hI⟩:=pA7 (AG D x);rw [<-hI] at o4;have HI:=pA6 hI;clear hI;obtain ⟨B1,d1,B2,d2,B3,d3,rfl⟩:=LB o4;have bs:=(Box.new w3 #[.slice A1 D.items.length c1,.slice A2 D.wanted.length c2,.slice A3 D.best.length c3,.int .i64 D.tests] 28).bw ck;have z3:=(bc.then cj).size;have cv:=bf.then ck;have nG:w3.heap.size∉G4:=fun h=>by have:=f4.ge _ h;simp at this;omega
   obtain ⟨V2,bq⟩:=pA7 ((((w4.setCell ⟨w3.heap.size,0,none⟩ (.slice B1 I.items.length d1)).setCell ⟨w3.heap.size,1,none⟩ (.slice B2 I.wanted.length d2)).setCell ⟨w3.heap.size,2,none⟩ (.slice B3 I.best.length d3)).setCell ⟨w3.heap.size,3,none⟩ (.int .i64 I.tests));have bj:Bw W0 V2:=by rw [bq];exact cv.set4 z3
   have o5:GB V2 I [.slice B1 I.items.length d1,.slice B2 I.wanted.length d2,.slice B3 I.best.length d3,.int .i64 I.tests] G4:=by rw [bq];exact KJ NB o4 nG
   have cb:Box V2 w3.heap.size [.slice B1 I.items.length d1,.slice B2 I.wanted.length d2,.slice B3 I.best.length d3,.int .i64 I.tests]:=by rw [bq];exact (((bs.set (by simp) _).set (by simp) _).set (by simp) _).set (by simp) _
   have bx:=pA6 bq;obtain ⟨k0,k1,k2,k3,kf⟩:=bs.a4;clear bq o4;rcases pA8 (XE D x) with e3 | e3
   ·have bt:zF s x=true:=by unfold zF;rw [E1.out,E2.out,<-HD.out,e3];rfl
    have HY:=pA6 (show BG s x=I by unfold BG;rw [bt,<-HD.out,<-HI.out];rfl);have cq:=pA6 bt;rw [e3];clear e3 bt;have cc:=bR.bw bj;have BB:=A0.then bj;have z4:=bf.size;obtain ⟨F1,F2,F3,o1,o2,cx,rfl⟩:=SB o5
    go_upto_region 6 with fail
    rw [<-bx.out];clear k0 k1 k2 k3 kf;obtain ⟨r0,r1,r2,r3,rf⟩:=cc.a4;obtain ⟨k0,k1,k2,k3,kf⟩:=cb.a4;clear o5 bs cc cb;go_wp2;rw [HY.out,cq.out];refine bodyPost_ret (v:=.tuple #[.agg #[.slice B1 I.items.length d1,.slice B2 I.wanted.length d2,.slice B3 I.best.length d3,.int .i64 I.tests],.bool true]) (by simp [results,results13,go_sem,r0,r1,r2,r3]) rfl (dC o1 o2 cx (f4.mono (by omega)) (by omega) BB)
   ·have bg:zF s x=false:=by unfold zF;rw [<-HD.out,e3];simp
    rw [e3];clear e3
    go_upto_region 6 with fail
    rw [<-bx.out];clear k0 k1 k2 k3 kf;have bn:=pA6 (show BG s x=s by unfold BG;rw [bg];rfl);have bd:=pA6 bg;clear bg;have bk:=bS.bw bj;obtain ⟨y0,y1,y2,y3,yf⟩:=bk.a4;have bb:=IE _ s _ vb _ (ha.bw gA (A0.then bj)) (hb.bw jA (A0.then bj)) (hc.bw dA (A0.then bj)) t1 t2 t3;clear bk;go_wp2_with fail;refine bb.mono ?_;rintro e w9 ⟨cs,F9,rfl,o9,f9,bm⟩;obtain ⟨A1,c1,A2,c2,A3,c3,rfl⟩:=LB o9;obtain ⟨F1,F2,F3,o1,o2,o3,rfl⟩:=SB o9;clear y0 y1 y2 y3 yf;have bp:=bR.bw (bj.then bm);have BB:=A0.then (bj.then bm);have zB:=(bj).size;clear bb o9;obtain ⟨r0,r1,r2,r3,rf⟩:=bp.a4;go_wp2;rw [bn.out,bd.out];refine bodyPost_ret (v:=.tuple #[.agg #[.slice A1 s.items.length c1,.slice A2 s.wanted.length c2,.slice A3 s.best.length c3,.int .i64 s.tests],.bool false]) (by simp [results,results13,go_sem,r0,r1,r2,r3]) rfl (dC o1 o2 o3 (f9.mono (by omega)) (by omega) BB)
  ·have bg:zF s x=false:=by unfold zF;rw [e2];simp
   rw [e2];clear e2;have bn:=pA6 (show BG s x=s by unfold BG;rw [bg];rfl);have bd:=pA6 bg;clear bg;have bk:=bS.bw bf;obtain ⟨y0,y1,y2,y3,yf⟩:=bk.a4;have bb:=IE _ s _ vb _ (ha.bw gA (A0.then bf)) (hb.bw jA (A0.then bf)) (hc.bw dA (A0.then bf)) t1 t2 t3;clear bk;go_wp2_with fail;refine bb.mono ?_;rintro e w9 ⟨cs,F9,rfl,o9,f9,bm⟩;obtain ⟨A1,c1,A2,c2,A3,c3,rfl⟩:=LB o9;obtain ⟨F1,F2,F3,o1,o2,o3,rfl⟩:=SB o9;clear y0 y1 y2 y3 yf;have bp:=bR.bw (bf.then bm);have BB:=A0.then (bf.then bm);have zB:=(bf).size;clear bb o9;obtain ⟨r0,r1,r2,r3,rf⟩:=bp.a4;go_wp2;rw [bn.out,bd.out];refine bodyPost_ret (v:=.tuple #[.agg #[.slice A1 s.items.length c1,.slice A2 s.wanted.length c2,.slice A3 s.best.length c3,.int .i64 s.tests],.bool false]) (by simp [results,results13,go_sem,r0,r1,r2,r3]) rfl (dC o1 o2 o3 (f9.mono (by omega)) (by omega) BB)
 ·have bg:zF s x=false:=by unfold zF;rw [e1];rfl
  rw [e1];clear e1;have bn:=pA6 (show BG s x=s by unfold BG;rw [bg];rfl);have bd:=pA6 bg;clear bg;have bk:=bS.bw bc;obtain ⟨y0,y1,y2,y3,yf⟩:=bk.a4;have bb:=IE _ s _ vb _ (ha.bw gA (A0.then bc)) (hb.bw jA (A0.then bc)) (hc.bw dA (A0.then bc)) t1 t2 t3;clear bk;go_wp2_with fail;refine bb.mono ?_;rintro e w9 ⟨cs,F9,rfl,o9,f9,bm⟩;obtain ⟨A1,c1,A2,c2,A3,c3,rfl⟩:=LB o9;obtain ⟨F1,F2,F3,o1,o2,o3,rfl⟩:=SB o9;clear y0 y1 y2 y3 yf;have bp:=bR.bw (bc.then bm);have BB:=A0.then (bc.then bm);have zB:=(bc).size;clear bb o9;obtain ⟨r0,r1,r2,r3,rf⟩:=bp.a4;go_wp2;rw [bn.out,bd.out];refine bodyPost_ret (v:=.tuple #[.agg #[.slice A1 s.items.length c1,.slice A2 s.wanted.length c2,.slice A3 s.best.length c3,.int .i64 s.tests],.bool false]) (by simp [results,results13,go_sem,r0,r1,r2,r3]) rfl (dC o1 o2 o3 (f9.mono (by omega)) (by omega) BB)
end Go.Proofs.YtpihighajaeabaaGreat
