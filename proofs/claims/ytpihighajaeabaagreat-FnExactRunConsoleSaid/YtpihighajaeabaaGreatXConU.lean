/- The console in the reference: a line with an argument. (Printed by mk_conU.py.) -/
import Derived.Test.YtpihighajaeabaaGreatXConS
import Derived.Test.YtpihighajaeabaaGreatXOpenB
import Derived.Deep.RegionHeld3
namespace Go.Proofs.YtpihighajaeabaaGreat
open Go.RowKit Go.Proofs.Tryz
set_option linter.all false
set_option maxRecDepth 100000
set_option maxHeartbeats 16000000
theorem DY {l:List iA} (h:jC l<=1048576):l.length<=1048576:=by unfold jC at h;omega
theorem VK (w:World) (b:Nat) (m:CS) (l:ByteArray) (h:StP LS b w m) :
  Calls prog 257 #[.pointer (some ⟨b,0,none⟩),.string l] w (gC LS b w (ED m l,m)):=by
 obtain ⟨S,FV,vi,vw,vb,vv,h0⟩:=h;obtain ⟨A1,n1,c1,rfl,l1,_⟩:=qA h0.items;obtain ⟨A2,n2,c2,rfl,l2,_⟩:=qA h0.wanted;obtain ⟨A3,n3,c3,rfl,l3,_⟩:=qA h0.best;obtain ⟨A4,n4,c4,rfl,l4,_⟩:=qA h0.vote;have L4:=pA6 l4;have cb:=DY h0.small.1.1;clear l1 l2 l3 l4;have H0:=pA6 h0;clear h0;have h3:=H0.out;have hi:=h3.items;have hw:=h3.wanted;have bx:=h3.box;obtain ⟨x0,x1,x2,x3,x4,x5,xf⟩:=bx.a6;have HV:=pA6 (fun W (h:Bw w W) s (hs:ED m l=s)=>show gC LS b w (ED m l,m) (.returned (.string s)) W from by rw [hs];exact H0.out.same h _);obtain ⟨R,hR⟩:=pA7 ((ED m l,m));rw [<-hR] at HV ⊢;clear bx hR;go_enter func257,ntmps257;by_cases h1:l=eAv
 ·skip
  obtain ⟨e1,e2,e3,e4,e5,e6,e7⟩:E7 l true false false false false false false:=pAj (by rw [h1];decide);have hv:=WZ (m:=m) h1;clear h1;by_cases h0n:n4=0
  ·have i2:((n4:Int)==0)=true:=beq_iff_eq.2 (by omega);have bb:m.voters=[]:=List.eq_nil_of_length_eq_zero (L4.out.symm.trans h0n);rw [if_pos bb] at hv;have bd:=pA6 (HV.out _ (Bw.refl w) _ hv);clear hv bb h0n h3 hi hw;go_wp2;go_ret;exact bd.out
  ·have i2:((n4:Int)==0)=false:=beq_eq_false_iff_ne.2 (by omega);have bb:¬m.voters=[]:=fun h=>h0n (L4.out.trans (by rw [h];rfl))
   rw [if_neg bb] at hv;clear bb h0n;have hc:=hAd w m.s.items m.voters _ _ hi h3.vote;have bd:=pA6 (fun W (h:Bw w W)=>HV.out W h _ hv);clear hv h3 hi hw;go_wp2_with fail;refine hc.mono ?_;rintro e w8 ⟨rfl,bf⟩;have bc:=pA6 (bd.out w8 bf);clear hc;go_wp2;go_ret;exact bc.out
 by_cases h2:l=eAw
 ·skip
  obtain ⟨e1,e2,e3,e4,e5,e6,e7⟩:E7 l false true false false false false false:=pAj (by rw [h2];decide);have hv:=XZ (m:=m) h2;clear h1 h2;have hc:=cN w m.s.best _ h3.best (fun x hx=>GP (h3.small.ids x hx)) (Nat.le_trans h3.small.len (by decide));have bd:=pA6 (fun W (h:Bw w W)=>HV.out W h _ hv);clear hv h3 hi hw;go_wp2_with fail;refine hc.mono ?_;rintro e w8 ⟨rfl,bf⟩;have bc:=pA6 (bd.out w8 bf);clear hc;go_wp2;go_ret;exact bc.out
 by_cases h3:l=ZR
 ·skip
  obtain ⟨e1,e2,e3,e4,e5,e6,e7⟩:E7 l false false true false false false false:=pAj (by rw [h3];decide);have hv:=sU (m:=m) h3;clear h1 h2 h3;have hc:=bAk w m.s.items m.s.wanted _ _ hi hw;have hg:=wX m.s.items m.s.wanted;have bg:=fun h=>kA8 (l:=m.s.items) (e:=m.s.wanted) h
  have bs:=pX m.s.items m.s.wanted;obtain ⟨Z,hZ⟩:=pA7 (mG m.s.items m.s.wanted);rw [<-hZ] at hc hg hv bg bs;have bz:=pA6 bs;have bj:=pA6 hv;have bq:=pA6 bg;have hsep:(⟨#[59,32]⟩:ByteArray).size=2:=rfl;clear hv hZ h3 hi hw bg bs;go_wp2_with fail;refine hc.mono ?_;rintro e w7 ⟨v7,rfl,⟨F7,o7,f7⟩,bk⟩;have r7:=DC o7;obtain ⟨A7,n7,c7,rfl,l7,_⟩:=qA r7;have L7:=pA6 l7;clear hc l7 o7;go_wp2
  go_loopg [8,9] (n7+1) (fun gg s i w'=>∃(k:Nat) (acc:ByteArray),k<=n7/\gg=n7-k+1/\i=.int .i64 k/\s=.string acc/\Hid (dF Z ⟨#[59,32]⟩=gl ⟨#[59,32]⟩ k acc (Z.drop k))/\acc.size+wE ⟨#[59,32]⟩ (Z.drop k)<=6432/\Bw w7 w')
  ·exact ⟨0,_,by omega,by omega,rfl,rfl,rfl,by simpa [ByteArray.size] using hg,Bw.refl _⟩
  ·obtain ⟨k,acc,hk,rfl,rfl,rfl,HE,g1,hb⟩:=hrel;by_cases hlt:k<n7
   ·obtain ⟨x,hx⟩:=tA (xs:=Z) (k:=k) (by rw [<-L7.out];exact hlt);obtain ⟨ba,oa,rfl,_,hcx⟩:=BC (r7.bw pF hb) hx;have HS:=pA6 (SU (sep:=⟨#[59,32]⟩) (acc:=acc) hx);have g2:wE ⟨#[59,32]⟩ (Z.drop k)=x.size+(⟨#[59,32]⟩:ByteArray).size+wE ⟨#[59,32]⟩ (Z.drop (k+1)):=MY _ hx;rw [g2] at g1;have i7:(k:Int)<(n7:Int):=by omega
    have hwk:IntKind.i64.wrap ((k:Int)+1)=(k:Int)+1:=by have:=bz.out;have:=L7.out;simp [IntKind.wrap,IntKind.bits,IntKind.signed];omega
    clear g2 hx hg;by_cases h0:0<k
    ·have i8:(0:Int)<(k:Int):=by omega
     have hadd:∀W,(Op.stringOp .add acc ⟨#[59,32]⟩).run prog W=.ok (.string (acc++⟨#[59,32]⟩)) W:=fun W=>run_string_add_sum W _ _ (by omega)
     have bm:∀W,(Op.stringOp .add (acc++⟨#[59,32]⟩) x).run prog W=.ok (.string (acc++⟨#[59,32]⟩++x)) W:=fun W=>run_string_add_sum W _ _ (by rw [lA];omega)
     go_wp2
     go_roundg (n7-(k+1)+1)
     ·exact ⟨k+1,_,by omega,rfl,by go_num,rfl,by show _=_;rw [HE.out,HS.out,if_pos h0],by have e:(⟨#[59,32]⟩:ByteArray).size=2:=rfl;rw [lA,lA,e];rw [e] at g1;omega,hb⟩
     ·omega
    ·have i8:¬(0:Int)<(k:Int):=by omega
     have bm:∀W,(Op.stringOp .add acc x).run prog W=.ok (.string (acc++x)) W:=fun W=>run_string_add_sum W _ _ (by omega)
     go_wp2
     go_roundg (n7-(k+1)+1)
     ·exact ⟨k+1,_,by omega,rfl,by go_num,rfl,by show _=_;rw [HE.out,HS.out,if_neg (by omega)],by rw [lA];omega,hb⟩
     ·omega
   ·have i7:¬(k:Int)<(n7:Int):=by omega
    have bp:dF Z ⟨#[59,32]⟩=acc:=by rw [HE.out,List.drop_of_length_le (by rw [<-L7.out];omega),gl]
    by_cases hz:acc.size=0
    ·have e9:=vG hz;have bb:Z=[]:=by
      refine Classical.byContradiction fun h=>?_
      have:=bq.out h;rw [bp] at this;omega
     have bc:=pA6 (HV.out wr (bk.then hb) _ (bj.out.trans (if_pos bb)));clear hz bp bb hlt;go_wp2;go_ret;exact bc.out
    ·have e9:acc.toList.isEmpty=false:=LG (by omega);have bb:¬Z=[]:=fun h=>hz (by rw [<-bp,h];rfl)
     have bc:=pA6 (HV.out wr (bk.then hb) _ ((bj.out.trans (if_neg bb)).trans bp));clear hz bp bb hlt;go_wp2;go_ret;exact bc.out
 by_cases h4:l=TL
 ·skip
  obtain ⟨e1,e2,e3,e4,e5,e6,e7⟩:E7 l false false false true false false false:=pAj (by rw [h4];decide);have hv:=IP (m:=m) h4;clear h1 h2 h3 h4;have hc:=DR w m.s.items m.s.wanted _ _ hi hw cb;have bt:=xT (l:=m.s.items) (e:=m.s.wanted);have bv:=yO m.s.items m.s.wanted;obtain ⟨Z,hZ⟩:=pA7 (NJ m.s.items m.s.wanted);rw [<-hZ] at hc bt hv bv;have bj:=pA6 hv;have KI:=pA6 (fun W v (h:Rd aB W Z [v])=>cN W Z v h (fun x hx=>GP (bt x hx)) (Nat.le_trans bv (by decide)));clear hv hZ bt bv h3 hi hw;go_wp2_with fail;refine hc.mono ?_;rintro e w7 ⟨v7,rfl,⟨F7,o7,f7⟩,bk⟩;have bn:=KI.out w7 _ (xA o7);clear hc;go_wp2_with fail;refine bn.mono ?_;rintro e w8 ⟨rfl,bf⟩;have bc:=pA6 (HV.out w8 (bk.then bf) _ bj.out);clear bn o7;go_wp2;go_ret;exact bc.out
 by_cases h5:l=qX
 ·skip
  obtain ⟨e1,e2,e3,e4,e5,e6,e7⟩:E7 l false false false false true false false:=pAj (by rw [h5];decide);have hv:=yX (m:=m) h5;clear h1 h2 h3 h4 h5;have hc:=NV w m.s _ _ _ hi hw h3.best;have bd:=pA6 (fun W (h:Bw w W)=>HV.out W h _ hv);clear hv h3 hi hw;go_wp2_with fail;refine hc.mono ?_;rintro e w8 ⟨rfl,bf⟩;have bc:=pA6 (bd.out w8 bf);clear hc;go_wp2;go_ret;exact bc.out
 by_cases h6:l=dJ
 ·skip
  obtain ⟨e1,e2,e3,e4,e5,e6,e7⟩:E7 l false false false false false true false:=pAj (by rw [h6];decide);have hv:=YZ (m:=m) h6;clear h1 h2 h3 h4 h5 h6;have hc:=xE w m.s.wanted _ hw;have bd:=pA6 (fun W (h:Bw w W)=>HV.out W h _ hv);clear hv h3 hi hw;go_wp2_with fail;refine hc.mono ?_;rintro e w8 ⟨rfl,bf⟩;have bc:=pA6 (bd.out w8 bf);clear hc;go_wp2;go_ret;exact bc.out
 by_cases h7:l=aS
 ·skip
  obtain ⟨e1,e2,e3,e4,e5,e6,e7⟩:E7 l false false false false false false true:=pAj (by rw [h7];decide);have hv:=tU (m:=m) h7;clear h1 h2 h3 h4 h5 h6 h7;have hc:=UM w m.s.wanted _ hw h3.small.1.2.1;obtain ⟨Z,hZ⟩:=pA7 (FR m.s.wanted);rw [<-hZ] at hc hv;have bj:=pA6 hv;clear hv hZ h3 hi hw;go_wp2_with fail;refine hc.mono ?_;rintro e w7 ⟨v7,rfl,⟨F7,o7,f7⟩,bk⟩;have bn:=xE w7 Z _ (bB o7);clear hc;go_wp2_with fail;refine bn.mono ?_;rintro e w8 ⟨rfl,bf⟩;have bc:=pA6 (HV.out w8 (bk.then bf) _ bj.out);clear bn o7;go_wp2;go_ret;exact bc.out
 obtain ⟨e1,e2,e3,e4,e5,e6,e7⟩:E7 l false false false false false false false:=pAj (by simp only [h1,h2,h3,h4,h5,h6,h7,decide_false]);have hv:=yT (m:=m) h1 h2 h3 h4 h5 h6 h7;clear h1 h2 h3 h4 h5 h6 h7;have bd:=pA6 (HV.out _ (Bw.refl w) _ hv);clear hv h3 hi hw;go_wp2;go_ret;exact bd.out
noncomputable def EY (m:CS) (l:ByteArray):ByteArray×CS:=match BF (bl l) with
 | some (a,r)=>ZI m (mkS a) (mkS r)
 | none=>(ED m l,m)
noncomputable def zQ (m:CS) (l:ByteArray) (i1:Bool) (X1:iA×Bool) (i2:Bool) (X2:iA×Bool) (i3:Bool) (N3:Int×Bool) (i4:Bool) (N4:Int×Bool) (i5:Bool) (N5:Int×Bool) (i6:Bool) (E6:List mA×Bool):ByteArray×CS:=
 if i1=true/\X1.2=true then SK m (AG m.s X1.1) (XE m.s X1.1)
 else if i2=true/\X2.2=true then SK m (BG m.s X2.1) (zF m.s X2.1)
 else if i3=true/\N3.2=true then SK m (FH m.s N3.1) (YE m.s N3.1)
 else if i4=true/\N4.2=true then (AY m N4.1,m)
 else if i5=true/\N5.2=true then (fD (QI m.s.items m.s.wanted N5.1),m)
 else if i6=true/\E6.2=true then YI m E6.1
 else (ED m l,m)
theorem fA6 {l:ByteArray} {a r:List UInt8} (hs:BF (bl l)=some (a,r)) (word:ByteArray):QC l word=if mkS a=word then (mkS r,true) else (⟨#[]⟩,false):=by
 unfold QC;rw [hs];dsimp only;by_cases h:a=bl word
 ·rw [if_pos h,if_pos (by rw [h,nJ])]
 ·rw [if_neg h,if_neg (fun e=>h (by rw [<-e,RS]))]
theorem kAh {m:CS} {l:ByteArray} {a r:List UInt8} (hs:BF (bl l)=some (a,r)):ED m l=lH:=by
 have h32:(32:UInt8)∈bl l:=by rw [(gK hs).1];simp
 have key:∀ {t:ByteArray},¬(32:UInt8)∈bl t->¬l=t:=fun ht e=>ht (e▸h32)
 exact yT (key (by decide)) (key (by decide)) (key (by decide)) (key (by decide)) (key (by decide)) (key (by decide)) (key (by decide))
theorem oAf (m:CS) (l:ByteArray):EY m l=zQ m l (QC l AL).2 (YF (QC l AL).1) (QC l zE).2 (YF (QC l zE).1) (QC l PH).2 (pI (QC l PH).1) (QC l BL).2 (pI (QC l BL).1) (QC l QH).2 (pI (QC l QH).1) (QC l WF).2 (jF (QC l WF).1):=by
 unfold EY zQ
 cases hs:BF (bl l) with
 | none=>
  have h:∀word,QC l word=(⟨#[]⟩,false):=fun word=>by unfold QC;rw [hs]
  simp only [h,Bool.false_eq_true,false_and,if_false]
 | some p=>
  obtain ⟨a,r⟩:=p;have h:=fA6 hs;have hw:=kAh (m:=m) hs;dsimp only;unfold ZI;simp only [h];rw [hw];by_cases h1:mkS a=AL
  ·simp only [h1,show ¬(AL=zE) by decide,show ¬(AL=PH) by decide,show ¬(AL=BL) by decide,show ¬(AL=QH) by decide,show ¬(AL=WF) by decide,if_true,if_false,Bool.false_eq_true,false_and]
  by_cases h2:mkS a=zE
  ·simp only [h2,show ¬(zE=AL) by decide,show ¬(zE=PH) by decide,show ¬(zE=BL) by decide,show ¬(zE=QH) by decide,show ¬(zE=WF) by decide,if_true,if_false,Bool.false_eq_true,false_and]
  by_cases h3:mkS a=PH
  ·simp only [h3,show ¬(PH=AL) by decide,show ¬(PH=zE) by decide,show ¬(PH=BL) by decide,show ¬(PH=QH) by decide,show ¬(PH=WF) by decide,if_true,if_false,Bool.false_eq_true,false_and]
  by_cases h4:mkS a=BL
  ·simp only [h4,show ¬(BL=AL) by decide,show ¬(BL=zE) by decide,show ¬(BL=PH) by decide,show ¬(BL=QH) by decide,show ¬(BL=WF) by decide,if_true,if_false,Bool.false_eq_true,false_and]
  by_cases h5:mkS a=QH
  ·simp only [h5,show ¬(QH=AL) by decide,show ¬(QH=zE) by decide,show ¬(QH=PH) by decide,show ¬(QH=BL) by decide,show ¬(QH=WF) by decide,if_true,if_false,Bool.false_eq_true,false_and]
  by_cases h6:mkS a=WF
  ·simp only [h6,show ¬(WF=AL) by decide,show ¬(WF=zE) by decide,show ¬(WF=PH) by decide,show ¬(WF=BL) by decide,show ¬(WF=QH) by decide,if_true,if_false,Bool.false_eq_true,false_and]
  simp only [h1,h2,h3,h4,h5,h6,if_false,Bool.false_eq_true,false_and]
theorem mAg (m:CS) (l:ByteArray):PJ m l=if (QC l dJ).2=true/\(jF (QC l dJ).1).2=true then (wOk,⟨iF m.s.items (jF (QC l dJ).1).1,true,m.voters⟩) else if m.on=false then (qE,m) else EY m l:=by
 unfold PJ EY
 cases hs:BF (bl l) with
 | none=>
  have h:QC l dJ=(⟨#[]⟩,false):=by unfold QC;rw [hs]
  simp only [h,Bool.false_eq_true,false_and,if_false]
 | some p=>
  obtain ⟨a,r⟩:=p;have h:=fA6 hs dJ;dsimp only;rw [h];by_cases h1:mkS a=dJ
  ·simp only [h1,if_true,true_and]
  ·simp only [h1,if_false,Bool.false_eq_true,false_and]
theorem yD {l u v:ByteArray} {i k:Bool} {s t:ByteArray} (h1:(t,i)=QC l u) (h2:(s,k)=QC l v) (huv:¬u=v) (hi:i=true):k=false:=by
 have:=hAm (l:=l) (u:=u) (v:=v) (by rw [<-h1];exact hi) huv;rw [<-h2] at this;exact this
theorem iAe {W:World} {bt:Nat} {a0 a1 a2 a3:Value} {α:Type} {R:Fp α} (hR:tC 0 R) {x:α} {cs:List Value} {F:List Nat} (hx:R W x cs F) (hF:bt∉F):R ((((W.setCell ⟨bt,0,none⟩ a0).setCell ⟨bt,1,none⟩ a1).setCell ⟨bt,2,none⟩ a2).setCell ⟨bt,3,none⟩ a3) x cs F:=KJ hR hx hF
theorem tri (i p:Bool):(i=true/\p=true)\/i=false\/(i=true/\p=false):=by cases i<;>cases p<;>simp
theorem fA7 (w:World) (b:Nat) (m:CS) (l:ByteArray) (h:StP LS b w m) (hl:l.size<=1048576) :
  Calls prog 201 #[.pointer (some ⟨b,0,none⟩),.string l] w (gC LS b w (EY m l)):=by
 obtain ⟨S,FV,vi,vw,vb,vv,h0⟩:=h;obtain ⟨A1,n1,c1,rfl,l1,_⟩:=qA h0.items;obtain ⟨A2,n2,c2,rfl,l2,_⟩:=qA h0.wanted;obtain ⟨A3,n3,c3,rfl,l3,_⟩:=qA h0.best;obtain ⟨A4,n4,c4,rfl,l4,_⟩:=qA h0.vote;have L4:=pA6 l4;clear l1 l2 l3 l4;obtain ⟨R,hR⟩:=pA7 (EY m l);rw [<-hR];have hr:=hR.trans (oAf m l);clear hR;have fg:=fun W=>YH W l AL hl (by decide) (by decide)
 have fj:=fun W=>YH W l zE hl (by decide) (by decide)
 have fk:=fun W=>YH W l PH hl (by decide) (by decide)
 have fm:=fun W=>YH W l BL hl (by decide) (by decide)
 have fn:=fun W=>YH W l QH hl (by decide) (by decide)
 have fp:=fun W=>YH W l WF hl (by decide) (by decide)
 have dv:=XH l AL;have dx:=XH l zE;have dz:=XH l PH;have fb:=XH l BL;have fc:=XH l QH;have fd:=XH l WF;obtain ⟨Y1,cc⟩:=pA7 (QC l AL);simp only [<-cc] at fg;rw [<-cc] at dv hr;obtain ⟨Y2,cd⟩:=pA7 (QC l zE);simp only [<-cd] at fj;rw [<-cd] at dx hr;obtain ⟨Y3,cf⟩:=pA7 (QC l PH);simp only [<-cf] at fk;rw [<-cf] at dz hr;obtain ⟨Y4,cg⟩:=pA7 (QC l BL);simp only [<-cg] at fm;rw [<-cg] at fb hr;obtain ⟨Y5,cj⟩:=pA7 (QC l QH);simp only [<-cj] at fn;rw [<-cj] at fc hr;obtain ⟨Y6,ck⟩:=pA7 (QC l WF);simp only [<-ck] at fp;rw [<-ck] at fd hr;obtain ⟨t1,i1⟩:=Y1;obtain ⟨t2,i2⟩:=Y2;obtain ⟨t3,i3⟩:=Y3;obtain ⟨t4,i4⟩:=Y4;obtain ⟨t5,i5⟩:=Y5;obtain ⟨t6,i6⟩:=Y6;dsimp only at hr fg dv fj dx fk dz fm fb fn fc fp fd;have fq:=fun W=>YT W t1 (Nat.le_trans dv hl)
 have fs:=fun W=>YT W t2 (Nat.le_trans dx hl)
 have ft:=fun W=>lM W t3 (Nat.le_trans dz hl)
 have fx:=fun W=>lM W t4 (Nat.le_trans fb hl)
 have fz:=fun W=>lM W t5 (Nat.le_trans fc hl)
 have gb:=fun W=>iL W t6 (Nat.le_trans fd hl)
 obtain ⟨X1,jc⟩:=pA7 (YF t1);simp only [<-jc] at fq;rw [<-jc] at hr;obtain ⟨X2,jd⟩:=pA7 (YF t2);simp only [<-jd] at fs;rw [<-jd] at hr;obtain ⟨X3,jf⟩:=pA7 (pI t3);simp only [<-jf] at ft;rw [<-jf] at hr;obtain ⟨X4,jg⟩:=pA7 (pI t4);simp only [<-jg] at fx;rw [<-jg] at hr;obtain ⟨X5,jj⟩:=pA7 (pI t5);simp only [<-jj] at fz;rw [<-jj] at hr;obtain ⟨X6,jk⟩:=pA7 (jF t6);simp only [<-jk] at gb;rw [<-jk] at hr;obtain ⟨bj,p1⟩:=X1;obtain ⟨bk,p2⟩:=X2;obtain ⟨cx,p3⟩:=X3;obtain ⟨gp,p4⟩:=X4;obtain ⟨gq,p5⟩:=X5;obtain ⟨gm,p6⟩:=X6;dsimp only at fq fs ft fx fz gb;have jx:i1=true->i2=false/\i3=false/\i4=false/\i5=false/\i6=false:=fun hi=>⟨yD cc cd (by decide) hi,yD cc cf (by decide) hi,yD cc cg (by decide) hi,yD cc cj (by decide) hi,yD cc ck (by decide) hi⟩
 have jz:i2=true->i3=false/\i4=false/\i5=false/\i6=false:=fun hi=>⟨yD cd cf (by decide) hi,yD cd cg (by decide) hi,yD cd cj (by decide) hi,yD cd ck (by decide) hi⟩
 have kb:i3=true->i4=false/\i5=false/\i6=false:=fun hi=>⟨yD cf cg (by decide) hi,yD cf cj (by decide) hi,yD cf ck (by decide) hi⟩
 have kc:i4=true->i5=false/\i6=false:=fun hi=>⟨yD cg cj (by decide) hi,yD cg ck (by decide) hi⟩
 have kd:i5=true->i6=false:=fun hi=>yD cj ck (by decide) hi
 have nk:=pA6 fg;have nt:=pA6 fq;have ms:=pA6 jx;have nm:=pA6 fj;have nv:=pA6 fs;have mt:=pA6 jz;have nn:=pA6 fk;have nx:=pA6 ft;have mv:=pA6 kb;have np:=pA6 fm;have nz:=pA6 fx;have mx:=pA6 kc;have nq:=pA6 fn;have pb:=pA6 fz;have mz:=pA6 kd;have ns:=pA6 fp;have pc:=pA6 gb;have HR:=pA6 hr;have H0:=pA6 h0;clear hr h0 fg fq dv jc cc fj fs dx jd cd fk ft dz jf cf fm fx fb jg cg fn fz fc jj cj fp gb fd jk ck jx jz kb kc kd;have B0:Bw w w:=Bw.refl w;have mk:=True.intro;go_enter func201,ntmps201;go_wp2_with fail;refine (nk.out _).mono ?_;rintro e wa1 ⟨rfl,kp⟩;go_wp2_with fail;refine (nt.out _).mono ?_;rintro e bb ⟨v1,rfl,⟨cs1,rfl,Fi1,⟨ui1,rfl,mj⟩,fi1⟩,kt⟩;obtain ⟨cn,ct,cq,rfl,qg,_⟩:=qA (xA mj);clear qg;have gd:=(B0.then (kp.then kt)).alloc (.cells #[.int .i64 bj.id,.slice cn ct cq] 30);have dt:w.heap.size<=bb.heap.size:=(B0.then (kp.then kt)).size;rcases tri i1 p1 with ⟨rfl,rfl⟩ | rfl | ⟨rfl,rfl⟩;rotate_left 2
 focus (obtain ⟨z2,z3,z4,z5,z6⟩:=ms.out rfl)
 rotate_right 2
 focus
  have hr:R=SK m (AG m.s bj) (XE m.s bj):=by rw [HR.out];unfold zQ;simp
  have BI:=gd;go_wp2_with fail;have dk:Bw bb (bb.alloc (.cells #[.int .i64 bj.id,.slice cn ct cq] 30)):=(Bw.refl _).alloc _;have oI:=nA dk aA mj;have k0:(bb.alloc (.cells #[.int .i64 bj.id,.slice cn ct cq] 30)).cell? ⟨bb.heap.size,0,none⟩=some (.int .i64 bj.id):=by go_simp
  have k1:(bb.alloc (.cells #[.int .i64 bj.id,.slice cn ct cq] 30)).cell? ⟨bb.heap.size,1,none⟩=some (.slice cn ct cq):=by go_simp
  have q0:=k0;have q1:=k1;clear k0 k1;generalize cn=Au at *;generalize ct=nu at *;generalize cq=cu at *;generalize (bb.alloc (.cells #[.int .i64 bj.id,.slice Au nu cu] 30))=WI at BI oI q0 q1 ⊢;clear gd dk;have bm:=iS (x:=bj) H0.out.small;have bv:=fun W (B:Bw w W) v (hv:Rd aB W (bj).vals [v])=>OR W m.s bj _ _ _ _ (H0.out.bw B).items (H0.out.bw B).wanted (H0.out.bw B).best hv H0.out.small.1.1 H0.out.small.1.2.1 H0.out.small.1.2.2
  generalize AG m.s bj=nw at bm bv hr;generalize XE m.s bj=ok at bm bv hr;obtain ⟨x,hx⟩:=pA7 bj;subst hx;have gn:=pA6 bm;have HC:=pA6 bv;have K3:=pA6 hr;clear bm bv hr mk
 rotate_left
 any_goals
  first | replace mk:=mk | fail
  go_wp2_with fail;refine (nm.out _).mono ?_;rintro e wa2 ⟨rfl,kq⟩;go_wp2_with fail;refine (nv.out _).mono ?_;rintro e ds ⟨v2,rfl,⟨cs2,rfl,nc,⟨ui2,rfl,mm⟩,pg⟩,pt⟩;obtain ⟨cv,dc,cz,rfl,qj,_⟩:=qA (xA mm);clear qj;have gz:=kq.then pt;obtain ⟨q0,q1⟩:C2 ds bb.heap.size (.int .i64 bj.id) (.slice cn ct cq):=gz.c2 (by unfold C2;go_simp);have qf:∀o,ds.frozen? ⟨bb.heap.size,o,none⟩=false:=fun o=>by rw [oC gz _ _ (by first | (simp;done) | (simp;omega))];go_simp
  have gf:=((gd.then gz).set (p:=⟨bb.heap.size,0,none⟩) dt (.int .i64 bk.id)).set (p:=⟨bb.heap.size,1,none⟩) dt (.slice cv dc cz);rcases tri i2 p2 with ⟨rfl,rfl⟩ | rfl | ⟨rfl,rfl⟩<;>try cases z2
 rotate_left 2
 focus (obtain ⟨z3,z4,z5,z6⟩:=mt.out rfl)
 rotate_right 2
 focus
  have hr:R=SK m (BG m.s bk) (zF m.s bk):=by rw [HR.out];unfold zQ;simp
  have BI:=gf;go_wp2_with fail;have nI:bb.heap.size∉nc:=fun h=>by have h1:=pg.ge _ h;have h2:=kq.size;simp at h2;omega
  have oI:=UA (b:=bb.heap.size) (o:=1) (u:=.slice cv dc cz) aA (UA (b:=bb.heap.size) (o:=0) (u:=.int .i64 bk.id) aA mm nI) nI;have k0:((ds.setCell ⟨bb.heap.size,0,none⟩ (.int .i64 bk.id)).setCell ⟨bb.heap.size,1,none⟩ (.slice cv dc cz)).cell? ⟨bb.heap.size,0,none⟩=some (.int .i64 bk.id):=by go_simp
  have k1:((ds.setCell ⟨bb.heap.size,0,none⟩ (.int .i64 bk.id)).setCell ⟨bb.heap.size,1,none⟩ (.slice cv dc cz)).cell? ⟨bb.heap.size,1,none⟩=some (.slice cv dc cz):=by go_simp
  clear q0 q1 qf;have q0:=k0;have q1:=k1;clear k0 k1;generalize cv=Au at *;generalize dc=nu at *;generalize cz=cu at *;generalize ((ds.setCell ⟨bb.heap.size,0,none⟩ (.int .i64 bk.id)).setCell ⟨bb.heap.size,1,none⟩ (.slice Au nu cu))=WI at BI oI q0 q1 ⊢;clear gf;have bm:=dV (x:=bk) H0.out.small;have bv:=fun W (B:Bw w W) v (hv:Rd aB W (bk).vals [v])=>bAh W m.s bk _ _ _ _ (H0.out.bw B).items (H0.out.bw B).wanted (H0.out.bw B).best hv H0.out.small.1.1 H0.out.small.1.2.1 H0.out.small.1.2.2
  generalize BG m.s bk=nw at bm bv hr;generalize zF m.s bk=ok at bm bv hr;obtain ⟨x,hx⟩:=pA7 bk;subst hx;have gn:=pA6 bm;have HC:=pA6 bv;have K3:=pA6 hr;clear bm bv hr mk
 rotate_left
 any_goals
  first | replace mk:=mk | fail
  go_wp2_with fail;refine (nn.out _).mono ?_;rintro e wa3 ⟨rfl,pp⟩;go_wp2_with fail;refine (nx.out _).mono ?_;rintro e qm ⟨rfl,pv⟩;have jp:=gf.then (pp.then pv);rcases tri i3 p3 with ⟨rfl,rfl⟩ | rfl | ⟨rfl,rfl⟩<;>try cases z3
 rotate_left 2
 focus (obtain ⟨z4,z5,z6⟩:=mv.out rfl)
 rotate_right 2
 focus
  have hr:R=SK m (FH m.s cx) (YE m.s cx):=by rw [HR.out];unfold zQ;simp
  have BI:=jp;have h3:=H0.out.bw BI;have ff:=h3.small.1;have hc:=TR qm m.s cx _ _ _ h3.items h3.wanted h3.best ff.1 ff.2.1 ff.2.2;have bm:=cV (id:=cx) H0.out.small;generalize FH m.s cx=nw at bm hc hr;generalize YE m.s cx=ok at bm hc hr;have gn:=pA6 bm;have bx:=h3.box;have K3:=pA6 hr;clear bm hr ff h3;obtain ⟨x0,x1,x2,x3,x4,x5,xf⟩:=bx.a6;clear bx;go_wp2_with fail;clear x0 x1 x2 x3 x4 x5 xf;refine hc.mono ?_;clear hc;rintro e w5 ⟨v5,rfl,⟨jv,rfl,F5,⟨mn,mp,mq,dd,df,dj,rfl,g1,g2,g3,g4⟩,f5⟩,bc⟩;obtain ⟨A5,n5,d5,rfl,l5,_⟩:=qA (pC g1);obtain ⟨A6,n6,d6,rfl,l6,_⟩:=qA (bB g2);obtain ⟨A7,n7,d7,rfl,l7,_⟩:=qA (xA g3);clear l5 l6 l7;have o5:GB w5 nw _ F5:=⟨_,_,_,dd,df,dj,rfl,g1,g2,g3,g4⟩;clear g1 g2 g3 g4;have bd:=(Bw.refl w5).alloc (.cells #[.slice A5 n5 d5,.slice A6 n6 d6,.slice A7 n7 d7,.int .i64 nw.tests] 28);have o6:=nA bd NB o5;have js:=pA6 (f5.mono BI.size);have B6:=BI.then (bc.then bd);clear o5 f5 bd;go_wp2_with fail;generalize w5.alloc (.cells #[.slice A5 n5 d5,.slice A6 n6 d6,.slice A7 n7 d7,.int .i64 nw.tests] 28)=W6 at o6 B6 ⊢;clear mk
 rotate_left
 any_goals
  first | replace mk:=mk | fail
  go_wp2_with fail;refine (np.out _).mono ?_;rintro e wa4 ⟨rfl,pq⟩;go_wp2_with fail;refine (nz.out _).mono ?_;rintro e qn ⟨rfl,px⟩;have jq:=jp.then (pq.then px);rcases tri i4 p4 with ⟨rfl,rfl⟩ | rfl | ⟨rfl,rfl⟩<;>try cases z4
 rotate_left 2
 focus (obtain ⟨z5,z6⟩:=mx.out rfl)
 rotate_right 2
 focus
  have hr:R=(AY m gp,m):=by rw [HR.out];unfold zQ;simp
  have BI:=jq;have h3:=H0.out.bw BI;have hi:=h3.items;have hw:=h3.wanted;obtain ⟨Z,hZ⟩:=pA7 (TC m.s.items m.s.wanted gp);have kE:∀s:eC qn,Calls prog 255 #[.slice A1 n1 c1,.slice A2 n2 c2,.int .i64 gp] s.1 (Ret s.1 (.string Z)):=fun s=>by rw [hZ];exact YX _ _ _ _ _ _ (hi.bw gA s.bw) (hw.bw jA s.bw)
  have hy:R=((if Z.size=0 then JM else Z),m):=by rw [hr];unfold AY;rw [<-hZ]
  have K3:=pA6 hy;have bx:=h3.box;obtain ⟨x0,x1,x2,x3,x4,x5,xf⟩:=bx.a6;have s0:=pA x0;have s1:=pA x1;clear hr hy hZ hi hw h3 bx;by_cases cm:Z.size=0;rotate_left
  focus
   have z0:Z.toList.isEmpty=false:=LG (by omega);have bp:=pA6 (fun W (hb:Bw w W)=>show gC LS b w R (.returned (.string Z)) W from by rw [K3.out,if_neg cm];exact H0.out.same hb _)
  rotate_right
  focus
   have z0:=vG cm;have bp:=pA6 (fun W (hb:Bw w W)=>show gC LS b w R (.returned (.string JM)) W from by rw [K3.out,if_pos cm];exact H0.out.same hb _)
  all_goals
   clear cm K3;go_wp2_with fail;refine IA (by kernel_rfl) ?_
   repeat (first | go_big_quiet_skip | (go_big_quiet_want;go_big_quiet_op;first | go_big_quiet_on | (apply Exists.intro;refine ⟨fun _=>?_,?_⟩;(· (((go_at_call 255;exact DA (kE _)))));go_big_quiet_on)))
   refine JA fun wq hbq=>?_
   try dsimp only at *
   have B7:=BI.then hbq;go_wp2;go_ret;exact bp.out _ B7
 any_goals
  first | replace mk:=mk | fail
  go_wp2_with fail;refine (nq.out _).mono ?_;rintro e wa5 ⟨rfl,ps⟩;go_wp2_with fail;refine (pb.out _).mono ?_;rintro e gc ⟨rfl,bc⟩;have gg:=jq.then (ps.then bc);rcases tri i5 p5 with ⟨rfl,rfl⟩ | rfl | ⟨rfl,rfl⟩<;>try cases z5
 rotate_left 2
 focus (have z6:=mz.out rfl)
 rotate_right 2
 focus
  have hr:R=(fD (QI m.s.items m.s.wanted gq),m):=by rw [HR.out];unfold zQ;simp
  have BI:=gg;have h3:=H0.out.bw BI;obtain ⟨Z,hZ⟩:=pA7 (QI m.s.items m.s.wanted gq);have hc:=dAw gc.drew m.s.items m.s.wanted gq _ _ (h3.items.bw gA (Bw.refl gc).drew) (h3.wanted.bw jA (Bw.refl gc).drew);have mb:∀v∈Z,(Lit.int .i64 v).wf=true:=fun v hv=>GP (wT v (hZ▸hv))
  have dp:Z.length<=1048576:=by rw [hZ];exact Nat.le_trans (gT _ _ _) (by decide)
  rw [<-hZ] at hc hr;have kI:=pA6 (fun W v (h:Rd aB W Z [v])=>cN W Z v h mb dp);have bp:=pA6 (fun W (hb:Bw w W)=>show gC LS b w R (.returned (.string (fD Z))) W from by rw [hr];exact H0.out.same hb _);have bx:=h3.box;obtain ⟨x0,x1,x2,x3,x4,x5,xf⟩:=bx.a6;clear hr hZ mb dp h3 bx;go_wp2_with fail
  go_region_held3 (fun w'=>w'.cell? ⟨b,0,none⟩=some (.slice A1 n1 c1)/\w'.cell? ⟨b,1,none⟩=some (.slice A2 n2 c2)) (first | exact ⟨x0,x1⟩ | exact ⟨bc.cell x0,bc.cell x1⟩ | exact ⟨(bc.then dn).cell x0,(bc.then dn).cell x1⟩)
   (first
    | (go_at_call 256;refine hc.mono ?_;rintro e w5 ⟨v5,rfl,⟨F5,o5,f5⟩,bc⟩;obtain ⟨A5,n5,d5,rfl,l5,_⟩:=qA (xA o5);have k6:=kI.out w5 _ (xA o5);clear l5)
    | (go_at_call 52;refine k6.mono ?_;rintro e w6 ⟨rfl,dn⟩))
  have B7:=BI.then ((Bw.refl gc).drew.then (bc.then dn));clear o5 f5 k6 hc;go_wp2;go_ret;exact bp.out _ B7
 any_goals
  first | replace mk:=mk | fail
  go_wp2_with fail;refine (ns.out _).mono ?_;rintro e wa6 ⟨rfl,ks⟩;go_wp2_with fail;refine (pc.out _).mono ?_;rintro e bq ⟨v6,rfl,⟨v6,rfl,FE,oE,fE⟩,dn⟩;obtain ⟨A8,n8,c8,rfl,l8,_⟩:=qA (bB oE);clear l8;have gj:=gg.then (ks.then dn);rcases tri i6 p6 with ⟨rfl,rfl⟩ | rfl | ⟨rfl,rfl⟩<;>try cases z6
 focus
  have hr:R=YI m gm:=by rw [HR.out];unfold zQ;simp
  have BI:=gj;have kf:sA w.heap.size FE:=fE.mono (gg.then ks).size;have h3:=H0.out.bw BI;obtain ⟨i0,hi,cm,jm,jn⟩:=info_parts lW;have bx:=h3.box;obtain ⟨x0,x1,x2,x3,x4,x5,xf⟩:=bx.a6;by_cases h5:n4=5
  ·have i1:(5:Int)<=(n4:Int):=by omega
   have bp:=pA6 (show gC LS b w R (.returned (.string wNo)) bq from by rw [hr];unfold YI;rw [if_pos (L4.out.symm.trans h5)];exact H0.out.same BI _);clear hr h5 h3 bx hi cm jm jn;go_wp2;go_ret;exact bp.out
  ·have i1:¬(5:Int)<=(n4:Int):=by have:=L4.out;have:=H0.out.five;omega
   have hW:Bw bq (bq.alloc (.cells #[.slice A8 n8 c8] 25)):=(Bw.refl bq).alloc _;have mg:=(h3.bw hW).rv;have db:b<=(bq.alloc (.cells #[.slice A8 n8 c8] 25)).heap.size:=Nat.le_of_lt (h3.bw hW).box.lt;have kj:sA (rX b (bq.alloc (.cells #[.slice A8 n8 c8] 25))).heap.size FV:=by rw [yH db];exact h3.fv
   have kx:=cell_one_new bq (.slice A8 n8 c8) 25;have oW:=nA hW kA oE;have pk:∀x∈FV,x<w.heap.size:=H0.out.lt;have md:(rX b (bq.alloc (.cells #[.slice A8 n8 c8] 25))).heap.size<=w.heap.size:=by rw [yH db];exact Nat.le_of_lt H0.out.box.lt
   have kz:=iAc db;have h55:=H0.out.five;have pf:=h3.box.bw hW;have qk:=H0.out.nb;have ng:=pA6 (show R=(QA (m.voters.length+1),⟨m.s,m.on,m.voters++[gm]⟩) from by rw [hr];unfold YI;rw [if_neg (fun h=>h5 (L4.out.trans h))]);have H5:=pA6 (show ¬m.voters.length=5 from fun h=>h5 (L4.out.trans h));have BW:=BI.then hW;clear hr h5 h3 bx;go_wp2_with (at_builtin;refine iC _ rfl (.tmp 181) (.tmp 183) 66 rfl (rX b (bq.alloc (.cells #[.slice A8 n8 c8] 25))) 25 i0 _ 1 24 underlying66 hi cm jm jn rfl (by omega) kA _ m.voters FV (by rfl) mg kj ⟨bq.heap.size,0,none⟩ 1 (by rfl) gm [.slice A8 n8 c8] FE kx oW rfl w.heap.size pk kf md (by omega) (by omega) kz ?_;intro v9 w9 F9 jb kg kv gv qc;have gx:=tX db kv gv.1;rw [yH db] at kg;clear x0 x1 x2 x3 x4 x5 xf mg kj kx oW md kz hi cm jm jn kv db;have cb:=pf.only gv qk;have x0:=cb.c 0 _ rfl;have x1:=cb.c 1 _ rfl;have x2:=cb.c 2 _ rfl;have x3:=cb.c 3 _ rfl;have x4:=cb.c 4 _ rfl;have x5:=cb.c 5 _ rfl;have xf:=cb.fr;obtain ⟨A9,n9,c9,rfl,l9,_⟩:=qA (Rd.of xB (B:=0) (sK jA (fun _ _ _ h=>QL h) jb) ((UL (B:=0)).lt jb) (Nat.zero_le _));rw [List.length_append,List.length_singleton] at l9;have L9:=pA6 l9;have qd:(Lit.int .i64 (n9:Int)).wf=true:=(GP (by omega));clear l9);obtain ⟨W2,kn⟩:=pA7 (w9.setCell ⟨b,5,none⟩ (.slice A9 n9 c9));have hF:=yC W2 (n9:Int) qd;rw [kn] at hF;clear kn;go_wp2_with fail;refine hF.mono ?_
   rintro e w10 ⟨rfl,dm⟩;clear hF;go_wp2;go_ret;have pm:=GA b 5 w9 (.slice A9 n9 c9);have mf:=H0.out.voter BW kf jb kg gv qc H5.out pm (cb.set (j:=5) (by simp) (.slice A9 n9 c9));have qb:=mf.box.lt;rw [ng.out,show ((m.voters.length:Int)+1)=(n9:Int) from by rw [L9.out];rfl];exact ⟨rfl,⟨_,_,_,_,_,_,mf.bw dm⟩,(((Below.mono BW (Nat.le_of_lt H0.out.box.lt)).trans gx).setCell (p:=⟨b,5,none⟩) (Nat.le_refl _) _).trans (Below.mono dm (Nat.le_of_lt qb))⟩
 any_goals
  first | replace mk:=mk | fail
  have hc:=VK _ b m l ⟨_,_,_,_,_,_,H0.out.bw gj⟩;have hr:R=(ED m l,m):=by rw [HR.out];unfold zQ;simp
  have bp:=pA6 (fun e W' (h:gC LS b _ (ED m l,m) e W')=>show gC LS b w R e W' from by rw [hr];exact h.from gj H0.out.box.lt);clear hr;go_wp2_with fail;refine hc.mono ?_;rintro e w9 hh;have nj:=pA6 (bp.out _ _ hh);obtain ⟨rfl,_,_⟩:=hh;clear hc;go_wp2;go_ret;exact nj.out
 any_goals
  first | replace HC:=HC | fail
  have hD:Bw w WI.drew:=BI.then (Bw.refl WI).drew;have mc:=xA oI;have bx:=(H0.out.bw BI).box;obtain ⟨x0,x1,x2,x3,x4,x5,xf⟩:=bx.a6;clear bx;refine wp_region_held_drew (S:=(fun w'=>(w'.cell? ⟨bb.heap.size,0,none⟩=some (.int .i64 x.id)/\w'.cell? ⟨bb.heap.size,1,none⟩=some (.slice Au nu cu))/\(w'.cell? ⟨b,0,none⟩=some (.slice A1 n1 c1)/\w'.cell? ⟨b,1,none⟩=some (.slice A2 n2 c2)/\w'.cell? ⟨b,2,none⟩=some (.slice A3 n3 c3)/\w'.cell? ⟨b,3,none⟩=some (.int .i64 m.s.tests)))) (by kernel_rfl) ?_ (fun hHeld=>?_)
  ·exact ⟨⟨q0,q1⟩,⟨x0,x1,x2,x3⟩⟩
  refine RC 0 (v:=?_) rfl (by kernel_rfl) (by rfl) (by assumption) (fun _ _ _ h=>h) ?_ ?_;rotate_left
  ·(intro wS bf;(try dsimp only at bf);go_simp;try with_reducible rfl)
  try simp only [aE]
  refine RC 1 (v:=?_) rfl (by kernel_rfl) (by rfl) (by assumption) (fun _ _ _ h=>h) ?_ ?_;rotate_left
  ·(intro wS bf;(try dsimp only at bf);go_simp;try with_reducible rfl)
  try simp only [aE]
  refine RC 2 (v:=?_) rfl (by kernel_rfl) (by rfl) (by assumption) (fun _ _ _ h=>h) ?_ ?_;rotate_left
  ·(intro wS bf;(try dsimp only at bf);go_simp;try with_reducible rfl)
  try simp only [aE]
  refine RC 3 (v:=?_) rfl (by kernel_rfl) (by rfl) (by assumption) (fun _ _ _ h=>h) ?_ ?_;rotate_left
  ·(intro wS bf;(try dsimp only at bf);go_simp;try with_reducible rfl)
  try simp only [aE]
  refine RC 4 (v:=?_) rfl (by kernel_rfl) (by rfl) (by assumption) (fun _ _ _ h=>h) ?_ ?_;rotate_left
  ·(intro wS bf;(try dsimp only at bf);go_simp;try with_reducible rfl)
  try simp only [aE]
  refine wpAnyH_ready (rs:=[5,9]) (by kernel_rfl) (by simp) (AllReadyH.cons (o:=_) rfl (fun K hK=>?_) (AllReadyH.cons (o:=_) rfl (fun K hK=>?_) AllReadyH.nil))
  focus
   have hc:=HC.out _ hD _ (mc.bw dA (Bw.refl WI).drew)
   go_simp
   refine hc.mono ?_;clear hc;rintro e w5 ⟨v5,rfl,⟨jv,rfl,F5,⟨mn,mp,mq,dd,df,dj,rfl,g1,g2,g3,g4⟩,f5⟩,bc⟩;obtain ⟨A5,n5,d5,rfl,l5,_⟩:=qA (pC g1);obtain ⟨A6,n6,d6,rfl,l6,_⟩:=qA (bB g2);obtain ⟨A7,n7,d7,rfl,l7,_⟩:=qA (xA g3);clear l5 l6 l7;have y0:=bc.cell (w:=w5) (a:=WI.drew) q0;have y1:=bc.cell (w:=w5) (a:=WI.drew) q1;have z0:=bc.cell (w:=w5) (a:=WI.drew) x0;have z1:=bc.cell (w:=w5) (a:=WI.drew) x1;have z2:=bc.cell (w:=w5) (a:=WI.drew) x2;have z3:=bc.cell (w:=w5) (a:=WI.drew) x3;have o5:GB w5 nw _ F5:=⟨_,_,_,dd,df,dj,rfl,g1,g2,g3,g4⟩;clear g1 g2 g3 g4;refine hK.out _ _ ⟨⟨y0,y1⟩,⟨z0,z1,z2,z3⟩⟩ (fun hHeld=>?_);clear hK K
   try simp only [aE]
   refine RC 6 (v:=?_) rfl (by kernel_rfl) (by rfl) (by assumption) (fun _ _ _ h=>h) ?_ ?_;rotate_left
   ·(intro wS bf;(try dsimp only at bf);go_simp;try with_reducible rfl)
   try simp only [aE]
   refine RC 7 (v:=?_) rfl (by kernel_rfl) (by rfl) (by assumption) (fun _ _ _ h=>h) ?_ ?_;rotate_left
   ·(intro wS bf;(try dsimp only at bf);go_simp;try with_reducible rfl)
   try simp only [aE]
   refine RC 8 (v:=?_) rfl (by kernel_rfl) (by rfl) (by assumption) (fun _ _ _ h=>h) ?_ ?_;rotate_left
   ·(intro wS bf;(try dsimp only at bf);go_simp;try with_reducible rfl)
   try simp only [aE]
   have bg:=(Bw.refl w5).alloc (.cells #[.slice none 0 0,.slice none 0 0,.slice none 0 0,.int .i64 0] 28);refine wpAnyH_ready (rs:=[9]) (by kernel_rfl) (by simp) (AllReadyH.cons (o:=_) rfl (fun K hK=>?_) AllReadyH.nil)
   go_simp
   refine hK.out _ _ ⟨⟨bg.cell y0,bg.cell y1⟩,⟨bg.cell z0,bg.cell z1,bg.cell z2,bg.cell z3⟩⟩ (fun hHeld=>?_);clear hK K
   try simp only [aE]
   refine wpAnyH_ready (rs:=[10]) (by kernel_rfl) (by simp) (AllReadyH.cons (o:=_) rfl (fun K hK=>?_) AllReadyH.nil);have dt:bb.heap.size<w5.heap.size:=World.block_lt_of_cell? _ _ y0;have pz:b<w5.heap.size:=World.block_lt_of_cell? _ _ z0;have bd:=(Bw.refl w5).alloc (.cells #[.slice A5 n5 d5,.slice A6 n6 d6,.slice A7 n7 d7,.int .i64 nw.tests] 28)
   go_simp
   refine hK.out _ _ ⟨⟨bd.cell y0,bd.cell y1⟩,⟨bd.cell z0,bd.cell z1,bd.cell z2,bd.cell z3⟩⟩ (fun hHeld=>?_);clear hK K
   try simp only [aE]
   have o6:=nA bd NB o5;have B6:=hD.then (bc.then bd);have bn:=Box.new w5 #[.slice A5 n5 d5,.slice A6 n6 d6,.slice A7 n7 d7,.int .i64 nw.tests] 28;generalize w5.alloc (.cells #[.slice A5 n5 d5,.slice A6 n6 d6,.slice A7 n7 d7,.int .i64 nw.tests] 28)=W6 at o6 B6 bn hHeld ⊢
  rotate_left
  focus
   have bg:Bw WI.drew (WI.drew.alloc (.cells #[.slice none 0 0,.slice none 0 0,.slice none 0 0,.int .i64 0] 28)):=(Bw.refl _).alloc _;have hc:=HC.out _ (hD.then bg) _ (mc.bw dA ((Bw.refl WI).drew.then bg));have gs:=Box.new WI.drew #[.slice none 0 0,.slice none 0 0,.slice none 0 0,.int .i64 0] 28
   go_simp
   refine hK.out _ _ ⟨⟨bg.cell q0,bg.cell q1⟩,⟨bg.cell x0,bg.cell x1,bg.cell x2,bg.cell x3⟩⟩ (fun hHeld=>?_);clear hK K
   try simp only [aE]
   refine wpAnyH_ready (rs:=[5]) (by kernel_rfl) (by simp) (AllReadyH.cons (o:=_) rfl (fun K hK=>?_) AllReadyH.nil)
   go_simp
   refine hc.mono ?_;clear hc;rintro e w5 ⟨v5,rfl,⟨jv,rfl,F5,⟨mn,mp,mq,dd,df,dj,rfl,g1,g2,g3,g4⟩,f5⟩,bc⟩;obtain ⟨A5,n5,d5,rfl,l5,_⟩:=qA (pC g1);obtain ⟨A6,n6,d6,rfl,l6,_⟩:=qA (bB g2);obtain ⟨A7,n7,d7,rfl,l7,_⟩:=qA (xA g3);clear l5 l6 l7;have y0:=bc.cell (bg.cell (p:=⟨bb.heap.size,0,none⟩) q0);have y1:=bc.cell (bg.cell (p:=⟨bb.heap.size,1,none⟩) q1);have z0:=bc.cell (bg.cell (p:=⟨b,0,none⟩) x0);have z1:=bc.cell (bg.cell (p:=⟨b,1,none⟩) x1);have z2:=bc.cell (bg.cell (p:=⟨b,2,none⟩) x2);have z3:=bc.cell (bg.cell (p:=⟨b,3,none⟩) x3);have o5:GB w5 nw _ F5:=⟨_,_,_,dd,df,dj,rfl,g1,g2,g3,g4⟩;have cp:Box w5 WI.heap.size [.slice none 0 0,.slice none 0 0,.slice none 0 0,.int .i64 0]:=gs.bw bc;have nB:WI.heap.size∉F5:=mAh gs f5;clear g1 g2 g3 g4;refine hK.out _ _ ⟨⟨y0,y1⟩,⟨z0,z1,z2,z3⟩⟩ (fun hHeld=>?_);clear hK K
   try simp only [aE]
   refine RC 6 (v:=?_) rfl (by kernel_rfl) (by rfl) (by assumption) (fun _ _ _ h=>h) ?_ ?_;rotate_left
   ·(intro wS bf;(try dsimp only at bf);go_simp;try with_reducible rfl)
   try simp only [aE]
   refine RC 7 (v:=?_) rfl (by kernel_rfl) (by rfl) (by assumption) (fun _ _ _ h=>h) ?_ ?_;rotate_left
   ·(intro wS bf;(try dsimp only at bf);go_simp;try with_reducible rfl)
   try simp only [aE]
   refine RC 8 (v:=?_) rfl (by kernel_rfl) (by rfl) (by assumption) (fun _ _ _ h=>h) ?_ ?_;rotate_left
   ·(intro wS bf;(try dsimp only at bf);go_simp;try with_reducible rfl)
   try simp only [aE]
   refine wpAnyH_ready (rs:=[10]) (by kernel_rfl) (by simp) (AllReadyH.cons (o:=_) rfl (fun K hK=>?_) AllReadyH.nil);have dt:bb.heap.size<WI.heap.size:=World.block_lt_of_cell? _ _ q0;have pz:b<WI.heap.size:=World.block_lt_of_cell? _ _ x0;have bz:b∉[WI.heap.size]:=by simp;omega
   have dq:bb.heap.size∉[WI.heap.size]:=by simp;omega
   have bs:=vJ w5 WI.heap.size 0 (.slice A5 n5 d5) (.slice A6 n6 d6) (.slice A7 n7 d7) (.int .i64 nw.tests);unfold CY at bs;obtain ⟨u0,u1,u2,u3,uf⟩:=cp.a4
   go_simp
   refine hK.out _ _ ⟨⟨bs.cell y0 dq,bs.cell y1 dq⟩,⟨bs.cell z0 bz,bs.cell z1 bz,bs.cell z2 bz,bs.cell z3 bz⟩⟩ (fun hHeld=>?_);clear hK K
   try simp only [aE]
   have o6:=iAe (bt:=WI.heap.size) (a0:=.slice A5 n5 d5) (a1:=.slice A6 n6 d6) (a2:=.slice A7 n7 d7) (a3:=.int .i64 nw.tests) NB o5 nB;have B6:Bw w ((((w5.setCell ⟨WI.heap.size,0,none⟩ (.slice A5 n5 d5)).setCell ⟨WI.heap.size,1,none⟩ (.slice A6 n6 d6)).setCell ⟨WI.heap.size,2,none⟩ (.slice A7 n7 d7)).setCell ⟨WI.heap.size,3,none⟩ (.int .i64 nw.tests)):=(hD.then (bg.then bc)).set4 BI.size;have bn:=Box.four cp (.slice A5 n5 d5) (.slice A6 n6 d6) (.slice A7 n7 d7) (.int .i64 nw.tests);replace f5:=f5.mono (Bw.refl WI.drew |>.alloc (.cells #[.slice none 0 0,.slice none 0 0,.slice none 0 0,.int .i64 0] 28)).size;generalize (((w5.setCell ⟨WI.heap.size,0,none⟩ (.slice A5 n5 d5)).setCell ⟨WI.heap.size,1,none⟩ (.slice A6 n6 d6)).setCell ⟨WI.heap.size,2,none⟩ (.slice A7 n7 d7)).setCell ⟨WI.heap.size,3,none⟩ (.int .i64 nw.tests)=W6 at o6 B6 bn hHeld bs ⊢;clear gs cp nB bs u0 u1 u2 u3 uf
  rotate_right
  all_goals
   refine RC 11 (v:=?_) rfl (by kernel_rfl) (by rfl) (by assumption) (fun _ _ _ h=>h) ?_ ?_;rotate_left
   ·(intro wS bf;(try dsimp only at bf);go_simp;try with_reducible rfl)
   try simp only [aE]
   refine wpAnyH_done (by kernel_rfl) ?_ _;have js:=pA6 (f5.mono hD.size);obtain ⟨u0,u1,u2,u3,uf⟩:=bn.a4;clear o5 f5 hHeld y0 y1 z0 z1 z2 z3 x0 x1 x2 x3 x4 x5 xf bn
 all_goals
  have jt:=(H0.out.bw B6).box;have cs:=VL W6 b _ _ _ _ _ _ A5 A6 A7 n5 d5 n6 d6 n7 d7 nw.tests ok jt;obtain ⟨T,hT⟩:=pA7 ((if ok then wOk else wNo));rw [<-hT] at cs;have HT:=pA6 hT;have nd:=pA6 B6;have nf:=pA6 o6;clear hT jt
  try go_wp2_with fail
  refine cs.mono ?_;clear cs;rintro e w9 kk;have km:=kk;obtain ⟨rfl,pn,pj,pd⟩:=kk;have bp:=pA6 (show gC LS b w R (.returned (.string T)) w9 from by
   obtain rfl:=HT.out;rw [K3.out];exact H0.out.put nd.out nf.out js.out gn.out km)
  clear km pn pj pd;go_wp2;go_ret;exact bp.out
end Go.Proofs.YtpihighajaeabaaGreat
