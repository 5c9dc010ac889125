/- The console in the reference: a script. -/
import Derived.Test.YtpihighajaeabaaGreatXConU
namespace Go.Proofs.YtpihighajaeabaaGreat
open Go.RowKit Go.Proofs.Tryz
set_option linter.all false
set_option maxRecDepth 100000
set_option maxHeartbeats 16000000
theorem ZZ (w:World) (b:Nat) (m:CS) (l:ByteArray) (h:StP LS b w m) (hl:l.size<=1048576) :
  Calls prog 150 #[.pointer (some ⟨b,0,none⟩),.string l] w (gC LS b w (PJ m l)):=by
 obtain ⟨S,FV,vi,vw,vb,vv,h0⟩:=h;obtain ⟨A1,n1,c1,rfl,l1,_⟩:=qA h0.items;obtain ⟨A2,n2,c2,rfl,l2,_⟩:=qA h0.wanted;obtain ⟨A3,n3,c3,rfl,l3,_⟩:=qA h0.best;obtain ⟨A4,n4,c4,rfl,l4,_⟩:=qA h0.vote;clear l1 l2 l3 l4;obtain ⟨R,hR⟩:=pA7 (PJ m l);rw [<-hR];have hr:=hR.trans (mAg m l);clear hR;have ka:=YH w l dJ hl (by decide) (by decide);have hs:=XH l dJ;obtain ⟨Y,hy⟩:=pA7 (QC l dJ);rw [<-hy] at ka hs hr;clear hy;obtain ⟨t,i⟩:=Y;dsimp only at ka hs hr;have kp:=fun W=>iL W t (Nat.le_trans hs hl)
 have he:=fun h=>wF (CN (s:=t) h).1
 generalize jF t=E at *;obtain ⟨ee,pe⟩:=E;dsimp only at kp he hr;have KP:=pA6 kp;have bf:=pA6 he;have HR:=pA6 hr;have H0:=pA6 h0;clear kp he hr h0 hs;have B0:Bw w w:=Bw.refl w;go_enter func150,ntmps150;go_wp2_with fail;refine (ka).mono ?_;rintro e w1 ⟨rfl,bt⟩;go_wp2_with fail;refine (KP.out _).mono ?_;rintro e w5 ⟨v5,rfl,⟨v5,rfl,F5,o5,f5⟩,bv⟩;obtain ⟨A8,n8,c8,rfl,l8,_⟩:=qA (bB o5);have B5:=bt.then bv;clear l8 ka
 cases i with
 | false=>
  have hx:=H0.out.bw B5;have bx:=hx.box;have hr:R=if m.on=false then (qE,m) else EY m l:=by rw [HR.out];simp
  cases hm:m.on with
  | false=>
   rw [hm] at bx;obtain ⟨x0,x1,x2,x3,x4,x5,xf⟩:=bx.a6;have bb:=pA6 (show gC LS b w R (.returned (.string qE)) w5 from by rw [hr,if_pos hm];exact H0.out.same B5 _);clear bx hx hm hr;go_wp2;go_ret;exact bb.out
  | true=>
   rw [hm] at bx;obtain ⟨x0,x1,x2,x3,x4,x5,xf⟩:=bx.a6;have hc:=fA7 w5 b m l ⟨_,_,_,_,_,_,hx⟩ hl;have bb:=pA6 (fun e W' (h:gC LS b w5 (EY m l) e W')=>show gC LS b w R e W' from by rw [hr,if_neg (by rw [hm];decide)];exact h.from B5 H0.out.box.lt);clear bx hx hm hr;go_wp2_with fail;refine hc.mono ?_;rintro e w7 hh;have bc:=pA6 (bb.out _ _ hh);obtain ⟨rfl,_,_⟩:=hh;clear hc;go_wp2;go_ret;exact bc.out
 | true=>
  cases pe with
  | false=>
   have hx:=H0.out.bw B5;have bx:=hx.box;have hr:R=if m.on=false then (qE,m) else EY m l:=by rw [HR.out];simp
   cases hm:m.on with
   | false=>
    rw [hm] at bx;obtain ⟨x0,x1,x2,x3,x4,x5,xf⟩:=bx.a6;have bb:=pA6 (show gC LS b w R (.returned (.string qE)) w5 from by rw [hr,if_pos hm];exact H0.out.same B5 _);clear bx hx hm hr;go_wp2;go_ret;exact bb.out
   | true=>
    rw [hm] at bx;obtain ⟨x0,x1,x2,x3,x4,x5,xf⟩:=bx.a6;have hc:=fA7 w5 b m l ⟨_,_,_,_,_,_,hx⟩ hl;have bb:=pA6 (fun e W' (h:gC LS b w5 (EY m l) e W')=>show gC LS b w R e W' from by rw [hr,if_neg (by rw [hm];decide)];exact h.from B5 H0.out.box.lt);clear bx hx hm hr;go_wp2_with fail;refine hc.mono ?_;rintro e w7 hh;have bc:=pA6 (bb.out _ _ hh);obtain ⟨rfl,_,_⟩:=hh;clear hc;go_wp2;go_ret;exact bc.out
  | true=>
   have HK:=pA6 (show R=(wOk,⟨iF m.s.items ee,true,m.voters⟩) from by rw [HR.out];exact if_pos ⟨rfl,rfl⟩);have h5:=H0.out.bw B5;have hc:=iY w5 m.s.items ee _ _ h5.items (bB o5) h5.small.1.1 (Nat.le_trans (bf.out rfl) (by decide));have bj:okS (iF m.s.items ee):=eV h5.small.1.1 (Nat.le_trans (bf.out rfl) (by decide));have bq:=pA6 bj;have bx:=h5.box;obtain ⟨x0,x1,x2,x3,x4,x5,xf⟩:=bx.a6;clear h5 bx bj;go_wp2_with fail;refine hc.mono ?_;rintro e w6 ⟨v6,rfl,⟨cs6,rfl,F6,⟨va6,vb6,vc6,bm,bn,bp,rfl,g1,g2,g3,g4⟩,f6⟩,bz⟩;clear x0 x1 x2 x3 x4 x5 xf;clear hc;obtain ⟨A5,n5,d5,rfl,l5,_⟩:=qA (pC g1);obtain ⟨A6,n6,d6,rfl,l6,_⟩:=qA (bB g2);obtain ⟨A7,n7,d7,rfl,l7,_⟩:=qA (xA g3);have o6:GB w6 (iF m.s.items ee) _ F6:=⟨_,_,_,bm,bn,bp,rfl,g1,g2,g3,g4⟩;clear l5 l6 l7 g1 g2 g3 g4;have B6:=B5.then bz;have bx:=(H0.out.bw B6).box;have hlt:=bx.lt;obtain ⟨x0,x1,x2,x3,x4,x5,xf⟩:=bx.a6;clear bx;go_wp2;go_ret;rw [HK.out];have bs:=(H0.out.bw B6).box;have hO:=((vJ w6 b 0 (.slice A5 n5 d5) (.slice A6 n6 d6) (.slice A7 n7 d7) (.int .i64 (iF m.s.items ee).tests)).two (GA b 4 _ (.bool true)));have cb:=(jS (k:=0) (a0:=.slice A5 n5 d5) (a1:=.slice A6 n6 d6) (a2:=.slice A7 n7 d7) (a3:=.int .i64 (iF m.s.items ee).tests) bs (by simp)).set (j:=4) (by simp) (.bool true);have bk:=H0.out.stand B6 o6 (f6.mono B5.size) bq.out hO cb;have bg:Bw ((CY w6 b 0 (.slice A5 n5 d5) (.slice A6 n6 d6) (.slice A7 n7 d7) (.int .i64 (iF m.s.items ee).tests)).setCell ⟨b,4,none⟩ (.bool true)) (((CY w6 b 0 (.slice A5 n5 d5) (.slice A6 n6 d6) (.slice A7 n7 d7) (.int .i64 (iF m.s.items ee).tests)).setCell ⟨b,4,none⟩ (.bool true)).alloc (.cells #[.slice A5 n5 d5,.slice A6 n6 d6,.slice A7 n7 d7,.int .i64 (iF m.s.items ee).tests] 28)):=(Bw.refl _).alloc _
   have bd:StP LS b _ _:=StP.bw ⟨_,_,_,_,_,_,bk⟩ bg;refine ⟨rfl,bd,(((Below.mono B6 (Nat.le_of_lt H0.out.box.lt)).trans (KM w6 b 0 _ _ _ _)).setCell (p:=⟨b,4,none⟩) (Nat.le_refl _) _).trans (Below.mono bg (Nat.le_of_lt bk.box.lt))⟩
theorem bAs (w:World) (text:ByteArray):Calls prog 66 #[.string text] w (Ret w (.string (yI text))):=by
 obtain ⟨Y,hY⟩:=pA7 (yI text);rw [<-hY];by_cases h3:3000<text.size
 ·have i1:(3000:Int)<(text.size:Int):=by omega
  have HY:=pA6 (show ⟨#[]⟩=Y from by rw [hY];unfold yI;rw [if_pos h3]);clear hY h3;go_enter func66,ntmps66;go_wp2;go_ret;exact Ret.str HY.out (Bw.refl _)
 have i1:¬(3000:Int)<(text.size:Int):=by omega
 have k1:=XJ w text 10 10 rfl (by omega);obtain ⟨X,hX⟩:=pA7 (MD text 10);rw [<-hX] at k1;have HX:=pA6 hX;have cg:=pA6 hY;have H3:=pA6 h3;clear hX hY h3;go_enter func66,ntmps66;go_wp2_with fail;refine k1.mono ?_;rintro e w1 ⟨v1,rfl,⟨F1,o1,f1⟩,bt⟩;clear k1;have r1:=DC o1;obtain ⟨A,n,c,rfl,l1,hc1,cj⟩:=qA r1;unfold maxLen at cj;have hpos:0<n:=by
  rw [l1,HX.out];unfold MD;rw [List.length_map];exact List.length_pos_iff.2 (ZQ _ _ _)
 obtain ⟨q,rfl⟩:∃q,n=q+1:=⟨n-1,by omega⟩;obtain ⟨t,ht⟩:=tA (xs:=X) (k:=q) (by omega);obtain ⟨ba,oa,rfl,_,hct⟩:=BC r1 ht;have bn:=wU (text:=text) (n:=q+1) (by rw [<-HX.out];exact l1) (by rw [<-HX.out];exact ht);rw [<-HX.out] at bn;have L1:=pA6 l1;have cf:=pA6 bn;clear l1 ht bn o1;have hwq:IntKind.i64.wrap (((q+1:Nat):Int)-1)=(q:Int):=by simp [IntKind.wrap,IntKind.bits,IntKind.signed];omega
 have i2:(0:Int)<=(q:Int):=by omega
 have i3:(q:Int)<((q+1:Nat):Int):=by omega
 have i4:(q:Int)<=(c:Int):=by omega
 have hY:=cg.out;have h3:=H3.out;by_cases ht0:t.size=0
 ·have e1:=vG ht0;have bc:qD text=X.take q:=by rw [cf.out,if_pos ht0];rfl
  have r2:Rd DT w1 (X.take q) [.slice (some ⟨ba,oa,none⟩) q c]:=by
   have:=RF (i:=0) (k:=q) r1 L1.out (show X=[]++(X.take q++X.drop q) by simp) (by simp) (by rw [List.length_take,<-L1.out];simp);rw [Nat.zero_mul,Nat.add_zero,Nat.sub_zero,Nat.sub_zero] at this;exact this
  have LL:=pA6 (show q=(X.take q).length from by rw [List.length_take,<-L1.out];omega);obtain ⟨P,hP⟩:=pA7 (X.take q);rw [<-hP] at r2 LL bc;clear hP ht0 r1;have bv:=pA6 (show ∀t∈P,t.size<=1048576 from fun t ht=>by have:=NO (text:=text) (t:=t) (bc▸ht);omega);by_cases h60:60<q
  ·have i6:(60:Int)<((q:Nat):Int):=by omega
   have bm:=pA6 (show ⟨#[]⟩=Y from by rw [hY];unfold yI;rw [if_neg h3,bc,if_pos (by rw [<-LL.out];exact h60)]);clear hY bc h60 h3;go_wp2;go_ret;exact Ret.str bm.out bt
  ·have i6:¬(60:Int)<((q:Nat):Int):=by omega
   have bm:=pA6 (show Y=XF st0 P from by rw [hY];unfold yI;rw [if_neg h3,bc,if_neg (by rw [<-LL.out];exact h60)]);have HN:=pA6 (show q<=60 from by omega);clear hY bc h60 h3;go_wp2;have B0:Bw w1 ((w1.alloc (.cells #[.slice none 0 0,.slice none 0 0,.slice none 0 0,.int .i64 0,.bool false,.slice none 0 0] 144))):=(Bw.refl w1).alloc _;have bg:=StP.zero (L:=LS) (Box.new w1 #[.slice none 0 0,.slice none 0 0,.slice none 0 0,.int .i64 0,.bool false,.slice none 0 0] 144)
   go_loopg [5,6] (q+1) (fun gg o i w'=>∃(k:Nat) (out:ByteArray) (m:CS),k<=q/\gg=q-k+1/\o=.string out/\i=.int .i64 (k:Int)/\StP LS w1.heap.size w' m/\Bw w1 w'/\out.size<=10001*k/\Hid (Y=out++XF m (P.drop k)))
   ·exact ⟨0,⟨#[]⟩,st0,by omega,by omega,rfl,rfl,bg,B0,by decide,pA6 (by rw [bm.out,List.drop_zero];exact (WL _).symm)⟩
   ·obtain ⟨k,out,m,hk,rfl,rfl,rfl,bf,hb,cd,HI⟩:=hrel;clear bg B0;by_cases hlt:k<q
    ·have i7:(k:Int)<((q:Nat):Int):=by omega
     have i8:(0:Int)<=(k:Int):=by omega
     obtain ⟨x,hx⟩:=tA (xs:=P) (k:=k) (by rw [<-LL.out];exact hlt);obtain ⟨b2,o2,e2,_,ck⟩:=BC (r2.bw pF hb) hx;simp at e2;obtain ⟨rfl,rfl⟩:=e2;by_cases hz:x.size=0
     ·have e3:=vG hz;have bd:=pA6 (show Y=out++XF m (P.drop (k+1)) from by rw [HI.out,KO hx hz]);clear hz hx;go_wp2
      go_roundg (q-(k+1)+1)
      ·exact ⟨k+1,out,m,by omega,rfl,rfl,by go_num,bf,hb,by omega,bd⟩
      ·omega
     ·have e3:x.toList.isEmpty=false:=LG (by omega);have hc:=ZZ wr w1.heap.size m x bf (bv.out x (List.mem_of_getElem? hx));have bk:=LO (m:=m) hx hz;obtain ⟨bs,bb,_⟩:=bf.facts;have bp:=YN m x bs bb;obtain ⟨RR,bq⟩:=pA7 (PJ m x);rw [<-bq] at hc bk bp;obtain ⟨Z,m2⟩:=RR;dsimp only at hc bk bp;have bx:=HN.out;have a1:∀W,(Op.stringOp .add out Z).run prog W=.ok (.string (out++Z)) W:=fun W=>run_string_add_sum W _ _ (by omega)
      have z1:(⟨#[10]⟩:ByteArray).size=1:=rfl;have a2:∀W,(Op.stringOp .add (out++Z) ⟨#[10]⟩).run prog W=.ok (.string (out++Z++⟨#[10]⟩)) W:=fun W=>run_string_add_sum W _ _ (by rw [lA,z1];omega)
      have bd:=pA6 (show Y=out++Z++⟨#[10]⟩++XF m2 (P.drop (k+1)) from by rw [HI.out,bk];exact MO _ _ _ _);have bz:=pA6 (show (out++Z++⟨#[10]⟩:ByteArray).size<=10001*(k+1) from by rw [lA,lA,z1];omega);clear hz hx bk bp bq bs bb cd bx z1 bf;go_wp2_with fail;refine hc.mono ?_;rintro e w5 ⟨rfl,bj,cb⟩;clear hc;dsimp only at bj ⊢;have cc:Bw w1 w5:=Below.trans hb cb;go_wp2
      go_roundg (q-(k+1)+1)
      ·exact ⟨k+1,out++Z++⟨#[10]⟩,m2,by omega,rfl,rfl,by go_num,bj,cc,bz.out,bd⟩
      ·omega
    ·have i7:¬(k:Int)<((q:Nat):Int):=by omega
     have bd:=pA6 (show out=Y from by rw [HI.out,List.drop_of_length_le (by rw [<-LL.out];omega),XF];exact (bAr _).symm);clear hlt bf;go_wp2;go_ret;exact Ret.str bd.out (bt.then hb)
 ·have e1:t.toList.isEmpty=false:=LG (by omega);have bc:qD text=X:=by rw [cf.out,if_neg ht0]
  have r2:=r1;have LL:=L1;clear ht0 r1;have bv:=pA6 (show ∀t∈X,t.size<=1048576 from fun t ht=>by have:=NO (text:=text) (t:=t) (bc▸ht);omega);by_cases h60:60<(q+1)
  ·have i6:(60:Int)<(((q+1):Nat):Int):=by omega
   have bm:=pA6 (show ⟨#[]⟩=Y from by rw [hY];unfold yI;rw [if_neg h3,bc,if_pos (by rw [<-LL.out];exact h60)]);clear hY bc h60 h3;go_wp2;go_ret;exact Ret.str bm.out bt
  ·have i6:¬(60:Int)<(((q+1):Nat):Int):=by omega
   have bm:=pA6 (show Y=XF st0 X from by rw [hY];unfold yI;rw [if_neg h3,bc,if_neg (by rw [<-LL.out];exact h60)]);have HN:=pA6 (show (q+1)<=60 from by omega);clear hY bc h60 h3;go_wp2;have B0:Bw w1 ((w1.alloc (.cells #[.slice none 0 0,.slice none 0 0,.slice none 0 0,.int .i64 0,.bool false,.slice none 0 0] 144))):=(Bw.refl w1).alloc _;have bg:=StP.zero (L:=LS) (Box.new w1 #[.slice none 0 0,.slice none 0 0,.slice none 0 0,.int .i64 0,.bool false,.slice none 0 0] 144)
   go_loopg [5,6] ((q+1)+1) (fun gg o i w'=>∃(k:Nat) (out:ByteArray) (m:CS),k<=(q+1)/\gg=(q+1)-k+1/\o=.string out/\i=.int .i64 (k:Int)/\StP LS w1.heap.size w' m/\Bw w1 w'/\out.size<=10001*k/\Hid (Y=out++XF m (X.drop k)))
   ·exact ⟨0,⟨#[]⟩,st0,by omega,by omega,rfl,rfl,bg,B0,by decide,pA6 (by rw [bm.out,List.drop_zero];exact (WL _).symm)⟩
   ·obtain ⟨k,out,m,hk,rfl,rfl,rfl,bf,hb,cd,HI⟩:=hrel;clear bg B0;by_cases hlt:k<(q+1)
    ·have i7:(k:Int)<(((q+1):Nat):Int):=by omega
     have i8:(0:Int)<=(k:Int):=by omega
     obtain ⟨x,hx⟩:=tA (xs:=X) (k:=k) (by rw [<-LL.out];exact hlt);obtain ⟨b2,o2,e2,_,ck⟩:=BC (r2.bw pF hb) hx;simp at e2;obtain ⟨rfl,rfl⟩:=e2;by_cases hz:x.size=0
     ·have e3:=vG hz;have bd:=pA6 (show Y=out++XF m (X.drop (k+1)) from by rw [HI.out,KO hx hz]);clear hz hx;go_wp2
      go_roundg ((q+1)-(k+1)+1)
      ·exact ⟨k+1,out,m,by omega,rfl,rfl,by go_num,bf,hb,by omega,bd⟩
      ·omega
     ·have e3:x.toList.isEmpty=false:=LG (by omega);have hc:=ZZ wr w1.heap.size m x bf (bv.out x (List.mem_of_getElem? hx));have bk:=LO (m:=m) hx hz;obtain ⟨bs,bb,_⟩:=bf.facts;have bp:=YN m x bs bb;obtain ⟨RR,bq⟩:=pA7 (PJ m x);rw [<-bq] at hc bk bp;obtain ⟨Z,m2⟩:=RR;dsimp only at hc bk bp;have bx:=HN.out;have a1:∀W,(Op.stringOp .add out Z).run prog W=.ok (.string (out++Z)) W:=fun W=>run_string_add_sum W _ _ (by omega)
      have z1:(⟨#[10]⟩:ByteArray).size=1:=rfl;have a2:∀W,(Op.stringOp .add (out++Z) ⟨#[10]⟩).run prog W=.ok (.string (out++Z++⟨#[10]⟩)) W:=fun W=>run_string_add_sum W _ _ (by rw [lA,z1];omega)
      have bd:=pA6 (show Y=out++Z++⟨#[10]⟩++XF m2 (X.drop (k+1)) from by rw [HI.out,bk];exact MO _ _ _ _);have bz:=pA6 (show (out++Z++⟨#[10]⟩:ByteArray).size<=10001*(k+1) from by rw [lA,lA,z1];omega);clear hz hx bk bp bq bs bb cd bx z1 bf;go_wp2_with fail;refine hc.mono ?_;rintro e w5 ⟨rfl,bj,cb⟩;clear hc;dsimp only at bj ⊢;have cc:Bw w1 w5:=Below.trans hb cb;go_wp2
      go_roundg ((q+1)-(k+1)+1)
      ·exact ⟨k+1,out++Z++⟨#[10]⟩,m2,by omega,rfl,rfl,by go_num,bj,cc,bz.out,bd⟩
      ·omega
    ·have i7:¬(k:Int)<(((q+1):Nat):Int):=by omega
     have bd:=pA6 (show out=Y from by rw [HI.out,List.drop_of_length_le (by rw [<-LL.out];omega),XF];exact (bAr _).symm);clear hlt bf;go_wp2;go_ret;exact Ret.str bd.out (bt.then hb)
end Go.Proofs.YtpihighajaeabaaGreat
