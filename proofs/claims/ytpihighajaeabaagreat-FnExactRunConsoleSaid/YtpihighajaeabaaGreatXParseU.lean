/- Wishes are read, in the reference. -/
import Derived.Test.YtpihighajaeabaaGreatXParseV
import Derived.Test.YtpihighajaeabaaGreatXParseQ
import Derived.Test.YtpihighajaeabaaGreatXChgI
import Derived.Deep.RegionLaw
namespace Go.Proofs.YtpihighajaeabaaGreat
open Go.RowKit Go.Proofs.Tryz
set_option linter.all false
set_option maxRecDepth 100000
set_option maxHeartbeats 16000000
theorem nZ {b:ByteArray} (h:b.size<2\/(bl b).head?≠some 102):zN b = -1:=if_pos h
theorem gAb {b:ByteArray} (h:¬b.size<2) (h2:(bl b).head? = some 102):zN b=tG (b.extract 1 b.size):=if_neg (fun e=>e.elim h (fun e=>e h2))
theorem jAi (w:World) (b:ByteArray) (hs:b.size<=1048576):Calls prog 287 #[.string b] w (Ret w (.int .i64 (zN b))):=by
 obtain ⟨Y,hY⟩:=pA7 (zN b);have HY:=pA6 hY;rw [<-hY];clear hY;by_cases h2:b.size<2
 ·have HE:=pA6 (show Y = -1 by rw [HY.out];exact nZ (.inl h2));have i1:(b.size:Int)<2:=by omega
  clear h2;go_enter func287,ntmps287;go_wp2;go_ret;exact Ret.int HE.out.symm (Bw.refl _)
 ·have i1:¬(b.size:Int)<2:=by omega
  obtain ⟨c,l,hc⟩:∃c l,bl b=c::l:=by
   cases h:bl b with
   | nil=>have:=RB b;rw [h] at this;simp at this;omega
   | cons c l=>exact ⟨c,l,rfl⟩
  have hr:∀W,(Instr.index 9 (.string b) (.int .i64 0)).run prog W=.ok (.int .u8 (c.toNat:Int)) W:=fun W=>TH (k:=0) (by rw [hc];rfl) W
  by_cases hf:c=102
  ·have HE:=pA6 (show Y=tG (b.extract 1 b.size) by rw [HY.out];exact gAb h2 (by rw [hc,hf];rfl));have e1:(c.toNat:Int)=102:=by rw [hf];rfl
   have s1:∀W,(Instr.slice 9 (.string b) (some (.int .i64 1)) none none).run prog W=.ok (.string (b.extract 1 b.size)) W:=fun W=>fL (s:=b) (a:=1) (by omega) W
   have hk:=YJ w (b.extract 1 b.size) (by rw [ByteArray.size_extract];omega);obtain ⟨N,hN⟩:=pA7 (tG (b.extract 1 b.size));rw [<-hN] at hk HE;rw [e1] at hr;clear h2 hc hf e1 hN;go_enter func287,ntmps287;go_wp2_with fail;refine hk.mono ?_;rintro e w2 ⟨rfl,bb⟩;go_wp2;go_ret;exact Ret.int HE.out.symm bb
  ·have HE:=pA6 (show Y = -1 by rw [HY.out];exact nZ (.inr (by rw [hc];simpa using hf)));have e1:((c.toNat:Int) != 102)=true:=by
    have:c.toNat≠102:=fun e=>hf (UInt8.toNat_inj.1 e)
    simp;omega
   obtain ⟨N,hN⟩:=pA7 ((c.toNat:Int));rw [<-hN] at e1 hr;clear h2 hc hf hN;go_enter func287,ntmps287;go_wp2;go_ret;exact Ret.int HE.out.symm (Bw.refl _)
theorem gAc {s:ByteArray} (h2:(MD s 32).length≠2) (h3:(MD s 32).length≠3):sF s=none:=by
 unfold sF
 split
 ·rename_i a b e;rw [e] at h2;exact absurd rfl h2
 ·rename_i a b c e;rw [e] at h3;exact absurd rfl h3
 ·rfl
theorem dAo {s:ByteArray} (h:sF s=none):ZF s=(KA,false):=by rw [<-iA3];unfold pOf;rw [h]
theorem MH {s:ByteArray} {x:AB} (h:sF s=some x) (hs:s.size≠0):ZF s=if tB x=s then (x,true) else (KA,false):=by
 rw [<-iA3];unfold pOf;rw [h];dsimp only;by_cases hc:tB x=s
 ·rw [if_pos ⟨hs,hc⟩,if_pos hc]
 ·rw [if_neg (fun e=>hc e.2),if_neg hc]
theorem jAj {s:ByteArray} {c:UInt8} (h:(MD s c).length≠1):s.size≠0:=fun h0=>h (by rw [pW h0];rfl)
theorem JW {a:ByteArray} (h1:¬a=PB 1) (h2:¬a=PB 2) (h3:¬a=PB 3) (h4:¬a=PB 4):UT a=0:=by unfold UT;rw [if_neg h1,if_neg h2,if_neg h3,if_neg h4]
theorem jH {k:Int} {a:ByteArray} (h:a=PB k) (hk:0<=k/\k<=4):UT a=k:=by rw [h];exact (xW hk).2
theorem dAp (w:World) (s:ByteArray) (hs:s.size<=1048576):Calls prog 277 #[.string s] w (WB w (JK xN w.heap.size (ZF s).1 (.bool (ZF s).2))):=by
 obtain ⟨i0,hi,jm,jn,jp⟩:=info_parts xC;obtain ⟨Y,hY⟩:=pA7 (ZF s);have HY:=pA6 hY;rw [<-hY];have A0:Bw w (w.alloc (.cells #[.int .i64 0,.int .i64 0,.int .i64 0,.slice none 0 0,.slice none 0 0] 109)):=(Bw.refl w).alloc _;have bR:=Box.new w #[.int .i64 0,.int .i64 0,.int .i64 0,.slice none 0 0,.slice none 0 0] 109;obtain ⟨P,hP⟩:=pA7 (MD s 32);have bc:=XJ (w.alloc (.cells #[.int .i64 0,.int .i64 0,.int .i64 0,.slice none 0 0,.slice none 0 0] 109)) s 32 32 rfl hs;rw [<-hP] at bc;have HP:=pA6 hP;have HM:=pA6 (show ∀t∈P,t.size<=s.size from fun t ht=>iH (by rw [<-hP];exact ht));clear hP hY;go_enter func277,ntmps277;go_wp2_with fail;refine bc.mono ?_;rintro e w1 ⟨v1,rfl,⟨F1,o1,f1⟩,dj⟩;have r1:=DC o1;obtain ⟨A,n,c,rfl,L,Lc,Lm⟩:=yA r1;have B1:=A0.then dj;replace bR:=bR.bw dj;clear bc o1 f1;by_cases hn:n=2\/n=3
 ·have j1:¬(n:Int)<2:=by omega
  have j2:¬(3:Int)<(n:Int):=by omega
  have fz:s.size≠0:=jAj (c:=32) (by rw [<-HP.out,<-L.out];omega);have gd:=pA6 fz;obtain ⟨a,P',cm⟩:∃a P',P=a::P':=by
   cases P with
   | nil=>have:=L.out;simp at this;omega
   | cons a P'=>exact ⟨a,P',rfl⟩
  obtain ⟨b,P2,dx⟩:∃b P2,P'=b::P2:=by
   cases P' with
   | nil=>have:=L.out;rw [cm] at this;simp at this;omega
   | cons b P2=>exact ⟨b,P2,rfl⟩
  subst dx;obtain ⟨ba,oa,rfl,_,ca⟩:=BC (k:=0) r1 (x:=a) (by rw [cm];rfl);obtain ⟨_,_,e,_,cb⟩:=BC (k:=1) r1 (x:=b) (by rw [cm];rfl);injection e with e;injection e with e1 e2;subst e1 e2;rw [Nat.add_zero] at ca;have i1:(1:Int)<(n:Int):=by omega
  have i0':(0:Int)<(n:Int):=by omega
  have cf:=pA6 cm;have HN:=pA6 hn;have gb:=HM.out b (by rw [cm];simp);have dm:=jAi w1 b (by omega);obtain ⟨fd,fb⟩:=pA7 (zN b);rw [<-fb] at dm;have cp:=pA6 fb;clear cm hn fz fb;go_wp2_with fail;refine dm.mono ?_;rintro e w2 ⟨rfl,cn⟩;have cj:=bR.bw cn;have B2:=B1.then cn;have r2:=r1.bw pF cn;have bb:=(Bw.refl w2).alloc (.cells #[.int .i64 0,.int .i64 fd,.int .i64 0,.slice none 0 0,.slice none 0 0] 109);have dv:=cj.lt;obtain ⟨bx,dk⟩:=pA7 w2.heap.size;rw [<-dk] at dv;have HB:=pA6 dk;have bt:=pA6 (show w.heap.size<=bx/\w.heap.size≠bx by omega);have ct:=bb.cell (cn.cell ca);by_cases hn2:n=2
  focus
   have n3:((n:Int)==3)=false:=by simp;omega
   have dd:P2=[]:=by have:=L.out;rw [cf.out,hn2] at this;simp only [List.length_cons] at this;exact List.eq_nil_of_length_eq_zero (by omega)
   obtain ⟨t,ht⟩:=pA7 (⟨#[]⟩:ByteArray);have fn:=pA6 (show sF s=some (jI a b t) by unfold sF;rw [<-HP.out,cf.out,dd,ht]);have cg:=pA6 (show t.size<=1048576 by rw [ht];decide);have cx:=pA6 ht;have ck:=True.intro;clear r1 r2 bR cn dj dk bb dv hn2 dd dm gb ca cb ht
  rotate_left
  focus
   obtain rfl:n=3:=by have:=HN.out;omega
   obtain ⟨cc,dd⟩:∃cc,P2=[cc]:=by
    have h3:=L.out;rw [cf.out] at h3;simp only [List.length_cons] at h3
    match P2,h3 with
    | [cc],_=>exact ⟨cc,rfl⟩
   subst dd;obtain ⟨_,_,e,_,cz⟩:=BC (k:=2) r2 (x:=cc) (by rw [cf.out];rfl);injection e with e;injection e with e1 e2;subst e1 e2;have js:=HM.out cc (by rw [cf.out];simp);obtain ⟨t,ht⟩:=pA7 (cc:ByteArray);have cg:=pA6 (show t.size<=1048576 by rw [ht];omega);have fn:=pA6 (show sF s=some (jI a b t) by unfold sF;rw [<-HP.out,cf.out,ht]);have cx:=pA6 ht;have ck:=bb.cell cz;clear r1 r2 bR cn dj dk bb dv hn2 dm gb ca cb cz js ht
  rotate_right
  all_goals
   have bm:sF s=some (jI a b t):=fn.out;have dq:sA w.heap.size ([]++[]:List Nat)/\w.heap.size∉([]++[]:List Nat):=⟨sA.nil,by simp⟩;by_cases k1:a=PB 1
   focus
    have e1:(a.toList==[104,105,103,104])=true:=ND k1;have hk:=jH k1 (by omega);have HX:=pA6 (show sF s=some ⟨1,fd,0,[],[]⟩ by rw [bm];unfold jI;rw [hk,<-cp.out];rfl);have bb:=(Bw.refl w2).alloc (.cells #[.int .i64 1,.int .i64 fd,.int .i64 0,.slice none 0 0,.slice none 0 0] 109);have bX:=Box.new w2 #[.int .i64 1,.int .i64 fd,.int .i64 0,.slice none 0 0,.slice none 0 0] 109;have bd:=cj.bw bb;have BW:=B2.then bb;obtain ⟨W,hW⟩:=pA7 (w2.alloc (.cells #[.int .i64 1,.int .i64 fd,.int .i64 0,.slice none 0 0,.slice none 0 0] 109));rw [<-hW] at bb bX bd BW;rw [<-HB.out] at bX;have HW:=pA6 hW;clear hW bb;have o1:WA W [] [.slice none 0 0] []:=XB _;have o2:AE W [] [.slice none 0 0] []:=XB _;clear k1 hk bm;go_wp2_with fail;rw [<-HW.out,<-HB.out];clear ct ck;refine (cE (W) ⟨1,fd,0,[],[]⟩ (.slice none 0 0) (.slice none 0 0) (xA o1) (aC o2)).mono ?_;rintro e w9 ⟨rfl,bq⟩;have hE:=pA9.mk BW bq bX bd o1 o2 dq HX.out;generalize tB ⟨1,fd,0,[],[]⟩=T at hE ⊢
   rotate_left;have e1:(a.toList==[104,105,103,104])=false:=KD k1;by_cases k2:a=PB 2
   focus
    have e2:(a.toList==[110,101,97,114])=true:=ND k2;have hk:=jH k2 (by omega);have bb:=(Bw.refl w2).alloc (.cells #[.int .i64 2,.int .i64 fd,.int .i64 0,.slice none 0 0,.slice none 0 0] 109);have bX:=Box.new w2 #[.int .i64 2,.int .i64 fd,.int .i64 0,.slice none 0 0,.slice none 0 0] 109;have bd:=cj.bw bb;have BW:=B2.then bb;obtain ⟨W,hW⟩:=pA7 (w2.alloc (.cells #[.int .i64 2,.int .i64 fd,.int .i64 0,.slice none 0 0,.slice none 0 0] 109));rw [<-hW] at bb bX bd BW;rw [<-HB.out] at bX;have HW:=pA6 hW;clear hW bb;have HX:=pA6 (show sF s=some ⟨2,fd,tG t,[],[]⟩ by rw [bm];unfold jI;rw [hk,<-cp.out];rfl);have hc:=YJ W t cg.out;obtain ⟨N,hN⟩:=pA7 (tG t);rw [<-hN] at hc HX;have bj:=bX;have bp:=bd;have bn:=BW;clear k1 k2 hk bm hN;obtain rfl:=cx.out;go_wp2_with fail;rw [<-HW.out,<-HB.out];clear ct ck;refine hc.mono ?_;rintro e w5 ⟨rfl,bf⟩;have bk:=bj.bw bf;have cs:=(bk).set (j:=2) (by simp) (.int .i64 N);have cq:=(bp.bw bf).only (GA bx 2 (w5) (.int .i64 N)) (by simp;exact bt.out.2);have B7:=(bn.then bf).set (p:=⟨bx,2,none⟩) bt.out.1 (.int .i64 N);have o1:WA (w5.setCell ⟨bx,2,none⟩ (.int .i64 N)) [] [.slice none 0 0] []:=XB _;have o2:AE (w5.setCell ⟨bx,2,none⟩ (.int .i64 N)) [] [.slice none 0 0] []:=XB _;obtain ⟨y0,y1,y2,y3,y4,yf⟩:=bk.a5;clear hc bj bp bn bX bd BW;obtain ⟨x0,x1,x2,x3,x4,xf⟩:=cs.a5;go_wp2_with fail;clear x0 x1 x2 x3 x4 xf;refine (cE (w5.setCell ⟨bx,2,none⟩ (.int .i64 N)) ⟨2,fd,N,[],[]⟩ (.slice none 0 0) (.slice none 0 0) (xA o1) (aC o2)).mono ?_
    rintro e w9 ⟨rfl,bq⟩;have hE:=pA9.mk B7 bq cs cq o1 o2 dq HX.out;generalize tB ⟨2,fd,N,[],[]⟩=T at hE ⊢
   rotate_left;have e2:(a.toList==[110,101,97,114])=false:=KD k2;by_cases k3:a=PB 3
   focus
    have e3:(a.toList==[97,109,111,110,103])=true:=ND k3;have hk:=jH k3 (by omega);have bb:=(Bw.refl w2).alloc (.cells #[.int .i64 3,.int .i64 fd,.int .i64 0,.slice none 0 0,.slice none 0 0] 109);have bX:=Box.new w2 #[.int .i64 3,.int .i64 fd,.int .i64 0,.slice none 0 0,.slice none 0 0] 109;have bd:=cj.bw bb;have BW:=B2.then bb;obtain ⟨W,hW⟩:=pA7 (w2.alloc (.cells #[.int .i64 3,.int .i64 fd,.int .i64 0,.slice none 0 0,.slice none 0 0] 109));rw [<-hW] at bb bX bd BW;rw [<-HB.out] at bX;have HW:=pA6 hW;clear hW bb;obtain ⟨V,hV⟩:=pA7 (MD t 44);have fp:=pA6 (show sF s=some ⟨3,fd,0,V.map tG,[]⟩ by rw [bm];unfold jI;rw [hk,<-cp.out,hV];rfl);have gg:=pA6 (show ∀z∈V,z.size<=t.size from fun z hz=>iH (by rw [<-hV];exact hz));have gf:=pA6 (show V.length<=1048577 by rw [hV];have:=wN t 44;have:=cg.out;omega);have hc:=XJ W t 44 44 rfl cg.out;rw [<-hV] at hc;have bj:=bX;have bp:=bd;have bn:=BW;clear k1 k2 k3 hk bm hV;obtain rfl:=cx.out;go_wp2_with fail;rw [<-HW.out,<-HB.out];clear ct ck;refine hc.mono ?_;rintro e w5 ⟨v5,rfl,⟨F5,o5,f5⟩,bf⟩;have r5:=DC o5;obtain ⟨A5,n5,c5,rfl,L5,L5c,L5m⟩:=yA r5;have dn:=bj.bw bf;have db:=bp.bw bf;have B5:=bn.then bf;have O5:=pA6 o5;have cd:=bj.lt;have Z5:=pA6 (show ∀z∈F5,z∉[bx] from fun z hz=>by have h1:=f5.ge z hz;simp only [List.mem_singleton];omega);clear hc bj bp bn bX bd BW o5 f5 r5 bf cd;go_wp2
    go_loopg [8] n5 (fun g i w'=>∃(k:Nat) (va:Value) (F:List Nat),k<=n5/\g=n5-k/\i=.int .i64 k/\Box w' bx [.int .i64 3,.int .i64 fd,.int .i64 0,va,.slice none 0 0]/\Box w' w.heap.size [.int .i64 0,.int .i64 0,.int .i64 0,.slice none 0 0,.slice none 0 0]/\WA w' (cT V k) [va] F/\sA w5.heap.size F/\TB [bx] w5 w'/\Bw w w')
    case atStart=>exact ⟨0,_,[],by omega,rfl,rfl,dn,db,XB _,sA.nil,TB.refl _ _,B5⟩
    case' round=>
     obtain ⟨k,va,F,hk,rfl,rfl,bX,bR,hv,hF,hO,hb⟩:=hrel;obtain ⟨A4,n4,c4,rfl,l4,_⟩:=qA (xA hv);have L4:=pA6 l4;clear l4;by_cases hlt:k<n5
     focus
      obtain ⟨x,hx⟩:=tA (xs:=V) (k:=k) (by have:=L5.out;omega);obtain ⟨bv,ov,rfl,_,jg⟩:=BC (DC (hO.keeps iB O5.out Z5.out)) hx;have HS:=pA6 (dT hx);have jk:=gg.out x (List.mem_of_getElem? hx);have bc:=YJ wr.drew x (by have:=cg.out;omega);obtain ⟨M,hM⟩:=pA7 (tG x);rw [<-hM] at bc HS;have fm:=pA6 (GW V k);have fk:=pA6 (show n5<=1048577 by rw [L5.out];exact gf.out);have i1:(0:Int)<=(k:Int):=by omega
      have i2:(k:Int)<(n5:Int):=by omega
      have AD:Bw wr wr.drew:=(Bw.refl wr).drew;have fs:=bX.bw AD;have fg:=nA AD aA hv;have hcd:=AD.cell jg;have ds:sA w.heap.size F:=hF.mono B5.size;have gc:bx∉F:=fun h=>by have:=hF.ge _ h;have:=dn.lt;omega
      clear hx jk hM;obtain ⟨x0,x1,x2,x3,x4,xf⟩:=bX.a5;obtain ⟨y0,y1,y2,y3,y4,yf⟩:=fs.a5;go_wp2_with fail
      go_region_law (first
       | (refine RE _ (by rfl) (.tmp 57) (.tmp 63) 26 (by rfl) w 3 i0 _ 1 8 underlying26 hi jm jn jp rfl (by omega) YA _ (cT V k) F (by rfl) vW ds ⟨w4.heap.size,0,none⟩ 1 (by rfl) M [.int .i64 M] [] fx ⟨rfl,rfl⟩ rfl w4.heap.size gx sA.nil jq (by have:=fm.out;have:=fk.out;omega) (by have:=fm.out;have:=fk.out;omega) jd ?_;intro v' w' F' ff gs jb dc fc;obtain ⟨A',N',c',rfl,l',_⟩:=qA (xA ff);replace l':=pA6 l';have eP:=dp.only dc gc;have e0:=eP.c 0 _ rfl;have gm:=eP.c 1 _ rfl;have gn:=eP.c 2 _ rfl;have gp:=eP.c 3 _ rfl;have gq:=eP.c 4 _ rfl;have ef:=eP.fr)
       | (go_simp;go_at_call 278;refine bc.mono ?_;rintro e w4 ⟨rfl,cv⟩;have bk:=fs.bw cv;have u0:=bk.c 0 _ rfl;have u3:=bk.c 3 _ rfl;have uf:=bk.fr;have df:=(Bw.refl w4).alloc (.cells #[.int .i64 M] 3);have vW:=nA (cv.then df) aA fg;have dp:=bk.bw df;have t3:=dp.c 3 _ rfl;have fx:=cell_one_new w4 (.int .i64 M) 3;have gx:=(aA (B:=0)).lt (nA cv aA fg);have ft:=(hb.then AD).then cv;have jd:=ft.then df;have jq:=ft.size))
      all_goals
       have bz:=(AD.then cv).then df;have eQ:=eP.set (j:=3) (by simp) (.slice A' N' c');have cq:=((bR.bw bz).only dc (fun h=>by have:=hF.ge _ h;have:=db.lt;omega)).only (GA bx 3 w' (.slice A' N' c')) (by simp;exact bt.out.2);have nb:bx∉F':=fun h=>(fc bx h).elim gc (fun h=>h.elim (fun h=>by simp at h) (fun h=>by have:=dp.lt;omega))
       have jj:=UA (b:=bx) (o:=3) (u:=.slice A' N' c') aA ff nb;have gv:sA w5.heap.size F':=⟨gs.nodup,fun z hz=>(fc z hz).elim (fun h=>hF.ge z h) (fun h=>h.elim (fun h=>by simp at h) (fun h=>by have:=bz.size;have:=hO.1;omega))⟩;have gz:=(TB.push (hO.then (bz.only [bx]) (fun _ h=>h)) dc (fun z hz=>.inr (hF.ge z hz))).two (GA bx 3 w' (.slice A' N' c'));have jc:=jb.set (p:=⟨bx,3,none⟩) bt.out.1 (.slice A' N' c');clear x0 x1 x2 x3 x4 xf;clear y0 y1 y2 y3 y4 yf;clear t3 bc hv fg vW fx dc fc ff eP u0 u3 uf e0 gm gn gp gq ef;go_wp2
       go_roundg (n5-(k+1))
       ·exact ⟨k+1,_,F',by omega,rfl,by go_num,eQ,cq,by rw [HS.out];exact jj,gv,gz,jc⟩
       ·omega
     obtain rfl:k=n5:=by omega
     rw [IW (by rw [<-L5.out];exact Nat.le_refl _)] at hv;have dt:sA w.heap.size (F++[])/\w.heap.size∉F++[]:=by rw [List.append_nil];exact ⟨hF.mono B5.size,fun h=>by have:=hF.ge _ h;have:=db.lt;omega⟩
     have HX:=fp;have o2:AE wr [] [.slice none 0 0] []:=XB _;have jf:=hb;have fj:=hv;obtain ⟨N,hN⟩:=pA7 (V.map tG);rw [<-hN] at HX fj;clear hlt dn db fp hv hN;obtain ⟨x0,x1,x2,x3,x4,xf⟩:=bX.a5;go_wp2_with fail;clear x0 x1 x2 x3 x4 xf;refine (cE (wr) ⟨3,fd,0,N,[]⟩ (.slice A4 n4 c4) (.slice none 0 0) (xA fj) (aC o2)).mono ?_;rintro e w9 ⟨rfl,bq⟩;have hE:=pA9.mk jf bq bX bR fj o2 dt HX.out;generalize tB ⟨3,fd,0,N,[]⟩=T at hE ⊢
   rotate_left;have e3:(a.toList==[97,109,111,110,103])=false:=KD k3;by_cases k4:a=PB 4
   focus
    have e4:(a.toList==[111,114,100,101,114])=true:=ND k4;have hk:=jH k4 (by omega);have bb:=(Bw.refl w2).alloc (.cells #[.int .i64 4,.int .i64 fd,.int .i64 0,.slice none 0 0,.slice none 0 0] 109);have bX:=Box.new w2 #[.int .i64 4,.int .i64 fd,.int .i64 0,.slice none 0 0,.slice none 0 0] 109;have bd:=cj.bw bb;have BW:=B2.then bb;obtain ⟨W,hW⟩:=pA7 (w2.alloc (.cells #[.int .i64 4,.int .i64 fd,.int .i64 0,.slice none 0 0,.slice none 0 0] 109));rw [<-hW] at bb bX bd BW;rw [<-HB.out] at bX;have HW:=pA6 hW;clear hW bb;have HX:=pA6 (show sF s=some ⟨4,fd,0,[],(yE t).1⟩ by rw [bm];unfold jI;rw [hk,<-cp.out];rfl);have hc:=mR W t cg.out;obtain ⟨N,hN⟩:=pA7 ((yE t).1);obtain ⟨bo,fv⟩:=pA7 ((yE t).2);rw [<-hN] at hc HX;rw [<-fv] at hc;have bj:=bX;have bp:=bd;have bn:=BW;clear k1 k2 k3 k4 hk bm hN fv;obtain rfl:=cx.out;go_wp2_with fail;rw [<-HW.out,<-HB.out];clear ct ck;refine hc.mono ?_;rintro e w5 ⟨u5,rfl,⟨v5,rfl,⟨F5,o5,f5⟩⟩,bf⟩;obtain ⟨A5,n5,c5,rfl,l5,_⟩:=qA (aC o5);have L5:=pA6 l5;have cd:=bj.lt;have dz:=bp.lt;have nF:bx∉F5:=fun h=>by have:=f5.ge _ h;omega
    have nR:w.heap.size∉F5:=fun h=>by have:=f5.ge _ h;omega
    have bk:=bj.bw bf;have cs:=(bk).set (j:=4) (by simp) (.slice A5 n5 c5);have cq:=(bp.bw bf).only (GA bx 4 (w5) (.slice A5 n5 c5)) (by simp;exact bt.out.2);have B7:=(bn.then bf).set (p:=⟨bx,4,none⟩) bt.out.1 (.slice A5 n5 c5);have o2:=UA (b:=bx) (o:=4) (u:=.slice A5 n5 c5) EA o5 nF;have o1:WA (w5.setCell ⟨bx,4,none⟩ (.slice A5 n5 c5)) [] [.slice none 0 0] []:=XB _;have dt:sA w.heap.size ([]++F5)/\w.heap.size∉[]++F5:=by rw [List.nil_append];exact ⟨f5.mono bn.size,nR⟩
    obtain ⟨y0,y1,y2,y3,y4,yf⟩:=bk.a5;clear hc bj bp bn bX bd BW l5 o5 f5 nF nR cd dz;obtain ⟨x0,x1,x2,x3,x4,xf⟩:=cs.a5;go_wp2_with fail;clear x0 x1 x2 x3 x4 xf;refine (cE (w5.setCell ⟨bx,4,none⟩ (.slice A5 n5 c5)) ⟨4,fd,0,[],N⟩ (.slice none 0 0) (.slice A5 n5 c5) (xA o1) (aC o2)).mono ?_;rintro e w9 ⟨rfl,bq⟩;have hE:=pA9.mk B7 bq cs cq o1 o2 dt HX.out;generalize tB ⟨4,fd,0,[],N⟩=T at hE ⊢
   rotate_left
   focus
    have e4:(a.toList==[111,114,100,101,114])=false:=KD k4;have hk:=JW k1 k2 k3 k4;have HX:=pA6 (show sF s=some ⟨0,fd,0,[],[]⟩ by rw [bm];unfold jI;rw [hk,<-cp.out];rfl);have bb:=(Bw.refl w2).alloc (.cells #[.int .i64 0,.int .i64 fd,.int .i64 0,.slice none 0 0,.slice none 0 0] 109);have bX:=Box.new w2 #[.int .i64 0,.int .i64 fd,.int .i64 0,.slice none 0 0,.slice none 0 0] 109;have bd:=cj.bw bb;have BW:=B2.then bb;obtain ⟨W,hW⟩:=pA7 (w2.alloc (.cells #[.int .i64 0,.int .i64 fd,.int .i64 0,.slice none 0 0,.slice none 0 0] 109));rw [<-hW] at bb bX bd BW;rw [<-HB.out] at bX;have HW:=pA6 hW;clear hW bb;have o1:WA W [] [.slice none 0 0] []:=XB _;have o2:AE W [] [.slice none 0 0] []:=XB _;clear k1 k2 k3 k4 hk bm;go_wp2_with fail;rw [<-HW.out,<-HB.out];clear ct ck;refine (cE (W) ⟨0,fd,0,[],[]⟩ (.slice none 0 0) (.slice none 0 0) (xA o1) (aC o2)).mono ?_;rintro e w9 ⟨rfl,bq⟩;have hE:=pA9.mk BW bq bX bd o1 o2 dq HX.out;generalize tB ⟨0,fd,0,[],[]⟩=T at hE ⊢
   all_goals
    obtain ⟨kd,va,P1,Q1,R1,P2,Q2,R2,l,ps,F1,F2,B9,gj,fq,q1,q2,hF,HX,hT⟩:=hE;have HQ:=pA6 (MH HX gd.out);rw [<-hT] at HQ;have bg:=bt.out.2;have bs:bx≠w.heap.size:=fun h=>bg h.symm
    clear hT HX;by_cases hq:T=s
    ·have HE:=pA6 (show Y=(⟨kd,fd,va,l,ps⟩,true) by rw [HY.out,HQ.out,if_pos hq]);have e1:=JD hq;have e2:(T.toList != s.toList)=false:=by rw [bne,e1];rfl
     obtain ⟨x0,x1,x2,x3,x4,xf⟩:=gj.a5;obtain ⟨r0,r1,r2,r3,r4,rf⟩:=fq.a5;clear hq;go_wp2;refine bodyPost_ret (v:=.tuple #[.agg #[.int .i64 kd,.int .i64 fd,.int .i64 va,.slice P1 Q1 R1,.slice P2 Q2 R2],.bool true]) (by simp [results,results277,go_sem,r0,r1,r2,r3,r4,bg,bs]) rfl ?_;exact ⟨_,rfl,⟨_,by rw [HE.out],_,by rw [HE.out];exact ⟨_,_,_,_,rfl,LC aA q1 (fun h=>hF.2 (List.mem_append_left _ h)),LC EA q2 (fun h=>hF.2 (List.mem_append_right _ h)),rfl⟩,hF.1⟩,B9.put5 (Nat.le_refl _)⟩
    ·have HE:=pA6 (show Y=(KA,false) by rw [HY.out,HQ.out,if_neg hq]);have e1:=WC hq;have e2:(T.toList != s.toList)=true:=by rw [bne,e1];rfl
     obtain ⟨r0,r1,r2,r3,r4,rf⟩:=fq.a5;clear hq;go_wp2;refine bodyPost_ret (v:=.tuple #[.agg #[.int .i64 0,.int .i64 0,.int .i64 0,.slice none 0 0,.slice none 0 0],.bool false]) (by simp [results,results277,go_sem,r0,r1,r2,r3,r4,bg,bs]) rfl ?_;exact ⟨_,rfl,⟨_,by rw [HE.out],[],by rw [HE.out];exact ZC _,sA.nil⟩,(B9).put5 (Nat.le_refl _)⟩
 ·have HE:=pA6 (show Y=(KA,false) by rw [HY.out,dAo (gAc (by rw [<-HP.out,<-L.out];omega) (by rw [<-HP.out,<-L.out];omega))]);obtain ⟨r0,r1,r2,r3,r4,rf⟩:=bR.a5;by_cases h2:n<2;rotate_left
  focus
   have j1:¬(n:Int)<2:=by omega
   have j2:(3:Int)<(n:Int):=by omega
  rotate_right
  focus
   have j1:(n:Int)<2:=by omega
  all_goals
   clear hn h2;go_wp2;have bg:=True.intro;have bs:=True.intro;refine bodyPost_ret (v:=.tuple #[.agg #[.int .i64 0,.int .i64 0,.int .i64 0,.slice none 0 0,.slice none 0 0],.bool false]) (by simp [results,results277,go_sem,r0,r1,r2,r3,r4,bg,bs]) rfl ?_;exact ⟨_,rfl,⟨_,by rw [HE.out],[],by rw [HE.out];exact ZC _,sA.nil⟩,(B1).put5 (Nat.le_refl _)⟩
end Go.Proofs.YtpihighajaeabaaGreat
