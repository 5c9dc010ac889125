/- Wishes are read, in the program. -/
import Derived.Test.YtpihighajaeabaaGreatXParseP
import Derived.Test.YtpihighajaeabaaGreatXDrawB
import Derived.Test.YtpihighajaeabaaGreatXParseT
import Derived.Test.YtpihighajaeabaaGreatXCodes
import Derived.Test.YtpihighajaeabaaGreatXDelW
namespace Go.Proofs.YtpihighajaeabaaGreat
open Go.RowKit Go.Proofs.Tryz
set_option linter.all false
set_option maxRecDepth 100000
set_option maxHeartbeats 16000000
def UO (x:ByteArray):List ByteArray->Nat->Int
 | [],_=>-1
 | y::l,i=>if x=y then (i:Int) else UO x l (i+1)
theorem jAb {xs:List ByteArray} {k:Nat} {x y:ByteArray} (h:xs[k]? = some y):UO x (xs.drop k) k=if x=y then (k:Int) else UO x (xs.drop (k+1)) (k+1):=by rw [nC h,UO]
theorem gL (w:World) (xs:List ByteArray) (x:ByteArray) (v:Value) (h:Rd DT w xs [v]):Calls prog 245 #[v,.string x] w (Ret w (.int .i64 (UO x xs 0))):=by
 obtain ⟨A,n,c,rfl,L,Lc,Lm⟩:=yA h;go_enter func245,ntmps245;go_wp2
 go_loopg [8] n (fun g i w'=>∃k:Nat,k<=n/\g=n-k/\i=.int .i64 k/\Hid (UO x xs 0=UO x (xs.drop k) k)/\Bw w w')
 ·exact ⟨0,by omega,rfl,rfl,pA6 rfl,Bw.refl _⟩
 ·obtain ⟨k,hk,rfl,rfl,HE,hb⟩:=hrel;by_cases hlt:k<n
  ·obtain ⟨y,hy⟩:=tA (xs:=xs) (k:=k) (by have:=L.out;omega);obtain ⟨ba,oa,rfl,_,bb⟩:=BC h hy;have hc:=hb.cell bb;have HS:=pA6 (jAb (x:=x) hy);have i1:(0:Int)<=(k:Int):=by omega
   have i2:(k:Int)<(n:Int):=by omega
   clear hy h bb;by_cases he:x=y
   ·have e1:=JD he;have HX:=pA6 (show UO x xs 0=k by rw [HE.out,HS.out,if_pos he]);clear he;go_wp2;go_ret;exact Ret.int (HX.out.symm) (hb)
   ·have e1:=WC he;have HX:=pA6 (show UO x xs 0=UO x (xs.drop (k+1)) (k+1) by rw [HE.out,HS.out,if_neg he]);clear he;go_wp2
    go_roundg (n-(k+1))
    ·exact ⟨k+1,by omega,rfl,by go_num,HX,hb⟩
    ·omega
  ·have HX:=pA6 (show UO x xs 0 = -1 by rw [HE.out,List.drop_of_length_le (by have:=L.out;omega)];rfl);go_wp2;go_ret;exact Ret.int (HX.out.symm) (hb)
def gA1:List ByteArray:=[⟨#[108,111,119]⟩,⟨#[104,105,103,104]⟩,⟨#[110,101,97,114]⟩,⟨#[97,109,111,110,103]⟩,⟨#[111,114,100,101,114]⟩]
theorem jAc (a:ByteArray):UO a gA1 0=jR a:=by
 unfold gA1 jR;simp only [UO];rfl
theorem gA2 (w:World) (a b c d e:ByteArray):RJ (w.alloc (.cells #[.string a,.string b,.string c,.string d,.string e] 9)) [a,b,c,d,e] [.slice (some ⟨w.heap.size,0,none⟩) 5 5] [w.heap.size]:=by
 refine ⟨_,[[.string a],[.string b],[.string c],[.string d],[.string e]],[[],[],[],[],[]],rfl,?_,?_,rfl⟩
 ·exact ⟨rfl,.inr ⟨w.heap.size,5,#[.string a,.string b,.string c,.string d,.string e],rfl,Nat.zero_le _,heap_alloc_new w _,Nat.le_refl 5,(by decide:5<=maxLen),rfl,rfl⟩⟩
 ·exact ⟨⟨⟨rfl,rfl⟩,rfl⟩,⟨⟨rfl,rfl⟩,rfl⟩,⟨⟨rfl,rfl⟩,rfl⟩,⟨⟨rfl,rfl⟩,rfl⟩,⟨⟨rfl,rfl⟩,rfl⟩,trivial⟩
theorem gA3 {s:ByteArray} (h2:(rH s ⟨#[32]⟩).length≠2) (h3:(rH s ⟨#[32]⟩).length≠3):MG s=none:=by
 unfold MG
 split
 ·rename_i a b e;rw [e] at h2;exact absurd rfl h2
 ·rename_i a b c e;rw [e] at h3;exact absurd rfl h3
 ·rfl
theorem yW {s:ByteArray} (h:MG s=none):ZF s=(KA,false):=by unfold ZF pOf;rw [h]
theorem gA4 {s:ByteArray} {x:AB} (h:MG s=some x) (hs:s.size≠0):ZF s=if tB x=s then (x,true) else (KA,false):=by
 unfold ZF pOf;rw [h];dsimp only;by_cases hc:tB x=s
 ·rw [if_pos ⟨hs,hc⟩,if_pos hc]
 ·rw [if_neg (fun e=>hc e.2),if_neg hc]
theorem jAd {s sep:ByteArray} (hn:0<sep.size) (h:(rH s sep).length≠1):s.size≠0:=fun h0=>h (nW h0 hn)
theorem ZC (w:World):xN w KA [.int .i64 0,.int .i64 0,.int .i64 0,.slice none 0 0,.slice none 0 0] []:=⟨_,_,[],[],rfl,XB w,XB w,rfl⟩
def oAo (W:World) (b:Nat) (a0 a1 a2 a3 a4:Value):World:=((((W.setCell ⟨b,0,none⟩ a0).setCell ⟨b,1,none⟩ a1).setCell ⟨b,2,none⟩ a2).setCell ⟨b,3,none⟩ a3).setCell ⟨b,4,none⟩ a4
theorem LC {W:World} {b:Nat} {a0 a1 a2 a3 a4:Value} {α:Type} {R:Fp α} (hR:tC 0 R) {x:α} {cs:List Value} {F:List Nat} (hx:R W x cs F) (hF:b∉F):R (oAo W b a0 a1 a2 a3 a4) x cs F:=UA hR (UA hR (UA hR (UA hR (UA hR hx hF) hF) hF) hF) hF
theorem Bw.put5 {w W:World} {b:Nat} {a0 a1 a2 a3 a4:Value} (h:Bw w W) (hb:w.heap.size<=b):Bw w (oAo W b a0 a1 a2 a3 a4):=((((h.set (p:=⟨b,0,none⟩) hb _).set (p:=⟨b,1,none⟩) hb _).set (p:=⟨b,2,none⟩) hb _).set (p:=⟨b,3,none⟩) hb _).set (p:=⟨b,4,none⟩) hb _
def pA9 (w:World) (bx:Nat) (fd:Int) (R:Option AB) (T:ByteArray) (W:World):Prop:=∃kd va P1 Q1 R1 P2 Q2 R2 l ps F1 F2,Bw w W/\Box W bx [.int .i64 kd,.int .i64 fd,.int .i64 va,.slice P1 Q1 R1,.slice P2 Q2 R2]/\Box W w.heap.size [.int .i64 0,.int .i64 0,.int .i64 0,.slice none 0 0,.slice none 0 0]/\WA W l [.slice P1 Q1 R1] F1/\AE W ps [.slice P2 Q2 R2] F2/\(sA w.heap.size (F1++F2)/\w.heap.size∉F1++F2)/\R=some ⟨kd,fd,va,l,ps⟩/\T=tB ⟨kd,fd,va,l,ps⟩
theorem pA9.mk {w W W9:World} {bx:Nat} {fd kd va:Int} {P1 P2:Option Addr} {Q1 R1 Q2 R2:Nat} {l:List Int} {ps:List EB} {F1 F2:List Nat} {R:Option AB} (h1:Bw w W) (hb:Bw W W9) (h2:Box W bx [.int .i64 kd,.int .i64 fd,.int .i64 va,.slice P1 Q1 R1,.slice P2 Q2 R2]) (h3:Box W w.heap.size [.int .i64 0,.int .i64 0,.int .i64 0,.slice none 0 0,.slice none 0 0]) (h4:WA W l [.slice P1 Q1 R1] F1) (h5:AE W ps [.slice P2 Q2 R2] F2) (h6:sA w.heap.size (F1++F2)/\w.heap.size∉F1++F2) (h7:R=some ⟨kd,fd,va,l,ps⟩):pA9 w bx fd R (tB ⟨kd,fd,va,l,ps⟩) W9:=
 ⟨kd,va,P1,Q1,R1,P2,Q2,R2,l,ps,F1,F2,h1.then hb,h2.bw hb,h3.bw hb,nA hb aA h4,nA hb EA h5,h6,h7,rfl⟩
theorem kR {s:ByteArray} {x:AB} (h:MG s=some x) (hs:s.size≠0):ZF s=if tB x=s then (x,true) else (KA,false):=gA4 h hs
theorem dAi (w:World) (s:ByteArray) (hs:s.size<=1048576):Calls prog 246 #[.string s] w (WB w (JK xN w.heap.size (ZF s).1 (.bool (ZF s).2))):=by
 obtain ⟨Y,hY⟩:=pA7 (ZF s);have HY:=pA6 hY;rw [<-hY];have A0:Bw w (w.alloc (.cells #[.int .i64 0,.int .i64 0,.int .i64 0,.slice none 0 0,.slice none 0 0] 109)):=(Bw.refl w).alloc _;have bR:=Box.new w #[.int .i64 0,.int .i64 0,.int .i64 0,.slice none 0 0,.slice none 0 0] 109;obtain ⟨P,hP⟩:=pA7 (rH s ⟨#[32]⟩);have bk:=fW (w.alloc (.cells #[.int .i64 0,.int .i64 0,.int .i64 0,.slice none 0 0,.slice none 0 0] 109)) s ⟨#[32]⟩ hs (by decide) (by decide);rw [<-hP] at bk;have HP:=pA6 hP;have HM:=pA6 (show ∀t∈P,t.size<=s.size from fun t ht=>pAn (by rw [<-hP];exact ht));clear hP hY;go_enter func246,ntmps246;go_wp2_with fail;refine bk.mono ?_;rintro e w1 ⟨v1,rfl,⟨F1,o1,f1⟩,dq⟩;have r1:=DC o1;obtain ⟨A,n,c,rfl,L,Lc,Lm⟩:=yA r1;have B1:=A0.then dq;replace bR:=bR.bw dq;have cn:=rD w1 n 2 3;clear bk o1 f1;by_cases hn:n=2\/n=3
 ·rw [show inB (n:Int) 2 3=true from decide_eq_true (by omega)] at cn;have fs:s.size≠0:=jAd (sep:=⟨#[32]⟩) (by decide) (by rw [<-HP.out,<-L.out];omega);have fv:=pA6 fs;obtain ⟨a,P',cm⟩:∃a P',P=a::P':=by
   cases P with
   | nil=>have:=L.out;simp at this;omega
   | cons a P'=>exact ⟨a,P',rfl⟩
  obtain ⟨b,P2,ds⟩:∃b P2,P'=b::P2:=by
   cases P' with
   | nil=>have:=L.out;rw [cm] at this;simp at this;omega
   | cons b P2=>exact ⟨b,P2,rfl⟩
  subst ds;obtain ⟨ba,oa,rfl,_,ca⟩:=BC (k:=0) r1 (x:=a) (by rw [cm];rfl);obtain ⟨_,_,e,_,cb⟩:=BC (k:=1) r1 (x:=b) (by rw [cm];rfl);injection e with e;injection e with e1 e2;subst e1 e2;rw [Nat.add_zero] at ca;have i1:(1:Int)<(n:Int):=by omega
  have i0:(0:Int)<(n:Int):=by omega
  have bm:=pA6 cm;have HN:=pA6 hn;have hzb:=HM.out b (by rw [cm];simp);clear cm hn fs;go_wp2_with fail;refine cn.mono ?_;rintro e w2 ⟨rfl,bs⟩;have dd:=bs.cell ca;have fm:=bs.cell cb;replace bR:=bR.bw bs;have B2:=B1.then bs;have r2:=r1.bw pF bs;clear cn r1 ca cb;by_cases hb1s:b.size<2
  ·have HX:=pA6 (show MG s=none by
    unfold MG;rw [<-HP.out];rcases P2 with _ | ⟨c',P3⟩
    ·rw [bm.out];exact if_pos hb1s
    ·rcases P3 with _ | ⟨d,P4⟩
     ·rw [bm.out];exact if_pos hb1s
     ·rw [bm.out])
   have HE:=pA6 (show Y=(KA,false) by rw [HY.out,yW HX.out]);have i3:(b.size:Int)<2:=by omega
   obtain ⟨r0,r1,r2,r3,r4,rf⟩:=bR.a5;clear hb1s;go_wp2;have bb:=True.intro;have bc:=True.intro;refine bodyPost_ret (v:=.tuple #[.agg #[.int .i64 0,.int .i64 0,.int .i64 0,.slice none 0 0,.slice none 0 0],.bool false]) (by simp [results,results246,go_sem,r0,r1,r2,r3,r4,bb,bc]) rfl ?_;exact ⟨_,rfl,⟨_,by rw [HE.out],[],by rw [HE.out];exact ZC _,sA.nil⟩,(B2).put5 (Nat.le_refl _)⟩
  ·have i3:¬(b.size:Int)<2:=by omega
   have ck:=(Bw.refl w2).alloc (.cells #[.int .i64 0,.int .i64 0,.int .i64 0,.slice none 0 0,.slice none 0 0] 109);have bX:=Box.new w2 #[.int .i64 0,.int .i64 0,.int .i64 0,.slice none 0 0,.slice none 0 0] 109;have db:=bR.bw ck;have fq:=bR.lt;obtain ⟨bx,dv⟩:=pA7 w2.heap.size;obtain ⟨W,hW⟩:=pA7 (w2.alloc (.cells #[.int .i64 0,.int .i64 0,.int .i64 0,.slice none 0 0,.slice none 0 0] 109));rw [<-hW] at ck bX db;have dt:=World.block_lt_of_cell? _ _ dd;rw [<-dv] at bX fq dt;dsimp only at dt;have HW:=pA6 hW;have HB:=pA6 dv;have bd:=pA6 (show w.heap.size<=bx/\w.heap.size≠bx by omega);have cs:=pA6 (show ba≠bx by omega);have BW:=B2.then ck;have rW:=r2.bw pF ck;have ct:=ck.cell dd;have fp:=ck.cell fm;have fc:=pA6 hb1s;have s1:∀W,(Instr.slice 9 (.string b) (some (.int .i64 1)) none none).run prog W=.ok (.string (b.extract 1 b.size)) W:=fun W=>fL (s:=b) (a:=1) (by omega) W
   have dx:=WH W (b.extract 1 b.size) (by rw [ByteArray.size_extract];omega);obtain ⟨fd,fb⟩:=pA7 (tW b);obtain ⟨bo,cj⟩:=pA7 ((pI (b.extract 1 b.size)).2);rw [<-cj,show (pI (b.extract 1 b.size)).1=fd from fb.symm] at dx;have ff:=pA6 fb;have fk:=ct;have fn:=fp;rw [hW] at fk fn;clear r2 B2 bR bs dq hW dv fb cj ck fq dt hb1s;go_wp2_with fail;rw [<-HW.out];clear fk fn s1 dd fm;refine dx.mono ?_;rintro e w3 ⟨rfl,cf⟩;rw [<-HB.out];have dc:=bX.bw cf;have cq:=dc.set (j:=1) (by simp) (.int .i64 fd);have fg:=(db.bw cf).only (GA bx 1 w3 (.int .i64 fd)) (by simp;exact bd.out.2);have B3:=(BW.then cf).set (p:=⟨bx,1,none⟩) bd.out.1 (.int .i64 fd);have fz:=NI (b:=bx) (o:=1) (u:=.int .i64 fd) (cf.cell ct) cs.out;have r3s:=rW.bw pF cf;have ft:(w3.setCell ⟨bx,1,none⟩ (.int .i64 fd)).heap.size=w3.heap.size:=by simp
   have bq:=(Bw.refl (w3.setCell ⟨bx,1,none⟩ (.int .i64 fd))).alloc (.cells #[.string ⟨#[108,111,119]⟩,.string ⟨#[104,105,103,104]⟩,.string ⟨#[110,101,97,114]⟩,.string ⟨#[97,109,111,110,103]⟩,.string ⟨#[111,114,100,101,114]⟩] 9);have dz:=gL _ gA1 a _ (DC (gA2 (w3.setCell ⟨bx,1,none⟩ (.int .i64 fd)) ⟨#[108,111,119]⟩ ⟨#[104,105,103,104]⟩ ⟨#[110,101,97,114]⟩ ⟨#[97,109,111,110,103]⟩ ⟨#[111,114,100,101,114]⟩));obtain ⟨K,hK⟩:=pA7 (jR a);have HK:=pA6 hK;rw [jAc,<-hK,ft] at dz;have dj:=cf.cell ct;have df:=bq.cell fz;obtain ⟨x0,x1,x2,x3,x4,xf⟩:=dc.a5;clear hK dx ft ct fp;go_wp2_with fail;clear x0 x1 x2 x3 x4 xf;clear dj df;refine dz.mono ?_;rintro e w4 ⟨rfl,cg⟩;have bp:=(cq.bw bq).bw cg;have bf:=bp.set (j:=0) (by simp) (.int .i64 K);have bn:=((fg.bw bq).bw cg).only (GA bx 0 w4 (.int .i64 K)) (by simp;exact bd.out.2);have B4:=(B3.then bq).then cg;have B5:=B4.set (p:=⟨bx,0,none⟩) bd.out.1 (.int .i64 K);have gb:sA w.heap.size ([]:List Nat)/\w.heap.size∉([]:List Nat):=⟨sA.nil,by simp⟩;have dn:sA w.heap.size ([]++[]:List Nat)/\w.heap.size∉([]++[]:List Nat):=gb;have bg:∀ {q:Addr} {x:Value},W.cell? q=some x->w3.cell? q=some x:=fun h=>cf.cell h
   clear dz bX dc cq fg cf BW db;by_cases hn2:n=2
   focus
    have n3:((n:Int)==3)=false:=by simp;omega
    have cv:P2=[]:=by have:=L.out;rw [bm.out,hn2] at this;simp only [List.length_cons] at this;exact List.eq_nil_of_length_eq_zero (by omega)
    have HX:=pA6 (show MG s=some ⟨K,fd,0,[],[]⟩ by unfold MG;rw [<-HP.out,bm.out,cv];dsimp only;rw [if_neg fc.out,<-HK.out,<-ff.out]);have o1:WA (w4.setCell ⟨bx,0,none⟩ (.int .i64 K)) [] [.slice none 0 0] []:=XB _;have o2:AE (w4.setCell ⟨bx,0,none⟩ (.int .i64 K)) [] [.slice none 0 0] []:=XB _;obtain ⟨y0,y1,y2,y3,y4,yf⟩:=bp.a5;clear hn2 cv;obtain ⟨x0,x1,x2,x3,x4,xf⟩:=bf.a5;go_wp2_with fail;clear x0 x1 x2 x3 x4 xf;refine (qH (w4.setCell ⟨bx,0,none⟩ (.int .i64 K)) ⟨K,fd,0,[],[]⟩ (.slice none 0 0) (.slice none 0 0) (xA o1) (aC o2)).mono ?_;rintro e w9 ⟨rfl,bt⟩;have hE:=pA9.mk B5 bt bf bn o1 o2 dn HX.out;generalize tB ⟨K,fd,0,[],[]⟩=T at hE ⊢
   rotate_left;obtain rfl:n=3:=by have:=HN.out;omega
   obtain ⟨cc,cv⟩:∃cc,P2=[cc]:=by
    have h3:=L.out;rw [bm.out] at h3;simp only [List.length_cons] at h3
    match P2,h3 with
    | [cc],_=>exact ⟨cc,rfl⟩
   subst cv;obtain ⟨_,_,e,_,cz⟩:=BC (k:=2) rW (x:=cc) (by rw [bm.out];rfl);injection e with e;injection e with e1 e2;subst e1 e2;have cx:=HM.out cc (by rw [bm.out];simp);have dm:=NI (b:=bx) (o:=0) (u:=.int .i64 K) (cg.cell (bq.cell (NI (b:=bx) (o:=1) (u:=.int .i64 fd) (bg cz) cs.out))) cs.out;have dk:=cg.cell (bq.cell (NI (b:=bx) (o:=1) (u:=.int .i64 fd) (bg cz) cs.out));have cd:MG s=some ⟨K,fd,if K=2 then oJ cc else 0,if K=3 then JJ cc else [],if K=4 then (yE cc).1 else []⟩:=by
    unfold MG;rw [<-HP.out,bm.out];dsimp only;rw [if_neg fc.out];unfold dAd;rw [<-HK.out,<-ff.out]
   have hbs:w.heap.size∉([]:List Nat):=by simp
   have hRlt:=bn.lt;have hXlt:=bf.lt;clear cz hn2;by_cases k2:K=2
   focus
    have HX:=pA6 (show MG s=some ⟨K,fd,oJ cc,[],[]⟩ by rw [cd,if_pos k2,if_neg (by omega),if_neg (by omega)]);have e2:(K==2)=true:=by simpa using k2
    have hc:=WH (w4.setCell ⟨bx,0,none⟩ (.int .i64 K)) cc (by omega);obtain ⟨N,hN⟩:=pA7 (oJ cc);obtain ⟨bo,cj⟩:=pA7 ((pI cc).2);rw [<-cj,show (pI cc).1=N from hN.symm] at hc;rw [<-hN] at HX;obtain ⟨y0,y1,y2,y3,y4,yf⟩:=bp.a5;clear cd hN cj cx k2;go_wp2_with fail;clear y0 y1 y2 y3 y4 yf;clear dm dk;refine hc.mono ?_;rintro e w5 ⟨rfl,bj⟩;have bv:=bf.bw bj;have bz:=bv.set (j:=2) (by simp) (.int .i64 N);have cp:=(bn.bw bj).only (GA bx 2 w5 (.int .i64 N)) (by simp;exact bd.out.2);have B7:=(B5.then bj).set (p:=⟨bx,2,none⟩) bd.out.1 (.int .i64 N);have o1:WA (w5.setCell ⟨bx,2,none⟩ (.int .i64 N)) [] [.slice none 0 0] []:=XB _;have o2:AE (w5.setCell ⟨bx,2,none⟩ (.int .i64 N)) [] [.slice none 0 0] []:=XB _;obtain ⟨y0,y1,y2,y3,y4,yf⟩:=bv.a5;clear hc bf bn bp B4 B5 B3 cg bq bg;obtain ⟨x0,x1,x2,x3,x4,xf⟩:=bz.a5;go_wp2_with fail;clear x0 x1 x2 x3 x4 xf;refine (qH (w5.setCell ⟨bx,2,none⟩ (.int .i64 N)) ⟨K,fd,N,[],[]⟩ (.slice none 0 0) (.slice none 0 0) (xA o1) (aC o2)).mono ?_;rintro e w9 ⟨rfl,bt⟩;have hE:=pA9.mk B7 bt bz cp o1 o2 dn HX.out;generalize tB ⟨K,fd,N,[],[]⟩=T at hE ⊢
   rotate_left;have e2:(K==2)=false:=by simpa using k2
   by_cases k3:K=3
   focus
    have HX:=pA6 (show MG s=some ⟨K,fd,0,JJ cc,[]⟩ by rw [cd,if_neg k2,if_pos k3,if_neg (by omega)]);have e3:(K==3)=true:=by simpa using k3
    have hc:=tP (w4.setCell ⟨bx,0,none⟩ (.int .i64 K)) cc (by omega);obtain ⟨N,hN⟩:=pA7 (JJ cc);rw [<-hN] at HX hc;obtain ⟨y0,y1,y2,y3,y4,yf⟩:=bp.a5;clear cd hN cx k2 k3;go_wp2_with fail;clear y0 y1 y2 y3 y4 yf;clear dm dk;refine hc.mono ?_;rintro e w5 ⟨v5,rfl,⟨F5,o5,f5⟩,bj⟩;obtain ⟨A5,n5,c5,rfl,l5,_⟩:=qA (xA o5);have L5:=pA6 l5;have nF:bx∉F5:=fun h=>by have:=f5.ge _ h;omega
    have nR:w.heap.size∉F5:=fun h=>by have:=f5.ge _ h;omega
    have bv:=bf.bw bj;have bz:=bv.set (j:=3) (by simp) (.slice A5 n5 c5);have cp:=(bn.bw bj).only (GA bx 3 w5 (.slice A5 n5 c5)) (by simp;exact bd.out.2);have B7:=(B5.then bj).set (p:=⟨bx,3,none⟩) bd.out.1 (.slice A5 n5 c5);have o1:=UA (b:=bx) (o:=3) (u:=.slice A5 n5 c5) aA o5 nF;have o2:AE (w5.setCell ⟨bx,3,none⟩ (.slice A5 n5 c5)) [] [.slice none 0 0] []:=XB _;have dp:sA w.heap.size (F5++[])/\w.heap.size∉F5++[]:=by rw [List.append_nil];exact ⟨f5.mono B5.size,nR⟩
    obtain ⟨y0,y1,y2,y3,y4,yf⟩:=bv.a5;clear hc bf bn bp B4 B5 B3 cg bq bg l5 o5 f5 nF nR;obtain ⟨x0,x1,x2,x3,x4,xf⟩:=bz.a5;go_wp2_with fail;clear x0 x1 x2 x3 x4 xf;refine (qH (w5.setCell ⟨bx,3,none⟩ (.slice A5 n5 c5)) ⟨K,fd,0,N,[]⟩ (.slice A5 n5 c5) (.slice none 0 0) (xA o1) (aC o2)).mono ?_;rintro e w9 ⟨rfl,bt⟩;have hE:=pA9.mk B7 bt bz cp o1 o2 dp HX.out;generalize tB ⟨K,fd,0,N,[]⟩=T at hE ⊢
   rotate_left;have e3:(K==3)=false:=by simpa using k3
   by_cases k4:K=4
   focus
    have HX:=pA6 (show MG s=some ⟨K,fd,0,[],(yE cc).1⟩ by rw [cd,if_neg k2,if_neg k3,if_pos k4]);have e4:(K==4)=true:=by simpa using k4
    have hc:=aAm (w4.setCell ⟨bx,0,none⟩ (.int .i64 K)) cc (by omega);obtain ⟨N,hN⟩:=pA7 ((yE cc).1);obtain ⟨bo,cj⟩:=pA7 ((yE cc).2);rw [<-hN] at HX hc;rw [<-cj] at hc;obtain ⟨y0,y1,y2,y3,y4,yf⟩:=bp.a5;clear cd hN cj cx k2 k3 k4;go_wp2_with fail;clear y0 y1 y2 y3 y4 yf;clear dm dk;refine hc.mono ?_;rintro e w5 ⟨u5,rfl,⟨v5,rfl,⟨F5,o5,f5⟩⟩,bj⟩;obtain ⟨A5,n5,c5,rfl,l5,_⟩:=qA (aC o5);have L5:=pA6 l5;have nF:bx∉F5:=fun h=>by have:=f5.ge _ h;omega
    have nR:w.heap.size∉F5:=fun h=>by have:=f5.ge _ h;omega
    have bv:=bf.bw bj;have bz:=bv.set (j:=4) (by simp) (.slice A5 n5 c5);have cp:=(bn.bw bj).only (GA bx 4 w5 (.slice A5 n5 c5)) (by simp;exact bd.out.2);have B7:=(B5.then bj).set (p:=⟨bx,4,none⟩) bd.out.1 (.slice A5 n5 c5);have o2:=UA (b:=bx) (o:=4) (u:=.slice A5 n5 c5) EA o5 nF;have o1:WA (w5.setCell ⟨bx,4,none⟩ (.slice A5 n5 c5)) [] [.slice none 0 0] []:=XB _;have dp:sA w.heap.size ([]++F5)/\w.heap.size∉[]++F5:=by rw [List.nil_append];exact ⟨f5.mono B5.size,nR⟩
    obtain ⟨y0,y1,y2,y3,y4,yf⟩:=bv.a5;clear hc bf bn bp B4 B5 B3 cg bq bg l5 o5 f5 nF nR;obtain ⟨x0,x1,x2,x3,x4,xf⟩:=bz.a5;go_wp2_with fail;clear x0 x1 x2 x3 x4 xf;refine (qH (w5.setCell ⟨bx,4,none⟩ (.slice A5 n5 c5)) ⟨K,fd,0,[],N⟩ (.slice none 0 0) (.slice A5 n5 c5) (xA o1) (aC o2)).mono ?_;rintro e w9 ⟨rfl,bt⟩;have hE:=pA9.mk B7 bt bz cp o1 o2 dp HX.out;generalize tB ⟨K,fd,0,[],N⟩=T at hE ⊢
   rotate_left
   focus
    have HX:=pA6 (show MG s=some ⟨K,fd,0,[],[]⟩ by rw [cd,if_neg k2,if_neg k3,if_neg k4]);have e4:(K==4)=false:=by simpa using k4
    have o1:WA (w4.setCell ⟨bx,0,none⟩ (.int .i64 K)) [] [.slice none 0 0] []:=XB _;have o2:AE (w4.setCell ⟨bx,0,none⟩ (.int .i64 K)) [] [.slice none 0 0] []:=XB _;obtain ⟨y0,y1,y2,y3,y4,yf⟩:=bp.a5;clear cd k2 k3 k4 cx;obtain ⟨x0,x1,x2,x3,x4,xf⟩:=bf.a5;go_wp2_with fail;clear x0 x1 x2 x3 x4 xf;refine (qH (w4.setCell ⟨bx,0,none⟩ (.int .i64 K)) ⟨K,fd,0,[],[]⟩ (.slice none 0 0) (.slice none 0 0) (xA o1) (aC o2)).mono ?_;rintro e w9 ⟨rfl,bt⟩;have hE:=pA9.mk B5 bt bf bn o1 o2 dn HX.out;generalize tB ⟨K,fd,0,[],[]⟩=T at hE ⊢
   all_goals
    obtain ⟨kd,va,P1,Q1,R1,P2,Q2,R2,l,ps,F1,F2,B9,fx,fj,q1,q2,hF,HX,hT⟩:=hE;have HQ:=pA6 (kR HX fv.out);rw [<-hT] at HQ;have bb:=bd.out.2;have bc:bx≠w.heap.size:=fun h=>bb h.symm
    clear hT HX;by_cases hq:T=s
    ·have HE:=pA6 (show Y=(⟨kd,fd,va,l,ps⟩,true) by rw [HY.out,HQ.out,if_pos hq]);have e1:=JD hq;have e2:(T.toList != s.toList)=false:=by rw [bne,e1];rfl
     obtain ⟨x0,x1,x2,x3,x4,xf⟩:=fx.a5;obtain ⟨r0,r1,r2,r3,r4,rf⟩:=fj.a5;clear hq;go_wp2;refine bodyPost_ret (v:=.tuple #[.agg #[.int .i64 kd,.int .i64 fd,.int .i64 va,.slice P1 Q1 R1,.slice P2 Q2 R2],.bool true]) (by simp [results,results246,go_sem,r0,r1,r2,r3,r4,bb,bc]) rfl ?_;exact ⟨_,rfl,⟨_,by rw [HE.out],_,by rw [HE.out];exact ⟨_,_,_,_,rfl,LC aA q1 (fun h=>hF.2 (List.mem_append_left _ h)),LC EA q2 (fun h=>hF.2 (List.mem_append_right _ h)),rfl⟩,hF.1⟩,B9.put5 (Nat.le_refl _)⟩
    ·have HE:=pA6 (show Y=(KA,false) by rw [HY.out,HQ.out,if_neg hq]);have e1:=WC hq;have e2:(T.toList != s.toList)=true:=by rw [bne,e1];rfl
     obtain ⟨r0,r1,r2,r3,r4,rf⟩:=fj.a5;clear hq;go_wp2;refine bodyPost_ret (v:=.tuple #[.agg #[.int .i64 0,.int .i64 0,.int .i64 0,.slice none 0 0,.slice none 0 0],.bool false]) (by simp [results,results246,go_sem,r0,r1,r2,r3,r4,bb,bc]) rfl ?_;exact ⟨_,rfl,⟨_,by rw [HE.out],[],by rw [HE.out];exact ZC _,sA.nil⟩,(B9).put5 (Nat.le_refl _)⟩
 ·rw [show inB (n:Int) 2 3=false from decide_eq_false (by omega)] at cn;have HE:=pA6 (show Y=(KA,false) by rw [HY.out,yW (gA3 (by rw [<-HP.out,<-L.out];omega) (by rw [<-HP.out,<-L.out];omega))]);clear hn;go_wp2_with fail;refine cn.mono ?_;rintro e w2 ⟨rfl,bs⟩;have B2:=B1.then bs;replace bR:=bR.bw bs;obtain ⟨r0,r1,r2,r3,r4,rf⟩:=bR.a5;clear cn;go_wp2;have bb:=True.intro;have bc:=True.intro;refine bodyPost_ret (v:=.tuple #[.agg #[.int .i64 0,.int .i64 0,.int .i64 0,.slice none 0 0,.slice none 0 0],.bool false]) (by simp [results,results246,go_sem,r0,r1,r2,r3,r4,bb,bc]) rfl ?_;exact ⟨_,rfl,⟨_,by rw [HE.out],[],by rw [HE.out];exact ZC _,sA.nil⟩,(B2).put5 (Nat.le_refl _)⟩
end Go.Proofs.YtpihighajaeabaaGreat
