/- The console in the program: what a line changes. -/
import Derived.Test.YtpihighajaeabaaGreatXParseF
import Derived.Test.YtpihighajaeabaaGreatXParseU
import Derived.Test.YtpihighajaeabaaGreatXDrawB
import Derived.Test.YtpihighajaeabaaGreatXNormI
import Derived.Test.YtpihighajaeabaaGreatXStandP
import Derived.Test.YtpihighajaeabaaGreatXChgI
import Derived.Test.YtpihighajaeabaaGreatXExpl
import Derived.Test.YtpihighajaeabaaGreatXVoteL
import Derived.Test.YtpihighajaeabaaGreatXLines3
import Derived.Test.YtpihighajaeabaaGreatXOnly
import Derived.Deep.RegionHeld3
namespace Go.Proofs.YtpihighajaeabaaGreat
open Go.RowKit Go.Proofs.Tryz
set_option linter.all false
set_option maxRecDepth 100000
set_option maxHeartbeats 16000000
def oAp (W:World) (b:Nat) (a a0 a1 a2 a3 a4:Value):World:=aAq (W.setCell ⟨b,0,none⟩ a) b a0 a1 a2 a3 a4
theorem dAq {W:World} {b:Nat} {a a0 a1 a2 a3 a4:Value} {α:Type} {R:Fp α} (hR:tC 0 R) {x:α} {cs:List Value} {F:List Nat} (hx:R W x cs F) (hF:b∉F):R (oAp W b a a0 a1 a2 a3 a4) x cs F:=lR hR (UA hR hx hF) hF
theorem Bw.put6 {w W:World} {b:Nat} {a a0 a1 a2 a3 a4:Value} (h:Bw w W) (hb:w.heap.size<=b):Bw w (oAp W b a a0 a1 a2 a3 a4):=(h.set (p:=⟨b,0,none⟩) hb _).putW hb
theorem lAj {t:ByteArray} (h:∀j:Int,1<=j->j<5->t≠GE j):opI t=0:=by
 unfold opI;rw [if_neg (h 1 (by omega) (by omega)),if_neg (h 2 (by omega) (by omega)),if_neg (h 3 (by omega) (by omega)),if_neg (h 4 (by omega) (by omega))]
theorem lAk {t:ByteArray} {k:Int} (h:t=GE k) (hk:1<=k/\k<=4):AH t=⟨k,KA⟩:=by
 unfold AH;rw [h,dAj hk,if_neg (by omega)]
theorem gAd {t:ByteArray} (h:opI t=0):AH t=if (ZF t).2 then ⟨0,(ZF t).1⟩ else ⟨-1,KA⟩:=if_pos h
theorem eT (w:World) (t:ByteArray) (ht:t.size<=1048576):Calls prog 251 #[.string t] w (jA6 LJ w (AH t)):=by
 have A0:Bw w (w.alloc (.cells #[.int .i64 0,.int .i64 0,.int .i64 0,.int .i64 0,.slice none 0 0,.slice none 0 0] 111)):=(Bw.refl w).alloc _;have bR:=Box.new w #[.int .i64 0,.int .i64 0,.int .i64 0,.int .i64 0,.slice none 0 0,.slice none 0 0] 111;obtain ⟨Y,hY⟩:=pA7 (AH t);have HY:=pA6 hY;rw [<-hY];clear hY;go_enter func251,ntmps251;go_wp2
 go_loopg [3] 4 (fun g z w'=>∃k:Nat,1<=k/\k<=5/\g=5-k/\z=.int .i64 (k:Int)/\Box w' w.heap.size [.int .i64 0,.int .i64 0,.int .i64 0,.int .i64 0,.slice none 0 0,.slice none 0 0]/\Bw w w'/\Hid (∀j:Int,1<=j->j<(k:Int)->t≠GE j))
 ·exact ⟨1,by omega,by omega,rfl,rfl,bR,A0,pA6 (fun j h1 h2=>by omega)⟩
 ·clear bR A0;obtain ⟨k,hk1,hk5,rfl,rfl,bR,hb,HN⟩:=hrel;by_cases hlt:k<=4
  ·have i1:(k:Int)<=4:=by omega
   have bb:=cAn wr (k:Int) (by omega);obtain ⟨T,hT⟩:=pA7 (GE (k:Int));rw [<-hT] at bb;have HT:=pA6 hT;clear hT;go_wp2_with fail;refine bb.mono ?_;rintro e w2 ⟨rfl,bp⟩;have bm:=bR.bw bp;have B2:=hb.then bp;clear bb;by_cases hq:T=t
   ·have e1:=JD hq;have HE:=pA6 (show Y=⟨(k:Int),KA⟩ by rw [HY.out];exact lAk (by rw [<-HT.out,hq]) (by omega));obtain ⟨r0,r1,r2,r3,r4,r5,rf⟩:=bm.a6;clear hq;go_wp2;refine bodyPost_ret (v:=.agg #[.int .i64 (k:Int),.int .i64 0,.int .i64 0,.int .i64 0,.slice none 0 0,.slice none 0 0]) (by simp [results,results251,go_sem,r0,r1,r2,r3,r4,r5]) rfl ?_;exact ⟨[.int .i64 (k:Int),.int .i64 0,.int .i64 0,.int .i64 0,.slice none 0 0,.slice none 0 0],[],rfl,by rw [HE.out];exact DN _ _,sA.nil,B2.put6 (Nat.le_refl _)⟩
   ·have e1:=WC hq;have bs:=pA6 (show ∀j:Int,1<=j->j<((k+1:Nat):Int)->t≠GE j from fun j h1 h2 e=>by
     by_cases hj:j=(k:Int)
     ·exact hq (by rw [HT.out,e,hj])
     ·exact HN.out j h1 (by omega) e)
    clear hq;go_wp2
    go_roundg (5-(k+1))
    ·exact ⟨k+1,by omega,by omega,rfl,by go_num,bm,B2,bs⟩
    ·omega
  ·obtain rfl:k=5:=by omega
   have h0:opI t=0:=lAj fun j h1 h2=>HN.out j h1 (by omega)
   have HS:=pA6 (show Y=if (ZF t).2 then ⟨0,(ZF t).1⟩ else ⟨-1,KA⟩ by rw [HY.out];exact gAd h0);have bb:=dAp wr t ht;obtain ⟨y,hy⟩:=pA7 ((ZF t).1);obtain ⟨bo,bq⟩:=pA7 ((ZF t).2);rw [<-hy,<-bq] at bb HS;clear hy bq h0 HN;go_wp2_with fail;refine bb.mono ?_;rintro e w5 ⟨u5,rfl,⟨cs,rfl,F5,⟨ul,up,G5,H5,rfl,bj,bk,rfl⟩,f5⟩,bf⟩;obtain ⟨Al,nl,cl,rfl,ll,_⟩:=qA (xA bj);obtain ⟨Ap,np,cp,rfl,lp,_⟩:=qA (aC bk);have LL:=pA6 ll;have LP:=pA6 lp;have bc:=(Bw.refl w5).alloc (.cells #[.int .i64 y.kind,.int .i64 y.field,.int .i64 y.value,.slice Al nl cl,.slice Ap np cp] 109);have bX:=Box.new w5 #[.int .i64 y.kind,.int .i64 y.field,.int .i64 y.value,.slice Al nl cl,.slice Ap np cp] 109;have bn:=(bR.bw bf).bw bc;have B5:=(hb.then bf).then bc;have hRlt:=bR.lt;have q1:=nA bc aA bj;have q2:=nA bc EA bk;have nG:w.heap.size∉G5:=fun h=>by have:=f5.ge _ (List.mem_append_left _ h);omega
   have nH:w.heap.size∉H5:=fun h=>by have:=f5.ge _ (List.mem_append_right _ h);omega
   have bt:sA w.heap.size (G5++H5):=f5.mono (by omega);have bg:w5.heap.size≠w.heap.size:=by have:=bf.size;omega
   have bd:w.heap.size≠w5.heap.size:=Ne.symm bg;clear bb ll lp bj bk f5 bR hb bf bc
   cases bo with
   | false=>
    have HE:=pA6 (show Y=⟨-1,KA⟩ by rw [HS.out];rfl);obtain ⟨r0,r1,r2,r3,r4,r5,rf⟩:=bn.a6;obtain ⟨x0,x1,x2,x3,x4,xf⟩:=bX.a5;clear q1 q2;go_wp2;refine bodyPost_ret (v:=.agg #[.int .i64 (-1),.int .i64 0,.int .i64 0,.int .i64 0,.slice none 0 0,.slice none 0 0]) (by simp [results,results251,go_sem,r0,r1,r2,r3,r4,r5,bg,bd]) rfl ?_;exact ⟨[.int .i64 (-1),.int .i64 0,.int .i64 0,.int .i64 0,.slice none 0 0,.slice none 0 0],[],rfl,by rw [HE.out];exact DN _ _,sA.nil,B5.put6 (Nat.le_refl _)⟩
   | true=>
    have HE:=pA6 (show Y=⟨0,y⟩ by rw [HS.out];rfl);obtain ⟨r0,r1,r2,r3,r4,r5,rf⟩:=bn.a6;obtain ⟨x0,x1,x2,x3,x4,xf⟩:=bX.a5;go_wp2;refine bodyPost_ret (v:=.agg #[.int .i64 0,.int .i64 y.kind,.int .i64 y.field,.int .i64 y.value,.slice Al nl cl,.slice Ap np cp]) (by simp [results,results251,go_sem,r0,r1,r2,r3,r4,r5,bg,bd]) rfl ?_;exact ⟨[.int .i64 0,.int .i64 y.kind,.int .i64 y.field,.int .i64 y.value,.slice Al nl cl,.slice Ap np cp],_,rfl,by rw [HE.out];exact ⟨_,rfl,_,_,G5,H5,rfl,dAq aA q1 nG,dAq EA q2 nH,rfl⟩,bt,B5.put6 (Nat.le_refl _)⟩
def LK:List ByteArray->List ByteArray
 | []=>[]
 | p::ps=>p::ps.map RM
theorem aAv (s:ByteArray):zW s=some ((LK (MD s 59)).map AH):=by
 unfold zW
 cases MD s 59 with
 | nil=>rfl
 | cons p ps=>simp [LK,List.map_map,Function.comp_def]
theorem gAe (P:List ByteArray):(LK P).length=P.length:=by
 cases P with
 | nil=>rfl
 | cons p ps=>simp [LK]
theorem dAr {P:List ByteArray} {x:ByteArray} (h:P[0]? = some x):(LK P)[0]? = some x:=by
 cases P with
 | nil=>simp at h
 | cons p ps=>simpa [LK] using h
theorem jAk {P:List ByteArray} {k:Nat} {x:ByteArray} (h:P[k]? = some x) (hk:0<k):(LK P)[k]? = some (RM x):=by
 cases P with
 | nil=>simp at h
 | cons p ps=>
  obtain ⟨m,rfl⟩:∃m,k=m+1:=⟨k-1,by omega⟩;simp only [List.getElem?_cons_succ] at h;simp [LK,h]
def EG (R:List ByteArray) (k:Nat):List mA:=(R.take k).map AH
theorem yP {R:List ByteArray} {k:Nat} {t:ByteArray} (h:R[k]? = some t):EG R (k+1)=EG R k++[AH t]:=by unfold EG;rw [List.take_add_one,h,List.map_append];rfl
theorem aAw (R:List ByteArray) (k:Nat):(EG R k).length<=k:=by unfold EG;rw [List.length_map,List.length_take];omega
theorem aAx {R:List ByteArray} {k:Nat} (h:R.length<=k):EG R k=R.map AH:=by unfold EG;rw [List.take_of_length_le h]
theorem lAl (s:ByteArray):jF s=if s.size≠0/\fC ((LK (MD s 59)).map AH)=s then ((LK (MD s 59)).map AH,true) else ([],false):=by rw [<-nAb];unfold pOf;rw [aAv]
theorem gAf (t:ByteArray):(RM t).size<=t.size:=by
 unfold RM;split
 ·exact Nat.le_refl _
 ·rw [ByteArray.size_extract];omega
theorem iL (w:World) (s:ByteArray) (hs:s.size<=1048576):Calls prog 200 #[.string s] w (WB w (Two mC w.heap.size (jF s).1 (.bool (jF s).2))):=by
 obtain ⟨i0,hi,dc,dd,df⟩:=info_parts tH;have bv:=MA (e:=111) (sz:=6) (R:=LJ) w;have A0:Bw w (w.alloc (.cells #[] 111)):=(Bw.refl w).alloc _;obtain ⟨Y,hY⟩:=pA7 (jF s);have HY:=pA6 hY;rw [<-hY];clear hY;obtain ⟨P,hP⟩:=pA7 (MD s 59);obtain ⟨R,hR⟩:=pA7 (LK P);have bb:=XJ (w.alloc (.cells #[] 111)) s 59 59 rfl hs;rw [<-hP] at bb;have bg:=pA6 (show jF s=if s.size≠0/\fC (R.map AH)=s then (R.map AH,true) else ([],false) by rw [hR,hP];exact lAl s);have HM:=pA6 (show ∀t∈P,t.size<=s.size from fun t ht=>iH (by rw [<-hP];exact ht));have HL:=pA6 (show P.length<=s.size+1 by rw [hP];exact wN _ _);have HR:=pA6 hR;clear hP hR;go_enter func200,ntmps200;go_wp2_with fail;refine bb.mono ?_;rintro e w2 ⟨v1,rfl,⟨FX,oX,fX⟩,bd⟩;have B2:=A0.then bd;have bx:=nA bd kA bv;have zX:∀z∈FX,z∉[w.heap.size]:=fun z hz=>by have h1:=fX.ge z hz;simp at h1;simp only [List.mem_singleton];omega
 have hl:=DC oX;obtain ⟨A,n,c,rfl,L,Lc,Lm⟩:=yA hl;have OX:=pA6 oX;have ZX:=pA6 zX;have ZS:=pA6 (show w.heap.size<w2.heap.size by have:=bd.size;simp at this;omega);clear oX zX hl bv fX bb;go_wp2
 go_loopg [4,6] n (fun g sv i w'=>∃(k:Nat) (F:List Nat),k<=n/\g=n-k/\i=.int .i64 k/\mC w' (EG R k) [sv] F/\sA w.heap.size F/\Bw w w'/\TB [w.heap.size] w2 w'/\Hid (∀z∈F,z=w.heap.size\/w2.heap.size<=z))
 ·exact ⟨0,_,by omega,rfl,rfl,bx,⟨by simp,by simp⟩,B2,TB.refl _ _,pA6 (fun z hz=>.inl (by simpa using hz))⟩
 ·clear bx B2 bd A0;obtain ⟨k,F,hk,rfl,rfl,hv,hF,hb,hO,HF⟩:=hrel;by_cases hlt:k<n
  ·obtain ⟨x,hx⟩:=tA (xs:=P) (k:=k) (by have:=L.out;omega);obtain ⟨ba,oa,rfl,_,hcx⟩:=BC (DC (hO.keeps iB OX.out ZX.out)) hx;have bm:=HM.out x (List.mem_of_getElem? hx);have i1:(0:Int)<=(k:Int):=by omega
   have i2:(k:Int)<(n:Int):=by omega
   have bq:=pA6 (show (EG R k).length<=s.size+2 by have:=aAw R k;have:=L.out;have:=HL.out;omega);have cf:=(kA (B:=0)).lt hv;have cq:=hb.size;by_cases hk0:k=0
   focus
    have bz:P[0]? = some x:=by rw [<-hk0];exact hx
    have HS:=pA6 (yP (R:=R) (k:=k) (t:=x) (by rw [hk0,HR.out];exact dAr bz));have i3:¬(0:Int)<(k:Int):=by omega
    have bc:=pA6 (show x.size<=1048576 by omega);clear bz hk0 hx bm;obtain ⟨y,hy⟩:=pA7 x;subst hy
   rotate_left
   focus
    have HS:=pA6 (yP (R:=R) (k:=k) (t:=RM x) (by rw [HR.out];exact jAk hx (by omega)));have i3:(0:Int)<(k:Int):=by omega
    have bc:=pA6 (show (RM x).size<=1048576 by have:=gAf x;omega);by_cases hz:x.size=0
    focus
     have e0:RM x=x:=if_pos hz;have i4:¬(0:Int)<(x.size:Int):=by omega
     rw [e0] at HS bc;clear e0 hz hk0 hx bm;obtain ⟨y,hy⟩:=pA7 x;subst hy
    rotate_left
    focus
     have e0:RM x=x.extract 1 x.size:=if_neg hz;have i4:(0:Int)<(x.size:Int):=by omega
     have s1:∀W,(Instr.slice 9 (.string x) (some (.int .i64 1)) none none).run prog W=.ok (.string (x.extract 1 x.size)) W:=fun W=>fL (s:=x) (a:=1) (by omega) W
     rw [e0] at HS bc;clear e0 hz hk0 hx bm;generalize x.extract 1 x.size=y at s1 HS bc
    rotate_right
   rotate_right
   all_goals
    have bb:=eT wr y bc.out;obtain ⟨z,hz⟩:=pA7 (AH y);rw [<-hz] at bb HS;clear hz;go_wp2_with fail;refine bb.mono ?_;rintro e w4 ⟨cs,F4,rfl,⟨us,rfl,ul,up,G5,H5,rfl,bn,bp,rfl⟩,f4,bf⟩;obtain ⟨Al,nl,cl,rfl,ll,_⟩:=qA (xA bn);obtain ⟨Ap,np,cp,rfl,lp,_⟩:=qA (aC bp);have LL:=pA6 ll;have LP:=pA6 lp;have cb:LJ w4 z [.int .i64 z.op,.int .i64 z.wish.kind,.int .i64 z.wish.field,.int .i64 z.wish.value,.slice Al nl cl,.slice Ap np cp] (G5++H5):=⟨_,rfl,_,_,G5,H5,rfl,bn,bp,rfl⟩;have hA:=(Bw.refl w4).alloc (.cells #[.int .i64 z.op,.int .i64 z.wish.kind,.int .i64 z.wish.field,.int .i64 z.wish.value,.slice Al nl cl,.slice Ap np cp] 111);have cz:=nA (bf.then hA) kA hv;have db:=nA hA vC cb;have cn:=(hb.then bf).then hA;have ct:∀j t,[Value.int .i64 z.op,.int .i64 z.wish.kind,.int .i64 z.wish.field,.int .i64 z.wish.value,.slice Al nl cl,.slice Ap np cp][j]? = some t->_:=World.news_of_block (cs:=#[.int .i64 z.op,.int .i64 z.wish.kind,.int .i64 z.wish.field,.int .i64 z.wish.value,.slice Al nl cl,.slice Ap np cp]) (t:=111) (fr:=(0,0)) (heap_alloc_new w4 _);have bs:=pA6 (hO.then ((bf.then hA).only []) (by simp));have ck:=pA6 (show ∀c∈G5++H5,w2.heap.size<=c from fun c hc=>by have:=f4.ge c hc;have:=hO.1;omega);clear bb hv cb hA hO ll lp bn bp bf;go_wp2_with (at_builtin;refine iC _ rfl (.tmp 30) (.tmp 33) 25 rfl w 111 i0 _ 6 80 underlying25 hi dc dd df rfl (by omega) vC _ (EG R k) F rfl cz hF ⟨w4.heap.size,0,none⟩ 1 rfl z [.int .i64 z.op,.int .i64 z.wish.kind,.int .i64 z.wish.field,.int .i64 z.wish.value,.slice Al nl cl,.slice Ap np cp] (G5++H5) ct db rfl wr.heap.size cf f4 cq (by have:=bq.out;omega) (by have:=bq.out;omega) cn ?_;intro v' w' F' cx cd cm cg cv)
    have cj:=TB.push bs.out cg HF.out;have cc:=pA6 (show ∀c∈F',c=w.heap.size\/w2.heap.size<=c from fun c hc=>(cv c hc).elim (fun h=>HF.out c h) (fun h=>h.elim (fun h=>.inr (ck.out c h)) (fun h=>.inr (Nat.le_trans bs.out.1 h))))
    go_roundg (n-(k+1))
    ·exact ⟨k+1,F',by omega,rfl,by go_num,by rw [HS.out];exact cx,cd,cm,cj,cc⟩
    ·omega
  ·obtain rfl:k=n:=by omega
   rw [aAx (by rw [HR.out,gAe,<-L.out];exact Nat.le_refl _)] at hv;obtain ⟨qs,bt⟩:=pA7 (R.map AH);rw [<-bt] at hv bg;have HX:=bg;have bk:=hb;clear hlt HM HL OX ZX L bt bg;have HQ:=pA6 (show jF s=if s.size≠0/\fC qs=s then (qs,true) else ([],false) from HX.out);have hk:=xE wr qs _ (bB hv);obtain ⟨T,hT⟩:=pA7 (fC qs);rw [<-hT] at hk HQ;clear hT;by_cases hs0:s.size=0
   ·have e0:=vG hs0;have HE:=pA6 (show Y=([],false) by rw [HY.out,HQ.out,if_neg (fun h=>h.1 hs0)]);clear hs0 hk;go_wp2;refine bodyPost_ret (v:=.tuple #[.slice (some ⟨(wr).heap.size,0,none⟩) 0 0,.bool false]) (by simp [results,results200,go_sem]) rfl ?_;rw [HE.out];exact WB.two (MA _) ⟨by simp,fun z hz=>by rw [List.mem_singleton.1 hz];exact Bw.size bk⟩ rfl (Bw.alloc bk _)
   ·have e0:s.toList.isEmpty=false:=LG (by omega);go_wp2_with fail;refine hk.mono ?_;rintro e w5 ⟨rfl,bj⟩;have o5:=nA bj kA hv;have B5:=Bw.then bk bj;clear hk bj;by_cases hq:T=s
    ·have HE:=pA6 (show Y=(qs,true) by rw [HY.out,HQ.out,if_pos ⟨hs0,hq⟩]);have e1:=JD hq;have e2:(T.toList != s.toList)=false:=by rw [bne,e1];rfl
     clear hq hs0;go_wp2;refine bodyPost_ret (v:=.tuple #[u4,.bool true]) (by simp [results,results200,go_sem]) rfl ?_;rw [HE.out];exact WB.two o5 hF rfl B5
    ·have HE:=pA6 (show Y=([],false) by rw [HY.out,HQ.out,if_neg (fun h=>hq h.2)]);have e1:=WC hq;have e2:(T.toList != s.toList)=true:=by rw [bne,e1];rfl
     clear hq hs0;go_wp2;refine bodyPost_ret (v:=.tuple #[.slice (some ⟨w5.heap.size,0,none⟩) 0 0,.bool false]) (by simp [results,results200,go_sem]) rfl ?_;rw [HE.out];exact WB.two (MA w5) ⟨by simp,fun z hz=>by rw [List.mem_singleton.1 hz];exact B5.size⟩ rfl (B5.alloc _)
structure CS where
 s:zA
 on:Bool
 voters:List (List mA)
def wOk:ByteArray:=⟨#[111,107]⟩
def wNo:ByteArray:=⟨#[110,111]⟩
def lH:ByteArray:=⟨#[119,104,97,116]⟩
def qE:ByteArray:=⟨#[110,111,32,119,105,115,104]⟩
def JM:ByteArray:=⟨#[110,111,32,105,116,101,109]⟩
def vT:ByteArray:=⟨#[110,111,32,118,111,116,101,114,115]⟩
def mAa:ByteArray:=⟨#[110,111,110,101]⟩
def AL:ByteArray:=⟨#[97,100,100]⟩
def zE:ByteArray:=⟨#[99,104,97,110,103,101]⟩
def PH:ByteArray:=⟨#[100,114,111,112]⟩
def BL:ByteArray:=⟨#[119,104,121]⟩
def QH:ByteArray:=⟨#[98,97,110,100]⟩
def WF:ByteArray:=⟨#[118,111,116,101,114]⟩
def dJ:ByteArray:=⟨#[119,105,115,104]⟩
def eAv:ByteArray:=⟨#[118,111,116,101]⟩
def eAw:ByteArray:=⟨#[98,101,115,116]⟩
def ZR:ByteArray:=⟨#[108,97,121,101,114,115]⟩
def TL:ByteArray:=⟨#[112,114,111,103,114,101,115,115]⟩
def qX:ByteArray:=⟨#[115,116,97,116,101]⟩
def aS:ByteArray:=⟨#[110,111,114,109,97,108]⟩
def SK (m:CS) (s:zA) (ok:Bool):ByteArray×CS:=if ok then (wOk,⟨s,m.on,m.voters⟩) else (wNo,m)
def YI (m:CS) (e:List mA):ByteArray×CS:=if m.voters.length=5 then (wNo,m) else (QA (m.voters.length+1),⟨m.s,m.on,m.voters++[e]⟩)
def AY (m:CS) (n:Int):ByteArray:=if (TC m.s.items m.s.wanted n).size=0 then JM else TC m.s.items m.s.wanted n
def ZI (m:CS) (word rest:ByteArray):ByteArray×CS:=
 if word=AL/\(YF rest).2=true then SK m (AG m.s (YF rest).1) (XE m.s (YF rest).1)
 else if word=zE/\(YF rest).2=true then SK m (BG m.s (YF rest).1) (zF m.s (YF rest).1)
 else if word=PH/\(pI rest).2=true then SK m (FH m.s (pI rest).1) (YE m.s (pI rest).1)
 else if word=BL/\(pI rest).2=true then (AY m (pI rest).1,m)
 else if word=QH/\(pI rest).2=true then (fD (QI m.s.items m.s.wanted (pI rest).1),m)
 else if word=WF/\(jF rest).2=true then YI m (jF rest).1
 else (lH,m)
noncomputable def ED (m:CS) (l:ByteArray):ByteArray:=
 if l=eAv then (if m.voters=[] then vT else vE m.s.items m.voters)
 else if l=eAw then fD m.s.best
 else if l=ZR then (if mG m.s.items m.s.wanted=[] then mAa else dF (mG m.s.items m.s.wanted) ⟨#[59,32]⟩)
 else if l=TL then fD (NJ m.s.items m.s.wanted)
 else if l=qX then NE m.s
 else if l=dJ then fC m.s.wanted
 else if l=aS then fC (FR m.s.wanted)
 else lH
def BF:List UInt8->Option (List UInt8×List UInt8)
 | []=>none
 | x::l=>if x=32 then some ([],l) else (BF l).map fun p=>(x::p.1,p.2)
noncomputable def PJ (m:CS) (l:ByteArray):ByteArray×CS:=match BF (bl l) with
 | some (a,r)=>
  if mkS a=dJ/\(jF (mkS r)).2=true then (wOk,⟨iF m.s.items (jF (mkS r)).1,true,m.voters⟩)
  else if m.on=false then (qE,m)
  else ZI m (mkS a) (mkS r)
 | none=>if m.on=false then (qE,m) else (ED m l,m)
noncomputable def XF:CS->List ByteArray->ByteArray
 | _,[]=>⟨#[]⟩
 | m,l::ls=>if l.size=0 then XF m ls else (PJ m l).1++⟨#[10]⟩++XF (PJ m l).2 ls
abbrev Lay:=Value->Value->Value->Value->Value->Value->List Value
abbrev mAb:Fp (List (List mA)):=fSl 25 1 mC
def okS (s:zA):Prop:=ZJ s/\(JB s=true\/s.best=[])
theorem okS.ids {s:zA} (h:okS s):∀v∈s.best,0<=v/\v<=99:=fun v hv=>by
 rcases h.2 with h | h
 ·obtain ⟨h1,h2⟩:=wC h;rw [h2] at hv;exact lK (AA h1) v hv
 ·rw [h] at hv;cases hv
theorem GP {v:Int} (h:0<=v/\v<=99):(Lit.int .i64 v).wf=true:=by
 simp [Lit.wf,IntKind.min,IntKind.max,IntKind.signed,IntKind.bits];omega
theorem okS.len {s:zA} (h:okS s):s.best.length<=16:=by
 rcases h.2 with h | h
 ·exact iE h
 ·rw [h];exact Nat.zero_le _
theorem iS {s:zA} {x:iA} (h:okS s):okS (AG s x):=by
 refine ⟨gAs h.1,?_⟩
 cases hc:XE s x with
 | true=>exact .inl (hAe hc)
 | false=>rw [show AG s x=s by unfold AG;rw [hc];rfl];exact h.2
theorem cV {s:zA} {id:Int} (h:okS s):okS (FH s id):=by
 refine ⟨wQ h.1,?_⟩
 cases hc:YE s id with
 | true=>exact .inl (hAf hc)
 | false=>rw [show FH s id=s by unfold FH;rw [hc];rfl];exact h.2
theorem dV {s:zA} {x:iA} (h:okS s):okS (BG s x):=by
 unfold BG
 split
 ·exact iS (cV h)
 ·exact h
theorem eV {l:List iA} {e:List mA} (hl:jC l<=1048576) (he:sB e<=1048576):okS (iF l e):=by
 refine ⟨dA8 hl he,?_⟩
 cases hb:kB l e with
 | true=>
  rw [bT hb];have hl:=AA hb;have hx:pB e=true:=by unfold kB at hb;simp only [Bool.and_eq_true] at hb;exact hb.2
  exact .inl (XR hl hx (by unfold eB;rw [if_pos hb]) ⟨Int.le_refl _,by dsimp only;omega⟩)
 | false=>rw [mW hb];exact .inr rfl
structure StO (L:Lay) (b:Nat) (W:World) (m:CS) (S:JC) (FV:List Nat) (vi vw vb vv:Value):Prop where
 box:Box W b (L vi vw vb (.int .i64 m.s.tests) (.bool m.on) vv)
 dom:∀x,S x->x<W.heap.size/\x≠b/\x∉FV
 ri:LA W S m.s.items [vi]
 rw':OA W S m.s.wanted [vw]
 rb:aB W S m.s.best [vb]
 rv:mAb W m.voters [vv] FV
 fv:sA b FV
 nb:b∉FV
 small:okS m.s
 five:m.voters.length<=5
def StP (L:Lay) (b:Nat) (W:World) (m:CS):Prop:=∃S FV vi vw vb vv,StO L b W m S FV vi vw vb vv
theorem UL {B:Nat}:tC B mAb:=CC kA
theorem JO {W W':World} {xs:List (List mA)} {v:Value} {F:List Nat} (h:mAb W xs [v] F) (hF:∀b∈F,W'.heap[b]? = W.heap[b]?):mAb W' xs [v] F:=
 (UL (B:=0)).step (fun b hb=>by
  rcases hb with hb | hb
  ·exact hF b hb
  ·omega) h
theorem StO.lt {L:Lay} {b:Nat} {W:World} {m:CS} {S:JC} {FV:List Nat} {vi vw vb vv:Value} (h:StO L b W m S FV vi vw vb vv):∀x∈FV,x<W.heap.size:=(UL (B:=0)).lt h.rv
theorem StO.bw {L:Lay} {b:Nat} {W W':World} {m:CS} {S:JC} {FV:List Nat} {vi vw vb vv:Value} (h:StO L b W m S FV vi vw vb vv) (hb:Bw W W'):StO L b W' m S FV vi vw vb vv:=by
 have hA:BQ S S W W':=⟨fun _ hx=>hx,fun q hq=>Below.cell hb (h.dom _ hq).1⟩;exact ⟨h.box.bw hb,fun x hx=>⟨Nat.lt_of_lt_of_le (h.dom x hx).1 hb.size,(h.dom x hx).2⟩,gA.step hA h.ri,jA.step hA h.rw',dA.step hA h.rb,JO h.rv (fun x hx=>Below.block hb x (h.lt x hx)),h.fv,h.nb,h.small,h.five⟩
theorem StO.items {L:Lay} {b:Nat} {W:World} {m:CS} {S:JC} {FV:List Nat} {vi vw vb vv:Value} (h:StO L b W m S FV vi vw vb vv):Rd LA W m.s.items [vi]:=gA.step ⟨fun x hx=>(h.dom x hx).1,fun _ _=>rfl⟩ h.ri
theorem StO.wanted {L:Lay} {b:Nat} {W:World} {m:CS} {S:JC} {FV:List Nat} {vi vw vb vv:Value} (h:StO L b W m S FV vi vw vb vv):Rd OA W m.s.wanted [vw]:=jA.step ⟨fun x hx=>(h.dom x hx).1,fun _ _=>rfl⟩ h.rw'
theorem StO.best {L:Lay} {b:Nat} {W:World} {m:CS} {S:JC} {FV:List Nat} {vi vw vb vv:Value} (h:StO L b W m S FV vi vw vb vv):Rd aB W m.s.best [vb]:=dA.step ⟨fun x hx=>(h.dom x hx).1,fun _ _=>rfl⟩ h.rb
theorem StO.vote {L:Lay} {b:Nat} {W:World} {m:CS} {S:JC} {FV:List Nat} {vi vw vb vv:Value} (h:StO L b W m S FV vi vw vb vv):Rd kC W m.voters [vv]:=
 Rd.of xB (B:=0) (sK jA (fun _ _ _ h=>QL h) h.rv) h.lt (Nat.zero_le _)
theorem StO.stand {L:Lay} {b:Nat} {W W0:World} {m:CS} {S:JC} {FV:List Nat} {vi vw vb vv:Value} (h0:StO L b W0 m S FV vi vw vb vv) (hb0:Bw W0 W) {s':zA} {va' vb' vc':Value} {F':List Nat} (o:GB W s' [va',vb',vc',.int .i64 s'.tests] F') (hF:sA W0.heap.size F') (hs:okS s') {W':World} {on:Bool}
  (hO:TB [b] W W') (hbox:Box W' b (L va' vb' vc' (.int .i64 s'.tests) (.bool on) vv)):StO L b W' ⟨s',on,m.voters⟩ (fun x=>S x\/x∈F') FV va' vb' vc' vv:=by
 have h:=h0.bw hb0;have bc:=(NB (B:=0)).lt o;have hb:b<W0.heap.size:=h0.box.lt;have nF:b∉F':=fun hx=>by have:=hF.ge b hx;omega
 have o':=hO.keeps NB o (fun x hx=>by simp;intro e;exact nF (e▸hx));obtain ⟨v1,v2,v3,G,H,I,e,h1,h2,h3,bb⟩:=o';injection e with e1 e;injection e with e2 e;injection e with e3 e;subst e1 e2 e3;have hA:BQ S (fun x=>S x\/x∈F') W W':=⟨fun _ hx=>.inl hx,fun q hq=>World.cell?_of_block (hO.2 _ (h.dom _ hq).1 (by have:=(h.dom _ hq).2.1;simpa using this))⟩;have hG:∀(F2:List Nat),(∀x∈F2,x∈F')->BQ (fun x=>x∈F2\/x<0) (fun x=>S x\/x∈F') W' W':=fun F2 hs=>⟨fun x hx=>hx.elim (fun hx=>.inr (hs x hx)) (fun hx=>absurd hx (Nat.not_lt_zero _)),fun _ _=>rfl⟩
 refine ⟨hbox,fun x hx=>?_,gA.step (hG G (by rw [bb];intro x hx;simp [hx])) (vS (B:=0) h1),jA.step (hG H (by rw [bb];intro x hx;simp [hx])) (QL (B:=0) h2),dA.step (hG I (by rw [bb];intro x hx;simp [hx])) (ZM (B:=0) h3),JO h.rv (fun x hx=>hO.2 x (h.lt x hx) (by simp;intro e;exact h.nb (e▸hx))),h.fv,h.nb,hs,h.five⟩;rcases hx with hx | hx
 ·exact ⟨Nat.lt_of_lt_of_le (h.dom x hx).1 hO.1,(h.dom x hx).2⟩
 ·refine ⟨Nat.lt_of_lt_of_le (bc x hx) hO.1,fun e=>nF (e▸hx),fun hv=>?_⟩;have:=h0.lt x hv;have:=hF.ge x hx;omega
def mAc (w:World) (b:Nat) (s:ByteArray) (vs:List Value) (e:Ending) (W:World):Prop:=e=.returned (.string s)/\TB [b] w W/\Below b w W/\Box W b vs
theorem TB.below {b:Nat} {w W:World} (h:TB [b] w W):∀x,x<w.heap.size->x≠b->W.heap[x]? = w.heap[x]?:=fun x hx hn=>h.2 x hx (by simpa using hn)
theorem iAb {w W:World} {b:Nat} {s:ByteArray} {vs:List Value} (hB:Box w b vs) (hb:Bw w W):mAc w b s vs (.returned (.string s)) W:=⟨rfl,hb.only [b],Below.mono hb (Nat.le_of_lt hB.lt),hB.bw hb⟩
def CY (w:World) (b k:Nat) (a0 a1 a2 a3:Value):World:=(((w.setCell ⟨b,k,none⟩ a0).setCell ⟨b,k+1,none⟩ a1).setCell ⟨b,k+2,none⟩ a2).setCell ⟨b,k+3,none⟩ a3
theorem vJ (w:World) (b k:Nat) (a0 a1 a2 a3:Value):TB [b] w (CY w b k a0 a1 a2 a3):=(((GA b _ _ _).two (GA b _ _ _)).two (GA b _ _ _)).two (GA b _ _ _)
theorem KM (w:World) (b k:Nat) (a0 a1 a2 a3:Value):Below b w (CY w b k a0 a1 a2 a3):=((((Below.refl b w).setCell (p:=⟨b,k,none⟩) (Nat.le_refl _) _).setCell (p:=⟨b,k+1,none⟩) (Nat.le_refl _) _).setCell (p:=⟨b,k+2,none⟩) (Nat.le_refl _) _).setCell (p:=⟨b,k+3,none⟩) (Nat.le_refl _) _
theorem jS {w:World} {b k:Nat} {vs:List Value} {a0 a1 a2 a3:Value} (hB:Box w b vs) (hk:k+3<vs.length):Box (CY w b k a0 a1 a2 a3) b ((((vs.set k a0).set (k+1) a1).set (k+2) a2).set (k+3) a3):=
 (((hB.set (j:=k) (by omega) a0).set (j:=k+1) (by simp;omega) a1).set (j:=k+2) (by simp;omega) a2).set (j:=k+3) (by simp;omega) a3
theorem TZ {w:World} {b k:Nat} {s:ByteArray} {vs us:List Value} {a0 a1 a2 a3:Value} {ob:Obj} (hB:Box w b vs) (hk:k+3<vs.length) (hu:us=(((vs.set k a0).set (k+1) a1).set (k+2) a2).set (k+3) a3) :
  mAc w b s us (.returned (.string s)) ((CY w b k a0 a1 a2 a3).alloc ob):=by
 have bb:Bw (CY w b k a0 a1 a2 a3) ((CY w b k a0 a1 a2 a3).alloc ob):=(Bw.refl _).alloc ob;exact ⟨rfl,(vJ w b k a0 a1 a2 a3).bwNext bb,(KM w b k a0 a1 a2 a3).trans (Below.mono bb (by have:=(vJ w b k a0 a1 a2 a3).1;have:=hB.lt;omega)),hu▸(jS hB hk).bw bb⟩
theorem mAd (w:World) (b:Nat) (o i0 i1 i2 i3 v:Value) (A0 A1 A2:Option Addr) (n0 c0 n1 c1 n2 c2:Nat) (t:Int) (ok:Bool) (hB:Box w b [o,i0,i1,i2,i3,v]) :
  Calls prog 249 #[.pointer (some ⟨b,0,none⟩),.agg #[.slice A0 n0 c0,.slice A1 n1 c1,.slice A2 n2 c2,.int .i64 t],.bool ok] w (mAc w b (if ok then wOk else wNo) (if ok then [o,.slice A0 n0 c0,.slice A1 n1 c1,.slice A2 n2 c2,.int .i64 t,v] else [o,i0,i1,i2,i3,v])):=by
 have B1:Bw w (w.alloc (.cells #[.slice A0 n0 c0,.slice A1 n1 c1,.slice A2 n2 c2,.int .i64 t] 28)):=(Bw.refl w).alloc _;obtain ⟨q0,q1,q2,q3,q4,q5,qf⟩:=hB.a6;have hlt:=hB.lt
 cases ok with
 | true=>
  go_enter func249,ntmps249;go_wp2;go_ret;exact TZ (k:=1) hB (by simp) rfl
 | false=>
  go_enter func249,ntmps249;go_wp2;go_ret;exact iAb hB B1
theorem VL (w:World) (b:Nat) (o i0 i1 i2 i3 v:Value) (A0 A1 A2:Option Addr) (n0 c0 n1 c1 n2 c2:Nat) (t:Int) (ok:Bool) (hB:Box w b [i0,i1,i2,i3,o,v]) :
  Calls prog 253 #[.pointer (some ⟨b,0,none⟩),.agg #[.slice A0 n0 c0,.slice A1 n1 c1,.slice A2 n2 c2,.int .i64 t],.bool ok] w (mAc w b (if ok then wOk else wNo) (if ok then [.slice A0 n0 c0,.slice A1 n1 c1,.slice A2 n2 c2,.int .i64 t,o,v] else [i0,i1,i2,i3,o,v])):=by
 have B1:Bw w (w.alloc (.cells #[.slice A0 n0 c0,.slice A1 n1 c1,.slice A2 n2 c2,.int .i64 t] 28)):=(Bw.refl w).alloc _;obtain ⟨q0,q1,q2,q3,q4,q5,qf⟩:=hB.a6;have hlt:=hB.lt
 cases ok with
 | true=>
  go_enter func253,ntmps253;go_wp2;go_ret;exact TZ (k:=0) hB (by simp) rfl
 | false=>
  go_enter func253,ntmps253;go_wp2;go_ret;exact iAb hB B1
abbrev LI:Lay:=fun vi vw vb t on vv=>[on,vi,vw,vb,t,vv]
abbrev LS:Lay:=fun vi vw vb t on vv=>[vi,vw,vb,t,on,vv]
def gC (L:Lay) (b:Nat) (w:World) (r:ByteArray×CS) (e:Ending) (W:World):Prop:=e=.returned (.string r.1)/\StP L b W r.2/\Below b w W
theorem StO.same {L:Lay} {b:Nat} {W W':World} {m:CS} {S:JC} {FV:List Nat} {vi vw vb vv:Value} (h:StO L b W m S FV vi vw vb vv) (hb:Bw W W') (s:ByteArray):gC L b W (s,m) (.returned (.string s)) W':=
 ⟨rfl,⟨S,FV,vi,vw,vb,vv,h.bw hb⟩,Below.mono hb (Nat.le_of_lt h.box.lt)⟩
theorem StO.put {L:Lay} {b:Nat} {W0 W W':World} {m:CS} {S:JC} {FV:List Nat} {vi vw vb vv:Value} (h0:StO L b W0 m S FV vi vw vb vv) (hb0:Bw W0 W) {s':zA} {ok:Bool} {va' vb' vc':Value} {F':List Nat} (o:GB W s' [va',vb',vc',.int .i64 s'.tests] F') (hF:sA W0.heap.size F') (hs:okS s') {e:Ending}
  (h:mAc W b (if ok then wOk else wNo) (if ok then L va' vb' vc' (.int .i64 s'.tests) (.bool m.on) vv else L vi vw vb (.int .i64 m.s.tests) (.bool m.on) vv) e W'):gC L b W0 (SK m s' ok) e W':=by
 obtain ⟨rfl,hO,hB,bb⟩:=h;have bc:Below b W0 W':=(Below.mono hb0 (Nat.le_of_lt h0.box.lt)).trans hB
 cases ok with
 | true=>exact ⟨rfl,⟨_,FV,va',vb',vc',vv,h0.stand hb0 o hF hs hO bb⟩,bc⟩
 | false=>
  refine ⟨rfl,⟨S,FV,vi,vw,vb,vv,?_⟩,bc⟩;have h1:=h0.bw hb0;have hA:BQ S S W W':=⟨fun _ hx=>hx,fun q hq=>World.cell?_of_block (hO.2 _ (h1.dom _ hq).1 (by have:=(h1.dom _ hq).2.1;simpa using this))⟩;exact ⟨bb,fun x hx=>⟨Nat.lt_of_lt_of_le (h1.dom x hx).1 hO.1,(h1.dom x hx).2⟩,gA.step hA h1.ri,jA.step hA h1.rw',dA.step hA h1.rb,JO h1.rv (fun x hx=>hO.2 x (h1.lt x hx) (by simp;intro e;exact h1.nb (e▸hx))),h1.fv,h1.nb,h1.small,h1.five⟩
def rX (b:Nat) (W:World):World:={ W with heap:=W.heap.extract 0 b }
theorem yH {b:Nat} {W:World} (h:b<=W.heap.size):(rX b W).heap.size=b:=by simp [rX];omega
theorem sX {b k:Nat} {W:World} (h:b<=W.heap.size) (hk:k<b):(rX b W).heap[k]? = W.heap[k]?:=by
 show (W.heap.extract 0 b)[k]? = _
 rw [Array.getElem?_extract];simp;omega
theorem iAc {b:Nat} {W:World} (h:b<=W.heap.size):Bw (rX b W) W:=⟨rfl,rfl,rfl,by rw [yH h];exact h,fun k hk=>by rw [yH h] at hk;exact (sX h hk).symm⟩
theorem tX {b:Nat} {W W':World} (h:b<=W.heap.size) (hb:Bw (rX b W) W') (hs:W.heap.size<=W'.heap.size):Below b W W':=
 ⟨hb.os,hb.tape,hb.output,hs,fun k hk=>(Below.block hb k (by rw [yH h];exact hk)).trans (sX h hk)⟩
theorem wT {l:List iA} {e:List mA} {n:Int}:∀v∈QI l e n,0<=v/\v<=99:=fun v hv=>by
 unfold QI at hv
 split at hv
 ·rename_i hb
  unfold eG at hv;obtain ⟨x,hx,rfl⟩:=List.mem_map.1 hv;exact lE (TA (AA hb) (List.mem_filter.1 hx).1)
 ·cases hv
theorem StO.voter {L:Lay} {b:Nat} {W0 W W1 W2:World} {m:CS} {S:JC} {FV F' F3:List Nat} {vi vw vb vv v':Value} {e:List mA} (h0:StO L b W0 m S FV vi vw vb vv) (hb0:Bw W0 W) (hF3:sA W0.heap.size F3)
  (hv:mAb W1 (m.voters++[e]) [v'] F') (hF:sA b F') (hO:TB FV W W1) (hs:∀x∈F',x∈FV\/x∈F3\/W.heap.size<=x) (h5:¬m.voters.length=5) (hO2:TB [b] W1 W2)
  (hbox:Box W2 b (L vi vw vb (.int .i64 m.s.tests) (.bool m.on) v')):StO L b W2 ⟨m.s,m.on,m.voters++[e]⟩ S F' vi vw vb v':=by
 have hlt:=h0.box.lt;have hz:=hb0.size;have hz1:=hO.1;have hz2:=hO2.1;have hA:BQ S S W0 W2:=⟨fun _ hx=>hx,fun q hq=>World.cell?_of_block (by
  have hd:=h0.dom _ hq;rw [hO2.2 _ (by omega) (by simpa using hd.2.1),hO.2 _ (by omega) hd.2.2];exact Below.block hb0 _ hd.1)⟩
 refine ⟨hbox,fun x hx=>?_,gA.step hA h0.ri,jA.step hA h0.rw',dA.step hA h0.rb,JO hv (fun x hx=>hO2.2 x ((UL (B:=0)).lt hv x hx) ?_),hF,?_,h0.small,?_⟩
 ·have hd:=h0.dom _ hx;refine ⟨by omega,hd.2.1,fun hx2=>?_⟩;rcases hs x hx2 with h | h | h
  ·exact hd.2.2 h
  ·have:=hF3.ge x h;omega
  ·omega
 ·simp;rintro rfl;rcases hs _ hx with h | h | h
  ·exact h0.nb h
  ·have:=hF3.ge _ h;omega
  ·omega
 ·intro hx;rcases hs _ hx with h | h | h
  ·exact h0.nb h
  ·have:=hF3.ge _ h;omega
  ·omega
 ·have:=h0.five;show (m.voters++[e]).length<=5;rw [List.length_append,List.length_singleton];omega
end Go.Proofs.YtpihighajaeabaaGreat
