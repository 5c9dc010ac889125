/- Expressions are read, in the program. -/
import Derived.Test.YtpihighajaeabaaGreatXParseV
import Derived.Test.YtpihighajaeabaaGreatXDrawB
import Derived.Test.YtpihighajaeabaaGreatXParseT
namespace Go.Proofs.YtpihighajaeabaaGreat
open Go.RowKit Go.Proofs.Tryz
set_option linter.all false
set_option maxRecDepth 100000
set_option maxHeartbeats 16000000
def aAo:List ByteArray:=[⟨#[97,110,100]⟩,⟨#[116,104,101,110]⟩,⟨#[110,111,116]⟩,⟨#[98,111,116,104]⟩]
theorem nAc (a:ByteArray):UO a aAo 0+1=opI a:=by
 unfold aAo opI;simp only [UO];have e1:GE 1=⟨#[97,110,100]⟩:=rfl;have e2:GE 2=⟨#[116,104,101,110]⟩:=rfl;have e3:GE 3=⟨#[110,111,116]⟩:=rfl;have e4:GE 4=⟨#[98,111,116,104]⟩:=rfl;rw [e1,e2,e3,e4]
 split
 ·rfl
 ·split
  ·rfl
  ·split
   ·rfl
   ·split<;>rfl
theorem gA7 (w:World) (a b c d:ByteArray):RJ (w.alloc (.cells #[.string a,.string b,.string c,.string d] 9)) [a,b,c,d] [.slice (some ⟨w.heap.size,0,none⟩) 4 4] [w.heap.size]:=by
 refine ⟨_,[[.string a],[.string b],[.string c],[.string d]],[[],[],[],[]],rfl,?_,?_,rfl⟩
 ·exact ⟨rfl,.inr ⟨w.heap.size,4,#[.string a,.string b,.string c,.string d],rfl,Nat.zero_le _,heap_alloc_new w _,Nat.le_refl 4,(by decide:4<=maxLen),rfl,rfl⟩⟩
 ·exact ⟨⟨⟨rfl,rfl⟩,rfl⟩,⟨⟨rfl,rfl⟩,rfl⟩,⟨⟨rfl,rfl⟩,rfl⟩,⟨⟨rfl,rfl⟩,rfl⟩,trivial⟩
theorem jAe (a:ByteArray):0<=opI a/\opI a<=4:=by
 unfold opI;repeat' split
 all_goals omega
def OI (P:List ByteArray) (k:Nat):List mA:=(P.take k).map KK
theorem aAp {P:List ByteArray} {k:Nat} {t:ByteArray} (h:P[k]? = some t):OI P (k+1)=OI P k++[KK t]:=by unfold OI;rw [List.take_add_one,h,List.map_append];rfl
theorem dAm (P:List ByteArray) (k:Nat):(OI P k).length<=k:=by unfold OI;rw [List.length_map,List.length_take];omega
theorem dAn {P:List ByteArray} {k:Nat} (h:P.length<=k):OI P k=P.map KK:=by unfold OI;rw [List.take_of_length_le h]
theorem nAd (s:ByteArray):jF s=if s.size≠0/\fC ((rH s ⟨#[59,32]⟩).map KK)=s then ((rH s ⟨#[59,32]⟩).map KK,true) else ([],false):=by unfold jF pOf aAn;rfl
theorem DN (w:World) (n:Int):LJ w ⟨n,KA⟩ [.int .i64 n,.int .i64 0,.int .i64 0,.int .i64 0,.slice none 0 0,.slice none 0 0] []:=⟨_,rfl,_,_,[],[],rfl,XB _,XB _,rfl⟩
theorem gA8 {t:ByteArray} (h:opI t=0):KK t=⟨0,(ZF t).1⟩:=if_pos h
theorem lAi {t:ByteArray} (h:¬opI t=0):KK t=⟨opI t,KA⟩:=if_neg h
def aAq (W:World) (b:Nat) (a0 a1 a2 a3 a4:Value):World:=((((W.setCell ⟨b,1,none⟩ a0).setCell ⟨b,2,none⟩ a1).setCell ⟨b,3,none⟩ a2).setCell ⟨b,4,none⟩ a3).setCell ⟨b,5,none⟩ a4
theorem lR {W:World} {b:Nat} {a0 a1 a2 a3 a4:Value} {α:Type} {R:Fp α} (hR:tC 0 R) {x:α} {cs:List Value} {F:List Nat} (hx:R W x cs F) (hF:b∉F):R (aAq W b a0 a1 a2 a3 a4) x cs F:=UA hR (UA hR (UA hR (UA hR (UA hR hx hF) hF) hF) hF) hF
theorem Bw.putW {w W:World} {b:Nat} {a0 a1 a2 a3 a4:Value} (h:Bw w W) (hb:w.heap.size<=b):Bw w (aAq W b a0 a1 a2 a3 a4):=((((h.set (p:=⟨b,1,none⟩) hb _).set (p:=⟨b,2,none⟩) hb _).set (p:=⟨b,3,none⟩) hb _).set (p:=⟨b,4,none⟩) hb _).set (p:=⟨b,5,none⟩) hb _
theorem jAf (W:World) (b:Nat) (a0 a1 a2 a3 a4:Value):(aAq W b a0 a1 a2 a3 a4).heap.size=W.heap.size:=by unfold aAq;simp
theorem PI (w:World) (s:ByteArray) (hs:s.size<=1048576):Calls prog 197 #[.string s] w (WB w (Two mC w.heap.size (jF s).1 (.bool (jF s).2))):=by
 obtain ⟨i0,hi,ff,fg,fj⟩:=info_parts tH;have dv:=MA (e:=111) (sz:=6) (R:=LJ) w;have A0:Bw w (w.alloc (.cells #[] 111)):=(Bw.refl w).alloc _;obtain ⟨Y,hY⟩:=pA7 (jF s);have HY:=pA6 hY;rw [<-hY];clear hY;obtain ⟨P,hP⟩:=pA7 (rH s ⟨#[59,32]⟩);have bc:=fW (w.alloc (.cells #[] 111)) s ⟨#[59,32]⟩ hs (by decide) (by decide);rw [<-hP] at bc;have cc:=pA6 (show jF s=if s.size≠0/\fC (P.map KK)=s then (P.map KK,true) else ([],false) by rw [hP];exact nAd s);have HM:=pA6 (show ∀t∈P,t.size<=s.size from fun t ht=>pAn (by rw [<-hP];exact ht));have HL:=pA6 (show P.length<=s.size+2 by rw [hP];exact jW _ _);clear hP;go_enter func197,ntmps197;go_wp2_with fail;refine bc.mono ?_;rintro e w2 ⟨v1,rfl,⟨FX,oX,fX⟩,bq⟩;have B2:=A0.then bq;have dx:=nA bq kA dv;have zX:∀z∈FX,z∉[w.heap.size]:=fun z hz=>by have h1:=fX.ge z hz;simp at h1;simp only [List.mem_singleton];omega
 have hl:=DC oX;obtain ⟨A,n,c,rfl,L,Lc,Lm⟩:=yA hl;have OX:=pA6 oX;have ZX:=pA6 zX;have ZS:=pA6 (show w.heap.size<w2.heap.size by have:=bq.size;simp at this;omega);clear oX zX hl dv fX bc;go_wp2
 go_loopg [4,12] n (fun g sv i w'=>∃(k:Nat) (F:List Nat),k<=n/\g=n-k/\i=.int .i64 k/\mC w' (OI P k) [sv] F/\sA w.heap.size F/\Bw w w'/\TB [w.heap.size] w2 w'/\Hid (∀z∈F,z=w.heap.size\/w2.heap.size<=z))
 ·exact ⟨0,_,by omega,rfl,rfl,dx,⟨by simp,by simp⟩,B2,TB.refl _ _,pA6 (fun z hz=>.inl (by simpa using hz))⟩
 ·clear dx B2 bq A0;obtain ⟨k,F,hk,rfl,rfl,hv,hF,hb,hO,HF⟩:=hrel;by_cases hlt:k<n
  ·obtain ⟨x,hx⟩:=tA (xs:=P) (k:=k) (by have:=L.out;omega);obtain ⟨ba,oa,rfl,_,fs⟩:=BC (DC (hO.keeps iB OX.out ZX.out)) hx;have fb:=HM.out x (List.mem_of_getElem? hx);have HS:=pA6 (aAp hx);have i1:(0:Int)<=(k:Int):=by omega
   have i2:(k:Int)<(n:Int):=by omega
   have bp:=pA6 (show (OI P k).length<=s.size+2 by have:=dAm P k;have:=L.out;have:=HL.out;omega);have cd:=(Bw.refl wr).alloc (.cells #[.string ⟨#[97,110,100]⟩,.string ⟨#[116,104,101,110]⟩,.string ⟨#[110,111,116]⟩,.string ⟨#[98,111,116,104]⟩] 9);have cq:=gL _ aAo x _ (DC (gA7 wr ⟨#[97,110,100]⟩ ⟨#[116,104,101,110]⟩ ⟨#[110,111,116]⟩ ⟨#[98,111,116,104]⟩));obtain ⟨I,hI⟩:=pA7 (UO x aAo 0);have dq:I+1=opI x:=by rw [hI];exact nAc x
   have fq:=jAe x;rw [<-hI] at cq;have cb:=pA6 dq;have fm:=pA6 (show -1<=I/\I<=3 by omega);have fn:=pA6 fb;have cg:=(kA (B:=0)).lt hv;have dn:=hb.size;clear hx fb hI dq fq;go_wp2_with fail;refine cq.mono ?_;rintro e w4 ⟨rfl,ck⟩;have bb:=cd.then ck;have bv:=nA bb kA hv;have cf:=hb.then bb;clear cq fs;by_cases h0:I = -1;rotate_left
   focus
    have e0:(I+1==0)=false:=by simp;omega
    have bz:=pA6 (show KK x=⟨I+1,KA⟩ by rw [cb.out];exact lAi (by rw [<-cb.out];omega));have bg:=(Bw.refl w4).alloc (.cells #[.int .i64 (I+1),.int .i64 0,.int .i64 0,.int .i64 0,.slice none 0 0,.slice none 0 0] 111);have dc:=(Bw.refl (w4.alloc (.cells #[.int .i64 (I+1),.int .i64 0,.int .i64 0,.int .i64 0,.slice none 0 0,.slice none 0 0] 111))).alloc (.cells #[.int .i64 (I+1),.int .i64 0,.int .i64 0,.int .i64 0,.slice none 0 0,.slice none 0 0] 111);have fk:(w4.alloc (.cells #[.int .i64 (I+1),.int .i64 0,.int .i64 0,.int .i64 0,.slice none 0 0,.slice none 0 0] 111)).heap.size=w4.heap.size+1:=by simp
    have bj:=bg.then dc;have ft:=nA bj kA bv;have bs:=cf.then bj;have bm:∀j t,[Value.int .i64 (I+1),.int .i64 0,.int .i64 0,.int .i64 0,.slice none 0 0,.slice none 0 0][j]? = some t->_:=World.news_of_block (cs:=#[.int .i64 (I+1),.int .i64 0,.int .i64 0,.int .i64 0,.slice none 0 0,.slice none 0 0]) (t:=111) (fr:=(0,0)) (heap_alloc_new (w4.alloc (.cells #[.int .i64 (I+1),.int .i64 0,.int .i64 0,.int .i64 0,.slice none 0 0,.slice none 0 0] 111)) _);rw [fk] at bm;have bk:=pA6 (hO.then ((bb.then bj).only []) (by simp));have wI : -9223372036854775808<=I+1/\I+1<=9223372036854775807:=by have:=fm.out;omega
    clear hv bv cd ck bg dc fk cf hO bb h0;go_wp2_with (at_builtin;refine iC _ rfl (.tmp 30) (.tmp 32) 25 rfl w 111 i0 _ 6 80 underlying25 hi ff fg fj rfl (by omega) vC _ (OI P k) F rfl ft hF ⟨w4.heap.size+1,0,none⟩ 1 rfl ⟨I+1,KA⟩ [.int .i64 (I+1),.int .i64 0,.int .i64 0,.int .i64 0,.slice none 0 0,.slice none 0 0] [] bm (DN _ _) rfl wr.heap.size cg sA.nil dn (by have:=bp.out;omega) (by have:=bp.out;omega) bs ?_;intro v' w' F' dt dd dk cj ct);have dj:=TB.push bk.out cj HF.out;have cz:=pA6 (show ∀z∈F',z=w.heap.size\/w2.heap.size<=z from fun z hz=>(ct z hz).elim (fun h=>HF.out z h) (fun h=>h.elim (fun h=>by simp at h) (fun h=>.inr (Nat.le_trans bk.out.1 h))))
   rotate_right
   focus
    have e0:(I+1==0)=true:=by simp;omega
    have bz:=pA6 (show KK x=⟨0,(ZF x).1⟩ from gA8 (by rw [<-cb.out];omega));have df:I+1=0:=by omega
    have HI1:=pA6 df;have bg:=(Bw.refl w4).alloc (.cells #[.int .i64 0,.int .i64 0,.int .i64 0,.int .i64 0,.slice none 0 0,.slice none 0 0] 111);have bX:=Box.new w4 #[.int .i64 0,.int .i64 0,.int .i64 0,.int .i64 0,.slice none 0 0,.slice none 0 0] 111;obtain ⟨bx,cn⟩:=pA7 w4.heap.size;obtain ⟨W,hW⟩:=pA7 (w4.alloc (.cells #[.int .i64 0,.int .i64 0,.int .i64 0,.int .i64 0,.slice none 0 0,.slice none 0 0] 111));rw [<-hW] at bg bX;rw [<-cn] at bX;have fv:wr.heap.size<=bx:=by have:=bb.size;omega
    have HW:=pA6 hW;have HB:=pA6 cn;have BW:=bb.then bg;have vW:=nA bg kA bv;have nF:bx∉F:=fun h=>by have:=cg _ h;omega
    have bt:=dAi W x (by have:=fn.out;omega);obtain ⟨y,hy⟩:=pA7 ((ZF x).1);obtain ⟨bo,dm⟩:=pA7 ((ZF x).2);rw [<-hy] at bt bz;rw [<-dm] at bt;obtain rfl:I = -1:=h0;clear hv bv cd ck bg hW cn hy dm bb df;go_wp2_with fail;rw [<-HW.out,<-HB.out];refine bt.mono ?_;rintro e w5 ⟨u5,rfl,⟨cs,rfl,F5,⟨ul,up,G5,H5,rfl,cv,cx,rfl⟩,f5⟩,bd⟩;obtain ⟨Al,nl,cl,rfl,ll,_⟩:=qA (xA cv);obtain ⟨Ap,np,cp,rfl,lp,_⟩:=qA (aC cx);have LL:=pA6 ll;have LP:=pA6 lp;have db:=bX.bw bd;have hbxW:=bX.lt;have nG:bx∉G5:=fun h=>by have:=f5.ge _ (List.mem_append_left _ h);omega
    have nH:bx∉H5:=fun h=>by have:=f5.ge _ (List.mem_append_right _ h);omega
    have v6:=lR (b:=bx) (a0:=.int .i64 y.kind) (a1:=.int .i64 y.field) (a2:=.int .i64 y.value) (a3:=.slice Al nl cl) (a4:=.slice Ap np cp) kA (nA bd kA vW) nF;have q1:=lR (b:=bx) (a0:=.int .i64 y.kind) (a1:=.int .i64 y.field) (a2:=.int .i64 y.value) (a3:=.slice Al nl cl) (a4:=.slice Ap np cp) aA cv nG;have q2:=lR (b:=bx) (a0:=.int .i64 y.kind) (a1:=.int .i64 y.field) (a2:=.int .i64 y.value) (a3:=.slice Al nl cl) (a4:=.slice Ap np cp) EA cx nH;have fc:LJ (aAq w5 bx (.int .i64 y.kind) (.int .i64 y.field) (.int .i64 y.value) (.slice Al nl cl) (.slice Ap np cp)) ⟨0,y⟩ [.int .i64 0,.int .i64 y.kind,.int .i64 y.field,.int .i64 y.value,.slice Al nl cl,.slice Ap np cp] (G5++H5):=⟨_,rfl,_,_,G5,H5,rfl,q1,q2,rfl⟩;have B6:=(BW.then bd).putW (b:=bx) (a0:=.int .i64 y.kind) (a1:=.int .i64 y.field) (a2:=.int .i64 y.value) (a3:=.slice Al nl cl) (a4:=.slice Ap np cp) fv;have bn:=(Bw.refl (aAq w5 bx (.int .i64 y.kind) (.int .i64 y.field) (.int .i64 y.value) (.slice Al nl cl) (.slice Ap np cp))).alloc (.cells #[.int .i64 0,.int .i64 y.kind,.int .i64 y.field,.int .i64 y.value,.slice Al nl cl,.slice Ap np cp] 111);have dz:=nA bn kA v6;have fd:=nA bn vC fc;have bs:=(hb.then B6).then bn;have bm:∀j t,[Value.int .i64 0,.int .i64 y.kind,.int .i64 y.field,.int .i64 y.value,.slice Al nl cl,.slice Ap np cp][j]? = some t->_:=World.news_of_block (cs:=#[.int .i64 0,.int .i64 y.kind,.int .i64 y.field,.int .i64 y.value,.slice Al nl cl,.slice Ap np cp]) (t:=111) (fr:=(0,0)) (heap_alloc_new (aAq w5 bx (.int .i64 y.kind) (.int .i64 y.field) (.int .i64 y.value) (.slice Al nl cl) (.slice Ap np cp)) _)
    rw [jAf] at bm;have bk:=pA6 (hO.then ((B6.then bn).only []) (by simp));have dp:sA wr.heap.size (G5++H5):=f5.mono BW.size;have fp:=pA6 (show ∀z∈G5++H5,w2.heap.size<=z from fun z hz=>by have:=dp.ge z hz;have:=hO.1;omega);obtain ⟨b0,b1,b2,b3,b4,b5,bf⟩:=db.a6;unfold aAq at dz fd bs bm bk;clear bt v6 q1 q2 fc B6 bn vW BW cf hO ll lp cv cx f5 bd bX db nG nH;go_wp2_with (at_builtin;refine iC _ rfl (.tmp 30) (.tmp 32) 25 rfl w 111 i0 _ 6 80 underlying25 hi ff fg fj rfl (by omega) vC _ (OI P k) F rfl dz hF ⟨w5.heap.size,0,none⟩ 1 rfl ⟨0,y⟩ [.int .i64 0,.int .i64 y.kind,.int .i64 y.field,.int .i64 y.value,.slice Al nl cl,.slice Ap np cp] (G5++H5) bm fd rfl wr.heap.size cg dp dn (by have:=bp.out;omega) (by have:=bp.out;omega) bs ?_;intro v' w' F' dt dd dk cj ct);have dj:=TB.push bk.out cj HF.out;have cz:=pA6 (show ∀z∈F',z=w.heap.size\/w2.heap.size<=z from fun z hz=>(ct z hz).elim (fun h=>HF.out z h) (fun h=>h.elim (fun h=>.inr (fp.out z h)) (fun h=>.inr (Nat.le_trans bk.out.1 h))))
   all_goals
    go_roundg (n-(k+1))
    ·exact ⟨k+1,F',by omega,rfl,by go_num,by rw [HS.out,bz.out];exact dt,dd,dk,dj,cz⟩
    ·omega
  ·obtain rfl:k=n:=by omega
   rw [dAn (by rw [<-L.out];exact Nat.le_refl _)] at hv;obtain ⟨qs,ds⟩:=pA7 (P.map KK);rw [<-ds] at hv cc;have HX:=cc;have cm:=hb;clear hlt HM HL OX ZX L ds cc;have HQ:=pA6 (show jF s=if s.size≠0/\fC qs=s then (qs,true) else ([],false) from HX.out);have hk:=VH wr qs _ (bB hv);obtain ⟨T,hT⟩:=pA7 (fC qs);rw [<-hT] at hk HQ;clear hT;by_cases hs0:s.size=0
   ·have e0:=vG hs0;have HE:=pA6 (show Y=([],false) by rw [HY.out,HQ.out,if_neg (fun h=>h.1 hs0)]);clear hs0 hk;go_wp2;refine bodyPost_ret (v:=.tuple #[.slice (some ⟨(wr).heap.size,0,none⟩) 0 0,.bool false]) (by simp [results,results197,go_sem]) rfl ?_;rw [HE.out];exact WB.two (MA _) ⟨by simp,fun z hz=>by rw [List.mem_singleton.1 hz];exact Bw.size cm⟩ rfl (Bw.alloc cm _)
   ·have e0:s.toList.isEmpty=false:=LG (by omega);go_wp2_with fail;refine hk.mono ?_;rintro e w5 ⟨rfl,bd⟩;have o5:=nA bd kA hv;have B5:=Bw.then cm bd;clear hk bd;by_cases hq:T=s
    ·have HE:=pA6 (show Y=(qs,true) by rw [HY.out,HQ.out,if_pos ⟨hs0,hq⟩]);have e1:=JD hq;have e2:(T.toList != s.toList)=false:=by rw [bne,e1];rfl
     clear hq hs0;go_wp2;refine bodyPost_ret (v:=.tuple #[u4,.bool true]) (by simp [results,results197,go_sem]) rfl ?_;rw [HE.out];exact WB.two o5 hF rfl B5
    ·have HE:=pA6 (show Y=([],false) by rw [HY.out,HQ.out,if_neg (fun h=>hq h.2)]);have e1:=WC hq;have e2:(T.toList != s.toList)=true:=by rw [bne,e1];rfl
     clear hq hs0;go_wp2;refine bodyPost_ret (v:=.tuple #[.slice (some ⟨w5.heap.size,0,none⟩) 0 0,.bool false]) (by simp [results,results197,go_sem]) rfl ?_;rw [HE.out];exact WB.two (MA w5) ⟨by simp,fun z hz=>by rw [List.mem_singleton.1 hz];exact B5.size⟩ rfl (B5.alloc _)
end Go.Proofs.YtpihighajaeabaaGreat
