/- Voters and votes, in both programs. -/
import Derived.Test.YtpihighajaeabaaGreatQParseX
import Derived.Test.YtpihighajaeabaaGreatQParseV
import Derived.Test.YtpihighajaeabaaGreatQFmtE
import Derived.Deep.RegionHeld3
import Derived.Deep.RegionLaw
import Derived.Test.YtpihighajaeabaaGreatQDom
import Derived.Test.YtpihighajaeabaaGreatQChangeM
import Derived.Test.YtpihighajaeabaaGreatQExprS
import Derived.Test.YtpihighajaeabaaGreatQCmpS
import Derived.Test.YtpihighajaeabaaGreatQBestS
namespace Go.Proofs.YtpihighajaeabaaGreat
open Go.RowKit
set_option linter.unusedVariables false
def opI (t:ByteArray):Int:=if t=vE 1 then 1 else if t=vE 2 then 2 else if t=vE 3 then 3 else if t=vE 4 then 4 else 0
def VI (t:ByteArray):kA:=if opI t=0 then ⟨0,(bI t).1⟩ else ⟨opI t,SA⟩
def iAd (t:ByteArray):kA:=if opI t=0 then (if (bI t).2 then ⟨0,(bI t).1⟩ else ⟨-1,SA⟩) else ⟨opI t,SA⟩
def LV (s:ByteArray):Option (List kA):=some ((PF s ⟨#[59,32]⟩).map VI)
def GF (s:ByteArray):List kA×Bool:=pOf JB LV [] s
theorem YR (e:List kA) (h:(JB e).size≠0):bB e=true:=by
 cases hx:bB e with
 | true=>rfl
 | false=>unfold JB at h;rw [hx,if_neg (by simp)] at h;exact absurd rfl h
theorem UP:∀ {e:List kA} {d r:Int},KB e d=some r→∀n∈e,(n.op=0∧gB n.wish=true)∨(1≤n.op∧n.op≤4∧n.wish=SA)
 | [],_,_,_,n,hn=>by simp at hn
 | m::e,d,r,h,n,hn=>by
  rw [KB] at h
  split at h
  ·rename_i hk
   rcases List.mem_cons.1 hn with h1 | h1
   ·subst h1;unfold LC at hk;simp only [Bool.and_eq_true] at hk;have h2:=qC.1 hk.1;have h3:=hk.2.2;by_cases h0:n.op=0
    ·rw [if_pos h0] at h3;exact .inl ⟨h0,h3⟩
    ·rw [if_neg h0] at h3;exact .inr ⟨by omega,by omega,of_decide_eq_true h3⟩
   ·exact UP h n h1
  ·cases h
theorem ZR {e:List kA} (h:bB e=true):e≠[]∧∀n∈e,(n.op=0∧gB n.wish=true)∨(1≤n.op∧n.op≤4∧n.wish=SA):=by
 unfold bB at h;rw [Bool.and_eq_true,decide_eq_true_eq,decide_eq_true_eq] at h;refine ⟨fun e0=>?_,UP h.1⟩;rw [e0] at h;have:=h.1;unfold KB at this;simp at this
theorem aS {k:Int} (h:1≤k∧k≤4):∀y∈bl (vE k),97≤y.toNat∧y.toNat≤122:=by
 rcases (show k=1∨k=2∨k=3∨k=4 by omega) with rfl | rfl | rfl | rfl<;>decide
theorem fAl {k:Int} (h:1≤k∧k≤4):opI (vE k)=k:=by
 rcases (show k=1∨k=2∨k=3∨k=4 by omega) with rfl | rfl | rfl | rfl<;>decide
theorem fAm {x:eB} (h:gB x=true):opI (JA x)=0:=by
 have h32:=hAh h;have key:∀k:Int,1≤k∧k≤4→JA x≠vE k:=fun k hk e=>by
  rw [e] at h32;have:=aS hk 32 h32;exact absurd this.1 (by decide)
 unfold opI;rw [if_neg (key 1 (by omega)),if_neg (key 2 (by omega)),if_neg (key 3 (by omega)),if_neg (key 4 (by omega))]
theorem aA4 {n:kA} (h:(n.op=0∧gB n.wish=true)∨(1≤n.op∧n.op≤4∧n.wish=SA)):VI (oC n)=n∧iAd (oC n)=n:=by
 unfold VI iAd oC;rcases h with ⟨h0,hw⟩ | ⟨h1,h2,h3⟩
 ·rw [if_pos h0,fAm hw,if_pos rfl,if_pos rfl,ZZ hw];rw [if_pos rfl,← h0];exact ⟨rfl,rfl⟩
 ·have h0:¬n.op=0:=by omega
  have e:(⟨n.op,SA⟩:kA)=n:=by rw [← h3]
  simp only [if_neg h0,fAl ⟨h1,h2⟩];exact ⟨e,e⟩
theorem aA5 {x:eB} (h:gB x=true):∀y∈bl (JA x),y≠59:=by
 have hh:∀y∈bl (AB x),y≠59:=fun y hy e=>by
  rw [vK,cB,cB,List.mem_append,List.mem_append] at hy;rcases hy with (hy | hy) | hy
  ·have:=dN (vF h) y hy;rw [e] at this;exact absurd this.1 (by decide)
  ·rw [e] at hy;revert hy;decide
  ·rcases pL h y hy with h1 | h1<;>rw [e] at h1<;>revert h1<;>decide
 obtain ⟨r1,r2,r3,r4⟩:=oL h;have hv:=gC h;have tail:∀T:ByteArray,(∀y∈bl T,y≠59)→∀y∈bl (AB x++⟨#[32]⟩++T),y≠59:=fun T hT y hy=>by
  rw [cB,cB,List.mem_append,List.mem_append] at hy;rcases hy with (hy | hy) | hy
  ·exact hh y hy
  ·intro e;rw [e] at hy;revert hy;decide
  ·exact hT y hy
 unfold JA;rw [if_pos h];by_cases h2:x.kind=2
 ·rw [if_pos h2];exact tail _ (fun y hy=>iH (gH (by omega) y hy) (by decide))
 ·rw [if_neg h2];by_cases h3:x.kind=3
  ·rw [if_pos h3];exact tail _ (fun y hy=>by
    rcases DJ (fun v hv=>by have:=r4 v hv;omega) y hy with h1 | rfl
    ·exact iH h1 (by decide)
    ·decide)
  ·rw [if_neg h3];by_cases h4:x.kind=4
   ·rw [if_pos h4];exact tail _ (fun y hy=>by
     rcases JK (NF h h4) y hy with h1 | rfl | rfl | h1
     ·exact iH h1 (by decide)
     ·decide
     ·decide
     ·intro e;rw [e] at h1;revert h1;decide)
   ·rw [if_neg h4];exact hh
theorem aA6 {n:kA} (h:(n.op=0∧gB n.wish=true)∨(1≤n.op∧n.op≤4∧n.wish=SA)):∀y∈bl (oC n),y≠59:=by
 unfold oC;rcases h with ⟨h0,hw⟩ | ⟨h1,h2,_⟩
 ·rw [if_pos h0];exact aA5 hw
 ·rw [if_neg (by omega)];exact fun y hy e=>by have:=aS ⟨h1,h2⟩ y hy;rw [e] at this;exact absurd this.1 (by decide)
theorem cY (e:List kA) (h:bB e=true):LV (JB e)=some e:=by
 obtain ⟨hne,hn⟩:=ZR h;unfold LV JB;rw [if_pos h,BR (l:=QB e) (c:=59) (r:=[32]) rfl (fun e0=>hne (List.map_eq_nil_iff.1 e0)) (fun t ht y hy=>by
  obtain ⟨n,hm,rfl⟩:=List.mem_map.1 ht;exact aA6 (hn n hm) y hy)]
 unfold QB;rw [List.map_map]
 congr 1
 exact (List.map_congr_left (fun n hm=>(aA4 (hn n hm)).1)).trans (List.map_id _)
theorem dY {e:List kA} (h:bB e=true):(JB e).size≠0:=by
 obtain ⟨hne,hn⟩:=ZR h;obtain ⟨n,ns,rfl⟩:∃n ns,e=n::ns:=by
  cases e with
  | nil=>exact absurd rfl hne
  | cons n ns=>exact ⟨n,ns,rfl⟩
 have h1:(oC n).size≠0:=by
  unfold oC;rcases hn n (by simp) with ⟨h0,hw⟩ | ⟨h1,h2,_⟩
  ·rw [if_pos h0];exact TP hw
  ·rw [if_neg (by omega)];rcases (show n.op=1∨n.op=2∨n.op=3∨n.op=4 by omega) with e | e | e | e<;>rw [e]<;>decide
 unfold JB QB;rw [if_pos h,← VC,QI,List.map_cons,List.map_cons];have h2:=hAc (bl ⟨#[59,32]⟩) (bl (oC n)) ((ns.map oC).map bl);rw [VC] at h2;omega
theorem aA7 {e:List kA} (h:bB e=true):GF (JB e)=(e,true):=ZN (dY h) (cY e h)
theorem iS {s:ByteArray} (h:(GF s).2=true):bB (GF s).1=true∧JB (GF s).1=s:=by
 obtain ⟨h1,h2⟩:=nU h;exact ⟨YR _ (by rw [show JB (GF s).1=s from h2];exact h1),h2⟩
end Go.Proofs.YtpihighajaeabaaGreat
namespace Go.Proofs.YtpihighajaeabaaGreat
open Go.RowKit
set_option linter.unusedVariables false
set_option linter.unusedSimpArgs false
def MV:List ByteArray:=[⟨#[97,110,100]⟩,⟨#[116,104,101,110]⟩,⟨#[110,111,116]⟩,⟨#[98,111,116,104]⟩]
theorem hAi (a:ByteArray):tM a MV 0+1=opI a:=by
 unfold MV opI;simp only [tM];have e1:vE 1=⟨#[97,110,100]⟩:=rfl;have e2:vE 2=⟨#[116,104,101,110]⟩:=rfl;have e3:vE 3=⟨#[110,111,116]⟩:=rfl;have e4:vE 4=⟨#[98,111,116,104]⟩:=rfl;rw [e1,e2,e3,e4]
 split
 ·rfl
 ·split
  ·rfl
  ·split
   ·rfl
   ·split<;>rfl
theorem aA8 (w:World) (a b c d:ByteArray):GK (w.alloc (.cells #[.string a,.string b,.string c,.string d] 9)) [a,b,c,d] [.slice (some ⟨w.heap.size,0,none⟩) 4 4] [w.heap.size]:=by
 refine ⟨_,[[.string a],[.string b],[.string c],[.string d]],[[],[],[],[]],rfl,?_,?_,rfl⟩
 ·exact ⟨rfl,.inr ⟨w.heap.size,4,#[.string a,.string b,.string c,.string d],rfl,Nat.zero_le _,heap_alloc_new w _,Nat.le_refl 4,(by decide:4≤maxLen),rfl,rfl⟩⟩
 ·exact ⟨⟨⟨rfl,rfl⟩,rfl⟩,⟨⟨rfl,rfl⟩,rfl⟩,⟨⟨rfl,rfl⟩,rfl⟩,⟨⟨rfl,rfl⟩,rfl⟩,trivial⟩
theorem cAy (a:ByteArray):0≤opI a∧opI a≤4:=by
 unfold opI;repeat' split
 all_goals omega
def mH (P:List ByteArray) (k:Nat):List kA:=(P.take k).map VI
theorem NV {P:List ByteArray} {k:Nat} {t:ByteArray} (h:P[k]? = some t):mH P (k+1)=mH P k++[VI t]:=by unfold mH;rw [List.take_add_one,h,List.map_append];rfl
theorem eY (P:List ByteArray) (k:Nat):(mH P k).length≤k:=by unfold mH;rw [List.length_map,List.length_take];omega
theorem fY {P:List ByteArray} {k:Nat} (h:P.length≤k):mH P k=P.map VI:=by unfold mH;rw [List.take_of_length_le h]
theorem hAj (s:ByteArray):GF s=if s.size≠0∧JB ((PF s ⟨#[59,32]⟩).map VI)=s then ((PF s ⟨#[59,32]⟩).map VI,true) else ([],false):=by unfold GF pOf LV;rfl
theorem gY (w:World) (n:Int):nL w ⟨n,SA⟩ [.int .i64 n,.int .i64 0,.int .i64 0,.int .i64 0,.slice none 0 0,.slice none 0 0] []:=⟨_,rfl,_,_,[],[],rfl,WC _,WC _,rfl⟩
theorem aA9 {t:ByteArray} (h:opI t=0):VI t=⟨0,(bI t).1⟩:=if_pos h
theorem fAn {t:ByteArray} (h:¬opI t=0):VI t=⟨opI t,SA⟩:=if_neg h
def iY (W:World) (b:Nat) (a0 a1 a2 a3 a4:Value):World:=((((W.setCell ⟨b,1,none⟩ a0).setCell ⟨b,2,none⟩ a1).setCell ⟨b,3,none⟩ a2).setCell ⟨b,4,none⟩ a3).setCell ⟨b,5,none⟩ a4
theorem jS {W:World} {b:Nat} {a0 a1 a2 a3 a4:Value} {α:Type} {R:Fp α} (hR:VB 0 R) {x:α} {cs:List Value} {F:List Nat} (hx:R W x cs F) (hF:b∉F):R (iY W b a0 a1 a2 a3 a4) x cs F:=QA hR (QA hR (QA hR (QA hR (QA hR hx hF) hF) hF) hF) hF
theorem Bw.putW {w W:World} {b:Nat} {a0 a1 a2 a3 a4:Value} (h:Bw w W) (hb:w.heap.size≤b):Bw w (iY W b a0 a1 a2 a3 a4):=((((h.set (p:=⟨b,1,none⟩) hb _).set (p:=⟨b,2,none⟩) hb _).set (p:=⟨b,3,none⟩) hb _).set (p:=⟨b,4,none⟩) hb _).set (p:=⟨b,5,none⟩) hb _
theorem cAz (W:World) (b:Nat) (a0 a1 a2 a3 a4:Value):(iY W b a0 a1 a2 a3 a4).heap.size=W.heap.size:=by unfold iY;simp
set_option maxRecDepth 100000 in
set_option maxHeartbeats 6400000 in
theorem oH (w:World) (s:ByteArray) (hs:s.size≤1048576):Calls Tryz.prog 197 #[.string s] w (BC w (Two EC w.heap.size (GF s).1 (.bool (GF s).2))):=by
 obtain ⟨i0,hi,hz0,hz1,hz2⟩:=info_parts AH;have hv0:=PA (e:=111) (sz:=6) (R:=nL) w;have A0:Bw w (w.alloc (.cells #[] 111)):=(Bw.refl w).alloc _;obtain ⟨Y,hY⟩:∃Y,Y=GF s:=⟨_,rfl⟩;have HY:=Lib.hid hY;rw [← hY];clear hY;obtain ⟨P,hP⟩:∃P,P=PF s ⟨#[59,32]⟩:=⟨_,rfl⟩;have hcall:=MR (w.alloc (.cells #[] 111)) s ⟨#[59,32]⟩ hs (by decide) (by decide);rw [← hP] at hcall;have HX0:=Lib.hid (show GF s=if s.size≠0∧JB (P.map VI)=s then (P.map VI,true) else ([],false) by rw [hP];exact hAj s);have HM:=Lib.hid (show ∀t∈P,t.size≤s.size from fun t ht=>TJ (by rw [← hP];exact ht));have HL:=Lib.hid (show P.length≤s.size+2 by rw [hP];exact PR _ _);clear hP;go_enter Tryz.func197,Tryz.ntmps197;go_wp2_with fail;refine hcall.mono ?_;rintro e w2 ⟨v1,rfl,⟨FX,oX,fX⟩,hb2⟩;have B2:=A0.then hb2;have hv2:=xA hb2 nA hv0;have zX:∀z∈FX,z∉[w.heap.size]:=fun z hz=>by have h1:=fX.ge z hz;simp at h1;simp only [List.mem_singleton];omega
 have hl:=PD oX;obtain ⟨A,n,c,rfl,L0,Lc,Lm⟩:=iA hl;unfold maxLen at Lm;have L:=Lib.hid L0;clear L0;have OX:=Lib.hid oX;have ZX:=Lib.hid zX;have ZS:=Lib.hid (show w.heap.size<w2.heap.size by have:=hb2.size;simp at this;omega);clear oX zX hl hv0 fX hcall;go_wp2
 go_loopg [4,12] n (fun g sv i w'=>∃(k:Nat) (F:List Nat),k≤n∧g=n-k∧i=.int .i64 k∧EC w' (mH P k) [sv] F∧pA w.heap.size F∧Bw w w'∧SB [w.heap.size] w2 w'∧Hid (∀z∈F,z=w.heap.size∨w2.heap.size≤z))
 case atStart=>exact ⟨0,_,by omega,rfl,rfl,hv2,⟨by simp,by simp⟩,B2,SB.refl _ _,Lib.hid (fun z hz=>.inl (by simpa using hz))⟩
 case round=>
  clear hv2 B2 hb2 A0;obtain ⟨k,F,hk,rfl,rfl,hv,hF,hb,hO,HF⟩:=hrel;by_cases hlt:k<n
  ·obtain ⟨x,hx⟩:=rA (xs:=P) (k:=k) (by have:=L.out;omega);obtain ⟨ba,oa,rfl,_,hcx⟩:=cE (PD (hO.keeps kB OX.out ZX.out)) hx;have hxs:=HM.out x (List.mem_of_getElem? hx);have HS:=Lib.hid (NV hx);have i1:(0:Int)≤(k:Int):=by omega
   have i2:(k:Int)<(n:Int):=by omega
   have HNL:=Lib.hid (show (mH P k).length≤s.size+2 by have:=eY P k;have:=L.out;have:=HL.out;omega);have hA3:=(Bw.refl wr).alloc (.cells #[.string ⟨#[97,110,100]⟩,.string ⟨#[116,104,101,110]⟩,.string ⟨#[110,111,116]⟩,.string ⟨#[98,111,116,104]⟩] 9);have hc4:=qJ _ MV x _ (PD (aA8 wr ⟨#[97,110,100]⟩ ⟨#[116,104,101,110]⟩ ⟨#[110,111,116]⟩ ⟨#[98,111,116,104]⟩));obtain ⟨I,hI⟩:∃I,I=tM x MV 0:=⟨_,rfl⟩;have hop:I+1=opI x:=by rw [hI];exact hAi x
   have hbd:=cAy x;rw [← hI] at hc4;have HOP:=Lib.hid hop;have HBD:=Lib.hid (show -1≤I∧I≤3 by omega);have HXS:=Lib.hid hxs;have hFm:=(nA (B:=0)).lt hv;have hbs:=hb.size;clear hx hxs hI hop hbd;go_wp2_with fail;refine hc4.mono ?_;rintro e w4 ⟨rfl,hb4⟩;have hb34:=hA3.then hb4;have hv4:=xA hb34 nA hv;have hB4:=hb.then hb34;clear hc4 hcx;by_cases h0:I = -1
   ·have e0:(I+1==0)=true:=by simp;omega
    have HNI:=Lib.hid (show VI x=⟨0,(bI x).1⟩ from aA9 (by rw [← HOP.out];omega));have hI1:I+1=0:=by omega
    have HI1:=Lib.hid hI1;have hA5:=(Bw.refl w4).alloc (.cells #[.int .i64 0,.int .i64 0,.int .i64 0,.int .i64 0,.slice none 0 0,.slice none 0 0] 111);have bX:=Box.new w4 #[.int .i64 0,.int .i64 0,.int .i64 0,.int .i64 0,.slice none 0 0,.slice none 0 0] 111;obtain ⟨bx,hbx⟩:∃bx,bx=w4.heap.size:=⟨_,rfl⟩;obtain ⟨W,hW⟩:∃W,W=w4.alloc (.cells #[.int .i64 0,.int .i64 0,.int .i64 0,.int .i64 0,.slice none 0 0,.slice none 0 0] 111):=⟨_,rfl⟩;rw [← hW] at hA5 bX;rw [← hbx] at bX;have hwx:wr.heap.size≤bx:=by have:=hb34.size;omega
    have HW:=Lib.hid hW;have HB:=Lib.hid hbx;have BW:=hb34.then hA5;have vW:=xA hA5 nA hv4;have nF:bx∉F:=fun h=>by have:=hFm _ h;omega
    have hc5:=aY W x (by have:=HXS.out;omega);obtain ⟨y,hy⟩:∃y,y=(bI x).1:=⟨_,rfl⟩;obtain ⟨bo,hbo⟩:∃q,q=(bI x).2:=⟨_,rfl⟩;rw [← hy] at hc5 HNI;rw [← hbo] at hc5;obtain rfl:I = -1:=h0;clear hv hv4 hA3 hb4 hA5 hW hbx hy hbo hb34 hI1;go_wp2_with fail;rw [← HW.out,← HB.out];refine hc5.mono ?_;rintro e w5 ⟨u5,rfl,⟨cs,rfl,F5,⟨ul,up,G5,H5,rfl,o51,o52,rfl⟩,f5⟩,hb5⟩;obtain ⟨Al,nl,cl,rfl,ll,_⟩:=iA (AA o51);obtain ⟨Ap,np,cp,rfl,lp,_⟩:=iA (TC o52);have LL:=Lib.hid ll;have LP:=Lib.hid lp;have bX5:=bX.bw hb5;have hbxW:=bX.lt;have nG:bx∉G5:=fun h=>by have:=f5.ge _ (List.mem_append_left _ h);omega
    have nH:bx∉H5:=fun h=>by have:=f5.ge _ (List.mem_append_right _ h);omega
    have v6:=jS (b:=bx) (a0:=.int .i64 y.kind) (a1:=.int .i64 y.field) (a2:=.int .i64 y.value) (a3:=.slice Al nl cl) (a4:=.slice Ap np cp) nA (xA hb5 nA vW) nF;have q1:=jS (b:=bx) (a0:=.int .i64 y.kind) (a1:=.int .i64 y.field) (a2:=.int .i64 y.value) (a3:=.slice Al nl cl) (a4:=.slice Ap np cp) aA o51 nG;have q2:=jS (b:=bx) (a0:=.int .i64 y.kind) (a1:=.int .i64 y.field) (a2:=.int .i64 y.value) (a3:=.slice Al nl cl) (a4:=.slice Ap np cp) zA o52 nH;have hyN:nL (iY w5 bx (.int .i64 y.kind) (.int .i64 y.field) (.int .i64 y.value) (.slice Al nl cl) (.slice Ap np cp)) ⟨0,y⟩ [.int .i64 0,.int .i64 y.kind,.int .i64 y.field,.int .i64 y.value,.slice Al nl cl,.slice Ap np cp] (G5++H5):=⟨_,rfl,_,_,G5,H5,rfl,q1,q2,rfl⟩;have B6:=(BW.then hb5).putW (b:=bx) (a0:=.int .i64 y.kind) (a1:=.int .i64 y.field) (a2:=.int .i64 y.value) (a3:=.slice Al nl cl) (a4:=.slice Ap np cp) hwx;have hA7:=(Bw.refl (iY w5 bx (.int .i64 y.kind) (.int .i64 y.field) (.int .i64 y.value) (.slice Al nl cl) (.slice Ap np cp))).alloc (.cells #[.int .i64 0,.int .i64 y.kind,.int .i64 y.field,.int .i64 y.value,.slice Al nl cl,.slice Ap np cp] 111);have hvZ:=xA hA7 nA v6;have hyZ:=xA hA7 ZC hyN;have hbW:=(hb.then B6).then hA7;have hcl:∀j t,[Value.int .i64 0,.int .i64 y.kind,.int .i64 y.field,.int .i64 y.value,.slice Al nl cl,.slice Ap np cp][j]? = some t→_:=World.news_of_block (cs:=#[.int .i64 0,.int .i64 y.kind,.int .i64 y.field,.int .i64 y.value,.slice Al nl cl,.slice Ap np cp]) (t:=111) (fr:=(0,0)) (heap_alloc_new (iY w5 bx (.int .i64 y.kind) (.int .i64 y.field) (.int .i64 y.value) (.slice Al nl cl) (.slice Ap np cp)) _)
    rw [cAz] at hcl;have hOW:=Lib.hid (hO.then ((B6.then hA7).only []) (by simp));have hf5:pA wr.heap.size (G5++H5):=f5.mono BW.size;have hZ5:=Lib.hid (show ∀z∈G5++H5,w2.heap.size≤z from fun z hz=>by have:=hf5.ge z hz;have:=hO.1;omega);have b0:=bX5.c 0 _ rfl;have b1:=bX5.c 1 _ rfl;have b2:=bX5.c 2 _ rfl;have b3:=bX5.c 3 _ rfl;have b4:=bX5.c 4 _ rfl;have b5:=bX5.c 5 _ rfl;have bf:=bX5.fr;unfold iY at hvZ hyZ hbW hcl hOW;clear hc5 v6 q1 q2 hyN B6 hA7 vW BW hB4 hO ll lp o51 o52 f5 hb5 bX bX5 nG nH;go_wp2_with (at_builtin;refine mC _ rfl (.tmp 30) (.tmp 32) 25 rfl w 111 i0 _ 6 80 Tryz.underlying25 hi hz0 hz1 hz2 rfl (by omega) ZC _ (mH P k) F rfl hvZ hF ⟨w5.heap.size,0,none⟩ 1 rfl ⟨0,y⟩ [.int .i64 0,.int .i64 y.kind,.int .i64 y.field,.int .i64 y.value,.slice Al nl cl,.slice Ap np cp] (G5++H5) hcl hyZ rfl wr.heap.size hFm hf5 hbs (by have:=HNL.out;omega) (by have:=HNL.out;omega) hbW ?_;intro v' w' F' hv' hF' hb' hO' hs');have hOn:=SB.push hOW.out hO' HF.out;have HF':=Lib.hid (show ∀z∈F',z=w.heap.size∨w2.heap.size≤z from fun z hz=>(hs' z hz).elim (fun h=>HF.out z h) (fun h=>h.elim (fun h=>.inr (hZ5.out z h)) (fun h=>.inr (Nat.le_trans hOW.out.1 h))))
    go_roundg (n-(k+1))
    case measure=>omega
    case rel=>exact ⟨k+1,F',by omega,rfl,by go_num,by rw [HS.out,HNI.out];exact hv',hF',hb',hOn,HF'⟩
   ·have e0:(I+1==0)=false:=by simp;omega
    have HNI:=Lib.hid (show VI x=⟨I+1,SA⟩ by rw [HOP.out];exact fAn (by rw [← HOP.out];omega));have hA5:=(Bw.refl w4).alloc (.cells #[.int .i64 (I+1),.int .i64 0,.int .i64 0,.int .i64 0,.slice none 0 0,.slice none 0 0] 111);have hA6:=(Bw.refl (w4.alloc (.cells #[.int .i64 (I+1),.int .i64 0,.int .i64 0,.int .i64 0,.slice none 0 0,.slice none 0 0] 111))).alloc (.cells #[.int .i64 (I+1),.int .i64 0,.int .i64 0,.int .i64 0,.slice none 0 0,.slice none 0 0] 111);have hz6:(w4.alloc (.cells #[.int .i64 (I+1),.int .i64 0,.int .i64 0,.int .i64 0,.slice none 0 0,.slice none 0 0] 111)).heap.size=w4.heap.size+1:=by simp
    have hA56:=hA5.then hA6;have hvW:=xA hA56 nA hv4;have hbW:=hB4.then hA56;have hcl:∀j t,[Value.int .i64 (I+1),.int .i64 0,.int .i64 0,.int .i64 0,.slice none 0 0,.slice none 0 0][j]? = some t→_:=World.news_of_block (cs:=#[.int .i64 (I+1),.int .i64 0,.int .i64 0,.int .i64 0,.slice none 0 0,.slice none 0 0]) (t:=111) (fr:=(0,0)) (heap_alloc_new (w4.alloc (.cells #[.int .i64 (I+1),.int .i64 0,.int .i64 0,.int .i64 0,.slice none 0 0,.slice none 0 0] 111)) _);rw [hz6] at hcl;have hOW:=Lib.hid (hO.then ((hb34.then hA56).only []) (by simp));have wI : -9223372036854775808≤I+1∧I+1≤9223372036854775807:=by have:=HBD.out;omega
    clear hv hv4 hA3 hb4 hA5 hA6 hz6 hB4 hO hb34 h0;go_wp2_with (at_builtin;refine mC _ rfl (.tmp 30) (.tmp 32) 25 rfl w 111 i0 _ 6 80 Tryz.underlying25 hi hz0 hz1 hz2 rfl (by omega) ZC _ (mH P k) F rfl hvW hF ⟨w4.heap.size+1,0,none⟩ 1 rfl ⟨I+1,SA⟩ [.int .i64 (I+1),.int .i64 0,.int .i64 0,.int .i64 0,.slice none 0 0,.slice none 0 0] [] hcl (gY _ _) rfl wr.heap.size hFm pA.nil hbs (by have:=HNL.out;omega) (by have:=HNL.out;omega) hbW ?_;intro v' w' F' hv' hF' hb' hO' hs');have hOn:=SB.push hOW.out hO' HF.out;have HF':=Lib.hid (show ∀z∈F',z=w.heap.size∨w2.heap.size≤z from fun z hz=>(hs' z hz).elim (fun h=>HF.out z h) (fun h=>h.elim (fun h=>by simp at h) (fun h=>.inr (Nat.le_trans hOW.out.1 h))))
    go_roundg (n-(k+1))
    case measure=>omega
    case rel=>exact ⟨k+1,F',by omega,rfl,by go_num,by rw [HS.out,HNI.out];exact hv',hF',hb',hOn,HF'⟩
  ·obtain rfl:k=n:=by omega
   rw [fY (by rw [← L.out];exact Nat.le_refl _)] at hv;obtain ⟨qs,hqs⟩:∃qs,qs=P.map VI:=⟨_,rfl⟩;rw [← hqs] at hv HX0;have HX:=HX0;have hbw:=hb;clear hlt HM HL OX ZX L hqs HX0;have HQ:=Lib.hid (show GF s=if s.size≠0∧JB qs=s then (qs,true) else ([],false) from HX.out);have hk:=wG wr qs _ (lC hv);obtain ⟨T,hT⟩:∃T,T=JB qs:=⟨_,rfl⟩;rw [← hT] at hk HQ;clear hT;by_cases hs0:s.size=0
   ·have e0:=pJ hs0;have HE:=Lib.hid (show Y=([],false) by rw [HY.out,HQ.out,if_neg (fun h=>h.1 hs0)]);clear hs0 hk;go_wp2;refine bodyPost_ret (v:=.tuple #[.slice (some ⟨(wr).heap.size,0,none⟩) 0 0,.bool false]) (by simp [results,Tryz.results197,go_sem]) rfl ?_;rw [HE.out];exact BC.two (PA _) ⟨by simp,fun z hz=>by rw [List.mem_singleton.1 hz];exact Bw.size hbw⟩ rfl (Bw.alloc hbw _)
   ·have e0:s.toList.isEmpty=false:=yJ (by omega);go_wp2_with fail;refine hk.mono ?_;rintro e w5 ⟨rfl,hb5⟩;have o5:=xA hb5 nA hv;have B5:=Bw.then hbw hb5;clear hk hb5;by_cases hq:T=s
    ·have HE:=Lib.hid (show Y=(qs,true) by rw [HY.out,HQ.out,if_pos ⟨hs0,hq⟩]);have e1:=kH hq;have e2:(T.toList != s.toList)=false:=by rw [bne,e1];rfl
     clear hq hs0;go_wp2;refine bodyPost_ret (v:=.tuple #[u4,.bool true]) (by simp [results,Tryz.results197,go_sem]) rfl ?_;rw [HE.out];exact BC.two o5 hF rfl B5
    ·have HE:=Lib.hid (show Y=([],false) by rw [HY.out,HQ.out,if_neg (fun h=>hq h.2)]);have e1:=QF hq;have e2:(T.toList != s.toList)=true:=by rw [bne,e1];rfl
     clear hq hs0;go_wp2;refine bodyPost_ret (v:=.tuple #[.slice (some ⟨w5.heap.size,0,none⟩) 0 0,.bool false]) (by simp [results,Tryz.results197,go_sem]) rfl ?_;rw [HE.out];exact BC.two (PA w5) ⟨by simp,fun z hz=>by rw [List.mem_singleton.1 hz];exact B5.size⟩ rfl (B5.alloc _)
end Go.Proofs.YtpihighajaeabaaGreat
namespace Go.Proofs.YtpihighajaeabaaGreat
open Go.RowKit
set_option linter.unusedVariables false
set_option linter.unusedSimpArgs false
end Go.Proofs.YtpihighajaeabaaGreat
namespace Go.Proofs.YtpihighajaeabaaGreat
open Go.RowKit
set_option linter.unusedVariables false
set_option linter.unusedSimpArgs false
end Go.Proofs.YtpihighajaeabaaGreat
namespace Go.Proofs.YtpihighajaeabaaGreat
open Go.RowKit
set_option linter.unusedVariables false
set_option linter.unusedSimpArgs false
end Go.Proofs.YtpihighajaeabaaGreat
namespace Go.Proofs.YtpihighajaeabaaGreat
open Go.RowKit
set_option linter.unusedVariables false
set_option linter.unusedSimpArgs false
end Go.Proofs.YtpihighajaeabaaGreat
namespace Go.Proofs.YtpihighajaeabaaGreat
open Go.RowKit
set_option linter.unusedVariables false
def aF (g:List (List kA)):Bool:=g.all bB && (decide (1≤g.length) && decide (g.length≤5))
def sC (l:List gA) (g:List (List kA)):Bool:=WA l && aF g
theorem GJ {g:List (List kA)} (h:aF g=true):1≤g.length∧g.length≤5:=by
 unfold aF at h;rw [Bool.and_eq_true,Bool.and_eq_true,decide_eq_true_eq,decide_eq_true_eq] at h;exact h.2
theorem ET {g:List (List kA)} (h:aF g=true):∀e∈g,bB e=true:=by
 unfold aF at h;rw [Bool.and_eq_true,List.all_eq_true] at h;exact h.1
theorem UD {l:List gA} {g:List (List kA)} (h:sC l g=true):WA l=true:=by unfold sC at h;rw [Bool.and_eq_true] at h;exact h.1
theorem LH {l:List gA} {g:List (List kA)} (h:sC l g=true):aF g=true:=by unfold sC at h;rw [Bool.and_eq_true] at h;exact h.2
theorem OV {α:Type} {f:α→Bool} {l:List α} {k:Nat} {x:α} (hx:l[k]? = some x) (h:f x=true):(l.take (k+1)).all f=(l.take k).all f:=by
 rw [List.take_add_one,hx,List.all_append];simp [h]
theorem jY {α:Type} {f:α→Bool} {l:List α} {k:Nat} {x:α} (hx:l[k]? = some x) (h:f x=false):l.all f=false:=by
 rw [Bool.eq_false_iff];intro h2;rw [List.all_eq_true] at h2;rw [h2 x (List.mem_of_getElem? hx)] at h;cases h
def WI (f:List kA→Bool) (g:List (List kA)) (k:Nat):Int:=(((g.take k).filter f).length:Int)
theorem tU {f:List kA→Bool} {g:List (List kA)} {k:Nat} {e:List kA} (hx:g[k]? = some e) (h:f e=true):WI f g (k+1)=WI f g k+1:=by
 unfold WI;rw [List.take_add_one,hx,List.filter_append];simp [h]
theorem kY {f:List kA→Bool} {g:List (List kA)} {k:Nat} {e:List kA} (hx:g[k]? = some e) (h:f e=false):WI f g (k+1)=WI f g k:=by
 unfold WI;rw [List.take_add_one,hx,List.filter_append];simp [h]
def kO (g:List (List kA)) (x y:gA):Int:=WI (fun e=>decide (CC e x y=1)) g g.length
def NE (l:List gA) (g:List (List kA)) (a b:Int):Int:=if sC l g && (decide (0≤UA l a) && decide (0≤UA l b)) then kO g (nD l a) (nD l b) else 0
def OE (l:List gA) (g:List (List kA)) (x y:gA):Bool:=decide (x.id=y.id) || decide (NE l g y.id x.id<NE l g x.id y.id)
def pG (l:List gA) (g:List (List kA)):Int:=if sC l g then (match l.find? (fun x=>l.all (OE l g x)) with | some x=>x.id | none=>-1) else -1
theorem PV {α:Type} {f:α→Bool} {l:List α} {k:Nat} {x:α} (hx:l[k]? = some x) (h:f x=false):(l.take (k+1)).find? f=(l.take k).find? f:=by
 rw [List.take_add_one,hx,List.find?_append];simp [h]
theorem FT {α:Type} {f:α→Bool} {l:List α} {k:Nat} {x:α} (hx:l[k]? = some x) (h:f x=true) (h0:(l.take k).find? f=none):l.find? f=some x:=by
 have h1:l.find? f=((l.take k)++l.drop k).find? f:=by rw [List.take_append_drop]
 rw [h1,List.find?_append,h0,NB hx];simp [h]
def KK (f:List kA→Int) (g:List (List kA)):Nat→Int
 | 0=>0
 | k+1=>KK f g k+(match g[k]? with | some e=>f e | none=>0)
theorem aAa {f:List kA→Int} {g:List (List kA)} {k:Nat} {e:List kA} (hx:g[k]? = some e):KK f g (k+1)=KK f g k+f e:=by rw [KK,hx]
theorem VP {f:List kA→Int} {g:List (List kA)} (h:∀e,-16≤f e∧f e≤16):∀k:Nat,-(16*(k:Int))≤KK f g k∧KK f g k≤16*k
 | 0=>by rw [KK];omega
 | k+1=>by
  have h1:=VP (g:=g) h k;rw [KK]
  cases g[k]? with
  | none=>dsimp only;omega
  | some e=>have:=h e;dsimp only;omega
def rJ (l:List gA) (g:List (List kA)) (x:gA):Int:=KK (fun e=>((tD l e x.id (-1)).length:Int)-((tD l e x.id 1).length:Int)) g g.length
def TH (l:List gA) (g:List (List kA)) (x:gA):Int:=WI (fun e=>(BA l e).contains x.id) g g.length
def BH (l:List gA) (g:List (List kA)):List Int:=if sC l g then l.map (rJ l g) else []
def RF (l:List gA) (g:List (List kA)):List Int:=if sC l g then l.map (TH l g) else []
def qL (f:gA→Int) (l:List gA) (k:Nat):List Int:=(l.take k).map f
theorem kS {f:gA→Int} {l:List gA} {k:Nat} {x:gA} (hx:l[k]? = some x):qL f l (k+1)=qL f l k++[f x]:=by unfold qL;rw [List.take_add_one,hx];simp
theorem wU (f:gA→Int) (l:List gA) (k:Nat):(qL f l k).length≤k:=by unfold qL;rw [List.length_map,List.length_take];omega
theorem xU {f:gA→Int} {l:List gA} {k:Nat} (h:l.length≤k):qL f l k=l.map f:=by unfold qL;rw [List.take_of_length_le h]
def XI (s:List Int):Nat→Nat
 | 0=>0
 | k+1=>match s[k]?,s[XI s k]? with
  | some a,some b=>if b<a then k else XI s k
  | _,_=>XI s k
theorem mS {s:List Int} {k:Nat} {a b:Int} (ha:s[k]? = some a) (hb:s[XI s k]? = some b):XI s (k+1)=if b<a then k else XI s k:=by rw [XI,ha,hb]
def aAb (l:List gA) (k:Nat):Int:=match l[k]? with | some x=>x.id | none=>-1
def wE (l:List gA) (g:List (List kA)) (s:List Int):Int:=if sC l g && decide (0<l.length) then aAb l (XI s s.length) else -1
theorem aAc {l:List gA} (h:WA l=true) (k:Nat) : -1≤aAb l k∧aAb l k≤99:=by
 unfold aAb
 cases hx:l[k]? with
 | none=>dsimp only;omega
 | some x=>have:=wD (NA h (List.mem_of_getElem? hx));dsimp only;omega
theorem jI (l:List gA) (g:List (List kA)) (s:List Int) : -1≤wE l g s∧wE l g s≤99:=by
 unfold wE;split
 ·rename_i h
  rw [Bool.and_eq_true] at h;exact aAc (UD h.1) _
 ·omega
theorem WP (l:List gA) (g:List (List kA)) : -1≤pG l g∧pG l g≤99:=by
 unfold pG;split
 ·rename_i h
  cases hx:l.find? (fun x=>l.all (OE l g x)) with
  | none=>dsimp only;omega
  | some x=>have:=wD (NA (UD h) (List.mem_of_find?_eq_some hx));dsimp only;omega
 ·omega
end Go.Proofs.YtpihighajaeabaaGreat
namespace Go.Proofs.YtpihighajaeabaaGreat
open Go.RowKit
set_option linter.unusedVariables false
set_option linter.unusedSimpArgs false
set_option maxRecDepth 100000 in
set_option maxHeartbeats 800000 in
theorem lY (w:World) (g:List (List kA)) (v:Value) (h:Rd dD w g [v]):Calls Tryz.prog 188 #[v] w (Ret w (.bool (aF g))):=by
 obtain ⟨Y,hY⟩:∃Y,Y=aF g:=⟨_,rfl⟩;rw [← hY];have HY:=Lib.hid hY;clear hY;obtain ⟨A,n,c,rfl,L0,Lc,Lm⟩:=iA h;unfold maxLen at Lm;have L:=Lib.hid L0;clear L0;go_enter Tryz.func188,Tryz.ntmps188;go_wp2
 go_loopg [7] n (fun gh i w'=>∃k:Nat,k≤n∧gh=n-k∧i=.int .i64 k∧Hid ((g.take k).all bB=true)∧Bw w w')
 case atStart=>exact ⟨0,by omega,rfl,rfl,Lib.hid rfl,Bw.refl _⟩
 case round=>
  obtain ⟨k,hk,rfl,rfl,HE,hb⟩:=hrel;by_cases hlt:k<n
  ·obtain ⟨e,hx⟩:=rA (xs:=g) (k:=k) (by have:=L.out;omega);obtain ⟨b,o,A',c',rfl,_,d0,hin⟩:=lK h hx;replace d0:=hb.cell d0;have i1:(0:Int)≤(k:Int):=by omega
   have i2:(k:Int)<(n:Int):=by omega
   have hcall:=ZG wr e _ (Rd.bw lA hin hb);have HYES:=Lib.hid (fun he=>(OV hx he).trans HE.out);have HNO:=Lib.hid (fun he=>jY (f:=bB) hx he);obtain ⟨q,hq⟩:∃q,q=bB e:=⟨_,rfl⟩;rw [← hq] at hcall;have HQ:=Lib.hid hq;obtain ⟨M,hM⟩:∃M,M=e.length:=⟨_,rfl⟩;rw [← hM] at hcall d0;have HH:=Lib.hid h;clear hx hin hq hM h;go_wp2_with fail;refine (hcall).mono ?_;rintro e w3 ⟨rfl,hb3⟩;have h:=HH.out;have hbb:=hb.then hb3;clear hcall
   cases q with
   | true=>
    have HX:=Lib.hid (HYES.out HQ.out.symm);go_wp2
    go_roundg (n-(k+1))
    case measure=>omega
    case rel=>exact ⟨k+1,by omega,rfl,by go_num,HX,hbb⟩
   | false=>
    have HX:=Lib.hid (show Y=false by rw [HY.out,aF,HNO.out HQ.out.symm];rfl);clear h;go_wp2;go_ret;exact Ret.bool (HX.out.symm) (hbb)
  ·obtain rfl:k=n:=by omega
   have HA:=Lib.hid (show g.all bB=true by have:=HE.out;rwa [List.take_of_length_le (by rw [← L.out];exact Nat.le_refl _)] at this);have HX:=Lib.hid (show Y=inB (k:Int) 1 5 by rw [HY.out,aF,HA.out,← L.out,Bool.true_and];unfold inB;rw [Bool.eq_iff_iff];simp;omega);go_wp2_with fail;refine (JC _ _ _ _).mono ?_;rintro e w3 ⟨rfl,hb3⟩;go_wp2;go_ret;exact Ret.bool (HX.out.symm) (hb.then hb3)
set_option maxHeartbeats 400000 in
theorem qE (w:World) (l:List gA) (g:List (List kA)) (v u:Value) (h:Rd MA w l [v]) (h':Rd dD w g [u]):Calls Tryz.prog 138 #[v,u] w (Ret w (.bool (sC l g))):=by
 go_enter Tryz.func138,Tryz.ntmps138;go_wp2_with fail;refine (TQ _ l _ h).mono ?_;rintro e w2 ⟨rfl,hb2⟩;rcases Bool.eq_false_or_eq_true (WA l) with e1 | e1
 ·have E:=Lib.hid e1;rw [e1];clear e1;go_wp2_with fail;refine (lY _ g _ (h'.bw dC hb2)).mono ?_;rintro e w3 ⟨rfl,hb3⟩;go_wp2;go_ret;exact Ret.bool (by rw [sC,E.out];rfl) (hb2.then hb3)
 ·have E:=Lib.hid e1;rw [e1];clear e1;go_wp2;go_ret;exact Ret.bool (by rw [sC,E.out];rfl) (hb2)
set_option maxRecDepth 100000 in
set_option maxHeartbeats 3200000 in
theorem nS (w:World) (l:List gA) (g:List (List kA)) (a b:Int) (v u:Value) (h:Rd MA w l [v]) (h':Rd dD w g [u]) (hP:sC l g=true) (i k:Nat) (x y:gA) (hfa:UA l a=(i:Int)) (hx:l[i]? = some x) (hfb:UA l b=(k:Int)) (hy:l[k]? = some y) :
  Calls Tryz.prog 240 #[v,u,.int .i64 a,.int .i64 b] w (Ret w (.int .i64 (kO g x y))):=by
 obtain ⟨A,n,c,rfl,L0,Lc,Lm⟩:=iA h;unfold maxLen at Lm;have L:=Lib.hid L0;clear L0;obtain ⟨A2,n2,c2,rfl,L20,L2c,L2m⟩:=iA h';unfold maxLen at L2m;have L2:=Lib.hid L20;clear L20;obtain ⟨Y,hY⟩:∃Y,Y=kO g x y:=⟨_,rfl⟩;rw [← hY];have HY:=Lib.hid hY;have n5:n2≤5:=by rw [L2.out];exact (GJ (LH hP)).2
 have n16:n≤16:=by rw [L.out];exact VA (UD hP)
 have hin:i<n:=by rw [L.out];exact (List.getElem?_eq_some_iff.1 hx).1
 have hkn:k<n:=by rw [L.out];exact (List.getElem?_eq_some_iff.1 hy).1
 have HX:=Lib.hid (NA (UD hP) (List.mem_of_getElem? hx));have HYI:=Lib.hid (NA (UD hP) (List.mem_of_getElem? hy));have HG:=Lib.hid (ET (LH hP));have hcall0:=fun W (B:Bw w W)=>QC W l a _ (h.bw jA B)
 have hcall1:=fun W (B:Bw w W)=>QC W l b _ (h.bw jA B)
 have hcall2:=fun W (B:Bw w W)=>qE W l g _ _ (h.bw jA B) (h'.bw dC B)
 rw [hfa] at hcall0;rw [hfb] at hcall1;rw [hP] at hcall2;have C0:=Lib.hid hcall0;have C1:=Lib.hid hcall1;have C2:=Lib.hid hcall2;obtain ⟨ba,oa,Ax,cx,rfl,_,p0,p1,hix⟩:=mB h hx;obtain ⟨_,_,Ay,cy,e,_,q0,q1,hiy⟩:=mB h hy;injection e with e;injection e with e1 e2;subst e1 e2;rw [YA HX.out] at p1 hix;rw [YA HYI.out] at q1 hiy;have j1:(0:Int)≤(i:Int):=by omega
 have j2:(i:Int)<(n:Int):=by omega
 have j3:(0:Int)≤(k:Int):=by omega
 have j4:(k:Int)<(n:Int):=by omega
 have j5:¬((i:Int)<0):=by omega
 have j6:¬((k:Int)<0):=by omega
 clear hY hP hfa hx hfb hy hcall0 hcall1 hcall2 h;go_enter Tryz.func240,Tryz.ntmps240;go_wp2_with fail;refine (C0.out _ (Bw.refl w)).mono ?_;rintro e w1 ⟨rfl,hb1⟩;go_wp2_with fail;refine (C1.out _ hb1).mono ?_;rintro e w2 ⟨rfl,hb2⟩;have B2:=hb1.then hb2;go_wp2_with fail;refine (C2.out _ B2).mono ?_;rintro e w3 ⟨rfl,hb3⟩;have B3:=B2.then hb3;replace p0:=B3.cell p0;replace p1:=B3.cell p1;replace q0:=B3.cell q0;replace q1:=B3.cell q1;replace hix:=Rd.bw dA hix B3;replace hiy:=Rd.bw dA hiy B3;replace h':=h'.bw dC B3;clear hb1 hb2 hb3 B2 C0 C1 C2;go_wp2
 go_loopg [11,34] n2 (fun gh s t w'=>∃(j:Nat) (q:Int),j≤n2∧gh=n2-j∧t=.int .i64 j∧s=.int .i64 q∧0≤q∧q≤j∧Hid (q=WI (fun e=>decide (CC e x y=1)) g j)∧Bw w3 w')
 case atStart=>exact ⟨0,0,by omega,rfl,rfl,rfl,by omega,by omega,Lib.hid rfl,Bw.refl _⟩
 case round=>
  obtain ⟨j,q,hj,rfl,rfl,rfl,q0',q1',HQ,hb⟩:=hrel;by_cases hlt:j<n2
  ·obtain ⟨e,he⟩:=rA (xs:=g) (k:=j) (by have:=L2.out;omega);obtain ⟨b,o,A',c',rfl,_,d0,hie⟩:=lK h' he;replace d0:=hb.cell d0;have m0:=hb.cell p0;have m1:=hb.cell p1;have m2:=hb.cell q0;have m3:=hb.cell q1;have i1:(0:Int)≤(j:Int):=by omega
   have i2:(j:Int)<(n2:Int):=by omega
   have HE:=Lib.hid (HG.out e (List.mem_of_getElem? he));have HYES:=Lib.hid (fun hc=>tU (f:=fun e=>decide (CC e x y=1)) he hc);have HNO:=Lib.hid (fun hc=>kY (f:=fun e=>decide (CC e x y=1)) he hc);have s0:=qA m0;have s1:=qA m1;have s2:=qA m2;have s3:=qA m3;have hcall:∀s:GC wr,Calls Tryz.prog 78 _ s.1 (Ret s.1 (.int .i64 (CC e x y))):=fun s=>FG _ e x y _ _ _ (Rd.bw lA hie (hb.then s.bw)) (Rd.bw dA hix (hb.then s.bw)) (Rd.bw dA hiy (hb.then s.bw)) HE.out HX.out HYI.out
   obtain ⟨M,hM⟩:∃M,M=e.length:=⟨_,rfl⟩;rw [← hM] at d0 hcall;obtain ⟨r,hr⟩:∃r,r=CC e x y:=⟨_,rfl⟩;rw [← hr] at hcall;have HR:=Lib.hid hr;have HH:=Lib.hid h';clear he hie hM hr h' m0 m1 m2 m3;by_cases hr1:r=1
   ·have e1:(r==1)=true:=by simpa using hr1
    have HX2:=Lib.hid (show q+1=WI (fun e=>decide (CC e x y=1)) g (j+1) by rw [HYES.out (by rw [← HR.out,hr1];rfl),HQ.out]);clear hr1;go_wp2;refine mA (by kernel_rfl) (by kernel_rfl) ?_
    repeat (first | go_big_quiet_skip | (go_big_quiet_want;go_big_quiet_op;first | go_big_quiet_on | (apply Exists.intro;refine ⟨fun _=>?_,?_⟩;(· (((first | (go_at_call 78;exact GA (hcall _))))));go_big_quiet_on)))
    refine wpQuiet_nil ?_;rintro ⟨wq,hbq⟩;dsimp only at *;have h':=HH.out;have hbb:=hb.then hbq;clear hcall s0 s1 s2 s3;go_wp2
    go_roundg (n2-(j+1))
    case measure=>omega
    case rel=>exact ⟨j+1,q+1,by omega,rfl,by go_num,by go_num,by omega,by omega,HX2,hbb⟩
   ·have e1:(r==1)=false:=by simpa using hr1
    have HX2:=Lib.hid (show q=WI (fun e=>decide (CC e x y=1)) g (j+1) by rw [HNO.out (by rw [← HR.out];exact decide_eq_false hr1),HQ.out]);clear hr1;go_wp2;refine mA (by kernel_rfl) (by kernel_rfl) ?_
    repeat (first | go_big_quiet_skip | (go_big_quiet_want;go_big_quiet_op;first | go_big_quiet_on | (apply Exists.intro;refine ⟨fun _=>?_,?_⟩;(· (((first | (go_at_call 78;exact GA (hcall _))))));go_big_quiet_on)))
    refine wpQuiet_nil ?_;rintro ⟨wq,hbq⟩;dsimp only at *;have h':=HH.out;have hbb:=hb.then hbq;clear hcall s0 s1 s2 s3;go_wp2
    go_roundg (n2-(j+1))
    case measure=>omega
    case rel=>exact ⟨j+1,q,by omega,rfl,by go_num,rfl,by omega,by omega,HX2,hbb⟩
  ·obtain rfl:j=n2:=by omega
   have HF:=Lib.hid (show q=Y by rw [HY.out,HQ.out,kO,← L2.out]);clear HQ;go_wp2;go_ret;exact Ret.int HF.out (B3.then hb)
set_option maxRecDepth 100000 in
set_option maxHeartbeats 1600000 in
theorem GT (w:World) (l:List gA) (g:List (List kA)) (a b:Int) (v u:Value) (h:Rd MA w l [v]) (h':Rd dD w g [u]) (hno:(sC l g && (decide (0≤UA l a) && decide (0≤UA l b)))=false) :
  Calls Tryz.prog 240 #[v,u,.int .i64 a,.int .i64 b] w (Ret w (.int .i64 0)):=by
 obtain ⟨A,n,c,rfl,L0,Lc,Lm⟩:=iA h;unfold maxLen at Lm;have L:=Lib.hid L0;clear L0;obtain ⟨A2,n2,c2,rfl,L20,L2c,L2m⟩:=iA h';unfold maxLen at L2m;have L2:=Lib.hid L20;clear L20;have hcall0:=fun W (B:Bw w W)=>QC W l a _ (h.bw jA B)
 have hcall1:=fun W (B:Bw w W)=>QC W l b _ (h.bw jA B)
 have hcall2:=fun W (B:Bw w W)=>qE W l g _ _ (h.bw jA B) (h'.bw dC B)
 obtain ⟨K,hK⟩:∃K,K=UA l a:=⟨_,rfl⟩;obtain ⟨J,hJ⟩:∃J,J=UA l b:=⟨_,rfl⟩;rw [← hK] at hcall0 hno;rw [← hJ] at hcall1 hno;have C0:=Lib.hid hcall0;have C1:=Lib.hid hcall1;have C2:=Lib.hid hcall2;clear hK hJ hcall0 hcall1 hcall2 h h';rcases Bool.eq_false_or_eq_true (sC l g) with hP | hP
 ·rw [hP] at hno;have D2:=C2.out;rw [hP] at D2;have E2:=Lib.hid D2;clear hP D2 C2;by_cases hk:K<0
  ·clear hno;go_enter Tryz.func240,Tryz.ntmps240;go_wp2_with fail;refine (C0.out _ (Bw.refl w)).mono ?_;rintro e w1 ⟨rfl,hb1⟩;go_wp2_with fail;refine (C1.out _ hb1).mono ?_;rintro e w2 ⟨rfl,hb2⟩;go_wp2_with fail;refine (E2.out _ (hb1.then hb2)).mono ?_;rintro e w3 ⟨rfl,hb3⟩;go_wp2;go_ret;exact Ret.int (rfl) ((hb1.then hb2).then hb3)
  ·have hj:J<0:=by
    rw [decide_eq_true (show 0≤K by omega)] at hno
    simpa using hno
   clear hno;go_enter Tryz.func240,Tryz.ntmps240;go_wp2_with fail;refine (C0.out _ (Bw.refl w)).mono ?_;rintro e w1 ⟨rfl,hb1⟩;go_wp2_with fail;refine (C1.out _ hb1).mono ?_;rintro e w2 ⟨rfl,hb2⟩;go_wp2_with fail;refine (E2.out _ (hb1.then hb2)).mono ?_;rintro e w3 ⟨rfl,hb3⟩;go_wp2;go_ret;exact Ret.int (rfl) ((hb1.then hb2).then hb3)
 ·have D2:=C2.out;rw [hP] at D2;have E2:=Lib.hid D2;clear hP D2 C2 hno;go_enter Tryz.func240,Tryz.ntmps240;go_wp2_with fail;refine (C0.out _ (Bw.refl w)).mono ?_;rintro e w1 ⟨rfl,hb1⟩;go_wp2_with fail;refine (C1.out _ hb1).mono ?_;rintro e w2 ⟨rfl,hb2⟩;go_wp2_with fail;refine (E2.out _ (hb1.then hb2)).mono ?_;rintro e w3 ⟨rfl,hb3⟩;go_wp2;go_ret;exact Ret.int (rfl) ((hb1.then hb2).then hb3)
theorem aAd (w:World) (l:List gA) (g:List (List kA)) (a b:Int) (v u:Value) (h:Rd MA w l [v]) (h':Rd dD w g [u]) :
  Calls Tryz.prog 240 #[v,u,.int .i64 a,.int .i64 b] w (Ret w (.int .i64 (NE l g a b))):=by
 rcases Bool.eq_false_or_eq_true (sC l g && (decide (0≤UA l a) && decide (0≤UA l b))) with hc | hc
 ·have h1:=hc;rw [Bool.and_eq_true,Bool.and_eq_true,decide_eq_true_eq,decide_eq_true_eq] at h1;rcases PB l a with ⟨hK,_⟩ | ⟨i,x,hK,hx,_⟩
  ·have:=h1.2.1;omega
  ·rcases PB l b with ⟨hJ,_⟩ | ⟨k,y,hJ,hy,_⟩
   ·have:=h1.2.2;omega
   ·have:=nS w l g a b v u h h' h1.1 i k x y hK hx hJ hy;rw [show NE l g a b=kO g x y by rw [NE,if_pos hc,KE hK hx,KE hJ hy]];exact this
 ·have:=GT w l g a b v u h h' hc;rw [show NE l g a b=0 by rw [NE,hc];rfl];exact this
end Go.Proofs.YtpihighajaeabaaGreat
