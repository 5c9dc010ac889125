/- ReplaceItem, in both programs. -/
import Derived.Test.YtpihighajaeabaaGreatQConA
import Derived.Test.YtpihighajaeabaaGreatQCopies
namespace Go.Proofs.YtpihighajaeabaaGreat
open Go.RowKit
set_option linter.unusedVariables false
set_option linter.unusedSimpArgs false
def st0:CS:=⟨⟨[],[],[],0⟩,false,[]⟩
def MD (text:ByteArray):List ByteArray:=match (mG text 10).getLast? with
 | some t=>if t.size=0 then (mG text 10).dropLast else mG text 10
 | none=>mG text 10
noncomputable def PS (text:ByteArray):ByteArray:=if 3000<text.size then ⟨#[]⟩ else if 60<(MD text).length then ⟨#[]⟩ else GH st0 (MD text)
theorem gAd:okS ⟨[],[],[],0⟩:=⟨⟨by decide,by decide,by decide⟩,.inr rfl⟩
theorem ZY (W:World) (S:XB):MA W S [] [.slice none 0 0]:=⟨none,0,rfl,Nat.le_refl _,Nat.zero_le _,fun k x hx=>by simp at hx⟩
theorem aZ (W:World) (S:XB):RA W S [] [.slice none 0 0]:=⟨none,0,rfl,Nat.le_refl _,Nat.zero_le _,fun k x hx=>by simp at hx⟩
theorem bA4 (W:World) (S:XB):XA W S [] [.slice none 0 0]:=⟨none,0,rfl,Nat.le_refl _,Nat.zero_le _,fun k x hx=>by simp at hx⟩
theorem StP.zero {L:Lay} {b:Nat} {W:World} (hb:Box W b (L (.slice none 0 0) (.slice none 0 0) (.slice none 0 0) (.int .i64 0) (.bool false) (.slice none 0 0))):StP L b W st0:=
 ⟨fun _=>False,[],_,_,_,_,hb,fun _ h=>h.elim,ZY _ _,aZ _ _,bA4 _ _,WC W,pA.nil,by simp,gAd,by decide⟩
theorem StP.facts {L:Lay} {b:Nat} {W:World} {m:CS} (h:StP L b W m):okS m.s∧m.voters.length≤5∧b<W.heap.size:=by
 obtain ⟨S,FV,_,_,_,_,h⟩:=h;exact ⟨h.small,h.five,h.box.lt⟩
theorem StP.bw {L:Lay} {b:Nat} {W W':World} {m:CS} (h:StP L b W m) (hb:Bw W W'):StP L b W' m:=by
 obtain ⟨S,FV,vi,vw,vb,vv,h⟩:=h;exact ⟨S,FV,vi,vw,vb,vv,h.bw hb⟩
theorem QU {m:CS} {ls:List ByteArray} {k:Nat} {t:ByteArray} (h:ls[k]? = some t) (ht:t.size=0):GH m (ls.drop k)=GH m (ls.drop (k+1)):=by rw [NB h,GH,if_pos ht]
theorem RU {m:CS} {ls:List ByteArray} {k:Nat} {t:ByteArray} (h:ls[k]? = some t) (ht:¬t.size=0):GH m (ls.drop k)=(oI m t).1++⟨#[10]⟩++GH (oI m t).2 (ls.drop (k+1)):=by rw [NB h,GH,if_neg ht]
theorem bK (s:ByteArray):⟨#[]⟩++s=s:=yH (by rw [cB];rfl)
theorem bA5 (s:ByteArray):s++⟨#[]⟩=s:=yH (by rw [cB];exact List.append_nil _)
theorem SU (a b c d:ByteArray):a++(b++c++d)=a++b++c++d:=yH (by simp only [cB,List.append_assoc])
theorem TU {text t:ByteArray} (h:t∈MD text):t.size≤text.size:=by
 unfold MD at h
 split at h
 ·split at h
  ·exact OR (by rw [List.dropLast_eq_take] at h;exact List.mem_of_mem_take h)
  ·exact OR h
 ·exact OR h
theorem bZ {text t:ByteArray} {n:Nat} (hn:n=(mG text 10).length) (h:(mG text 10)[n-1]? = some t):MD text=if t.size=0 then (mG text 10).take (n-1) else mG text 10:=by
 unfold MD;rw [List.getLast?_eq_getElem?,← hn,h,List.dropLast_eq_take,← hn]
set_option maxRecDepth 100000 in
set_option maxHeartbeats 1600000 in
theorem yW (w:World) (text:ByteArray):Calls Tryz.prog 65 #[.string text] w (Ret w (.string (PS text))):=by
 obtain ⟨Y,hY⟩:∃Y,Y=PS text:=⟨_,rfl⟩;rw [← hY];by_cases h3:3000<text.size
 ·have i1:(3000:Int)<(text.size:Int):=by omega
  have HY:=Lib.hid (show ⟨#[]⟩=Y from by rw [hY];unfold PS;rw [if_pos h3]);clear hY h3;go_enter Tryz.func65,Tryz.ntmps65;go_wp2;go_ret;exact Ret.str HY.out (Bw.refl _)
 have i1:¬(3000:Int)<(text.size:Int):=by omega
 by_cases h0:text.size=0
 ·have e0:=pJ h0;have HY:=Lib.hid (show ⟨#[]⟩=Y from by
   have:MD text=[]:=by unfold MD;rw [VZ h0];rfl
   rw [hY];unfold PS;rw [if_neg h3,this];rfl)
  clear hY h3 h0;go_enter Tryz.func65,Tryz.ntmps65;go_wp2;go_ret;exact Ret.str HY.out (Bw.refl _)
 have e0:text.toList.isEmpty=false:=yJ (by omega);have k1:=MR w text ⟨#[10]⟩ (by omega) (by decide) (by decide);rw [OJ] at k1;obtain ⟨X,hX⟩:∃X,X=mG text 10:=⟨_,rfl⟩;rw [← hX] at k1;have HX:=Lib.hid hX;have HY0:=Lib.hid hY;have H3:=Lib.hid h3;clear hX hY h0 h3;go_enter Tryz.func65,Tryz.ntmps65;go_wp2_with fail;refine k1.mono ?_;rintro e w1 ⟨v1,rfl,⟨F1,o1,f1⟩,hb1⟩;clear k1;have r1:=PD o1;obtain ⟨A,n,c,rfl,l1,hc1,hc2⟩:=iA r1;unfold maxLen at hc2;have hpos:0<n:=by
  rw [l1,HX.out];unfold mG;rw [List.length_map];exact List.length_pos_iff.2 (wV _ _ _)
 obtain ⟨q,rfl⟩:∃q,n=q+1:=⟨n-1,by omega⟩;obtain ⟨t,ht⟩:=rA (xs:=X) (k:=q) (by omega);obtain ⟨ba,oa,rfl,_,hct⟩:=cE r1 ht;have hls0:=bZ (text:=text) (n:=q+1) (by rw [← HX.out];exact l1) (by rw [← HX.out];exact ht);rw [← HX.out] at hls0;have L1:=Lib.hid l1;have HLS:=Lib.hid hls0;clear l1 ht hls0 o1;have hwq:IntKind.i64.wrap (((q+1:Nat):Int)-1)=(q:Int):=by simp [IntKind.wrap,IntKind.bits,IntKind.signed];omega
 have i2:(0:Int)≤(q:Int):=by omega
 have i3:(q:Int)<((q+1:Nat):Int):=by omega
 have i4:(q:Int)≤(c:Int):=by omega
 have hY:=HY0.out;have h3:=H3.out;by_cases ht0:t.size=0
 ·have e1:=pJ ht0;have hls:MD text=X.take q:=by rw [HLS.out,if_pos ht0];rfl
  have r2:Rd OQ w1 (X.take q) [.slice (some ⟨ba,oa,none⟩) q c]:=by
   have:=UH (i:=0) (k:=q) r1 L1.out (show X=[]++(X.take q++X.drop q) by simp) (by simp) (by rw [List.length_take,← L1.out];simp);rw [Nat.zero_mul,Nat.add_zero,Nat.sub_zero,Nat.sub_zero] at this;exact this
  have LL:=Lib.hid (show q=(X.take q).length from by rw [List.length_take,← L1.out];omega);obtain ⟨P,hP⟩:∃P,P=X.take q:=⟨_,rfl⟩;rw [← hP] at r2 LL hls;clear hP ht0 r1;have HLM:=Lib.hid (show ∀t∈P,t.size≤1048576 from fun t ht=>by have:=TU (text:=text) (t:=t) (hls▸ht);omega);by_cases h60:60<q
  ·have i6:(60:Int)<((q:Nat):Int):=by omega
   have HYY:=Lib.hid (show ⟨#[]⟩=Y from by rw [hY];unfold PS;rw [if_neg h3,hls,if_pos (by rw [← LL.out];exact h60)]);clear hY hls h60 h3;go_wp2;go_ret;exact Ret.str HYY.out hb1
  ·have i6:¬(60:Int)<((q:Nat):Int):=by omega
   have HYY:=Lib.hid (show Y=GH st0 P from by rw [hY];unfold PS;rw [if_neg h3,hls,if_neg (by rw [← LL.out];exact h60)]);have HN:=Lib.hid (show q≤60 from by omega);clear hY hls h60 h3;go_wp2;have B0:Bw w1 ((w1.alloc (.cells #[.bool false,.slice none 0 0,.slice none 0 0,.slice none 0 0,.int .i64 0,.slice none 0 0] 141))):=(Bw.refl w1).alloc _;have hst0:=StP.zero (L:=LI) (Box.new w1 #[.bool false,.slice none 0 0,.slice none 0 0,.slice none 0 0,.int .i64 0,.slice none 0 0] 141)
   go_loopg [5,7,36] (q+1) (fun gg o l7 i w'=>∃(k:Nat) (out:ByteArray) (m:CS),k≤q∧gg=q-k+1∧o=.string out∧i=.int .i64 (k:Int)∧StP LI w1.heap.size w' m∧Bw w1 w'∧out.size≤10001*k∧Hid (Y=out++GH m (P.drop k)))
   case atStart=>exact ⟨0,⟨#[]⟩,st0,by omega,by omega,rfl,rfl,hst0,B0,by decide,Lib.hid (by rw [HYY.out,List.drop_zero];exact (bK _).symm)⟩
   case round=>
    obtain ⟨k,out,m,hk,rfl,rfl,rfl,hst,hb,hos,HI⟩:=hrel;clear hst0 B0;by_cases hlt:k<q
    ·have i7:(k:Int)<((q:Nat):Int):=by omega
     have i8:(0:Int)≤(k:Int):=by omega
     obtain ⟨x,hx⟩:=rA (xs:=P) (k:=k) (by rw [← LL.out];exact hlt);obtain ⟨b2,o2,e2,_,hcx⟩:=cE (r2.bw tG hb) hx;simp at e2;obtain ⟨rfl,rfl⟩:=e2;by_cases hz:x.size=0
     ·have e3:=pJ hz;have HI2:=Lib.hid (show Y=out++GH m (P.drop (k+1)) from by rw [HI.out,QU hx hz]);clear hz hx;go_wp2
      go_roundg (q-(k+1)+1)
      case measure=>omega
      case rel=>exact ⟨k+1,out,m,by omega,rfl,rfl,by go_num,hst,hb,by omega,HI2⟩
     ·have e3:x.toList.isEmpty=false:=yJ (by omega);have hc:=YY wr w1.heap.size m x hst (HLM.out x (List.mem_of_getElem? hx));have hrl:=RU (m:=m) hx hz;obtain ⟨hok,hfive,_⟩:=hst.facts;have hsz:=UY m x hok hfive;obtain ⟨RR,hRR⟩:∃RR,RR=oI m x:=⟨_,rfl⟩;rw [← hRR] at hc hrl hsz;obtain ⟨Z,m2⟩:=RR;dsimp only at hc hrl hsz;have HN2:=HN.out;have a1:∀W,(Op.stringOp .add out Z).run Tryz.prog W=.ok (.string (out++Z)) W:=fun W=>run_string_add_sum W _ _ (by omega)
      have z1:(⟨#[10]⟩:ByteArray).size=1:=rfl;have a2:∀W,(Op.stringOp .add (out++Z) ⟨#[10]⟩).run Tryz.prog W=.ok (.string (out++Z++⟨#[10]⟩)) W:=fun W=>run_string_add_sum W _ _ (by rw [cA,z1];omega)
      have HI2:=Lib.hid (show Y=out++Z++⟨#[10]⟩++GH m2 (P.drop (k+1)) from by rw [HI.out,hrl];exact SU _ _ _ _);have HSZ:=Lib.hid (show (out++Z++⟨#[10]⟩:ByteArray).size≤10001*(k+1) from by rw [cA,cA,z1];omega);clear hz hx hrl hsz hRR hok hfive hos HN2 z1 hst;go_wp2_with fail;refine hc.mono ?_;rintro e w5 ⟨rfl,hst5,hb5⟩;clear hc;dsimp only at hst5 ⊢;have hb6:Bw w1 w5:=Below.trans hb hb5;go_wp2
      go_roundg (q-(k+1)+1)
      case measure=>omega
      case rel=>exact ⟨k+1,out++Z++⟨#[10]⟩,m2,by omega,rfl,rfl,by go_num,hst5,hb6,HSZ.out,HI2⟩
    ·have i7:¬(k:Int)<((q:Nat):Int):=by omega
     have HI2:=Lib.hid (show out=Y from by rw [HI.out,List.drop_of_length_le (by rw [← LL.out];omega),GH];exact (bA5 _).symm);clear hlt hst;go_wp2;go_ret;exact Ret.str HI2.out (hb1.then hb)
 ·have e1:t.toList.isEmpty=false:=yJ (by omega);have hls:MD text=X:=by rw [HLS.out,if_neg ht0]
  have r2:=r1;have LL:=L1;clear ht0 r1;have HLM:=Lib.hid (show ∀t∈X,t.size≤1048576 from fun t ht=>by have:=TU (text:=text) (t:=t) (hls▸ht);omega);by_cases h60:60<(q+1)
  ·have i6:(60:Int)<(((q+1):Nat):Int):=by omega
   have HYY:=Lib.hid (show ⟨#[]⟩=Y from by rw [hY];unfold PS;rw [if_neg h3,hls,if_pos (by rw [← LL.out];exact h60)]);clear hY hls h60 h3;go_wp2;go_ret;exact Ret.str HYY.out hb1
  ·have i6:¬(60:Int)<(((q+1):Nat):Int):=by omega
   have HYY:=Lib.hid (show Y=GH st0 X from by rw [hY];unfold PS;rw [if_neg h3,hls,if_neg (by rw [← LL.out];exact h60)]);have HN:=Lib.hid (show (q+1)≤60 from by omega);clear hY hls h60 h3;go_wp2;have B0:Bw w1 ((w1.alloc (.cells #[.bool false,.slice none 0 0,.slice none 0 0,.slice none 0 0,.int .i64 0,.slice none 0 0] 141))):=(Bw.refl w1).alloc _;have hst0:=StP.zero (L:=LI) (Box.new w1 #[.bool false,.slice none 0 0,.slice none 0 0,.slice none 0 0,.int .i64 0,.slice none 0 0] 141)
   go_loopg [5,7,36] ((q+1)+1) (fun gg o l7 i w'=>∃(k:Nat) (out:ByteArray) (m:CS),k≤(q+1)∧gg=(q+1)-k+1∧o=.string out∧i=.int .i64 (k:Int)∧StP LI w1.heap.size w' m∧Bw w1 w'∧out.size≤10001*k∧Hid (Y=out++GH m (X.drop k)))
   case atStart=>exact ⟨0,⟨#[]⟩,st0,by omega,by omega,rfl,rfl,hst0,B0,by decide,Lib.hid (by rw [HYY.out,List.drop_zero];exact (bK _).symm)⟩
   case round=>
    obtain ⟨k,out,m,hk,rfl,rfl,rfl,hst,hb,hos,HI⟩:=hrel;clear hst0 B0;by_cases hlt:k<(q+1)
    ·have i7:(k:Int)<(((q+1):Nat):Int):=by omega
     have i8:(0:Int)≤(k:Int):=by omega
     obtain ⟨x,hx⟩:=rA (xs:=X) (k:=k) (by rw [← LL.out];exact hlt);obtain ⟨b2,o2,e2,_,hcx⟩:=cE (r2.bw tG hb) hx;simp at e2;obtain ⟨rfl,rfl⟩:=e2;by_cases hz:x.size=0
     ·have e3:=pJ hz;have HI2:=Lib.hid (show Y=out++GH m (X.drop (k+1)) from by rw [HI.out,QU hx hz]);clear hz hx;go_wp2
      go_roundg ((q+1)-(k+1)+1)
      case measure=>omega
      case rel=>exact ⟨k+1,out,m,by omega,rfl,rfl,by go_num,hst,hb,by omega,HI2⟩
     ·have e3:x.toList.isEmpty=false:=yJ (by omega);have hc:=YY wr w1.heap.size m x hst (HLM.out x (List.mem_of_getElem? hx));have hrl:=RU (m:=m) hx hz;obtain ⟨hok,hfive,_⟩:=hst.facts;have hsz:=UY m x hok hfive;obtain ⟨RR,hRR⟩:∃RR,RR=oI m x:=⟨_,rfl⟩;rw [← hRR] at hc hrl hsz;obtain ⟨Z,m2⟩:=RR;dsimp only at hc hrl hsz;have HN2:=HN.out;have a1:∀W,(Op.stringOp .add out Z).run Tryz.prog W=.ok (.string (out++Z)) W:=fun W=>run_string_add_sum W _ _ (by omega)
      have z1:(⟨#[10]⟩:ByteArray).size=1:=rfl;have a2:∀W,(Op.stringOp .add (out++Z) ⟨#[10]⟩).run Tryz.prog W=.ok (.string (out++Z++⟨#[10]⟩)) W:=fun W=>run_string_add_sum W _ _ (by rw [cA,z1];omega)
      have HI2:=Lib.hid (show Y=out++Z++⟨#[10]⟩++GH m2 (X.drop (k+1)) from by rw [HI.out,hrl];exact SU _ _ _ _);have HSZ:=Lib.hid (show (out++Z++⟨#[10]⟩:ByteArray).size≤10001*(k+1) from by rw [cA,cA,z1];omega);clear hz hx hrl hsz hRR hok hfive hos HN2 z1 hst;go_wp2_with fail;refine hc.mono ?_;rintro e w5 ⟨rfl,hst5,hb5⟩;clear hc;dsimp only at hst5 ⊢;have hb6:Bw w1 w5:=Below.trans hb hb5;go_wp2
      go_roundg ((q+1)-(k+1)+1)
      case measure=>omega
      case rel=>exact ⟨k+1,out++Z++⟨#[10]⟩,m2,by omega,rfl,rfl,by go_num,hst5,hb6,HSZ.out,HI2⟩
    ·have i7:¬(k:Int)<(((q+1):Nat):Int):=by omega
     have HI2:=Lib.hid (show out=Y from by rw [HI.out,List.drop_of_length_le (by rw [← LL.out];omega),GH];exact (bA5 _).symm);clear hlt hst;go_wp2;go_ret;exact Ret.str HI2.out (hb1.then hb)
end Go.Proofs.YtpihighajaeabaaGreat
namespace Go.Proofs.YtpihighajaeabaaGreat
open Go.RowKit
set_option linter.unusedVariables false
set_option linter.unusedSimpArgs false
def NL (s:ByteArray):Prop:=∀x∈bl s,x≠10
theorem NL.app {a b:ByteArray} (ha:NL a) (hb:NL b):NL (a++b):=fun x hx=>by
 rw [cB,List.mem_append] at hx;exact hx.elim (ha x) (hb x)
theorem vN (n:Int):NL (EA n):=fun x hx=>by
 obtain ⟨ds,_,h2,_,h4⟩:=fP n;rw [h4] at hx
 split at hx
 ·rcases List.mem_cons.1 hx with rfl | hx
  ·decide
  ·exact iH (h2 x hx) (by decide)
 ·exact iH (h2 x hx) (by decide)
theorem QS {l:List ByteArray} {sep:ByteArray} (hl:∀t∈l,NL t) (hs:NL sep):NL (mE l sep):=fun x hx=>by
 rw [QI] at hx;rcases aO hx with h | ⟨p,hp,hx⟩
 ·exact hs x h
 ·obtain ⟨t,ht,rfl⟩:=List.mem_map.1 hp;exact hl t ht x hx
theorem gAe (l:List Int) {sep:ByteArray} (hs:NL sep):NL (MB l sep):=QS (fun t ht=>by
 obtain ⟨v,_,rfl⟩:=List.mem_map.1 (show t∈l.map EA from ht);exact vN v) hs
theorem zW:NL ⟨#[]⟩:=by unfold NL;decide
theorem gAf (l:List lB):NL (sB l):=by
 unfold sB
 split
 ·split
  ·unfold NL;decide
  ·refine QS (fun t ht=>?_) (by unfold NL;decide);obtain ⟨p,_,rfl⟩:=List.mem_map.1 (show t∈l.map sD from ht);exact ((vN _).app (by unfold NL;decide)).app (vN _)
 ·exact zW
theorem iA2 (x:eB):NL (JA x):=by
 have hh:NL (AB x):=by
  refine NL.app (NL.app ?_ (by unfold NL;decide)) (vN _);unfold bD
  repeat' split
  all_goals (unfold NL;decide)
 have hs:NL ⟨#[32]⟩:=by unfold NL;decide
 unfold JA
 repeat' split
 ·exact (hh.app hs).app (vN _)
 ·exact (hh.app hs).app (gAe _ (by unfold NL;decide))
 ·exact (hh.app hs).app (gAf _)
 ·exact hh
 ·exact zW
theorem iA3 (n:kA):NL (oC n):=by
 unfold oC
 split
 ·exact iA2 _
 ·unfold vE
  repeat' split
  all_goals (unfold NL;decide)
theorem iA4 (e:List kA):NL (JB e):=by
 unfold JB
 split
 ·refine QS (fun t ht=>?_) (by unfold NL;decide);obtain ⟨n,_,rfl⟩:=List.mem_map.1 (show t∈e.map oC from ht);exact iA3 n
 ·exact zW
def gAg (ls:List ByteArray):Nat:=(ls.filter (fun t=>decide (¬t.size=0))).length
noncomputable def BQ:CS→List ByteArray→CS
 | m,[]=>m
 | m,l::ls=>if l.size=0 then BQ m ls else BQ (oI m l).2 ls
theorem RS:∀(a b:List ByteArray) (m:CS),GH m (a++b)=GH m a++GH (BQ m a) b
 | [],b,m=>(bK _).symm
 | l::a,b,m=>by
  rw [List.cons_append,GH,GH,BQ];by_cases h:l.size=0
  ·rw [if_pos h,if_pos h,if_pos h,RS a b m]
  ·rw [if_neg h,if_neg h,if_neg h,RS a b _];exact yH (by simp only [cB,List.append_assoc])
theorem EW {c:UInt8}:∀(a b pre:List UInt8) (done:List (List UInt8)) (p:List UInt8),WE c pre a=done++[p]→WE c pre (a++b)=done++WE c p b
 | [],b,pre,done,p,h=>by
  rw [WE] at h;have h2:=congrArg List.length h;simp at h2;subst h2;simp at h;subst h;rfl
 | x::a,b,pre,done,p,h=>by
  rw [List.cons_append,WE];rw [WE] at h;by_cases hx:x=c
  ·rw [if_pos hx] at h ⊢
   cases done with
   | nil=>
    have h2:=congrArg List.length h;have:=List.length_pos_iff.2 (wV c [] a);simp at h2;rw [h2] at this;simp at this
   | cons d done=>
    rw [List.cons_append,List.cons.injEq] at h;rw [EW a b [] done p h.2,h.1];rfl
  ·rw [if_neg hx] at h ⊢;exact EW a b _ done p h
def SS (d:List (List UInt8)):Nat:=(d.filter (fun t=>decide (¬t=[]))).length
theorem bA6 (d:List (List UInt8)) (p:List UInt8):SS (d++[p])=if p=[] then SS d else SS d+1:=by
 unfold SS;rw [List.filter_append,List.length_append];by_cases h:p=[]
 ·simp [h]
 ·simp [h]
theorem eA7 (d:List (List UInt8)):gAg (d.map mkS)=SS d:=by
 unfold gAg SS;rw [List.filter_map,List.length_map]
 congr 2
 funext t
 have h:(mkS t).size=0↔t=[]:=by rw [YN];exact List.length_eq_zero_iff
 exact decide_eq_decide.2 (not_congr h)
def bA7 (L:List UInt8) (k i lines full frm cut:Nat):Prop:=∃(done:List (List UInt8)) (pre:List UInt8),WE 10 [] (L.take i)=done++[pre]∧lines=done.length∧full=SS done∧frm+pre.length=i ∧
 ((lines<k∧cut=0)∨(k≤lines∧cut≤i∧WE 10 [] (L.take cut)=done.take k++[[]]))
theorem bA7.start (L:List UInt8) {k:Nat} (hk:0<k):bA7 L k 0 0 0 0 0:=⟨[],[],rfl,rfl,rfl,rfl,.inl ⟨hk,rfl⟩⟩
theorem bA7.line {L:List UInt8} {k i lines full frm cut:Nat} (h:bA7 L k i lines full frm cut) (hx:L[i]? = some 10):bA7 L k (i+1) (lines+1) (if frm<i then full+1 else full) (i+1) (if lines+1=k then i+1 else cut):=by
 obtain ⟨done,pre,h1,h2,h3,h4,h5⟩:=h;have e:WE 10 [] (L.take (i+1))=done++[pre]++[[]]:=by
  rw [List.take_add_one,hx];show WE 10 [] (L.take i++[10])=_
  rw [EW _ _ _ _ _ h1,WE,if_pos rfl,WE,List.append_assoc];rfl
 refine ⟨done++[pre],[],e,by rw [List.length_append,h2];rfl,?_,by simp,?_⟩
 ·rw [bA6,← h3];by_cases hp:pre=[]
  ·rw [if_pos hp,if_neg (by rw [hp] at h4;simp at h4;omega)]
  ·rw [if_neg hp,if_pos (by have:=List.length_pos_iff.2 hp;omega)]
 ·rcases h5 with ⟨a,b⟩ | ⟨a,b,c⟩
  ·by_cases hk:lines+1=k
   ·rw [if_pos hk];refine .inr ⟨by omega,Nat.le_refl _,?_⟩;rw [e,List.take_of_length_le (l:=done++[pre]) (by rw [List.length_append];simp;omega)]
   ·rw [if_neg hk];exact .inl ⟨by omega,b⟩
  ·rw [if_neg (by omega)];refine .inr ⟨by omega,by omega,?_⟩;rw [c,List.take_append_of_le_length (by omega)]
theorem KJ {s:ByteArray} {done:List (List UInt8)} {pre:List UInt8} (h:WE 10 [] (bl s)=done++[pre]):MD s=if pre=[] then done.map mkS else (done++[pre]).map mkS:=by
 unfold MD mG;rw [h];simp only [List.map_append,List.map_cons,List.map_nil,List.getLast?_concat,List.dropLast_concat];have e:(mkS pre).size=0↔pre=[]:=by rw [YN];exact List.length_eq_zero_iff
 by_cases hp:pre=[]
 ·rw [if_pos (e.2 hp),if_pos hp]
 ·rw [if_neg (fun x=>hp (e.1 x)),if_neg hp]
structure iAp (s:ByteArray) (k lines full cut:Nat):Prop where
 lines:lines=(MD s).length
 full:full=gAg (MD s)
 le:cut≤s.size
 cut:cut=0∨MD (s.extract 0 cut)=(MD s).take k
theorem iAp.mk' {s:ByteArray} {k lines full cut:Nat} {done rest:List (List UInt8)} (hl:MD s=(done++rest).map mkS) (h5:(lines<k∧cut=0)∨(k≤lines∧cut≤s.size∧WE 10 [] ((bl s).take cut)=done.take k++[[]])) (hd:lines=done.length):cut≤s.size∧(cut=0∨MD (s.extract 0 cut)=(MD s).take k):=by
 rcases h5 with ⟨_,h⟩ | ⟨a,b,c⟩
 ·exact ⟨by omega,.inl h⟩
 ·refine ⟨b,.inr ?_⟩;rw [KJ (s:=s.extract 0 cut) (done:=done.take k) (pre:=[]) (by rw [BF,List.drop_zero];exact c),if_pos rfl,hl,← List.map_take,List.take_append_of_le_length (by omega)]
theorem bA7.done {s:ByteArray} {k lines full frm cut:Nat} (h:bA7 (bl s) k s.size lines full frm cut) (hf:frm=s.size):iAp s k lines full cut:=by
 obtain ⟨done,pre,h1,h2,h3,h4,h5⟩:=h;rw [List.take_of_length_le (by rw [VC];exact Nat.le_refl _)] at h1;have hp:pre=[]:=List.length_eq_zero_iff.1 (by omega);have hl:=KJ h1;rw [if_pos hp] at hl;have:=iAp.mk' (full:=full) (rest:=[]) (by rw [hl,List.append_nil]) h5 h2;exact ⟨by rw [hl,List.length_map,h2],by rw [hl,eA7,h3],this.1,this.2⟩
end Go.Proofs.YtpihighajaeabaaGreat
namespace Go.Proofs.YtpihighajaeabaaGreat
open Go.RowKit
set_option linter.unusedVariables false
def LF (xs:List gA) (x:gA):List gA:=if 0≤UA xs x.id then xs.set (UA xs x.id).toNat x else xs
set_option maxRecDepth 100000 in
set_option maxHeartbeats 1600000 in
theorem OM (w:World) (xs:List gA) (x:gA) (v vx:Value) (h:Rd MA w xs [v]) (hx:Rd XA w x.vals [vx]) (ht:eC xs≤1048576) (hn:x.vals.length≤1048576) :
  Calls Tryz.prog 63 #[v,.agg #[.int .i64 x.id,vx]] w (BC w (pF fD w.heap.size (LF xs x))):=by
 have B0:Bw w (w.alloc (.cells #[.int .i64 x.id,vx] 30)):=(Bw.refl w).alloc _;have k0:(w.alloc (.cells #[.int .i64 x.id,vx] 30)).cell? ⟨w.heap.size,0,none⟩=some (.int .i64 x.id):=by go_simp
 have k1:(w.alloc (.cells #[.int .i64 x.id,vx] 30)).cell? ⟨w.heap.size,1,none⟩=some vx:=by go_simp
 have h1:=h.bw jA B0;have hx1:=hx.bw dA B0;go_enter Tryz.func63,Tryz.ntmps63;go_wp2_with fail;refine (fAg _ xs _ h1 ht).mono ?_;rintro e w1 ⟨v1,rfl,⟨F,o1,f1⟩,hb1⟩;replace k0:=hb1.cell k0;replace k1:=hb1.cell k1;replace h1:=h1.bw jA hb1;replace hx1:=hx1.bw dA hb1;have B1:=B0.then hb1;replace f1:=f1.mono B0.size;go_wp2_with fail;refine (vG _ xs x.id _ (vC o1)).mono ?_;rintro e w2 ⟨rfl,hb2⟩;replace k0:=hb2.cell k0;replace k1:=hb2.cell k1;replace hx1:=hx1.bw dA hb2;replace o1:=(yA (B:=w.heap.size)).bw hb2 B1.size o1;replace B1:=B1.then hb2;clear h1;rcases PB xs x.id with ⟨hf,_⟩ | ⟨j,y,hf,hj,_⟩
 ·have hE:=Lib.hid (show xs=LF xs x by unfold LF;rw [hf];rfl);rw [hf];clear hf;go_wp2;go_ret;exact ⟨_,rfl,⟨F,by rw [← hE.out];exact o1,f1⟩,B1⟩
 ·have hE:=Lib.hid (show xs.set j x=LF xs x by unfold LF;rw [hf,if_pos (by omega)];rfl);rw [hf];have hjl:j<xs.length:=(List.getElem?_eq_some_iff.1 hj).1;have hxl:xs.length≤1048576:=by unfold eC at ht;omega
  clear hf;go_wp2_with fail;refine (bAn _ x vx (by exact hx1) hn).mono ?_;rintro e w3 ⟨v3,rfl,⟨F3,o3,f3⟩,hb3⟩;have hFm:=(yA (B:=0)).lt o1;replace o1:=(yA (B:=w.heap.size)).bw hb3 B1.size o1;obtain ⟨g,c,rfl,_,_,_⟩:=BN o1 (by omega);obtain ⟨F',hv',hF',hg,hBg,_⟩:=IH (YB (B:=w.heap.size)) o1 f1 (k:=j) (y:=x) (u:=[.int .i64 x.id,v3]) ⟨_,rfl,o3⟩ rfl (m:=w2.heap.size) hFm f3 B1.size hjl;obtain ⟨_,_,_,_,e,_,hcell,hcell1,_⟩:=mB (SL (B:=0) o1) hj;injection e with e;injection e with e1 e2;subst e1 e2;have hfr:=vD o1 (j*2);have hfr1:=vD o1 (j*2+1);simp only [aD] at hv' hg;simp only [Nat.zero_add] at hcell hcell1;obtain ⟨A3,c3,rfl,_⟩:=aB (AA o3);obtain ⟨L,hL⟩:∃L,L=xs.length:=⟨_,rfl⟩;rw [← hL] at hjl hxl hv' ⊢;have HL:=Lib.hid hL;have hb':Bw w ((w3.setCell ⟨g,j*2,none⟩ (.int .i64 x.id)).setCell ⟨g,j*2+1,none⟩ (.slice A3 x.vals.length c3)):=((B1.then hb3).set hBg _).set hBg _;rw [hE.out] at hv';clear hj o1 o3 f3 hFm hL hg hE h hx hx1 ht k0 k1;go_wp2;go_ret;exact ⟨_,rfl,⟨F',hv',hF'⟩,hb'⟩
end Go.Proofs.YtpihighajaeabaaGreat
