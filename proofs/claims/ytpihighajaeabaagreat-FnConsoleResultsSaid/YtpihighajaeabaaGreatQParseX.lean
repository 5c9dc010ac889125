/- Texts that are read as wishes and expressions: what is computed, in plain Lean. -/
import Derived.Test.YtpihighajaeabaaGreatQCopies
import Derived.Test.YtpihighajaeabaaGreatQCopyW
import Derived.Test.YtpihighajaeabaaGreatQBestS
import Derived.Test.YtpihighajaeabaaGreatQLines2
import Derived.Test.YtpihighajaeabaaGreatQParseT
namespace Go.Proofs.YtpihighajaeabaaGreat
open Go.RowKit
set_option linter.unusedVariables false
set_option linter.unusedSimpArgs false
def xQ {α:Type} (f:Fp α) (B:Nat) (x:α) (z:Value) (w:World) (u:Value):Prop:=∃cs,u=.tuple #[.agg cs.toArray,z]∧∃F,f w x cs F∧pA B F
def SE (l:List gA) (e:List kA):tA:=if dB l e then ⟨l,e,BA l e,0⟩ else ⟨[],[],[],0⟩
theorem yI {l:List gA} {e:List kA} (h:dB l e=true):SE l e=⟨l,e,BA l e,0⟩:=by unfold SE;rw [h];rfl
theorem NX {l:List gA} {e:List kA} (h:dB l e=false):SE l e=⟨[],[],[],0⟩:=by unfold SE;rw [h];rfl
theorem DT (l:List gA) (e:List kA):(BA l e).length≤l.length:=by
 unfold BA;split
 ·exact tI l e
 ·exact Nat.zero_le _
theorem PX {l:List gA} {e:List kA} (h1:eC l≤1048576) (h2:tC e≤1048576):oJ (SE l e):=by
 unfold SE oJ;split
 ·refine ⟨h1,h2,?_⟩;have h3:=DT l e;unfold eC at h1;dsimp only;omega
 ·simp [eC,tC,NH]
theorem fAi (w:World):aC w ⟨[],[],[],0⟩ [.slice none 0 0,.slice none 0 0,.slice none 0 0,.int .i64 0] []:=
 ⟨_,_,_,[],[],[],rfl,⟨_,[],[],rfl,World.ownsRow_nil _ _ _ _,trivial,by simp [Value.ownBlock]⟩,⟨_,[],[],rfl,World.ownsRow_nil _ _ _ _,trivial,by simp [Value.ownBlock]⟩,⟨_,[],[],rfl,World.ownsRow_nil _ _ _ _,trivial,by simp [Value.ownBlock]⟩,rfl⟩
set_option maxRecDepth 100000 in
set_option maxHeartbeats 1600000 in
theorem GM (w:World) (l:List gA) (e:List kA) (v u:Value) (h:Rd MA w l [v]) (h':Rd RA w e [u]) (t1:eC l≤1048576) (t2:tC e≤1048576) :
  Calls Tryz.prog 25 #[v,u] w (BC w (xQ aC w.heap.size (SE l e) (.bool (dB l e)))):=by
 have A0:Bw w (w.alloc (.cells #[.slice none 0 0,.slice none 0 0,.slice none 0 0,.int .i64 0] 28)):=(Bw.refl w).alloc _;obtain ⟨Y,hY⟩:∃Y,Y=SE l e:=⟨_,rfl⟩;obtain ⟨Z,hZ⟩:∃Z,Z=dB l e:=⟨_,rfl⟩;rw [← hY,← hZ];have HY:=Lib.hid hY;have HZ:=Lib.hid hZ;clear hY hZ;go_enter Tryz.func25,Tryz.ntmps25;go_wp2_with fail;refine (JD _ l e _ _ (h.bw jA A0) (h'.bw lA A0)).mono ?_;rintro e w1 ⟨rfl,hb1⟩;have B1:=A0.then hb1;have r0:w1.cell? ⟨w.heap.size,0,none⟩=some (.slice none 0 0):=hb1.cell (by go_simp);have r1:w1.cell? ⟨w.heap.size,1,none⟩=some (.slice none 0 0):=hb1.cell (by go_simp);have r2:w1.cell? ⟨w.heap.size,2,none⟩=some (.slice none 0 0):=hb1.cell (by go_simp);have r3:w1.cell? ⟨w.heap.size,3,none⟩=some (.int .i64 0):=hb1.cell (by go_simp);have hf1:∀o,w1.frozen? ⟨w.heap.size,o,none⟩=false:=fun o=>by rw [kC hb1 _ _ (by first | (simp;done) | (simp;omega))];go_simp
 rcases Bool.eq_false_or_eq_true (dB l e) with e1 | e1
 ·have E1:=Lib.hid e1;rw [e1];clear e1;go_wp2_with fail;refine (QP _ l _ (h.bw jA B1) t1).mono ?_;rintro e w2 ⟨v2,rfl,⟨F2,o2,f2⟩,hb2⟩;have B2:=B1.then hb2;obtain ⟨A2,c2,rfl,_⟩:=aB (vC o2);go_wp2_with fail;refine (LG _ e _ (h'.bw lA B2) t2).mono ?_;rintro e w3 ⟨v3,rfl,⟨F3,o3,f3⟩,hb3⟩;have B3:=B2.then hb3;obtain ⟨A3,c3,rfl,_⟩:=aB (lC o3);go_wp2_with fail;refine (IG _ l e _ _ (h.bw jA B3) (h'.bw lA B3)).mono ?_;rintro e w4 ⟨v4,rfl,⟨F4,o4,f4⟩,hb4⟩
  skip
  obtain ⟨A4,c4,rfl,_⟩:=aB (AA o4);have hbb:=(hb2.then hb3).then hb4;replace r0:=hbb.cell r0;replace r1:=hbb.cell r1;replace r2:=hbb.cell r2;replace r3:=hbb.cell r3;have hz1:w.heap.size+1≤w1.heap.size:=by have:=hb1.size;simpa using this
  have hf4:∀o,w4.frozen? ⟨w.heap.size,o,none⟩=false:=fun o=>(kC hbb w.heap.size o (by omega)).trans (hf1 o)
  have lt2:=(yA (B:=0)).lt o2;have lt3:=(nA (B:=0)).lt o3;have z2:=hb2.size;have z3:=hb3.size;have z4:=hb4.size;have f2z:∀b∈F2,w.heap.size+1≤b:=fun b hb=>by have:=f2.ge b hb;omega
  have f3z:∀b∈F3,w.heap.size+1≤b:=fun b hb=>by have:=f3.ge b hb;omega
  have f4z:∀b∈F4,w.heap.size+1≤b:=fun b hb=>by have:=f4.ge b hb;omega
  have o2':=(yA (B:=0)).bw (hb3.then hb4) (Nat.zero_le _) o2;have o3':=(nA (B:=0)).bw hb4 (Nat.zero_le _) o3;have FF:pA w.heap.size (F2++(F3++F4)):=pA.append (m:=w2.heap.size) (f2.mono (by omega)) lt2 (pA.append (m:=w3.heap.size) f3 lt3 f4 (by omega)) (by omega);have B4:=B3.then hb4;have HYY:=Lib.hid (HY.out.trans (yI E1.out));have HZZ:=Lib.hid (HZ.out.trans E1.out);clear HY HZ hb1 hb2 hb3 hb4 hf1 f2 f3 f4 lt2 lt3 hbb B1 B2 B3;go_wp2;obtain rfl:=HYY.out;obtain rfl:=HZZ.out;refine bodyPost_ret (v:=.tuple #[.agg #[.slice A2 l.length c2,.slice A3 e.length c3,.slice A4 (BA l e).length c4,.int .i64 0],.bool true]) (by simp [results,Tryz.results25,go_sem,r0,r1,r2,r3]) rfl ⟨_,rfl,⟨[.slice A2 l.length c2,.slice A3 e.length c3,.slice A4 (BA l e).length c4,.int .i64 0],rfl,F2++(F3++F4),⟨_,_,_,F2,F3,F4,rfl,?_,?_,?_,rfl⟩,FF⟩,?_⟩
  ·refine (yA (B:=0)).step (fun b hb=>?_) o2';rcases hb with hb | hb
   ·have:=f2z b hb
    repeat rw [Below.heap_setCell _ _ _ _ (by dsimp only;omega)]
   ·omega
  ·refine (nA (B:=0)).step (fun b hb=>?_) o3';rcases hb with hb | hb
   ·have:=f3z b hb
    repeat rw [Below.heap_setCell _ _ _ _ (by dsimp only;omega)]
   ·omega
  ·refine (aA (B:=0)).step (fun b hb=>?_) o4;rcases hb with hb | hb
   ·have:=f4z b hb
    repeat rw [Below.heap_setCell _ _ _ _ (by dsimp only;omega)]
   ·omega
  ·repeat (first | with_reducible exact B4 | with_reducible refine Bw.set ?_ ?_ _)
   all_goals (dsimp only;omega)
 ·have E1:=Lib.hid e1;rw [e1];clear e1;have HYY:=Lib.hid (HY.out.trans (NX E1.out));have HZZ:=Lib.hid (HZ.out.trans E1.out);clear HY HZ;go_wp2;obtain rfl:=HYY.out;obtain rfl:=HZZ.out;refine bodyPost_ret (v:=.tuple #[.agg #[.slice none 0 0,.slice none 0 0,.slice none 0 0,.int .i64 0],.bool false]) (by simp [results,Tryz.results25,go_sem,r0,r1,r2,r3]) rfl ⟨_,rfl,⟨[.slice none 0 0,.slice none 0 0,.slice none 0 0,.int .i64 0],rfl,[],fAi _,pA.nil⟩,?_⟩
  repeat (first | with_reducible exact B1 | with_reducible refine Bw.set ?_ ?_ _)
  all_goals (dsimp only;omega)
end Go.Proofs.YtpihighajaeabaaGreat
namespace Go.Proofs.YtpihighajaeabaaGreat
open Go.RowKit
set_option linter.unusedVariables false
set_option linter.unusedSimpArgs false
theorem SR (w:World):BG w FR [.int .i64 0,.slice none 0 0] []:=⟨_,rfl,WC w⟩
theorem QX {s:ByteArray} (h:(PF s ⟨#[58]⟩).length≠2):KG s=(FR,false):=by
 have:ZM s=none:=by
  unfold ZM
  split
  ·rename_i a b e;rw [e] at h;exact absurd rfl h
  ·rfl
 unfold KG pOf;rw [this]
theorem TR {s sep:ByteArray} (h:s.size=0) (hn:0<sep.size):(PF s sep).length=1:=by
 unfold PF;rw [wR.2 h,List.length_map,SG,if_neg (by rw [VC];simp only [List.length_nil];omega)];rfl
theorem VZ {s:ByteArray} {c:UInt8} (h:s.size=0):mG s c=[⟨#[]⟩]:=by
 unfold mG;rw [wR.2 h,WE];rfl
theorem bAo {α:Type} {P:List α} (h:P.length=2):∃a b,P=[a,b]:=by
 match P,h with
 | [a,b],_=>exact ⟨a,b,rfl⟩
theorem cAs {s a b:ByteArray} (h:PF s ⟨#[58]⟩=[a,b]):KG s=if LB ⟨zH a,RH b⟩=s then (⟨zH a,RH b⟩,true) else (FR,false):=by
 have hr:ZM s=some ⟨zH a,RH b⟩:=by unfold ZM;rw [h]
 have hs:s.size≠0:=fun h0=>by
  have:=TR (sep:=⟨#[58]⟩) h0 (by decide);rw [h] at this;cases this
 unfold KG pOf;rw [hr];dsimp only;by_cases hc:LB ⟨zH a,RH b⟩=s
 ·rw [if_pos ⟨hs,hc⟩,if_pos hc]
 ·rw [if_neg (fun e=>hc e.2),if_neg hc]
def iAw (W:World) (b:Nat) (a0 a1:Value):World:=(W.setCell ⟨b,0,none⟩ a0).setCell ⟨b,1,none⟩ a1
theorem fAj {W:World} {b:Nat} {a0 a1:Value} {α:Type} {R:Fp α} (hR:VB 0 R) {x:α} {cs:List Value} {F:List Nat} (hx:R W x cs F) (hF:b∉F):R (iAw W b a0 a1) x cs F:=QA hR (QA hR hx hF) hF
theorem Bw.put2 {w W:World} {b:Nat} {a0 a1:Value} (h:Bw w W) (hb:w.heap.size≤b):Bw w (iAw W b a0 a1):=(h.set (p:=⟨b,0,none⟩) hb _).set (p:=⟨b,1,none⟩) hb _
set_option maxRecDepth 100000 in
set_option maxHeartbeats 3200000 in
theorem RX (w:World) (s:ByteArray) (hs:s.size≤1048576):Calls Tryz.prog 247 #[.string s] w (BC w (xQ BG w.heap.size (KG s).1 (.bool (KG s).2))):=by
 obtain ⟨Y,hY⟩:∃Y,Y=KG s:=⟨_,rfl⟩;have HY:=Lib.hid hY;rw [← hY];have A0:Bw w (w.alloc (.cells #[.int .i64 0,.slice none 0 0] 30)):=(Bw.refl w).alloc _;have bR:=Box.new w #[.int .i64 0,.slice none 0 0] 30;obtain ⟨P,hP⟩:∃P,P=PF s ⟨#[58]⟩:=⟨_,rfl⟩;have hcall:=MR (w.alloc (.cells #[.int .i64 0,.slice none 0 0] 30)) s ⟨#[58]⟩ hs (by decide) (by decide);rw [← hP] at hcall;have HP:=Lib.hid hP;have HM:=Lib.hid (show ∀t∈P,t.size≤s.size from fun t ht=>TJ (by rw [← hP];exact ht));clear hP hY;go_enter Tryz.func247,Tryz.ntmps247;go_wp2_with fail;refine hcall.mono ?_;rintro e w1 ⟨v1,rfl,⟨F1,o1,f1⟩,hb1⟩;have r1:=PD o1;obtain ⟨A,n,c,rfl,L0,Lc,Lm⟩:=iA r1;unfold maxLen at Lm;have L:=Lib.hid L0;clear L0;have B1:=A0.then hb1;replace bR:=bR.bw hb1;clear hcall o1 f1;by_cases hn:n=2
 ·subst hn;obtain ⟨a,b,hab⟩:=bAo (P:=P) (by rw [← L.out]);have HQ:=Lib.hid (cAs (s:=s) (a:=a) (b:=b) (by rw [← HP.out,hab]));obtain ⟨ba,oa,rfl,_,ca⟩:=cE (k:=0) r1 (x:=a) (by rw [hab];rfl);obtain ⟨_,_,e,_,cb⟩:=cE (k:=1) r1 (x:=b) (by rw [hab];rfl);injection e with e;injection e with e1 e2;subst e1 e2;have hza:=HM.out a (by rw [hab];simp);have hzb:=HM.out b (by rw [hab];simp);rw [Nat.add_zero] at ca;have hcall:=EM w1 b (by omega);clear hab L hzb;go_wp2_with fail;refine hcall.mono ?_;rintro e w2 ⟨v2,rfl,⟨F2,o2,f2⟩,hb2⟩;have r2:=AA o2;obtain ⟨A2,n2,c2,rfl,l2,_⟩:=iA r2;have L2:=Lib.hid l2;have B2:=B1.then hb2;have hA2:=(Bw.refl w2).alloc (.cells #[.int .i64 0,.slice A2 n2 c2] 30);have bX:=Box.new w2 #[.int .i64 0,.slice A2 n2 c2] 30;have hF2:=(aA (B:=0)).lt o2;have f2w:pA w.heap.size F2:=f2.mono B1.size;have hRb:w.heap.size<w2.heap.size:=by have:=bR.lt;have:=hb2.size;omega
  have nRF:w.heap.size∉F2:=fun h=>by have:=f2.ge _ h;have:=bR.lt;omega
  obtain ⟨bx,hbx⟩:∃bx,bx=w2.heap.size:=⟨_,rfl⟩;obtain ⟨W,hW⟩:∃W,W=w2.alloc (.cells #[.int .i64 0,.slice A2 n2 c2] 30):=⟨_,rfl⟩;rw [← hW] at hA2 bX;rw [← hbx] at bX hF2 hRb;have nF:bx∉F2:=fun h=>by have:=hF2 _ h;omega
  have HW:=Lib.hid hW;have HB:=Lib.hid hbx;have hcall:=xG W a (by omega);obtain ⟨N,hN⟩:∃N,N=zH a:=⟨_,rfl⟩;obtain ⟨bo,hbo⟩:∃b,b=(pI a).2:=⟨_,rfl⟩;rw [← hbo,show (pI a).1=N from hN.symm] at hcall;rw [← hN] at HQ;have ca':=hA2.cell (hb2.cell ca);have HNB:=Lib.hid (show w.heap.size≤bx∧w.heap.size≠bx by omega);rw [HW.out] at ca';clear l2 hW hbx hN hbo ca cb r1 hza;go_wp2_with fail;rw [← HW.out];clear ca';refine hcall.mono ?_;rintro e w3 ⟨rfl,hb3⟩;rw [← HB.out];have o3:=xA (hA2.then hb3) aA o2;have bX3:=bX.bw hb3;have bR3:=((bR.bw hb2).bw hA2).bw hb3;have B3:=(B2.then hA2).then hb3;have o4:=QA (b:=bx) (o:=0) (u:=.int .i64 N) aA o3 nF;have bX4:=bX3.set (j:=0) (by simp) (.int .i64 N);have bR4:=bR3.only (KA bx 0 w3 (.int .i64 N)) (by simp;exact HNB.out.2);have B4:=B3.set (p:=⟨bx,0,none⟩) HNB.out.1 (.int .i64 N);have k6:Calls Tryz.prog 275 #[.agg #[.int .i64 N,.slice A2 n2 c2]] (w3.setCell ⟨bx,0,none⟩ (.int .i64 N)) (Ret (w3.setCell ⟨bx,0,none⟩ (.int .i64 N)) (.string (LB ⟨N,RH b⟩))):=JV _ ⟨N,RH b⟩ _ (AA o4);obtain ⟨T,hT⟩:∃T,T=LB ⟨N,RH b⟩:=⟨_,rfl⟩;rw [← hT] at k6 HQ;have x0:=bX3.c 0 _ rfl;have x1:=bX3.c 1 _ rfl;have xf:=bX3.fr;clear hcall bX bR bX3 bR3 o3 hT;go_wp2_with fail;refine k6.mono ?_;rintro e w5 ⟨rfl,hb5⟩;clear x0 x1 xf;have bX5:=bX4.bw hb5;have bR5:=bR4.bw hb5;have o5:=xA hb5 aA o4;have B5:=B4.then hb5;have hne1:=HNB.out.2;have hne2:bx≠w.heap.size:=fun h=>hne1 h.symm
  clear k6 bX4 bR4 o4 B4 hb5;by_cases hq:T=s
  ·have HE:=Lib.hid (show Y=(⟨N,RH b⟩,true) by rw [HY.out,HQ.out,if_pos hq]);have e1:=kH hq;have e2:(T.toList != s.toList)=false:=by rw [bne,e1];rfl
   have x0:=bX5.c 0 _ rfl;have x1:=bX5.c 1 _ rfl;have xf:=bX5.fr;have r0:=bR5.c 0 _ rfl;have r1:=bR5.c 1 _ rfl;have rf:=bR5.fr;clear hq;go_wp2;refine bodyPost_ret (v:=.tuple #[.agg #[.int .i64 N,.slice A2 n2 c2],.bool true]) (by simp [results,Tryz.results247,go_sem,r0,r1,hne1,hne2]) rfl ?_;exact ⟨_,rfl,⟨_,by rw [HE.out],F2,by rw [HE.out];exact ⟨_,rfl,fAj aA o5 nRF⟩,f2w⟩,B5.put2 (Nat.le_refl _)⟩
  ·have HE:=Lib.hid (show Y=(FR,false) by rw [HY.out,HQ.out,if_neg hq]);have e1:=QF hq;have e2:(T.toList != s.toList)=true:=by rw [bne,e1];rfl
   have r0:=bR5.c 0 _ rfl;have r1:=bR5.c 1 _ rfl;have rf:=bR5.fr;clear hq;go_wp2;refine bodyPost_ret (v:=.tuple #[.agg #[.int .i64 0,.slice none 0 0],.bool false]) (by simp [results,Tryz.results247,go_sem,r0,r1,hne1,hne2]) rfl ?_;exact ⟨_,rfl,⟨_,by rw [HE.out],[],by rw [HE.out];exact SR _,pA.nil⟩,B5.put2 (Nat.le_refl _)⟩
 ·have HQ:=Lib.hid (QX (s:=s) (by rw [← HP.out,← L.out];exact hn));have e1:((n:Int) != 2)=true:=by simp;omega
  have r0:=bR.c 0 _ rfl;have r1:=bR.c 1 _ rfl;have rf:=bR.fr;clear hn;go_wp2;refine bodyPost_ret (v:=.tuple #[.agg #[.int .i64 0,.slice none 0 0],.bool false]) (by simp [results,Tryz.results247,go_sem,r0,r1]) rfl ?_;exact ⟨_,rfl,⟨_,by rw [HY.out,HQ.out],[],by rw [HY.out,HQ.out];exact SR _,pA.nil⟩,B1.put2 (Nat.le_refl _)⟩
end Go.Proofs.YtpihighajaeabaaGreat
namespace Go.Proofs.YtpihighajaeabaaGreat
open Go.RowKit
set_option linter.unusedVariables false
set_option linter.unusedSimpArgs false
theorem UR {α β:Type} {f:α→Option β} {x:α} {y:β} (hx:f x=some y):∀ {l:List α} {ys:List β},SH f l=some ys→SH f (l++[x])=some (ys++[y])
 | [],ys,h=>by
  rw [SH] at h;injection h with h;subst h;rw [List.nil_append,SH,hx];rfl
 | z::l,ys,h=>by
  rw [SH] at h
  cases hz:f z with
  | none=>rw [hz] at h;cases h
  | some u=>
   rw [hz] at h;dsimp only at h
   cases hl:SH f l with
   | none=>rw [hl] at h;cases h
   | some us=>
    rw [hl] at h;injection h with h;subst h;rw [List.cons_append,SH,hz];dsimp only;rw [UR hx hl];rfl
theorem VR {α β:Type} {f:α→Option β} {x:α} (hx:f x=none):∀ {l:List α},x∈l→SH f l=none
 | z::l,h=>by
  rw [SH];rcases List.mem_cons.1 h with rfl | h
  ·rw [hx]
  ·rw [VR hx h]
   cases f z<;>rfl
theorem SP {s:ByteArray} {l:List lB} (h:KH s=some l):jH s=if s.size≠0∧sB l=s then (l,true) else ([],false):=by unfold jH pOf;rw [h]
theorem SX {s:ByteArray} (h:KH s=none):jH s=([],false):=by unfold jH pOf;rw [h]
theorem cAt {t:ByteArray} (h:(PF t ⟨#[62]⟩).length≠2):BM t=none:=by
 unfold BM
 split
 ·rename_i a b e;rw [e] at h;exact absurd rfl h
 ·rfl
theorem cAu {t a b:ByteArray} (h:PF t ⟨#[62]⟩=[a,b]):BM t=some ⟨zH a,zH b⟩:=by unfold BM;rw [h]
theorem lH {W:World} {b o:Nat} {q:Addr} {u x:Value} (h:W.cell? q=some x) (hq:q.block≠b):(W.setCell ⟨b,o,none⟩ u).cell? q=some x:=by
 rw [World.cell?_of_block (Below.heap_setCell _ _ _ _ hq)];exact h
theorem aG {s:ByteArray} {l:List UInt8} (h:s=⟨l.toArray⟩):(s.toList==l)=true:=by rw [h,ByteArray.toList_eq];simp
theorem EF {s:ByteArray} {l:List UInt8} (h:¬s=⟨l.toArray⟩):(s.toList==l)=false:=by
 rw [beq_eq_false_iff_ne,ByteArray.toList_eq];intro e;exact h (ByteArray.ext (by rw [← e]))
theorem pJ {s:ByteArray} (h:s.size=0):s.toList.isEmpty=true:=by rw [dP,wR.2 h];rfl
set_option maxRecDepth 100000 in
set_option maxHeartbeats 6400000 in
theorem KV (w:World) (s:ByteArray) (hs:s.size≤1048576):Calls Tryz.prog 274 #[.string s] w (BC w (Two XF w.heap.size (jH s).1 (.bool (jH s).2))):=by
 obtain ⟨i0,hi,hz0,hz1,hz2⟩:=info_parts tK;have hv0:=PA (e:=214) (sz:=2) (R:=QQ) w;have A0:Bw w (w.alloc (.cells #[] 214)):=(Bw.refl w).alloc _;obtain ⟨Y,hY⟩:∃Y,Y=jH s:=⟨_,rfl⟩;have HY:=Lib.hid hY;rw [← hY];clear hY;by_cases hnone:s=IR
 ·have HX:=Lib.hid (show KH s=some [] by unfold KH;rw [if_pos hnone]);have e2:(s.toList==[110,111,110,101])=true:=aG hnone;obtain ⟨qs,hqs⟩:∃qs:List lB,qs=[]:=⟨_,rfl⟩;rw [← hqs] at HX hv0;clear hqs hnone;go_enter Tryz.func274,Tryz.ntmps274;have B0:=A0;have hF0:pA w.heap.size [w.heap.size]:=⟨by simp,by simp⟩;have hk:=JH (w.alloc (.cells #[] 214)) qs _ (TC hv0);have HQ:=Lib.hid (SP HX.out);obtain ⟨T,hT⟩:∃T,T=sB qs:=⟨_,rfl⟩;rw [← hT] at hk HQ;clear hT;by_cases hs0:s.size=0
  ·have e0:=pJ hs0;have HE:=Lib.hid (show Y=([],false) by rw [HY.out,HQ.out,if_neg (fun h=>h.1 hs0)]);clear hs0 hk;go_wp2;refine bodyPost_ret (v:=.tuple #[.slice (some ⟨((w.alloc (.cells #[] 214))).heap.size,0,none⟩) 0 0,.bool false]) (by simp [results,Tryz.results274,go_sem]) rfl ?_;rw [HE.out];exact BC.two (PA _) ⟨by simp,fun z hz=>by rw [List.mem_singleton.1 hz];exact Bw.size B0⟩ rfl (Bw.alloc B0 _)
  ·have e0:s.toList.isEmpty=false:=yJ (by omega);go_wp2_with fail;refine hk.mono ?_;rintro e w5 ⟨rfl,hb5⟩;have o5:=xA hb5 (xB UE) hv0;have B5:=Bw.then B0 hb5;clear hk hb5;by_cases hq:T=s
   ·have HE:=Lib.hid (show Y=(qs,true) by rw [HY.out,HQ.out,if_pos ⟨hs0,hq⟩]);have e1:=kH hq;have e2:(T.toList != s.toList)=false:=by rw [bne,e1];rfl
    clear hq hs0;go_wp2;refine bodyPost_ret (v:=.tuple #[.slice (some ⟨w.heap.size,0,none⟩) 0 0,.bool true]) (by simp [results,Tryz.results274,go_sem]) rfl ?_;rw [HE.out];exact BC.two o5 hF0 rfl B5
   ·have HE:=Lib.hid (show Y=([],false) by rw [HY.out,HQ.out,if_neg (fun h=>hq h.2)]);have e1:=QF hq;have e2:(T.toList != s.toList)=true:=by rw [bne,e1];rfl
    clear hq hs0;go_wp2;refine bodyPost_ret (v:=.tuple #[.slice (some ⟨w5.heap.size,0,none⟩) 0 0,.bool false]) (by simp [results,Tryz.results274,go_sem]) rfl ?_;rw [HE.out];exact BC.two (PA w5) ⟨by simp,fun b hb=>by rw [List.mem_singleton.1 hb];exact B5.size⟩ rfl (B5.alloc _)
 ·obtain ⟨P,hP⟩:∃P,P=PF s ⟨#[44]⟩:=⟨_,rfl⟩;have hcall:=MR (w.alloc (.cells #[] 214)) s ⟨#[44]⟩ hs (by decide) (by decide);rw [← hP] at hcall;have HR:=Lib.hid (show KH s=SH BM P by unfold KH;rw [if_neg hnone,hP]);have HM:=Lib.hid (show ∀t∈P,t.size≤s.size from fun t ht=>TJ (by rw [← hP];exact ht));have HL:=Lib.hid (show P.length≤s.size+2 by rw [hP];exact PR _ _);have e2:(s.toList==[110,111,110,101])=false:=EF hnone;clear hP hnone;go_enter Tryz.func274,Tryz.ntmps274;go_wp2_with fail;refine hcall.mono ?_;rintro e w2 ⟨v1,rfl,⟨FX,oX,fX⟩,hb2⟩;have B2:=A0.then hb2;have hv2:=xA hb2 zA hv0;have zX:∀z∈FX,z∉[w.heap.size]:=fun z hz=>by have h1:=fX.ge z hz;simp at h1;simp only [List.mem_singleton];omega
  have hl:=PD oX;obtain ⟨A,n,c,rfl,L0,Lc,Lm⟩:=iA hl;unfold maxLen at Lm;have L:=Lib.hid L0;clear L0;have OX:=Lib.hid oX;have ZX:=Lib.hid zX;have ZS:=Lib.hid (show w.heap.size<w2.heap.size by have:=hb2.size;simp at this;omega);clear oX zX hl hv0 fX hcall e2;go_wp2
  go_loopg [4,15] n (fun g sv i w'=>∃(k:Nat) (F:List Nat) (qs:List lB),k≤n∧g=n-k∧i=.int .i64 k∧XF w' qs [sv] F∧pA w.heap.size F∧Bw w w'∧SB [w.heap.size] w2 w'∧Hid (∀z∈F,z=w.heap.size∨w2.heap.size≤z)∧Hid (SH BM (P.take k)=some qs∧qs.length=k))
  case atStart=>exact ⟨0,_,[],by omega,rfl,rfl,hv2,⟨by simp,by simp⟩,B2,SB.refl _ _,Lib.hid (fun z hz=>.inl (by simpa using hz)),Lib.hid ⟨rfl,rfl⟩⟩
  case round=>
   clear hv2 B2 hb2 A0;obtain ⟨k,F,qs,hk,rfl,rfl,hv,hF,hb,hO,HF,HA⟩:=hrel;by_cases hlt:k<n
   ·obtain ⟨x,hx⟩:=rA (xs:=P) (k:=k) (by have:=L.out;omega);obtain ⟨ba,oa,rfl,_,hcx⟩:=cE (PD (hO.keeps kB OX.out ZX.out)) hx;have hxs:=HM.out x (List.mem_of_getElem? hx);have HXX:=Lib.hid hx;have i1:(0:Int)≤(k:Int):=by omega
    have i2:(k:Int)<(n:Int):=by omega
    have HLL:=Lib.hid (show n≤s.size+2 by rw [L.out];exact HL.out);obtain ⟨Q,hQ⟩:∃Q,Q=PF x ⟨#[62]⟩:=⟨_,rfl⟩;have hcall:=MR wr x ⟨#[62]⟩ (by omega) (by decide) (by decide);rw [← hQ] at hcall;have HQ:=Lib.hid hQ;have HMQ:=Lib.hid (show ∀t∈Q,t.size≤s.size from fun t ht=>Nat.le_trans (TJ (by rw [← hQ];exact ht)) hxs);clear hx hxs hQ;go_wp2_with fail;refine hcall.mono ?_;rintro e w4 ⟨v4,rfl,⟨F4,o4,f4⟩,hb4⟩;have r4:=PD o4;obtain ⟨A4,n4,c4,rfl,L40,L4c,L4m⟩:=iA r4;unfold maxLen at L4m;have L4:=Lib.hid L40;clear L40;have hv4:=xA hb4 zA hv;have hB4:=hb.then hb4;clear hcall o4 f4 hv;by_cases hn4:n4=2
    ·subst hn4;obtain ⟨a,b,hab⟩:=bAo (P:=Q) (by rw [← L4.out]);have HS:=Lib.hid (show SH BM (P.take (k+1))=some (qs++[⟨zH a,zH b⟩]) by rw [List.take_add_one,HXX.out];exact UR (cAu (t:=x) (a:=a) (b:=b) (by rw [← HQ.out,hab])) HA.out.1);obtain ⟨bc,oc,rfl,_,ca⟩:=cE (k:=0) r4 (x:=a) (by rw [hab];rfl);obtain ⟨_,_,e,_,cb⟩:=cE (k:=1) r4 (x:=b) (by rw [hab];rfl);injection e with e;injection e with e1 e2;subst e1 e2;have hza:=HMQ.out a (by rw [hab];simp);have hzb:=HMQ.out b (by rw [hab];simp);rw [Nat.add_zero] at ca;have hA4:=(Bw.refl w4).alloc (.cells #[.int .i64 0,.int .i64 0] 214);have bX:=Box.new w4 #[.int .i64 0,.int .i64 0] 214;have hFlt:=(zA (B:=0)).lt hv4;have hbc:=World.block_lt_of_cell? _ _ cb;obtain ⟨bx,hbx⟩:∃bx,bx=w4.heap.size:=⟨_,rfl⟩;obtain ⟨W,hW⟩:∃W,W=w4.alloc (.cells #[.int .i64 0,.int .i64 0] 214):=⟨_,rfl⟩;rw [← hW] at hA4 bX;rw [← hbx] at bX hFlt hbc;dsimp only at hbc;have nF:bx∉F:=fun h=>by have:=hFlt _ h;omega
     have hwx:wr.heap.size≤bx:=by have:=hb4.size;omega
     have HW:=Lib.hid hW;have HB:=Lib.hid hbx;have vW:=xA hA4 zA hv4;have BW:=hb4.then hA4;have caW:=hA4.cell ca;have cbW:=hA4.cell cb;rw [hW] at caW;have hc5:=xG W a (by omega);obtain ⟨N,hN⟩:∃N,N=zH a:=⟨_,rfl⟩;obtain ⟨bo,hbo⟩:∃b,b=(pI a).2:=⟨_,rfl⟩;rw [← hbo,show (pI a).1=N from hN.symm] at hc5;rw [← hN] at HS;clear hN hbo hab L4 ca cb r4 hv4 hA4 hW hbx;go_wp2_with fail;rw [← HW.out];clear caW;refine hc5.mono ?_;rintro e w5 ⟨rfl,hb5⟩;rw [← HB.out];have vX:=QA (b:=bx) (o:=0) (u:=.int .i64 N) zA (xA hb5 zA vW) nF;have bX5:=bX.bw hb5;have bX6:=bX5.set (j:=0) (by simp) (.int .i64 N);have BX:=(BW.then hb5).set (p:=⟨bx,0,none⟩) hwx (.int .i64 N);have cb5:=lH (b:=bx) (o:=0) (u:=.int .i64 N) (hb5.cell cbW) (by dsimp only;omega);have hc6:=xG (w5.setCell ⟨bx,0,none⟩ (.int .i64 N)) b (by omega);obtain ⟨M,hM⟩:∃M,M=zH b:=⟨_,rfl⟩;obtain ⟨bo',hbo'⟩:∃b',b'=(pI b).2:=⟨_,rfl⟩;rw [← hbo',show (pI b).1=M from hM.symm] at hc6;rw [← hM] at HS;have x0:=bX5.c 0 _ rfl;have x1:=bX5.c 1 _ rfl;have xf:=bX5.fr;have cbh:=hb5.cell cbW;clear hM hbo' hc5 vW BW bX bX5 cbW;go_wp2_with fail;clear x0 x1 xf;clear cbh cb5;refine hc6.mono ?_;rintro e w6 ⟨rfl,hb6⟩;have vY:=QA (b:=bx) (o:=1) (u:=.int .i64 M) zA (xA hb6 zA vX) nF;have bX7:=bX6.bw hb6;have BY:=(BX.then hb6).set (p:=⟨bx,1,none⟩) hwx (.int .i64 M);have hz6:(w6.setCell ⟨bx,1,none⟩ (.int .i64 M)).heap.size=w6.heap.size:=by simp
     have hA8:=(Bw.refl (w6.setCell ⟨bx,1,none⟩ (.int .i64 M))).alloc (.cells #[.int .i64 N,.int .i64 M] 214);have vZ:=xA hA8 zA vY;have hFm:=(zA (B:=0)).lt vY;have hbW:=(hb.then BY).then hA8;have hcl:∀j t,[Value.int .i64 N,.int .i64 M][j]? = some t→((w6.setCell ⟨bx,1,none⟩ (.int .i64 M)).alloc (.cells #[.int .i64 N,.int .i64 M] 214)).cell? ((⟨(w6.setCell ⟨bx,1,none⟩ (.int .i64 M)).heap.size,0,none⟩:Addr).add j)=some t:=World.news_of_block (cs:=#[.int .i64 N,.int .i64 M]) (t:=214) (fr:=(0,0)) (heap_alloc_new _ _);have hOW:=Lib.hid (hO.then ((BY.then hA8).only []) (by simp));have hbs:=(hb.then BY).size;rw [hz6] at hcl hFm hbs;have HAL:=Lib.hid (show qs.length≤s.size+2 by have:=HA.out.2;have:=HLL.out;omega);have x0:=bX7.c 0 _ rfl;have x1:=bX7.c 1 _ rfl;have xf:=bX7.fr;clear hc6 vX vY BX bX6 bX7 BY hA8 hz6 hb6 hO hB4 hb5 hb4;go_wp2_with (at_builtin;refine mC _ rfl (.tmp 42) (.tmp 44) 107 rfl w 214 i0 _ 2 16 Tryz.underlying107 hi hz0 hz1 hz2 rfl (by omega) UE _ qs F rfl vZ hF ⟨w6.heap.size,0,none⟩ 1 rfl ⟨N,M⟩ [.int .i64 N,.int .i64 M] [] hcl ⟨rfl,rfl⟩ rfl w6.heap.size hFm pA.nil hbs (by have:=HAL.out;omega) (by have:=HAL.out;omega) hbW ?_;intro v' w' F' hv' hF' hb' hO' hs');have hOn:=SB.push hOW.out hO' HF.out;have HF':=Lib.hid (show ∀z∈F',z=w.heap.size∨w2.heap.size≤z from fun z hz=>(hs' z hz).elim (fun h=>HF.out z h) (fun h=>h.elim (fun h=>by simp at h) (fun h=>.inr (Nat.le_trans hOW.out.1 h))))
     go_roundg (n-(k+1))
     case measure=>omega
     case rel=>exact ⟨k+1,F',_,by omega,rfl,by go_num,hv',hF',hb',hOn,HF',Lib.hid ⟨HS.out,by rw [List.length_append,HA.out.2];rfl⟩⟩
    ·have HE:=Lib.hid (show Y=([],false) by rw [HY.out];exact SX (by rw [HR.out];exact VR (x:=x) (cAt (by rw [← HQ.out,← L4.out];exact hn4)) (List.mem_of_getElem? HXX.out)));have e1:((n4:Int) != 2)=true:=by simp;omega
     clear hn4;go_wp2;refine bodyPost_ret (v:=.tuple #[.slice (some ⟨w4.heap.size,0,none⟩) 0 0,.bool false]) (by simp [results,Tryz.results274,go_sem]) rfl ?_;rw [HE.out];exact BC.two (PA w4) ⟨by simp,fun b hb=>by rw [List.mem_singleton.1 hb];exact hB4.size⟩ rfl (hB4.alloc _)
   ·obtain rfl:k=n:=by omega
    have HX:=Lib.hid (show KH s=some qs by rw [HR.out,← HA.out.1,List.take_of_length_le (by rw [← L.out];exact Nat.le_refl _)]);clear hlt HA HR HM HL OX ZX L;have hbw:=hb;have hk:=JH wr qs _ (TC hv);have HQ:=Lib.hid (SP HX.out);obtain ⟨T,hT⟩:∃T,T=sB qs:=⟨_,rfl⟩;rw [← hT] at hk HQ;clear hT;by_cases hs0:s.size=0
    ·have e0:=pJ hs0;have HE:=Lib.hid (show Y=([],false) by rw [HY.out,HQ.out,if_neg (fun h=>h.1 hs0)]);clear hs0 hk;go_wp2;refine bodyPost_ret (v:=.tuple #[.slice (some ⟨(wr).heap.size,0,none⟩) 0 0,.bool false]) (by simp [results,Tryz.results274,go_sem]) rfl ?_;rw [HE.out];exact BC.two (PA _) ⟨by simp,fun z hz=>by rw [List.mem_singleton.1 hz];exact Bw.size hbw⟩ rfl (Bw.alloc hbw _)
    ·have e0:s.toList.isEmpty=false:=yJ (by omega);go_wp2_with fail;refine hk.mono ?_;rintro e w5 ⟨rfl,hb5⟩;have o5:=xA hb5 (xB UE) hv;have B5:=Bw.then hbw hb5;clear hk hb5;by_cases hq:T=s
     ·have HE:=Lib.hid (show Y=(qs,true) by rw [HY.out,HQ.out,if_pos ⟨hs0,hq⟩]);have e1:=kH hq;have e2:(T.toList != s.toList)=false:=by rw [bne,e1];rfl
      clear hq hs0;go_wp2;refine bodyPost_ret (v:=.tuple #[u4,.bool true]) (by simp [results,Tryz.results274,go_sem]) rfl ?_;rw [HE.out];exact BC.two o5 hF rfl B5
     ·have HE:=Lib.hid (show Y=([],false) by rw [HY.out,HQ.out,if_neg (fun h=>hq h.2)]);have e1:=QF hq;have e2:(T.toList != s.toList)=true:=by rw [bne,e1];rfl
      clear hq hs0;go_wp2;refine bodyPost_ret (v:=.tuple #[.slice (some ⟨w5.heap.size,0,none⟩) 0 0,.bool false]) (by simp [results,Tryz.results274,go_sem]) rfl ?_;rw [HE.out];exact BC.two (PA w5) ⟨by simp,fun b hb=>by rw [List.mem_singleton.1 hb];exact B5.size⟩ rfl (B5.alloc _)
end Go.Proofs.YtpihighajaeabaaGreat
namespace Go.Proofs.YtpihighajaeabaaGreat
open Go.RowKit
set_option linter.unusedVariables false
def iO (a:ByteArray):Int:=if a=bD 0 then 0 else if a=bD 1 then 1 else if a=bD 2 then 2 else if a=bD 3 then 3 else if a=bD 4 then 4 else -1
def TX (a:ByteArray):Int:=if a=bD 1 then 1 else if a=bD 2 then 2 else if a=bD 3 then 3 else if a=bD 4 then 4 else 0
def WR (b:ByteArray):Int:=zH (b.extract 1 b.size)
def WZ (b:ByteArray):Int:=if b.size<2∨(bl b).head?≠some 102 then -1 else QZ (b.extract 1 b.size)
def VX (a b c:ByteArray):eB:=⟨iO a,WR b,if iO a=2 then zH c else 0,if iO a=3 then RH c else [],if iO a=4 then (jH c).1 else []⟩
def sU (a b c:ByteArray):eB:=⟨TX a,WZ b,if TX a=2 then QZ c else 0,if TX a=3 then fA5 c else [],if TX a=4 then (jH c).1 else []⟩
def dF (s:ByteArray):Option eB:=match PF s ⟨#[32]⟩ with
 | [a,b]=>if b.size<2 then none else some ⟨iO a,WR b,0,[],[]⟩
 | [a,b,c]=>if b.size<2 then none else some (VX a b c)
 | _=>none
def fAk (s:ByteArray):Option eB:=match mG s 32 with
 | [a,b]=>some (sU a b ⟨#[]⟩)
 | [a,b,c]=>some (sU a b c)
 | _=>none
def bI (s:ByteArray):eB×Bool:=pOf JA dF SA s
theorem oL {x:eB} (h:gB x=true):(x.kind≠2→x.value=0)∧(x.kind=3↔0<x.list.length)∧(x.kind≠4→x.pairs=[])∧∀v∈x.list,0≤v∧v≤9:=by
 unfold gB at h;simp only [Bool.and_eq_true,Bool.or_eq_true,decide_eq_true_eq,beq_iff_eq] at h;obtain ⟨_,_,_,h4,h5,h6,h7⟩:=h;refine ⟨fun hk=>h5.resolve_left hk,?_,fun hk=>?_,fun v hv=>kJ h4 hv⟩
 ·exact decide_eq_decide.1 h6
 ·rw [if_neg hk] at h7;exact List.length_eq_zero_iff.1 (of_decide_eq_true h7)
theorem WX (c:UInt8) (t:ByteArray):((⟨#[c]⟩:ByteArray)++t).extract 1 ((⟨#[c]⟩:ByteArray)++t).size=t:=by
 apply yH;rw [BF,List.take_of_length_le (by rw [VC];exact Nat.le_refl _),cB];rfl
theorem vK (x:eB):AB x=bD x.kind++⟨#[32]⟩++(⟨#[102]⟩++EA x.field):=by
 apply yH;unfold AB;rw [cB,cB,cB,cB,cB,List.append_assoc,List.append_assoc];rfl
theorem pL {x:eB} (h:gB x=true):∀y∈bl (⟨#[102]⟩++EA x.field:ByteArray),y=102∨yD y=true:=fun y hy=>by
 rw [cB,List.mem_append] at hy;rcases hy with hy | hy
 ·have e:bl ⟨#[102]⟩=[102]:=rfl;rw [e,List.mem_singleton] at hy;exact .inl hy
 ·exact .inr (gH (by have:=fC h;omega) y hy)
theorem dN {k:Int} (h:0≤k∧k≤4):∀y∈bl (bD k),97≤y.toNat∧y.toNat≤122:=by
 rcases (show k=0∨k=1∨k=2∨k=3∨k=4 by omega) with rfl | rfl | rfl | rfl | rfl<;>decide
theorem XZ {k:Int} (h:0≤k∧k≤4):iO (bD k)=k∧TX (bD k)=k:=by
 rcases (show k=0∨k=1∨k=2∨k=3∨k=4 by omega) with rfl | rfl | rfl | rfl | rfl<;>decide
theorem XX {x:eB} (h:gB x=true):WR (⟨#[102]⟩++EA x.field)=x.field∧WZ (⟨#[102]⟩++EA x.field)=x.field∧¬(⟨#[102]⟩++EA x.field:ByteArray).size<2:=by
 have hf:=fC h;have hs:¬(⟨#[102]⟩++EA x.field:ByteArray).size<2:=by
  rw [cA];have h1:=(OA (iB (n:=x.field) (by omega))).1;have e:(⟨#[102]⟩:ByteArray).size=1:=rfl;omega
 have hh:(bl (⟨#[102]⟩++EA x.field:ByteArray)).head? = some 102:=by rw [cB];rfl
 refine ⟨?_,?_,hs⟩
 ·unfold WR;rw [WX,QJ (by omega)]
 ·unfold WZ;rw [if_neg (fun e=>e.elim hs (fun e=>e hh)),WX,lL (by omega)]
theorem eN {x:eB} (h:gB x=true) (T:ByteArray) (hT:∀y∈bl T,y≠32):mG (AB x++⟨#[32]⟩++T) 32=[bD x.kind,⟨#[102]⟩++EA x.field,T]:=by
 rw [vK];exact GX (fun y hy e=>by have:=dN (vF h) y hy;rw [e] at this;exact absurd this.1 (by decide))
  (fun y hy e=>by rcases pL h y hy with h1 | h1<;>rw [e] at h1<;>revert h1<;>decide) hT
theorem YX {x:eB} (h:gB x=true):mG (AB x) 32=[bD x.kind,⟨#[102]⟩++EA x.field]:=by
 rw [vK];exact kP (fun y hy e=>by have:=dN (vF h) y hy;rw [e] at this;exact absurd this.1 (by decide))
  (fun y hy e=>by rcases pL h y hy with h1 | h1<;>rw [e] at h1<;>revert h1<;>decide)
theorem YZ (x:eB) (h:gB x=true):dF (JA x)=some x∧fAk (JA x)=some x:=by
 have hk:=vF h;obtain ⟨r1,r2,r3,r4⟩:=oL h;obtain ⟨f1,f2,f3⟩:=XX h;obtain ⟨k1,k2⟩:=XZ hk;have hv:=gC h;have hx:x=⟨x.kind,x.field,x.value,x.list,x.pairs⟩:=rfl;unfold dF fAk;rw [OJ];unfold JA;rw [if_pos h];by_cases h2:x.kind=2
 ·rw [if_pos h2,eN h _ (fun y hy=>iH (gH (by omega) y hy) (by decide))];dsimp only;rw [if_neg f3];have hl:x.list=[]:=by
   cases hl:x.list with
   | nil=>rfl
   | cons a l=>have:=r2.2 (by rw [hl];simp);omega
  have e:(⟨x.kind,x.field,x.value,[],[]⟩:eB)=x:=by rw [eB.eq_iff];exact ⟨rfl,rfl,rfl,hl.symm,(r3 (by omega)).symm⟩
  have n3:¬x.kind=3:=by omega
  have n4:¬x.kind=4:=by omega
  unfold VX sU;simp only [k1,k2,f1,f2,if_pos h2,if_neg n3,if_neg n4,QJ (show 0≤x.value∧x.value≤99 by omega),lL (show 0≤x.value∧x.value≤99 by omega)];exact ⟨congrArg some e,congrArg some e⟩
 ·rw [if_neg h2];by_cases h3:x.kind=3
  ·have hl:x.list≠[]:=fun e=>by have:=r2.1 h3;rw [e] at this;simp at this
   have hr:=ER hl (fun v hv=>by have:=r4 v hv;omega);rw [if_pos h3,eN h _ (fun y hy=>by
    rcases DJ (fun v hv=>by have:=r4 v hv;omega) y hy with h1 | rfl
    ·exact iH h1 (by decide)
    ·decide)]
   dsimp only;rw [if_neg f3];have e:(⟨x.kind,x.field,0,x.list,[]⟩:eB)=x:=by rw [eB.eq_iff];exact ⟨rfl,rfl,(r1 h2).symm,rfl,(r3 (by omega)).symm⟩
   have n4:¬x.kind=4:=by omega
   unfold VX sU;simp only [k1,k2,f1,f2,if_neg h2,if_pos h3,if_neg n4,hr.1,hr.2];exact ⟨congrArg some e,congrArg some e⟩
  ·rw [if_neg h3];have hl:x.list=[]:=by
    cases hl:x.list with
    | nil=>rfl
    | cons a l=>have:=r2.2 (by rw [hl];simp);omega
   by_cases h4:x.kind=4
   ·have hp:=NF h h4;rw [if_pos h4,eN h _ (fun y hy=>by
     rcases JK hp y hy with h1 | rfl | rfl | h1
     ·exact iH h1 (by decide)
     ·decide
     ·decide
     ·intro e;rw [e] at h1;revert h1;decide)]
    dsimp only;rw [if_neg f3];have e:(⟨x.kind,x.field,0,[],x.pairs⟩:eB)=x:=by rw [eB.eq_iff];exact ⟨rfl,rfl,(r1 h2).symm,hl.symm,rfl⟩
    unfold VX sU;simp only [k1,k2,f1,f2,if_neg h2,if_neg h3,if_pos h4,KX hp];exact ⟨congrArg some e,congrArg some e⟩
   ·rw [if_neg h4,YX h];dsimp only;rw [if_neg f3];have e:(⟨x.kind,x.field,0,[],[]⟩:eB)=x:=by rw [eB.eq_iff];exact ⟨rfl,rfl,(r1 h2).symm,hl.symm,(r3 h4).symm⟩
    unfold sU;simp only [k1,k2,f1,f2,if_neg h2,if_neg h3,if_neg h4];exact ⟨congrArg some e,congrArg some e⟩
theorem TP {x:eB} (h:gB x=true):(JA x).size≠0:=by
 have h1:=(XD h).1;unfold JA;rw [if_pos h]
 repeat' split
 all_goals (repeat rw [cA]);omega
theorem ZZ {x:eB} (h:gB x=true):bI (JA x)=(x,true):=ZN (TP h) (YZ x h).1
theorem hAh {x:eB} (h:gB x=true):(32:UInt8)∈bl (JA x):=by
 have h1:(32:UInt8)∈bl (AB x):=by rw [vK,cB,cB];exact List.mem_append_left _ (List.mem_append_right _ (by decide))
 unfold JA;rw [if_pos h]
 repeat' split
 ·rw [cB,cB];simp [h1]
 ·rw [cB,cB];simp [h1]
 ·rw [cB,cB];simp [h1]
 ·exact h1
end Go.Proofs.YtpihighajaeabaaGreat
