/- The best items in the reference. -/
import Derived.Test.YtpihighajaeabaaGreatQCompI
import Derived.Test.YtpihighajaeabaaGreatQExprS
import Derived.Test.YtpihighajaeabaaGreatQCmpS
namespace Go.Proofs.YtpihighajaeabaaGreat
open Go.RowKit
set_option linter.unusedVariables false
set_option linter.unusedSimpArgs false
theorem OI (w:World) (op:Int):Calls Tryz.prog 184 #[.int .i64 op] w (Ret w (.int .i64 (zC op))):=by
 by_cases h0:op=0
 ·have q0:(op==0)=true:=by simpa using h0
  have E:=Lib.hid (show zC op=0 by rw [zC,if_pos h0]);clear h0;go_enter Tryz.func184,Tryz.ntmps184;go_wp2;go_ret;exact Ret.int (E.out.symm) (Bw.refl _)
 have q0:(op==0)=false:=by simpa using h0
 by_cases h3:op=3
 ·have q3:(op==3)=true:=by simpa using h3
  have E:=Lib.hid (show zC op=1 by rw [zC,if_neg h0,if_pos h3]);clear h0 h3;go_enter Tryz.func184,Tryz.ntmps184;go_wp2;go_ret;exact Ret.int (E.out.symm) (Bw.refl _)
 ·have q3:(op==3)=false:=by simpa using h3
  have E:=Lib.hid (show zC op=2 by rw [zC,if_neg h0,if_neg h3]);clear h0 h3;go_enter Tryz.func184,Tryz.ntmps184;go_wp2;go_ret;exact Ret.int (E.out.symm) (Bw.refl _)
theorem eX (op:Int):0≤zC op∧zC op≤2:=by
 unfold zC
 repeat' split
 all_goals omega
set_option maxRecDepth 100000 in
set_option maxHeartbeats 3200000 in
theorem ZG (w:World) (e:List kA) (v:Value) (h:Rd RA w e [v]):Calls Tryz.prog 133 #[v] w (Ret w (.bool (bB e))):=by
 obtain ⟨A,n,c,rfl,L0,Lc,Lm⟩:=iA h;unfold maxLen at Lm;have L:=Lib.hid L0;clear L0;go_enter Tryz.func133,Tryz.ntmps133;go_wp2
 go_loopg [3,8] n (fun g d i w'=>∃(k:Nat) (m:Int),k≤n∧g=n-k∧d=.int .i64 m∧i=.int .i64 k∧0≤m∧m≤k∧Hid (bB e=MI e k m)∧Bw w w')
 case atStart=>exact ⟨0,0,by omega,rfl,rfl,rfl,by omega,by omega,Lib.hid rfl,Bw.refl _⟩
 case round=>
  obtain ⟨k,m,hk,rfl,rfl,rfl,m0,mk,HE,hb⟩:=hrel;by_cases hlt:k<n
  ·obtain ⟨x,hx⟩:=rA (xs:=e) (k:=k) (by have:=L.out;omega);obtain ⟨ba,oa,Al,cl,Ap,cp,rfl,_,c0,c1,c2,c3,c4,c5,hl,hp⟩:=bE h hx;have i1:(0:Int)≤(k:Int):=by omega
   have i2:(k:Int)<(n:Int):=by omega
   replace c0:=hb.cell c0;replace c1:=hb.cell c1;replace c2:=hb.cell c2;replace c3:=hb.cell c3;replace c4:=hb.cell c4;replace c5:=hb.cell c5;have D1:Bw wr (wr.alloc (.cells #[.int .i64 x.op,.int .i64 x.wish.kind,.int .i64 x.wish.field,.int .i64 x.wish.value,.slice Al x.wish.list.length cl,.slice Ap x.wish.pairs.length cp] 111)):=(Bw.refl wr).alloc _;have HH:=Lib.hid h;have hbx:=World.block_lt_of_cell? _ _ c0;have hO0:=eX x.op;obtain ⟨O,hO⟩:∃O,O=zC x.op:=⟨_,rfl⟩;have key:∀W,Calls Tryz.prog 184 #[.int .i64 x.op] W (Ret W (.int .i64 O)):=fun W=>by rw [hO];exact OI W x.op
   have HGOOD:=Lib.hid (show LC x m=true→bB e=MI e (k+1) (m-O+1) from fun hg=>by rw [HE.out,KP hx hg,hO]);have HBAD:=Lib.hid (show LC x m=false→bB e=false from fun hg=>by rw [HE.out,eR hx hg]);have HN:=Lib.hid (show LC x m=(inB x.op 0 4 && (decide (O≤m) && if x.op=0 then gB x.wish else decide (x.wish=SA))) by rw [hO];rfl);rw [← hO] at hO0;clear hx h HE hO;go_wp2_with fail;refine (JC _ _ _ _).mono ?_;rintro e w2 ⟨rfl,hb2⟩;have p0:w2.cell? ⟨wr.heap.size,0,none⟩=some (.int .i64 x.op):=hb2.cell (by go_simp);have p1:w2.cell? ⟨wr.heap.size,1,none⟩=some (.int .i64 x.wish.kind):=hb2.cell (by go_simp);have p2:w2.cell? ⟨wr.heap.size,2,none⟩=some (.int .i64 x.wish.field):=hb2.cell (by go_simp);have p3:w2.cell? ⟨wr.heap.size,3,none⟩=some (.int .i64 x.wish.value):=hb2.cell (by go_simp);have p4:w2.cell? ⟨wr.heap.size,4,none⟩=some (.slice Al x.wish.list.length cl):=hb2.cell (by go_simp);have p5:w2.cell? ⟨wr.heap.size,5,none⟩=some (.slice Ap x.wish.pairs.length cp):=hb2.cell (by go_simp);have D2:=D1.then hb2;have B2:=hb.then D2;have hl2:=Rd.bw dA hl B2;have hp2:=Rd.bw DA hp B2;clear c0 c1 c2 c3 c4 c5 D1 hb2 hl hp;rcases Bool.eq_false_or_eq_true (inB x.op 0 4) with e1 | e1
   ·have E1:=Lib.hid e1;rw [e1];clear e1;go_wp2_with fail;refine (key _).mono ?_;rintro e w3 ⟨rfl,hb3⟩;replace p0:=hb3.cell p0;replace p1:=hb3.cell p1;replace p2:=hb3.cell p2;replace p3:=hb3.cell p3;replace p4:=hb3.cell p4;replace p5:=hb3.cell p5;have B3:=B2.then hb3;replace hl2:=Rd.bw dA hl2 hb3;replace hp2:=Rd.bw DA hp2 hb3;by_cases hd:m<O
    ·have G:=Lib.hid (HBAD.out (by rw [HN.out,show decide (O≤m)=false by simp;omega];simp));clear HGOOD HBAD HN;go_wp2;go_ret;exact Ret.bool (G.out.symm) (B3)
    ·by_cases o0:x.op=0
     ·have q0:(x.op==0)=true:=by simpa using o0
      have q1:(x.op != 0)=false:=by simpa using o0
      have HN2:=Lib.hid (show LC x m=gB x.wish by rw [HN.out,E1.out,if_pos o0,show decide (O≤m)=true by simp;omega];rfl);clear o0 HN;go_wp2_with fail;refine (fG _ x.wish _ _ hl2 hp2).mono ?_;rintro e w4 ⟨rfl,hb4⟩;replace p0:=hb4.cell p0;have B4:=B3.then hb4;rcases Bool.eq_false_or_eq_true (gB x.wish) with e2 | e2
      ·have G:=Lib.hid (HGOOD.out (by rw [HN2.out,e2]));rw [e2];clear e2 HGOOD HBAD HN2;go_wp2_with fail;refine (key _).mono ?_;rintro e w5 ⟨rfl,hb5⟩;go_wp2
       go_roundg (n-(k+1))
       case measure=>omega
       case rel=>exact ⟨k+1,m-O+1,by omega,rfl,rfl,by go_num,by omega,by omega,G,B4.then hb5⟩
      ·have G:=Lib.hid (HBAD.out (by rw [HN2.out,e2]));rw [e2];clear e2 HGOOD HBAD HN2;go_wp2;go_ret;exact Ret.bool (G.out.symm) (B4)
     ·have q0:(x.op==0)=false:=by simpa using o0
      have q1:(x.op != 0)=true:=by simpa using o0
      have HN2:=Lib.hid (show LC x m=decide (x.wish=SA) by rw [HN.out,E1.out,if_neg o0,show decide (O≤m)=true by simp;omega];rfl);clear o0 HN;go_wp2_with fail;refine (IP _ x.wish SA _ (.slice none 0 0) _ (.slice none 0 0) hl2 AN hp2 AN).mono ?_;rintro e w4 ⟨rfl,hb4⟩;replace p0:=hb4.cell p0;have B4:=B3.then hb4;rcases Bool.eq_false_or_eq_true (decide (x.wish=SA)) with e2 | e2
      ·have G:=Lib.hid (HGOOD.out (by rw [HN2.out,e2]));rw [e2];clear e2 HGOOD HBAD HN2;go_wp2_with fail;refine (key _).mono ?_;rintro e w5 ⟨rfl,hb5⟩;go_wp2
       go_roundg (n-(k+1))
       case measure=>omega
       case rel=>exact ⟨k+1,m-O+1,by omega,rfl,rfl,by go_num,by omega,by omega,G,B4.then hb5⟩
      ·have G:=Lib.hid (HBAD.out (by rw [HN2.out,e2]));rw [e2];clear e2 HGOOD HBAD HN2;go_wp2;go_ret;exact Ret.bool (G.out.symm) (B4)
   ·have G:=Lib.hid (HBAD.out (by rw [HN.out,e1];rfl));rw [e1];clear e1 HGOOD HBAD HN;go_wp2;go_ret;exact Ret.bool (G.out.symm) (B2)
  ·obtain rfl:k=n:=by omega
   have HF:=Lib.hid (show bB e=(decide (m=1) && decide (k≤9)) by rw [HE.out,fR L.out.symm]);clear HE hlt;by_cases hm:m=1
   ·have q1:(m==1)=true:=by simpa using hm
    by_cases h9:(k:Int)≤9
    ·have G:=Lib.hid (show bB e=true by rw [HF.out];simp [hm];omega);clear hm HF;go_wp2;go_ret;exact Ret.bool (G.out.symm) (hb)
    ·have G:=Lib.hid (show bB e=false by rw [HF.out];simp;omega);clear hm HF;go_wp2;go_ret;exact Ret.bool (G.out.symm) (hb)
   ·have q1:(m==1)=false:=by simpa using hm
    have G:=Lib.hid (show bB e=false by rw [HF.out];simp [hm]);clear hm HF;go_wp2;go_ret;exact Ret.bool (G.out.symm) (hb)
end Go.Proofs.YtpihighajaeabaaGreat
namespace Go.Proofs.YtpihighajaeabaaGreat
open Go.RowKit
set_option linter.unusedVariables false
def MC (e:List kA) (y x:gA):Bool:=decide (CC e y x=1)
def ZF (l:List gA) (e:List kA) (x:gA):Bool:=!(l.any fun y=>MC e y x)
def mD (l:List gA) (e:List kA):List Int:=(l.filter (ZF l e)).map (·.id)
def dB (l:List gA) (e:List kA):Bool:=WA l && bB e
def BA (l:List gA) (e:List kA):List Int:=if dB l e then mD l e else []
def WB (l:List gA) (ids:List Int) (b:Bool):List gA:=l.filter fun x=>ids.contains x.id==b
theorem TN:∀ {l:List gA} {p:Option Int},IA p l=true→IA none l=true
 | [],_,_=>rfl
 | x::l,none,h=>h
 | x::l,some p,h=>by
  simp only [IA,Bool.and_eq_true] at h ⊢;exact ⟨h.1.1,h.2⟩
theorem TO {p q:Int} (hpq:p≤q):∀ {l:List gA},IA (some q) l=true→IA (some p) l=true
 | [],_=>rfl
 | x::l,h=>by
  simp only [IA,Bool.and_eq_true,decide_eq_true_iff] at h ⊢;exact ⟨⟨h.1.1,by omega⟩,h.2⟩
theorem SD (f:gA→Bool):∀ {l:List gA} {p:Option Int},IA p l=true→IA p (l.filter f)=true
 | [],_,_=>by simp [IA]
 | x::l,none,h=>by
  have hh:=h;simp only [IA,Bool.and_eq_true] at h;by_cases hf:f x=true
  ·rw [List.filter_cons_of_pos hf];simp only [IA,Bool.and_eq_true];exact ⟨h.1,SD f h.2⟩
  ·rw [List.filter_cons_of_neg hf];exact SD f (TN h.2)
 | x::l,some p,h=>by
  simp only [IA,Bool.and_eq_true,decide_eq_true_iff] at h;by_cases hf:f x=true
  ·rw [List.filter_cons_of_pos hf];simp only [IA,Bool.and_eq_true,decide_eq_true_iff];exact ⟨h.1,SD f h.2⟩
  ·rw [List.filter_cons_of_neg hf];exact SD f (TO (by omega) h.2)
theorem tQ {l:List gA} (f:gA→Bool) (h:WA l=true):WA (l.filter f)=true:=by
 unfold WA at h ⊢;simp only [Bool.and_eq_true,decide_eq_true_iff] at h ⊢;exact ⟨SD f h.1,Nat.le_trans (List.length_filter_le _ _) h.2⟩
theorem sA {l:List gA} {e:List kA} (h:dB l e=true):WA l=true:=by unfold dB at h;simp only [Bool.and_eq_true] at h;exact h.1
theorem iC {l:List gA} {e:List kA} (h:dB l e=true):bB e=true:=by unfold dB at h;simp only [Bool.and_eq_true] at h;exact h.2
theorem tI (l:List gA) (e:List kA):(mD l e).length≤l.length:=by unfold mD;rw [List.length_map];exact List.length_filter_le _ _
def aH (l:List gA) (e:List kA) (k:Nat):List Int:=((l.take k).filter (ZF l e)).map (·.id)
theorem iR {l:List gA} {e:List kA} {k:Nat} {x:gA} (hx:l[k]? = some x) (h:ZF l e x=true):aH l e (k+1)=aH l e k++[x.id]:=by
 unfold aH;rw [List.take_add_one,hx,List.filter_append,List.map_append];simp [h]
theorem cU {l:List gA} {e:List kA} {k:Nat} {x:gA} (hx:l[k]? = some x) (h:ZF l e x=false):aH l e (k+1)=aH l e k:=by
 unfold aH;rw [List.take_add_one,hx,List.filter_append,List.map_append];simp [h]
theorem jR {l:List gA} {e:List kA} {k:Nat} (h:l.length≤k):aH l e k=mD l e:=by unfold aH mD;rw [List.take_of_length_le h]
theorem kR {l:List gA} {e:List kA} {k:Nat}:(aH l e k).length≤k:=by
 unfold aH;rw [List.length_map];exact Nat.le_trans (List.length_filter_le _ _) (by rw [List.length_take];omega)
theorem iG {α:Type} (f:α→Bool) {l:List α} {k:Nat} {y:α} (h:l[k]? = some y):(l.take (k+1)).any f=((l.take k).any f || f y):=by
 rw [List.take_add_one,h,List.any_append];simp
theorem bH {α:Type} (f:α→Bool) {l:List α} {k:Nat} (h:l.length≤k):(l.take k).any f=l.any f:=by rw [List.take_of_length_le h]
def WH (l:List gA) (ids:List Int) (b:Bool) (k:Nat):List gA:=(l.take k).filter fun x=>ids.contains x.id==b
theorem JZ {l:List gA} {ids:List Int} {b:Bool} {k:Nat} {x:gA} (hx:l[k]? = some x) (h:ids.contains x.id=b):WH l ids b (k+1)=WH l ids b k++[x]:=by
 have hb:(ids.contains x.id==b)=true:=by rw [h];simp
 unfold WH;rw [List.take_add_one,hx,List.filter_append];simp only [Option.toList_some,List.filter_cons,List.filter_nil,hb,if_true]
theorem cAi {l:List gA} {ids:List Int} {b:Bool} {k:Nat} {x:gA} (hx:l[k]? = some x) (h:ids.contains x.id=!b):WH l ids b (k+1)=WH l ids b k:=by
 have hb:(ids.contains x.id==b)=false:=by rw [h];cases b<;>rfl
 unfold WH;rw [List.take_add_one,hx,List.filter_append];simp only [Option.toList_some,List.filter_cons,List.filter_nil,hb,List.append_nil,Bool.false_eq_true,if_false]
theorem KZ {l:List gA} {ids:List Int} {b:Bool} {k:Nat} (h:l.length≤k):WH l ids b k=WB l ids b:=by unfold WH WB;rw [List.take_of_length_le h]
theorem LZ {l:List gA} {ids:List Int} {b:Bool} {k:Nat}:(WH l ids b k).length≤k:=by
 unfold WH;exact Nat.le_trans (List.length_filter_le _ _) (by rw [List.length_take];omega)
theorem dU (l:List gA) (ids:List Int) (b:Bool):(WB l ids b).length≤l.length:=List.length_filter_le _ _
def tB (s:tA):Bool:=dB s.items s.wanted && (decide (s.best=mD s.items s.wanted) && inB s.tests 0 1000000)
end Go.Proofs.YtpihighajaeabaaGreat
namespace Go.Proofs.YtpihighajaeabaaGreat
open Go.RowKit
set_option linter.unusedVariables false
set_option linter.unusedSimpArgs false
set_option maxHeartbeats 400000 in
theorem JD (w:World) (l:List gA) (e:List kA) (v u:Value) (h:Rd MA w l [v]) (h':Rd RA w e [u]):Calls Tryz.prog 92 #[v,u] w (Ret w (.bool (dB l e))):=by
 go_enter Tryz.func92,Tryz.ntmps92;go_wp2_with fail;refine (TQ _ l _ h).mono ?_;rintro e w2 ⟨rfl,hb2⟩;rcases Bool.eq_false_or_eq_true (WA l) with e1 | e1
 ·have E:=Lib.hid e1;rw [e1];clear e1;go_wp2_with fail;refine (ZG _ e _ (h'.bw lA hb2)).mono ?_;rintro e w3 ⟨rfl,hb3⟩;rcases Bool.eq_false_or_eq_true (bB e) with e2 | e2
  ·have E2:=Lib.hid e2;rw [e2];clear e2;go_wp2;go_ret;exact Ret.bool (by rw [dB,E.out,E2.out];rfl) (hb2.then hb3)
  ·have E2:=Lib.hid e2;rw [e2];clear e2;go_wp2;go_ret;exact Ret.bool (by rw [dB,E.out,E2.out];rfl) (hb2.then hb3)
 ·have E:=Lib.hid e1;rw [e1];clear e1;go_wp2;go_ret;exact Ret.bool (by rw [dB,E.out];rfl) (hb2)
set_option maxRecDepth 100000 in
set_option maxHeartbeats 3200000 in
theorem pV (w:World) (l:List gA) (e:List kA) (v u:Value) (h:Rd MA w l [v]) (h':Rd RA w e [u]) (hE:dB l e=true):Calls Tryz.prog 97 #[v,u] w (BC w (pF ZA w.heap.size (mD l e))):=by
 obtain ⟨i0,hi,hz0,hz1,hz2⟩:=info_parts PC;obtain ⟨A,n,c,rfl,L0,Lc,Lm⟩:=iA h;unfold maxLen at Lm;have L:=Lib.hid L0;clear L0;have HE1:=Lib.hid (iC hE);have HI:=Lib.hid (sA hE);have n16:n≤16:=by rw [L.out];exact VA HI.out
 have hv0:=PA (e:=3) (sz:=1) (R:=RG) w;clear hE;go_enter Tryz.func97,Tryz.ntmps97;go_wp2
 go_loopg [5,14] n (fun g s i w'=>∃(k:Nat) (F:List Nat),k≤n∧g=n-k∧i=.int .i64 k∧ZA w' (aH l e k) [s] F∧pA w.heap.size F∧Bw w w')
 case atStart=>exact ⟨0,_,by omega,rfl,rfl,hv0,⟨by simp,by simp⟩,(Bw.refl _).alloc _⟩
 case round=>
  clear hv0;obtain ⟨k,F,hk,rfl,rfl,hv,hF,hb⟩:=hrel;by_cases hlt:k<n
  ·obtain ⟨x,hx⟩:=rA (xs:=l) (k:=k) (by have:=L.out;omega);obtain ⟨ba,oa,Ax,cx,rfl,_,hc0,hc1,hin⟩:=mB h hx;have HP:=Lib.hid (NA HI.out (List.mem_of_getElem? hx));have hlen:=YA HP.out;rw [hlen] at hc1 hin;have i1:(0:Int)≤(k:Int):=by omega
   have i2:(k:Int)<(n:Int):=by omega
   replace hc0:=hb.cell hc0;replace hc1:=hb.cell hc1;have hbx:=World.block_lt_of_cell? _ _ hc0;have HYES:=Lib.hid (fun hf=>iR (e:=e) hx hf);have HNO:=Lib.hid (fun hf=>cU (e:=e) hx hf);have HH:=Lib.hid h;have A1:Bw wr (wr.alloc (.cells #[.int .i64 x.id,.slice Ax 3 cx] 30)):=(Bw.refl wr).alloc _;have hbA:=hb.then A1;have hvA:=(aA (B:=w.heap.size)).bw A1 hb.size hv;have hFm:=(aA (B:=0)).lt hvA;have kx0:(wr.alloc (.cells #[.int .i64 x.id,.slice Ax 3 cx] 30)).cell? ⟨wr.heap.size,0,none⟩=some (.int .i64 x.id):=by go_simp
   have kx1:(wr.alloc (.cells #[.int .i64 x.id,.slice Ax 3 cx] 30)).cell? ⟨wr.heap.size,1,none⟩=some (.slice Ax 3 cx):=by go_simp
   obtain ⟨W,hW⟩:∃W,W=wr.alloc (.cells #[.int .i64 x.id,.slice Ax 3 cx] 30):=⟨_,rfl⟩;rw [← hW] at kx0 kx1 hbA hvA hFm;have HW:=Lib.hid hW;clear hx h hlen hW A1 hv;go_wp2
   go_loopg [8,20] n (fun g b i2 w'=>∃(j:Nat) (q:Bool),j≤n∧g=n-j∧i2=.int .i64 j∧b=.bool q∧Hid (q=(l.take j).any fun y=>MC e y x)∧Bw W w')
   case atStart=>exact ⟨0,false,by omega,rfl,rfl,rfl,Lib.hid rfl,by rw [HW.out];exact Bw.refl _⟩
   case round=>
    obtain ⟨j,qb,hj,rfl,rfl,rfl,HQ,hbj⟩:=hrel;have hbw:=hbA.then hbj;have kk0:=hbj.cell kx0;have kk1:=hbj.cell kx1;by_cases hlt2:j<n
    ·obtain ⟨y,hy⟩:=rA (xs:=l) (k:=j) (by have:=L.out;omega);obtain ⟨b2,o2,Ay,cy,eA,_,hd0,hd1,hin2⟩:=mB HH.out hy;injection eA with eA;injection eA with eA1 eA2;subst eA1 eA2;have HPy:=Lib.hid (NA HI.out (List.mem_of_getElem? hy));have hleny:=YA HPy.out;rw [hleny] at hd1 hin2;replace hd0:=hbw.cell hd0;replace hd1:=hbw.cell hd1;have j1:(0:Int)≤(j:Int):=by omega
     have j2:(j:Int)<(n:Int):=by omega
     have HS:=Lib.hid (iG (fun y=>MC e y x) hy);have hby:=World.block_lt_of_cell? _ _ kk0;have C1:Bw wr (wr.alloc (.cells #[.int .i64 y.id,.slice Ay 3 cy] 30)):=(Bw.refl wr).alloc _;clear hy hleny
     cases qb with
     | true=>
      have HQ2:=Lib.hid (show true=(l.take (j+1)).any fun y=>MC e y x by rw [HS.out,← HQ.out];rfl);clear HQ HS;go_wp2
      go_roundg (n-(j+1))
      case measure=>omega
      case rel=>exact ⟨j+1,true,by omega,rfl,by go_num,rfl,HQ2,hbj.then C1⟩
     | false=>
      have hcall:=FG _ e y x _ _ _ (h'.bw lA (hbw.then C1)) (Rd.bw dA hin2 (hbw.then C1)) (Rd.bw dA hin (hbw.then C1)) HE1.out HPy.out HP.out;have HQ2:=Lib.hid (show decide (CC e y x=1)=(l.take (j+1)).any fun y=>MC e y x by rw [HS.out,← HQ.out];rfl);obtain ⟨r,hr⟩:∃r,r=CC e y x:=⟨_,rfl⟩;rw [← hr] at hcall HQ2;clear HQ HS hr;go_wp2_with fail;refine (hcall).mono ?_;rintro e w3 ⟨rfl,hb3⟩;by_cases hr1:r=1
      ·have e1:(r==1)=true:=by simpa using hr1
       have HQ3:=Lib.hid (show true=(l.take (j+1)).any fun y=>MC e y x by rw [← HQ2.out];simpa using hr1);clear hr1 HQ2;go_wp2
       go_roundg (n-(j+1))
       case measure=>omega
       case rel=>exact ⟨j+1,true,by omega,rfl,by go_num,rfl,HQ3,hbj.then (C1.then hb3)⟩
      ·have e1:(r==1)=false:=by simpa using hr1
       have HQ3:=Lib.hid (show false=(l.take (j+1)).any fun y=>MC e y x by rw [← HQ2.out];simpa using hr1);clear hr1 HQ2;go_wp2
       go_roundg (n-(j+1))
       case measure=>omega
       case rel=>exact ⟨j+1,false,by omega,rfl,by go_num,rfl,HQ3,hbj.then (C1.then hb3)⟩
    ·obtain rfl:j=n:=by omega
     have HF:=Lib.hid (show ZF l e x=!qb by rw [ZF,HQ.out,bH _ (by rw [← L.out];exact Nat.le_refl _)]);have hv1:=(aA (B:=w.heap.size)).bw hbj hbA.size hvA;clear HQ hlt2 hvA
     cases qb with
     | true=>
      have HB:=Lib.hid (HNO.out HF.out);go_wp2
      go_roundg (j-(k+1))
      case measure=>omega
      case rel=>exact ⟨k+1,F,by omega,rfl,by go_num,by rw [HB.out];exact hv1,hF,hbw⟩
     | false=>
      have HB:=Lib.hid (HYES.out HF.out);have hbl:=kR (l:=l) (e:=e) (k:=k);have HBL:=Lib.hid hbl;have hvW:=(aA (B:=w.heap.size)).bw ((Bw.refl wr).alloc (.cells #[.int .i64 x.id] 3)) hbw.size hv1;have hbW:=hbw.alloc (.cells #[.int .i64 x.id] 3);have hcl:=cell_one_new wr (.int .i64 x.id) 3;have hb0:=hbA.size;clear hv1 hbl;go_wp2_with (at_builtin;refine rB _ rfl (.tmp 35) (.tmp 38) 26 rfl w 3 i0 _ 1 8 Tryz.underlying26 hi hz0 hz1 hz2 rfl (by omega) nB _ (aH l e k) F rfl hvW hF ⟨wr.heap.size,0,none⟩ 1 rfl x.id [.int .i64 x.id] [] hcl ⟨rfl,rfl⟩ rfl _ hFm pA.nil hb0 (by have:=HBL.out;omega) (by have:=HBL.out;omega) hbW ?_;intro v' w' F' hv' hF' hb')
      go_roundg (j-(k+1))
      case measure=>omega
      case rel=>exact ⟨k+1,F',by omega,rfl,by go_num,by rw [HB.out];exact hv',hF',hb'⟩
  ·obtain rfl:k=n:=by omega
   rw [jR (by rw [← L.out];exact Nat.le_refl _)] at hv;go_wp2;go_ret;exact ⟨_,rfl,⟨F,hv,hF⟩,hb⟩
set_option maxHeartbeats 400000 in
theorem IG (w:World) (l:List gA) (e:List kA) (v u:Value) (h:Rd MA w l [v]) (h':Rd RA w e [u]):Calls Tryz.prog 37 #[v,u] w (BC w (pF ZA w.heap.size (BA l e))):=by
 go_enter Tryz.func37,Tryz.ntmps37;go_wp2_with fail;refine (JD _ l e _ _ h h').mono ?_;rintro e w2 ⟨rfl,hb2⟩;rcases Bool.eq_false_or_eq_true (dB l e) with e1 | e1
 ·have E:=Lib.hid e1;rw [e1];clear e1;go_wp2_with fail;refine (pV _ l e _ _ (h.bw jA hb2) (h'.bw lA hb2) E.out).mono ?_;rintro e w3 ⟨v3,rfl,⟨F,o,f⟩,hb3⟩;rw [show mD l e=BA l e by rw [BA,if_pos E.out]] at o;go_wp2;go_ret;exact ⟨_,rfl,⟨F,o,f.mono hb2.size⟩,hb2.then hb3⟩
 ·have E:=Lib.hid e1;rw [e1];clear e1;have hv0:=PA (e:=3) (sz:=1) (R:=RG) w2;rw [show ([]:List Int)=BA l e by rw [BA,E.out];rfl] at hv0;have hz:=hb2.size;go_wp2;go_ret;exact ⟨_,rfl,⟨_,hv0,⟨by simp,by simpa using hz⟩⟩,hb2.alloc _⟩
end Go.Proofs.YtpihighajaeabaaGreat
namespace Go.Proofs.YtpihighajaeabaaGreat
open Go.RowKit
set_option linter.unusedVariables false
set_option linter.unusedSimpArgs false
set_option maxHeartbeats 400000 in
theorem NJ (w:World) (l:List gA) (e:List kA) (v u:Value) (h:Rd MA w l [v]) (h':Rd RA w e [u]):Calls Tryz.prog 102 #[v,u] w (Ret w (.bool (dB l e))):=by
 go_enter Tryz.func102,Tryz.ntmps102;go_wp2_with fail;refine (rZ _ l _ h).mono ?_;rintro e w2 ⟨rfl,hb2⟩;rcases Bool.eq_false_or_eq_true (WA l) with e1 | e1
 ·have E:=Lib.hid e1;rw [e1];clear e1;go_wp2_with fail;refine (NI _ e _ (h'.bw lA hb2)).mono ?_;rintro e w3 ⟨rfl,hb3⟩;rcases Bool.eq_false_or_eq_true (bB e) with e2 | e2
  ·have E2:=Lib.hid e2;rw [e2];clear e2;go_wp2;go_ret;exact Ret.bool (by rw [dB,E.out,E2.out];rfl) (hb2.then hb3)
  ·have E2:=Lib.hid e2;rw [e2];clear e2;go_wp2;go_ret;exact Ret.bool (by rw [dB,E.out,E2.out];rfl) (hb2.then hb3)
 ·have E:=Lib.hid e1;rw [e1];clear e1;go_wp2;go_ret;exact Ret.bool (by rw [dB,E.out];rfl) (hb2)
set_option maxRecDepth 100000 in
set_option maxHeartbeats 3200000 in
theorem eAw (w:World) (l:List gA) (e:List kA) (v u:Value) (h:Rd MA w l [v]) (h':Rd RA w e [u]) (hI:WA l=true) (hE:bB e=true):Calls Tryz.prog 101 #[v,u] w (BC w (pF ZA w.heap.size (mD l e))):=by
 obtain ⟨i0,hi,hz0,hz1,hz2⟩:=info_parts PC;obtain ⟨A,n,c,rfl,L0,Lc,Lm⟩:=iA h;unfold maxLen at Lm;have L:=Lib.hid L0;clear L0;have HE1:=Lib.hid hE;have HI:=Lib.hid hI;have n16:n≤16:=by rw [L.out];exact VA HI.out
 have hv0:=PA (e:=3) (sz:=1) (R:=RG) w;clear hE hI;go_enter Tryz.func101,Tryz.ntmps101;go_wp2
 go_loopg [5,6] n (fun g s i w'=>∃(k:Nat) (F:List Nat),k≤n∧g=n-k∧i=.int .i64 k∧ZA w' (aH l e k) [s] F∧pA w.heap.size F∧Bw w w')
 case atStart=>exact ⟨0,_,by omega,rfl,rfl,hv0,⟨by simp,by simp⟩,(Bw.refl _).alloc _⟩
 case round=>
  clear hv0;obtain ⟨k,F,hk,rfl,rfl,hv,hF,hb⟩:=hrel;by_cases hlt:k<n
  ·obtain ⟨x,hx⟩:=rA (xs:=l) (k:=k) (by have:=L.out;omega);obtain ⟨ba,oa,Ax,cx,rfl,_,hc0,hc1,hin⟩:=mB h hx;have HP:=Lib.hid (NA HI.out (List.mem_of_getElem? hx));have hlen:=YA HP.out;rw [hlen] at hc1 hin;have i1:(0:Int)≤(k:Int):=by omega
   have i2:(k:Int)<(n:Int):=by omega
   have HYES:=Lib.hid (fun hf=>iR (e:=e) hx hf);have HNO:=Lib.hid (fun hf=>cU (e:=e) hx hf);have HH:=Lib.hid h;have hFm:=(aA (B:=0)).lt hv;have k0:=hb.cell hc0;have k1:=hb.cell hc1;clear hx h hlen;go_wp2
   go_loopg [7,8] n (fun g b i2 w'=>∃(j:Nat) (q:Bool),j≤n∧g=n-j∧i2=.int .i64 j∧b=.bool q∧Hid ((!q)=(l.take j).any fun y=>MC e y x)∧Bw wr w')
   case atStart=>exact ⟨0,true,by omega,rfl,rfl,rfl,Lib.hid rfl,Bw.refl _⟩
   case round=>
    obtain ⟨j,qb,hj,rfl,rfl,rfl,HQ,hbj⟩:=hrel;have hbw:=hb.then hbj;have m0:=hbj.cell k0;have m1:=hbj.cell k1;by_cases hlt2:j<n
    ·obtain ⟨y,hy⟩:=rA (xs:=l) (k:=j) (by have:=L.out;omega);obtain ⟨b2,o2,Ay,cy,eA,_,hd0,hd1,hin2⟩:=mB HH.out hy;injection eA with eA;injection eA with eA1 eA2;subst eA1 eA2;have HPy:=Lib.hid (NA HI.out (List.mem_of_getElem? hy));have hleny:=YA HPy.out;rw [hleny] at hd1 hin2;replace hd0:=hbw.cell hd0;replace hd1:=hbw.cell hd1;have j1:(0:Int)≤(j:Int):=by omega
     have j2:(j:Int)<(n:Int):=by omega
     have HS:=Lib.hid (iG (fun y=>MC e y x) hy);have s0:=qA m0;have s1:=qA m1;have s2:=qA hd0;have s3:=qA hd1;clear hy hleny
     cases qb with
     | false=>
      have HQ2:=Lib.hid (show (!false)=(l.take (j+1)).any fun y=>MC e y x by rw [HS.out,← HQ.out];rfl);clear HQ HS;go_wp2;refine mA (by kernel_rfl) (by kernel_rfl) ?_
      repeat (first | go_big_quiet_skip | (go_big_quiet_want;go_big_quiet_op;first | go_big_quiet_on | (apply Exists.intro;refine ⟨fun _=>?_,?_⟩;(· ((fail)));go_big_quiet_on)))
      refine wpQuiet_nil ?_;rintro ⟨wq,hbq⟩;dsimp only at *;go_wp2
      go_roundg (n-(j+1))
      case measure=>omega
      case rel=>exact ⟨j+1,false,by omega,rfl,by go_num,rfl,HQ2,hbj.then hbq⟩
     | true=>
      have hcall:∀s:GC wr,Calls Tryz.prog 85 _ s.1 (Ret s.1 (.int .i64 (CC e y x))):=fun s=>cL _ e y x u _ _ (h'.bw lA (hbw.then s.bw)) (Rd.bw dA hin2 (hbw.then s.bw)) (Rd.bw dA hin (hbw.then s.bw)) HE1.out HPy.out HP.out
      have HQ2:=Lib.hid (show decide (CC e y x=1)=(l.take (j+1)).any fun y=>MC e y x by rw [HS.out,← HQ.out];rfl);obtain ⟨r,hr⟩:∃r,r=CC e y x:=⟨_,rfl⟩;rw [← hr] at hcall HQ2;clear HQ HS hr m0 m1 hd0 hd1;by_cases hr1:r=1
      ·have e1:(r != 1)=false:=by simpa using hr1
       have HQ3:=Lib.hid (show (!false)=(l.take (j+1)).any fun y=>MC e y x by rw [← HQ2.out];simpa using hr1);clear hr1 HQ2;go_wp2;refine mA (by kernel_rfl) (by kernel_rfl) ?_
       repeat (first | go_big_quiet_skip | (go_big_quiet_want;go_big_quiet_op;first | go_big_quiet_on | (apply Exists.intro;refine ⟨fun _=>?_,?_⟩;(· (((first | (go_at_call 85;exact GA (hcall _))))));go_big_quiet_on)))
       refine wpQuiet_nil ?_;rintro ⟨wq,hbq⟩;dsimp only at *;go_wp2
       go_roundg (n-(j+1))
       case measure=>omega
       case rel=>exact ⟨j+1,false,by omega,rfl,by go_num,rfl,HQ3,hbj.then hbq⟩
      ·have e1:(r != 1)=true:=by simpa using hr1
       have HQ3:=Lib.hid (show (!true)=(l.take (j+1)).any fun y=>MC e y x by rw [← HQ2.out];simpa using hr1);clear hr1 HQ2;go_wp2;refine mA (by kernel_rfl) (by kernel_rfl) ?_
       repeat (first | go_big_quiet_skip | (go_big_quiet_want;go_big_quiet_op;first | go_big_quiet_on | (apply Exists.intro;refine ⟨fun _=>?_,?_⟩;(· (((first | (go_at_call 85;exact GA (hcall _))))));go_big_quiet_on)))
       refine wpQuiet_nil ?_;rintro ⟨wq,hbq⟩;dsimp only at *;go_wp2
       go_roundg (n-(j+1))
       case measure=>omega
       case rel=>exact ⟨j+1,true,by omega,rfl,by go_num,rfl,HQ3,hbj.then hbq⟩
    ·obtain rfl:j=n:=by omega
     have HF:=Lib.hid (show ZF l e x=qb by rw [ZF,← bH (k:=j) _ (by rw [← L.out];exact Nat.le_refl _),← HQ.out];simp);have hv1:=(aA (B:=w.heap.size)).bw hbj hb.size hv;clear HQ hlt2
     cases qb with
     | false=>
      have HB:=Lib.hid (HNO.out HF.out);go_wp2
      go_roundg (j-(k+1))
      case measure=>omega
      case rel=>exact ⟨k+1,F,by omega,rfl,by go_num,by rw [HB.out];exact hv1,hF,hbw⟩
     | true=>
      have HB:=Lib.hid (HYES.out HF.out);have hbl:=kR (l:=l) (e:=e) (k:=k);have HBL:=Lib.hid hbl;have hvW:=(aA (B:=w.heap.size)).bw ((Bw.refl wr).alloc (.cells #[.int .i64 x.id] 3)) hbw.size hv1;have hbW:=hbw.alloc (.cells #[.int .i64 x.id] 3);have hcl:=cell_one_new wr (.int .i64 x.id) 3;have hb0:=hb.size;clear hv1 hbl hv;go_wp2_with (at_builtin;refine rB _ rfl (.tmp 37) (.tmp 43) 26 rfl w 3 i0 _ 1 8 Tryz.underlying26 hi hz0 hz1 hz2 rfl (by omega) nB _ (aH l e k) F rfl hvW hF ⟨wr.heap.size,0,none⟩ 1 rfl x.id [.int .i64 x.id] [] hcl ⟨rfl,rfl⟩ rfl _ hFm pA.nil hb0 (by have:=HBL.out;omega) (by have:=HBL.out;omega) hbW ?_;intro v' w' F' hv' hF' hb')
      go_roundg (j-(k+1))
      case measure=>omega
      case rel=>exact ⟨k+1,F',by omega,rfl,by go_num,by rw [HB.out];exact hv',hF',hb'⟩
  ·obtain rfl:k=n:=by omega
   rw [jR (by rw [← L.out];exact Nat.le_refl _)] at hv;go_wp2;go_ret;exact ⟨_,rfl,⟨F,hv,hF⟩,hb⟩
end Go.Proofs.YtpihighajaeabaaGreat
