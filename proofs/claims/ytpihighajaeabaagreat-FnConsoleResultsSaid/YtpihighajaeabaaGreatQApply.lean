/- A rule of rewriting that is applied: what is computed, and the reference. -/
import Derived.Test.YtpihighajaeabaaGreatQBand
import Derived.Test.YtpihighajaeabaaGreatQReach
import Derived.Test.YtpihighajaeabaaGreatQSortP
import Derived.Test.YtpihighajaeabaaGreatQCompI
import Derived.Test.YtpihighajaeabaaGreatQBestS
import Derived.Test.YtpihighajaeabaaGreatQCopyW
import Derived.Test.YtpihighajaeabaaGreatQFmtP
import Derived.Test.YtpihighajaeabaaGreatQExprS
import Derived.Test.YtpihighajaeabaaGreatQLines2
import Derived.Test.YtpihighajaeabaaGreatQCopies
namespace Go.Proofs.YtpihighajaeabaaGreat
open Go.RowKit
set_option linter.unusedVariables false
set_option linter.unusedSimpArgs false
set_option maxHeartbeats 400000 in
theorem YD (w:World) (l:List gA) (e:List kA) (v u:Value) (h:Rd MA w l [v]) (h':Rd RA w e [u]):Calls Tryz.prog 42 #[v,u] w (BC w (pF ZA w.heap.size (BA l e))):=by
 go_enter Tryz.func42,Tryz.ntmps42;go_wp2_with fail;refine (NJ _ l e _ _ h h').mono ?_;rintro e w2 ⟨rfl,hb2⟩;rcases Bool.eq_false_or_eq_true (dB l e) with e1 | e1
 ·have E:=Lib.hid e1;rw [e1];clear e1;go_wp2_with fail;refine (eAw _ l e _ _ (h.bw jA hb2) (h'.bw lA hb2) (sA E.out) (iC E.out)).mono ?_;rintro e w3 ⟨v3,rfl,⟨F,o,f⟩,hb3⟩;rw [show mD l e=BA l e by rw [BA,if_pos E.out]] at o;go_wp2;go_ret;exact ⟨_,rfl,⟨F,o,f.mono hb2.size⟩,hb2.then hb3⟩
 ·have E:=Lib.hid e1;rw [e1];clear e1;have hv0:=PA (e:=3) (sz:=1) (R:=RG) w2;rw [show ([]:List Int)=BA l e by rw [BA,E.out];rfl] at hv0;have hz:=hb2.size;go_wp2;go_ret;exact ⟨_,rfl,⟨_,hv0,⟨by simp,by simpa using hz⟩⟩,hb2.alloc _⟩
set_option maxRecDepth 100000 in
set_option maxHeartbeats 6400000 in
theorem rL (w:World) (l:List gA) (g:List (List kA)) (v u:Value) (h:Rd MA w l [v]) (h':Rd dD w g [u]) (hP:sC l g=true):Calls Tryz.prog 191 #[v,u] w (BC w (pF ZA w.heap.size (l.map (TH l g)))):=by
 obtain ⟨i0,hi,hz0,hz1,hz2⟩:=info_parts PC;have A0:Bw w (w.alloc (.cells #[] 3)):=(Bw.refl w).alloc _;have hv0:=PA (e:=3) (sz:=1) (R:=RG) w;have hcall0:=qE _ l g _ _ (h.bw jA A0) (h'.bw dC A0);rw [hP] at hcall0;obtain ⟨A,n,c,rfl,L0,Lc,Lm⟩:=iA h;unfold maxLen at Lm;have L:=Lib.hid L0;clear L0;obtain ⟨A2,n2,c2,rfl,L20,L2c,L2m⟩:=iA h';unfold maxLen at L2m;have L2:=Lib.hid L20;clear L20;have n16:n≤16:=by rw [L.out];exact VA (UD hP)
 have n5:n2≤5:=by rw [L2.out];exact (GJ (LH hP)).2
 have hl16:Hid (l.length≤16):=Lib.hid (by rw [← L.out];exact n16);have HIT:=Lib.hid (fun W (B:Bw w W)=>h.bw jA B);have HH:=Lib.hid h;have HH':=Lib.hid h';clear hP h h';go_enter Tryz.func191,Tryz.ntmps191;go_wp2_with fail;refine (hcall0).mono ?_;rintro e w1 ⟨rfl,hb1⟩;have B1:=A0.then hb1;have hv1:=(aA (B:=w.heap.size)).bw hb1 A0.size hv0;clear hcall0 hv0 hb1;go_wp2
 go_loopg [5,19] n (fun gh s i w'=>∃(k:Nat) (F:List Nat),k≤n∧gh=n-k∧i=.int .i64 k∧ZA w' (qL (TH l g) l k) [s] F∧pA w.heap.size F∧Bw w w')
 case atStart=>exact ⟨0,_,by omega,rfl,rfl,hv1,⟨by simp,by simp⟩,B1⟩
 case round=>
  clear hv1 B1;obtain ⟨k,F,hk,rfl,rfl,hv,hF,hb⟩:=hrel
  rename World=>wo
  by_cases hlt:k<n
  ·have h:=HH.out;obtain ⟨x,hx⟩:=rA (xs:=l) (k:=k) (by have:=L.out;omega);obtain ⟨ba,oa,Ax,cx,rfl,_,c0,c1,hix⟩:=mB h hx;replace c0:=hb.cell c0;replace c1:=hb.cell c1;have i1:(0:Int)≤(k:Int):=by omega
   have i2:(k:Int)<(n:Int):=by omega
   have HMS:=Lib.hid (kS (f:=TH l g) hx);obtain ⟨M,hM⟩:∃M,M=x.vals.length:=⟨_,rfl⟩;rw [← hM] at c1;have A1:=(Bw.refl wo).alloc (.cells #[.int .i64 x.id,.slice Ax M cx] 30);have p0:(wo.alloc (.cells #[.int .i64 x.id,.slice Ax M cx] 30)).cell? ⟨wo.heap.size,0,none⟩=some (.int .i64 x.id):=by go_simp
   obtain ⟨W1,hW1⟩:∃W1,W1=wo.alloc (.cells #[.int .i64 x.id,.slice Ax M cx] 30):=⟨_,rfl⟩;rw [← hW1] at A1 p0;have HW1:=Lib.hid hW1;have HBO:=Lib.hid (show TH l g x=WI (fun e=>(BA l e).contains x.id) g g.length from rfl);have hv2:=(aA (B:=w.heap.size)).bw A1 hb.size hv;have HL:=Lib.hid (wU (TH l g) l k);clear hx hix hM hW1 h hv;go_wp2;rw [← HW1.out]
   go_loopg [8,25] n2 (fun gh s i w'=>∃(j:Nat) (q:Int),j≤n2∧gh=n2-j∧i=.int .i64 j∧s=.int .i64 q∧0≤q∧q≤j∧Hid (q=WI (fun e=>(BA l e).contains x.id) g j)∧Bw W1 w')
   case atStart=>exact ⟨0,0,by omega,rfl,rfl,rfl,by omega,by omega,Lib.hid rfl,Bw.refl _⟩
   case round=>
    obtain ⟨j,q,hj,rfl,rfl,rfl,q0,q1,HQ,hbj⟩:=hrel;have hbw:=hb.then (A1.then hbj);replace p0:=hbj.cell p0;by_cases hlt2:j<n2
    ·have h':=HH'.out;obtain ⟨e,he⟩:=rA (xs:=g) (k:=j) (by have:=L2.out;omega);obtain ⟨b2,o2,Ae,ce,rfl,_,d0,hie⟩:=lK h' he;replace d0:=hbw.cell d0;have i3:(0:Int)≤(j:Int):=by omega
     have i4:(j:Int)<(n2:Int):=by omega
     have HYES:=Lib.hid (fun hc=>tU (f:=fun e=>(BA l e).contains x.id) he hc);have HNO:=Lib.hid (fun hc=>kY (f:=fun e=>(BA l e).contains x.id) he hc);have hcall:=nX wr l e x.id _ _ (HIT.out wr hbw) (Rd.bw lA hie hbw);obtain ⟨ME,hME⟩:∃ME,ME=e.length:=⟨_,rfl⟩;rw [← hME] at d0 hcall;obtain ⟨r,hr⟩:∃r,r=(BA l e).contains x.id:=⟨_,rfl⟩;rw [← hr] at hcall;have HR:=Lib.hid hr;clear he hie hME h' hr;go_wp2_with fail;refine (hcall).mono ?_;rintro e w5 ⟨rfl,hb5⟩;have hb2:=hbj.then hb5;have h':=HH'.out;clear hcall
     cases r with
     | true=>
      have HX:=Lib.hid (show q+1=WI (fun e=>(BA l e).contains x.id) g (j+1) by rw [HYES.out HR.out.symm,HQ.out]);clear HQ HYES HNO;go_wp2
      go_roundg (n2-(j+1))
      case measure=>omega
      case rel=>exact ⟨j+1,q+1,by omega,rfl,by go_num,by go_num,by omega,by omega,HX,hb2⟩
     | false=>
      have HX:=Lib.hid (show q=WI (fun e=>(BA l e).contains x.id) g (j+1) by rw [HNO.out HR.out.symm,HQ.out]);clear HQ HYES HNO;go_wp2
      go_roundg (n2-(j+1))
      case measure=>omega
      case rel=>exact ⟨j+1,q,by omega,rfl,by go_num,rfl,by omega,by omega,HX,hb2⟩
    ·obtain rfl:j=n2:=by omega
     have HF:=Lib.hid (show q=TH l g x by rw [HBO.out,HQ.out,← L2.out]);clear HQ;have hv3:=(aA (B:=w.heap.size)).bw hbj (hb.then A1).size hv2;have hAl:=(Bw.refl wr).alloc (.cells #[.int .i64 q] 3);have hvW:=(aA (B:=w.heap.size)).bw hAl hbw.size hv3;have hFm:=(aA (B:=0)).lt hv3;have hbW:=hbw.then hAl;have hcl:=cell_one_new wr (.int .i64 q) 3;have hbs:=hbw.size;have h:=HH.out;clear hv2 hv3;go_wp2_with (at_builtin;refine rB _ rfl (.tmp 37) (.tmp 39) 26 rfl w 3 i0 _ 1 8 Tryz.underlying26 hi hz0 hz1 hz2 rfl (by omega) nB _ (qL (TH l g) l k) F rfl hvW hF ⟨wr.heap.size,0,none⟩ 1 rfl q [.int .i64 q] [] hcl ⟨rfl,rfl⟩ rfl _ hFm pA.nil hbs (by have:=HL.out;omega) (by have:=HL.out;omega) hbW ?_;intro v' w' F' hv' hF' hb')
     go_roundg (n-(k+1))
     case measure=>omega
     case rel=>exact ⟨k+1,F',by omega,rfl,by go_num,by rw [HMS.out,← HF.out];exact hv',hF',hb'⟩
  ·obtain rfl:k=n:=by omega
   rw [xU (by rw [← L.out];exact Nat.le_refl _)] at hv;go_wp2;go_ret;exact ⟨_,rfl,⟨F,hv,hF⟩,hb⟩
set_option maxHeartbeats 800000 in
theorem mP (w:World) (l:List gA) (g:List (List kA)) (v u:Value) (h:Rd MA w l [v]) (h':Rd dD w g [u]) (hP:sC l g=false):Calls Tryz.prog 190 #[v,u] w (BC w (pF ZA w.heap.size [])):=by
 have A0:Bw w (w.alloc (.cells #[] 3)):=(Bw.refl w).alloc _;have hv0:=PA (e:=3) (sz:=1) (R:=RG) w;have hcall0:=qE _ l g _ _ (h.bw jA A0) (h'.bw dC A0);rw [hP] at hcall0;clear hP h h';go_enter Tryz.func190,Tryz.ntmps190;go_wp2_with fail;refine (hcall0).mono ?_;rintro e w1 ⟨rfl,hb1⟩;have hv1:=(aA (B:=w.heap.size)).bw hb1 A0.size hv0;clear hcall0 hv0;go_wp2;go_ret;exact ⟨_,rfl,⟨_,hv1,⟨by simp,by simp⟩⟩,A0.then hb1⟩
set_option maxHeartbeats 800000 in
theorem vM (w:World) (l:List gA) (g:List (List kA)) (v u:Value) (h:Rd MA w l [v]) (h':Rd dD w g [u]) (hP:sC l g=false):Calls Tryz.prog 191 #[v,u] w (BC w (pF ZA w.heap.size [])):=by
 have A0:Bw w (w.alloc (.cells #[] 3)):=(Bw.refl w).alloc _;have hv0:=PA (e:=3) (sz:=1) (R:=RG) w;have hcall0:=qE _ l g _ _ (h.bw jA A0) (h'.bw dC A0);rw [hP] at hcall0;clear hP h h';go_enter Tryz.func191,Tryz.ntmps191;go_wp2_with fail;refine (hcall0).mono ?_;rintro e w1 ⟨rfl,hb1⟩;have hv1:=(aA (B:=w.heap.size)).bw hb1 A0.size hv0;clear hcall0 hv0;go_wp2;go_ret;exact ⟨_,rfl,⟨_,hv1,⟨by simp,by simp⟩⟩,A0.then hb1⟩
theorem JT (w:World) (l:List gA) (g:List (List kA)) (v u:Value) (h:Rd MA w l [v]) (h':Rd dD w g [u]):Calls Tryz.prog 190 #[v,u] w (BC w (pF ZA w.heap.size (BH l g))):=by
 rcases Bool.eq_false_or_eq_true (sC l g) with hP | hP
 ·have:=mO w l g v u h h' hP;unfold BH;rw [if_pos hP];exact this
 ·have:=mP w l g v u h h' hP;unfold BH;rw [hP];exact this
theorem nP (w:World) (l:List gA) (g:List (List kA)) (v u:Value) (h:Rd MA w l [v]) (h':Rd dD w g [u]):Calls Tryz.prog 191 #[v,u] w (BC w (pF ZA w.heap.size (RF l g))):=by
 rcases Bool.eq_false_or_eq_true (sC l g) with hP | hP
 ·have:=rL w l g v u h h' hP;unfold RF;rw [if_pos hP];exact this
 ·have:=vM w l g v u h h' hP;unfold RF;rw [hP];exact this
end Go.Proofs.YtpihighajaeabaaGreat
namespace Go.Proofs.YtpihighajaeabaaGreat
open Go.RowKit
set_option linter.unusedVariables false
set_option linter.unusedSimpArgs false
theorem CU (l:List gA) (e:List kA):(MK l e).length≤16:=by
 unfold MK;rw [List.length_reverse];have h:∀xs:List Int,(VJ (pS l e) xs).length=xs.length:=fun xs=>by have:=AU (pS l e) xs xs.length (Nat.le_refl _);rwa [List.take_length] at this
 rw [h];exact OC l e
end Go.Proofs.YtpihighajaeabaaGreat
namespace Go.Proofs.YtpihighajaeabaaGreat
open Go.RowKit
set_option linter.unusedVariables false
inductive XT where
 | base (w:eB)
 | dual (t:XT)
 | two (op:Int) (a b:XT)
def TA:XT→List kA
 | .base w=>[⟨0,w⟩]
 | .dual t=>TA t++[⟨3,SA⟩]
 | .two op a b=>TA a++(TA b++[⟨op,SA⟩])
def MG (op:Int):Prop:=op=1∨op=2∨op=4
def okT:XT→Prop
 | .base w=>gB w=true
 | .dual t=>okT t
 | .two op a b=>MG op∧okT a∧okT b
def VF (ts:List XT):List kA:=(ts.map TA).flatten
theorem xE (ts:List XT) (t:XT):VF (ts++[t])=VF ts++TA t:=by simp [VF]
theorem dA2:VF []=[]:=rfl
theorem pD:∀t:XT,0<(TA t).length
 | .base w=>by simp [TA]
 | .dual t=>by simp [TA]
 | .two op a b=>by simp [TA];omega
theorem dA3 {ts:List XT} (h:0<ts.length):0<(VF ts).length:=by
 cases ts with
 | nil=>simp at h
 | cons t ts=>have:=pD t;simp [VF];omega
theorem WJ {op:Int} (h:MG op):zC op=2:=by unfold MG at h;unfold zC;rw [if_neg (by omega),if_neg (by omega)]
theorem bAq {l:List XT} (h:0<l.length):∃T a,l=T++[a]:=⟨l.dropLast,l.getLast (fun e=>by rw [e] at h;simp at h),(List.dropLast_concat_getLast _).symm⟩
theorem wK {n:kA} {d:Int}:LC n d=true↔(0≤n.op∧n.op≤4)∧zC n.op≤d∧(if n.op=0 then gB n.wish=true else n.wish=SA):=by
 unfold LC;simp only [Bool.and_eq_true,qC,decide_eq_true_iff];by_cases h:n.op=0
 ·rw [if_pos h,if_pos h]
 ·rw [if_neg h,if_neg h,decide_eq_true_iff]
theorem xK:∀ {t:XT},okT t→∀(rest:List kA) (d:Int),0≤d→KB (TA t++rest) d=KB rest (d+1)
 | .base w,h,rest,d,hd=>by
  have hk:LC ⟨0,w⟩ d=true:=wK.2 ⟨by simp,by simp [zC];exact hd,by simpa [okT] using h⟩;simp [TA,KB,hk,zC]
 | .dual t,h,rest,d,hd=>by
  have hk:LC ⟨3,SA⟩ (d+1)=true:=wK.2 ⟨by simp,by simp [zC];omega,by simp⟩;rw [TA,List.append_assoc,xK (t:=t) h _ d hd];simp [KB,hk,zC]
 | .two op a b,h,rest,d,hd=>by
  have h2:=WJ h.1;have hk:LC ⟨op,SA⟩ (d+1+1)=true:=wK.2 ⟨by have:=h.1;unfold MG at this;dsimp only;omega,by dsimp only;omega,by rw [if_neg (by have:=h.1;unfold MG at this;dsimp only;omega)]⟩;rw [TA,List.append_assoc,xK (t:=a) h.2.1 _ d hd,List.append_assoc,xK (t:=b) h.2.2 _ (d+1) (by omega)];simp only [List.singleton_append,KB,hk,if_pos,h2]
  congr 1;omega
theorem yK:∀(e:List kA) (ts:List XT),(∀t∈ts,okT t)→KB e ts.length=some 1→∃t,okT t∧VF ts++e=TA t
 | [],ts,hk,h=>by
  simp only [KB] at h;have h1:ts.length=1:=by injection h with h;omega
  match ts,h1 with
  | [t],_=>exact ⟨t,hk t (by simp),by simp [VF]⟩
 | n::e,ts,hk,h=>by
  unfold KB at h
  split at h
  ·rename_i hn
   obtain ⟨ho,hd,hw⟩:=wK.1 hn;by_cases h0:n.op=0
   ·rw [if_pos h0] at hw;have hn':n=⟨0,n.wish⟩:=by cases n;simp_all
    obtain ⟨t,ht,he⟩:=yK e (ts++[.base n.wish]) (by intro t ht;rcases List.mem_append.1 ht with ht | ht;exact hk t ht;simp at ht;rw [ht];exact hw) (by
     rw [← h];congr 1;simp [h0,zC])
    refine ⟨t,ht,?_⟩;rw [← he,xE,TA,List.append_assoc,← hn'];rfl
   rw [if_neg h0] at hw;by_cases h3:n.op=3
   ·have hn':n=⟨3,SA⟩:=by cases n;simp_all
    have ho3:zC n.op=1:=by rw [h3];rfl
    obtain ⟨T,a,rfl⟩:=bAq (l:=ts) (by omega);obtain ⟨t,ht,he⟩:=yK e (T++[.dual a]) (by intro t ht;rcases List.mem_append.1 ht with ht | ht;exact hk t (by simp [ht]);simp at ht;rw [ht];exact hk a (by simp)) (by
     rw [← h];congr 1;simp [ho3])
    refine ⟨t,ht,?_⟩;rw [← he,xE,xE,TA,hn'];simp
   ·have ho2:MG n.op:=by unfold MG;omega
    have hn':n=⟨n.op,SA⟩:=by cases n;simp_all
    have hd2:=WJ ho2;obtain ⟨T',b,rfl⟩:=bAq (l:=ts) (by omega);obtain ⟨T,a,rfl⟩:=bAq (l:=T') (by simp at hd;omega);obtain ⟨t,ht,he⟩:=yK e (T++[.two n.op a b]) (by
      intro t ht;rcases List.mem_append.1 ht with ht | ht
      ·exact hk t (by simp [ht])
      ·simp at ht;rw [ht];exact ⟨ho2,hk a (by simp),hk b (by simp)⟩) (by
     rw [← h];congr 1;simp [hd2])
    refine ⟨t,ht,?_⟩;rw [← he,xE,xE,xE,TA,← hn'];simp
  ·cases h
theorem bAr {e:List kA} (h:bB e=true):∃t,okT t∧e=TA t:=by
 obtain ⟨t,ht,he⟩:=yK e [] (by simp) (by simpa using fI h);exact ⟨t,ht,by simpa [VF] using he⟩
theorem qY {t:XT} (h:okT t) (hl:(TA t).length≤9):bB (TA t)=true:=by
 have:=xK h [] 0 (by omega);rw [List.append_nil] at this;unfold bB;rw [this];simp [KB,hl]
theorem dA4 {e pre:List kA} {ts:List XT} {i:Nat} (hok:∀t∈ts,okT t) (h0:0<ts.length) (h:e.take (i+1)=pre++VF ts) (hi:i<e.length) :
  ∃n ts2,e[i]? = some n∧(∀t∈ts2,okT t)∧(ts2.length:Int)=(ts.length:Int)-1+zC n.op∧e.take i=pre++VF ts2∧(n.op=0∨n.op=3∨MG n.op):=by
 obtain ⟨T,u,rfl⟩:=bAq h0;have key:∀(l:List kA) (n:kA),e.take (i+1)=l++[n]→e[i]? = some n∧e.take i=l:=fun l n hh=>by
  have hl:l.length=i:=by have:=congrArg List.length hh;simp at this;omega
  refine ⟨?_,?_⟩
  ·have:=congrArg (fun l=>l[i]?) hh;simp only [List.getElem?_take] at this;rw [if_pos (by omega)] at this;rw [this,List.getElem?_append_right (by omega),hl];simp
  ·have:=congrArg (List.take i) hh;rw [List.take_take,Nat.min_eq_left (by omega)] at this;rw [this,← hl];exact List.take_left' rfl
 have hT:∀t∈T,okT t:=fun t ht=>hok t (by simp [ht])
 have hu:=hok u (by simp);rw [xE] at h
 cases u with
 | base w=>
  obtain ⟨h1,h2⟩:=key (pre++VF T) ⟨0,w⟩ (by rw [h,TA];simp);exact ⟨_,T,h1,hT,by simp [zC],h2,.inl rfl⟩
 | dual t=>
  obtain ⟨h1,h2⟩:=key (pre++VF (T++[t])) ⟨3,SA⟩ (by rw [h,TA,xE];simp);exact ⟨_,T++[t],h1,by intro s hs;rcases List.mem_append.1 hs with hs | hs;exact hT s hs;simp at hs;rw [hs];exact hu,by simp [zC],h2,.inr (.inl rfl)⟩
 | two op a b=>
  obtain ⟨h1,h2⟩:=key (pre++VF (T++[a]++[b])) ⟨op,SA⟩ (by rw [h,TA,xE,xE];simp);refine ⟨_,T++[a]++[b],h1,?_,?_,h2,.inr (.inr hu.1)⟩
  ·intro s hs;rcases List.mem_append.1 hs with hs | hs
   ·rcases List.mem_append.1 hs with hs | hs
    ·exact hT s hs
    ·simp at hs;rw [hs];exact hu.2.1
   ·simp at hs;rw [hs];exact hu.2.2
  ·rw [WJ hu.1];simp;try omega
end Go.Proofs.YtpihighajaeabaaGreat
namespace Go.Proofs.YtpihighajaeabaaGreat
open Go.RowKit
set_option linter.unusedVariables false
set_option linter.unusedSimpArgs false
theorem rY:∀ts:List XT,ts.length≤(VF ts).length
 | []=>Nat.le_refl _
 | t::ts=>by
  have h1:=pD t;have h2:=rY ts;have e:VF (t::ts)=TA t++VF ts:=by simp [VF]
  rw [e,List.length_append,List.length_cons];omega
theorem dA5 (t:XT):VF [t]=TA t:=by simp [VF]
set_option maxRecDepth 100000 in
set_option maxHeartbeats 1600000 in
theorem pH (w:World) (e pre:List kA) (t:XT) (m:Nat) (v:Value) (h:Rd RA w e [v]) (hok:okT t) (hm:m<e.length) (h9:e.length≤9) (he:e.take (m+1)=pre++TA t) :
  Calls Tryz.prog 181 #[v,.int .i64 (m:Int)] w (Ret w (.int .i64 (pre.length:Int))):=by
 have HT:=Lib.hid (show ∀s∈[t],okT s from fun s hs=>by simp at hs;rw [hs];exact hok);have HE:=Lib.hid (show e.take (m+1)=pre++VF [t] by rw [dA5];exact he);obtain ⟨A,n,c,rfl,L0,Lc,Lm⟩:=iA h;unfold maxLen at Lm;have L:=Lib.hid L0;clear L0;rw [← L.out] at hm h9;clear he hok;go_enter Tryz.func181,Tryz.ntmps181;go_wp2
 go_loopg [5,6] (m+1) (fun g d i w'=>∃(k:Nat) (ts:List XT) (z:Nat),k<n∧g=k+1∧i=.int .i64 k∧d=.int .i64 z∧Hid (z=ts.length)∧0<z∧z≤9∧Hid (∀s∈ts,okT s)∧Hid (e.take (k+1)=pre++VF ts)∧Bw w w')
 case atStart=>exact ⟨m,[t],1,hm,rfl,rfl,rfl,Lib.hid rfl,by omega,by omega,HT,HE,Bw.refl _⟩
 case round=>
  clear HT HE;obtain ⟨k,ts,z,hk,rfl,rfl,rfl,HZ,z0,z9,HT,HE,hb⟩:=hrel;obtain ⟨x,ts2,hx,hok2,hlen,htk,hop⟩:=dA4 HT.out (by rw [← HZ.out];exact z0) HE.out (by rw [← L.out];exact hk);obtain ⟨ba,oa,Al,cl,Ap,cp,rfl,_,c0,_⟩:=bE h hx;have i1:(0:Int)≤(k:Int):=by omega
  have i2:(k:Int)<(n:Int):=by omega
  replace c0:=hb.cell c0;have hO:=eX x.op;have hl2:ts2.length≤9:=by
   have h1:=rY ts2;have h2:=congrArg List.length htk;rw [List.length_append,List.length_take,← L.out] at h2;omega
  obtain ⟨O,hOe⟩:∃O,O=zC x.op:=⟨_,rfl⟩;have key:∀W,Calls Tryz.prog 184 #[.int .i64 x.op] W (Ret W (.int .i64 O)):=fun W=>by rw [hOe];exact OI W x.op
  rw [← hOe] at hlen hO;obtain ⟨y,hy⟩:∃y,y=ts2.length:=⟨_,rfl⟩;rw [← hy] at hlen hl2;rw [← HZ.out] at hlen;have HY:=Lib.hid hy;have HTK:=Lib.hid htk;have HO2:=Lib.hid hok2;have HLEN:=Lib.hid hlen;have HPRE:=Lib.hid (show y=0→(pre.length:Int)=(k:Int) from fun h0=>by
   have h2:=congrArg List.length htk;rw [show ts2=[] from List.eq_nil_of_length_eq_zero (by rw [← hy];exact h0),dA2,List.append_nil,List.length_take,← L.out] at h2;omega)
  have HK1:=Lib.hid (show 0<y→1≤k from fun h0=>by
   have h1:=dA3 (ts:=ts2) (by rw [← hy];exact h0);have h2:=congrArg List.length htk;rw [List.length_append,List.length_take,← L.out] at h2;omega)
  have HH:=Lib.hid h;clear hx hok2 htk hop hOe hy hlen h;go_wp2_with fail;refine (key _).mono ?_;rintro e w2 ⟨rfl,hb2⟩;have hbb:=hb.then hb2;have hO3:O=(y:Int)-(z:Int)+1:=by have:=HLEN.out;omega
  clear key HLEN c0;by_cases hy0:y=0
  ·have e1:((z:Int)-1+O==0)=true:=by simp;omega
   have HF:=Lib.hid (HPRE.out hy0);have hO4:=Lib.hid hO3;clear hO3;go_wp2;go_ret;exact Ret.int (HF.out.symm) (hbb)
  ·have e1:((z:Int)-1+O==0)=false:=by simp;omega
   have hk1:=HK1.out (by omega);have HO4:=Lib.hid hO3;have h:=HH.out;clear hO3;go_wp2
   go_roundg k
   case measure=>omega
   case rel=>exact ⟨k-1,ts2,y,by omega,by omega,by go_num,by have:=HO4.out;go_num,HY,by omega,by omega,HO2,Lib.hid (by rw [show k-1+1=k by omega];exact HTK.out),hbb⟩
end Go.Proofs.YtpihighajaeabaaGreat
namespace Go.Proofs.YtpihighajaeabaaGreat
open Go.RowKit
set_option linter.unusedVariables false
set_option linter.unusedSimpArgs false
theorem bAs:∀ {l:List Int} {p:Int},rC (some p) l=true→p≤9→(l.length:Int)≤9-p
 | [],p,_,h=>by simp;omega
 | v::l,p,h,hp=>by
  simp only [rC,Bool.and_eq_true,decide_eq_true_eq] at h;have hv:=qC.1 h.1.1;have:=bAs h.2 hv.2;simp only [List.length_cons];omega
theorem aAg {x:eB} (h:gB x=true):x.list.length≤10∧x.pairs.length≤8:=by
 unfold gB at h;simp only [Bool.and_eq_true] at h;refine ⟨?_,?_⟩
 ·have ha:=h.2.2.2.1
  match hl:x.list,ha with
  | [],_=>simp
  | v::l,ha=>
   simp only [rC,Bool.and_eq_true] at ha;have hv:=qC.1 ha.1;have:=bAs ha.2 hv.2;simp only [List.length_cons];omega
 ·have hp:=h.2.2.2.2.2.2
  split at hp
  ·unfold yB at hp;simp only [Bool.and_eq_true,decide_eq_true_eq] at hp;exact hp.2.1
  ·rw [decide_eq_true_eq] at hp;omega
theorem XP:∀ {e:List kA} {d r:Int},KB e d=some r→∀n∈e,kK n≤18
 | [],_,_,_,n,hn=>by simp at hn
 | m::e,d,r,h,n,hn=>by
  rw [KB] at h
  split at h
  ·rename_i hk
   rcases List.mem_cons.1 hn with h1 | h1
   ·subst h1;unfold LC at hk;simp only [Bool.and_eq_true] at hk;have hw:=hk.2.2
    split at hw
    ·have:=aAg hw;unfold kK nV;omega
    ·rw [decide_eq_true_eq] at hw;unfold kK nV;rw [hw];simp [SA]
   ·exact XP h n h1
  ·cases h
theorem fAq {α:Type} (f:α→Nat) (B:Nat):∀ {l:List α},(∀x∈l,f x≤B)→NH f l≤B*l.length
 | [],_=>by simp [NH]
 | x::l,h=>by
  have h1:=h x (by simp);have h2:=fAq f B (l:=l) (fun y hy=>h y (by simp [hy]));simp only [NH,List.length_cons,Nat.mul_add];omega
theorem YI {e:List kA} (h:bB e=true):tC e≤171:=by
 unfold bB at h;rw [Bool.and_eq_true,decide_eq_true_eq,decide_eq_true_eq] at h;have:=fAq kK 18 (XP h.1);unfold tC;omega
end Go.Proofs.YtpihighajaeabaaGreat
namespace Go.Proofs.YtpihighajaeabaaGreat
open Go.RowKit
set_option linter.unusedVariables false
set_option linter.unusedSimpArgs false
theorem ZL {α:Type} {sz:Nat} {R:Rep α} {w:World} {S:XB} {xs:List α} {b o n c:Nat} (h:rSl sz R w S xs [.slice (some ⟨b,o,none⟩) n c]) (i k:Nat) (hik:i≤k) (hk:k≤n) (hn:n=xs.length) :
  rSl sz R w S ((xs.drop i).take (k-i)) [.slice (some ⟨b,o+i*sz,none⟩) (k-i) (c-i)]:=by
 obtain ⟨A,c',e,h1,h2,h3⟩:=h;injection e with e _;injection e with e1 e2 e3;subst e1 e3;have hl:((xs.drop i).take (k-i)).length=k-i:=by rw [List.length_take,List.length_drop];omega
 refine ⟨_,c-i,by rw [hl],by rw [hl];omega,Nat.le_trans (Nat.sub_le _ _) h2,fun j x hx=>?_⟩;have hj:j<k-i:=by rw [← hl];exact (List.getElem?_eq_some_iff.1 hx).1
 rw [List.getElem?_take,if_pos hj,List.getElem?_drop] at hx;obtain ⟨b',o',us,eA,hS,hul,hc,hr⟩:=h3 (i+j) x hx;injection eA with eA;injection eA with e4 e5 _;subst e4 e5;refine ⟨b,o+i*sz,us,rfl,hS,hul,fun t u hu=>?_,hr⟩;have:=hc t u hu;rw [show o+i*sz+j*sz+t=o+(i+j)*sz+t by rw [Nat.add_mul];omega];exact this
def lI:XT→Int
 | .base _=>0
 | .dual _=>3
 | .two op _ _=>op
theorem dA6:∀t:XT,∃n,(TA t)[(TA t).length-1]? = some n∧n.op=lI t
 | .base w=>⟨⟨0,w⟩,by simp [TA],rfl⟩
 | .dual t=>⟨⟨3,SA⟩,by simp [TA],rfl⟩
 | .two op a b=>⟨⟨op,SA⟩,by
   have:TA (.two op a b)=(TA a++TA b)++[⟨op,SA⟩]:=by simp [TA]
   rw [this];simp,rfl⟩
theorem VD (op:Int) (a b:XT):(TA (.two op a b)).length=(TA a).length+(TA b).length+1:=by simp [TA];omega
end Go.Proofs.YtpihighajaeabaaGreat
namespace Go.Proofs.YtpihighajaeabaaGreat
open Go.RowKit
set_option linter.unusedVariables false
theorem KT {α:Type} {P:Program} {o:Oper} {a:Act} {K:Act→World→Prop} {Q:Exit→Act→World→Prop} (W:World) (s x:Operand) (t:TypeId)
  (ho:o.op=.call { callee:=.builtin .append,args:=#[s,x],argTypes:=#[t,t] })
  (w0:World) (e:TypeId) (i:TypeInfo) (z:Value) (sz bytes:Nat) (ht:P.underlying t=some (.slice e)) (hi:P.info? e=some i) (hz:i.zero=some z)
  (hsize:i.size=sz) (hby:i.bytes=bytes) (hzs:z.cells.size=sz) (hsz:0<sz)
  {R:Fp α} (hR:VB w0.heap.size R) (v:Value) (xs:List α) (F:List Nat) (hs:a.eval s=v) (hv:fSl e sz R W xs [v] F) (hF:pA w0.heap.size F)
  (sv:Value) (hx:a.eval x=sv) (ys:List α) (G:List Nat) (hw:fSl e sz R W ys [sv] G) (m:Nat) (hFm:∀b∈F,b<m) (hG:pA m G) (hm:w0.heap.size≤m)
  (hbytes:(xs.length+ys.length)*bytes≤140737488355328) (hlen:xs.length+ys.length<4611686018427387904) (hbw:Bw w0 W)
  (h:∀v' w' F',fSl e sz R w' (xs++ys) [v'] F'→pA w0.heap.size F'→Bw w0 w'→SB F W w'→(∀b∈F',b∈F∨b∈G∨W.heap.size≤b)→K (a.put o.dst v') w'):o.wp P a W K Q:=by
 have hw0:=hw;obtain ⟨v0,us,Fs,hv0,hown,hall,hFe⟩:=hv;injection hv0 with hv0;subst hv0;obtain ⟨v1,vs,Gs,hv1,hownG,hallG,hGe⟩:=hw;injection hv1 with hv1;subst hv1;have hl:=EE hall;have hlG:=EE hallG;have hvg:∀k,v.ownBlock=some k→w0.heap.size≤k:=fun k hk=>hF.ge k (by rw [hFe];simp [hk])
 rcases hownG.2 with ⟨rfl,hz0⟩ | ⟨g,cap,cur,rfl,hb,hg,hnc,hcm,hcs,_⟩
 ·have hy0:ys=[]:=List.eq_nil_of_length_eq_zero hz0;subst hy0;have hrun:=iF (P:=P) W 0 t o.type e i sz ht hi v xs.length us.flatten hown 0;unfold Oper.wp execOp;simp only [ho,resolve,invoke,builtin,Sem.run_bind,Sem.run_pure,Result.andThen_ok,List.map_toArray,List.map_cons,List.map_nil,hs,hx];rw [hrun];exact (h v W F (by rw [List.append_nil];exact ⟨v,us,Fs,rfl,hown,hall,hFe⟩) hF hbw (SB.refl F W) (fun b hb=>.inl hb))
 ·have hvsl:∀u∈vs,u.length=sz:=fun u hu=>by obtain ⟨x,f,hr⟩:=RE hallG hu;exact hr.2
  have hone:∀u∈vs.flatten,u.oneCell'=true:=fun u hu=>by
   obtain ⟨l,hl',hul⟩:=List.mem_flatten.1 hu;obtain ⟨x,f,hr⟩:=RE hallG hl';exact hR.one hr.1 u hul
  have hnews:∀j u,vs.flatten[j]? = some u→W.cell? ((⟨g,0,none⟩:Addr).add j)=some u:=fun j u hj=>hownG.cells (g:=g) rfl j u hj
  obtain ⟨v',w',hrun,hown',hgrow,_,hat⟩:=run_append_own_at (P:=P) W 0 t o.type e i z sz bytes ht hi hz hsize hby hzs hsz v xs.length us.flatten hown ⟨g,0,none⟩ ys.length cap vs.flatten (by rw [GE hvsl,hlG.1]) hnews hone
   (by simp only [maxLen];omega) hbytes (Nat.zero_le _)
  have hbw':Bw w0 w':=hbw.grown hgrow hvg;have hvF:∀b,b∈Fs.flatten→some b≠v.ownBlock:=by
   intro b hb e;have hn:=hF.nodup;rw [hFe,List.nodup_append] at hn;exact hn.2.2 b (by simp [← e]) b hb rfl
  have hGge:∀b∈Gs.flatten,m≤b:=fun b hb=>hG.ge b (by rw [hGe];exact List.mem_append_right _ hb)
  have hFlt:∀b∈Fs.flatten,b<m:=fun b hb=>hFm b (by rw [hFe];exact List.mem_append_right _ hb)
  have hvG:∀b,b∈Gs.flatten→some b≠v.ownBlock:=by
   intro b hb e;have h1:=hGge b hb;have h2:=hFm b (by rw [hFe];simp [← e]);omega
  have hlts:∀b∈Fs.flatten,b<W.heap.size:=fun b hb=>(xB hR).lt (⟨v,us,Fs,rfl,hown,hall,rfl⟩:fSl e sz R W xs [v] _) b (List.mem_append_right _ hb)
  have hltG:∀b∈Gs.flatten,b<W.heap.size:=fun b hb=>(xB hR).lt hw0 b (by rw [hGe];exact List.mem_append_right _ hb)
  have hold:∀b,b<w0.heap.size→w'.heap[b]? = W.heap[b]?:=fun b hb=>hgrow.block b (Nat.lt_of_lt_of_le hb hbw.size) (fun e=>by have:=hvg b e.symm;omega)
  unfold Oper.wp execOp;simp only [ho,resolve,invoke,builtin,Sem.run_bind,Sem.run_pure,Result.andThen_ok,List.map_toArray,List.map_cons,List.map_nil,hs,hx,hrun];refine (h v' w' (v'.ownBlock.toList++(Fs++Gs).flatten) ⟨v',us++vs,Fs++Gs,rfl,?_,?_,rfl⟩ ⟨?_,?_⟩ hbw' ⟨hgrow.size,fun b hb hn=>hgrow.block b hb (fun e=>hn (by rw [hFe];simp [← e]))⟩ ?_)
  ·rw [List.length_append,List.flatten_append];exact hown'
  ·refine AG (rF (fun x u f' hf' hx=>⟨hR.step (fun b hb=>?_) hx.1,hx.2⟩) hall) (rF (fun x u f' hf' hx=>⟨hR.step (fun b hb=>?_) hx.1,hx.2⟩) hallG)
   ·rcases hb with hb | hb
    ·have hb':b∈Fs.flatten:=List.mem_flatten.2 ⟨_,hf',hb⟩;exact hgrow.block b (hlts b hb') (hvF b hb')
    ·exact hold b hb
   ·rcases hb with hb | hb
    ·have hb':b∈Gs.flatten:=List.mem_flatten.2 ⟨_,hf',hb⟩;exact hgrow.block b (hltG b hb') (hvG b hb')
    ·exact hold b hb
  ·rw [List.flatten_append,List.nodup_append];have hn:=hF.nodup;rw [hFe,List.nodup_append] at hn;have hnG:=hG.nodup;rw [hGe,List.nodup_append] at hnG;refine ⟨by cases v'.ownBlock<;>simp,List.nodup_append.2 ⟨hn.2.1,hnG.2.1,fun p hp q hq e=>?_⟩,fun p hp q hq e=>?_⟩
   ·have:=hFlt p hp;have:=hGge q hq;omega
   ·subst e;have hp':v'.ownBlock=some p:=by simpa using hp
    rcases hat with e | e
    ·rcases List.mem_append.1 hq with hq | hq
     ·exact hvF p hq (by rw [← e,hp'])
     ·exact hvG p hq (by rw [← e,hp'])
    ·rw [hp'] at e;injection e with e;rcases List.mem_append.1 hq with hq | hq
     ·have:=hlts p hq;omega
     ·have:=hltG p hq;omega
  ·intro b hb;rcases List.mem_append.1 hb with hb | hb
   ·have hb':v'.ownBlock=some b:=by simpa using hb
    rcases hat with e | e
    ·exact hvg b (by rw [← e,hb'])
    ·rw [hb'] at e;injection e with e;have:=hbw.size;omega
   ·rw [List.flatten_append] at hb;rcases List.mem_append.1 hb with hb | hb
    ·exact hF.ge b (by rw [hFe];exact List.mem_append_right _ hb)
    ·have:=hGge b hb;omega
  ·intro b hb;rcases List.mem_append.1 hb with hb | hb
   ·have hb':v'.ownBlock=some b:=by simpa using hb
    rcases hat with e | e
    ·exact .inl (by rw [hFe];simp [← e,hb'])
    ·rw [hb'] at e;injection e with e;exact .inr (.inr (by omega))
   ·rw [List.flatten_append] at hb;rcases List.mem_append.1 hb with hb | hb
    ·exact .inl (by rw [hFe];exact List.mem_append_right _ hb)
    ·exact .inr (.inl (by rw [hGe];exact List.mem_append_right _ hb))
theorem qO {α:Type} {P:Program} {ops:Array Oper} {rest:List Oper} {o:Oper} {a:Act} {Q:Exit→Act→World→Prop} (W:World) (hgd:o.guard=none) (s x:Operand) (t:TypeId)
  (ho:o.op=.call { callee:=.builtin .append,args:=#[s,x],argTypes:=#[t,t] })
  (w0:World) (e:TypeId) (i:TypeInfo) (z:Value) (sz bytes:Nat) (ht:P.underlying t=some (.slice e)) (hi:P.info? e=some i) (hz:i.zero=some z)
  (hsize:i.size=sz) (hby:i.bytes=bytes) (hzs:z.cells.size=sz) (hsz:0<sz)
  {R:Fp α} (hR:VB w0.heap.size R) (v:Value) (xs:List α) (F:List Nat) (hs:a.eval s=v) (hv:fSl e sz R W xs [v] F) (hF:pA w0.heap.size F)
  (sv:Value) (hx:a.eval x=sv) (ys:List α) (G:List Nat) (hw:fSl e sz R W ys [sv] G) (m:Nat) (hFm:∀b∈F,b<m) (hG:pA m G) (hm:w0.heap.size≤m)
  (hbytes:(xs.length+ys.length)*bytes≤140737488355328) (hlen:xs.length+ys.length<4611686018427387904) (hbw:Bw w0 W)
  (h:∀v' w' F',fSl e sz R w' (xs++ys) [v'] F'→pA w0.heap.size F'→Bw w0 w'→SB F W w'→(∀b∈F',b∈F∨b∈G∨W.heap.size≤b)→wpList P ops Q rest (a.put o.dst v') w'):wpList P ops Q (o::rest) a W:=
 wpList_plain hgd fun _ hK=>KT W s x t ho w0 e i z sz bytes ht hi hz hsize hby hzs hsz hR v xs F hs hv hF sv hx ys G hw m hFm hG hm hbytes hlen hbw fun v' w' F' h1 h2 h3 h4 h5=>hK _ _ (h v' w' F' h1 h2 h3 h4 h5)
end Go.Proofs.YtpihighajaeabaaGreat
namespace Go.Proofs.YtpihighajaeabaaGreat
open Go.RowKit
set_option linter.unusedVariables false
set_option linter.unusedSimpArgs false
theorem hAm {α:Type} (pre x post:List α):((pre++(x++post)).drop pre.length).take x.length=x:=by simp
theorem IF {α:Type} (pre x post:List α):(pre++(x++post)).take (pre.length+x.length)=pre++x:=by
 rw [← List.append_assoc,← List.length_append,List.take_left'];rfl
theorem UH {α:Type} {sz:Nat} {R:Rep α} {w:World} {S:XB} {e pre x post:List α} {b o n c:Nat} (h:rSl sz R w S e [.slice (some ⟨b,o,none⟩) n c]) (hn:n=e.length) (he:e=pre++(x++post)) {i k:Nat} (hi:i=pre.length) (hk:k=pre.length+x.length) :
  rSl sz R w S x [.slice (some ⟨b,o+i*sz,none⟩) (k-i) (c-i)]:=by
 have h1:=ZL h i k (by omega) (by rw [hn,he];simp;omega) hn;rw [he,hi,show k-pre.length=x.length by omega,hAm,← hi] at h1;rw [show k-i=x.length by omega];exact h1
end Go.Proofs.YtpihighajaeabaaGreat
namespace Go.Proofs.YtpihighajaeabaaGreat
open Go.RowKit
set_option linter.unusedVariables false
end Go.Proofs.YtpihighajaeabaaGreat
namespace Go.Proofs.YtpihighajaeabaaGreat
open Go.RowKit
set_option linter.unusedVariables false
set_option linter.unusedSimpArgs false
def jD (r:Int):XT→Option (List kA)
 | .dual (.dual s)=>if r=1 then some (TA s) else none
 | .dual (.two op a b)=>if r=2 then some (TA a++(⟨3,SA⟩::(TA b++[⟨3,SA⟩,⟨op,SA⟩]))) else none
 | .two op a b=>if r=3∧TA a=TA b then some (TA a) else none
 | _=>none
def sY (pre post:List kA) (o:Option (List kA)) (w:World) (e:Ending) (w':World):Prop:=∃v b,e=.returned (.tuple #[v,.bool b])∧Bw w w'∧match o with
 | some x=>b=decide ((pre++(x++post)).length≤9)∧Rd RA w' (pre++(x++post)) [v]
 | none=>b=false
theorem hAo {t:XT} {e pre post:List kA} {m:Nat} (he:e=pre++(TA t++post)) (hm:m+1=pre.length+(TA t).length):∃x,e[m]? = some x∧x.op=lI t:=by
 obtain ⟨x,hx,hxo⟩:=dA6 t;have hp:=pD t;refine ⟨x,?_,hxo⟩;rw [he,List.getElem?_append_right (by omega),List.getElem?_append_left (by omega),show m-pre.length=(TA t).length-1 by omega];exact hx
theorem rO {w:World} {t:XT} {e pre post:List kA} {ba oa n m c:Nat} (h:Rd RA w e [.slice (some ⟨ba,oa,none⟩) n c]) (he:e=pre++(TA t++post)) (hm:m+1=pre.length+(TA t).length):w.cell? ⟨ba,oa+m*6,none⟩=some (.int .i64 (lI t)):=by
 obtain ⟨x,hx,hxo⟩:=hAo he hm;obtain ⟨b,o,Al,cl,Ap,cp,e1,_,c0,_⟩:=bE h hx;injection e1 with e1;injection e1 with e1 e2;subst e1 e2;rw [← hxo];exact c0
theorem aM (s:XT) (post:List kA):TA (.dual s)++post=TA s++(⟨3,SA⟩::post):=by simp [TA]
theorem aE (s:XT):(TA (.dual s)).length=(TA s).length+1:=by simp [TA]
theorem dA7 {t:XT} (h:okT t) (hd:¬ ∃s,t=.dual s):lI t≠3:=by
 cases t with
 | base w=>simp [lI]
 | dual s=>exact absurd ⟨s,rfl⟩ hd
 | two op a b=>have:=h.1;unfold MG at this;simp only [lI];omega
theorem tY {s:XT} (hd:¬ ∃s',s=.dual s'):jD 1 (.dual s)=none:=by
 cases s with
 | base w=>rfl
 | dual s=>exact absurd ⟨s,rfl⟩ hd
 | two op a b=>simp [jD]
theorem aAh {t:XT} (hd:¬ ∃s,t=.dual s):jD 1 t=none:=by
 cases t with
 | base w=>rfl
 | dual s=>exact absurd ⟨s,rfl⟩ hd
 | two op a b=>simp [jD]
theorem aAi (op:Int) (a b:XT):jD 2 (.dual (.two op a b))=some (TA a++(⟨3,SA⟩::(TA b++[⟨3,SA⟩,⟨op,SA⟩]))):=by simp [jD]
theorem xY {s:XT} (hd:¬ ∃op a b,s=.two op a b):jD 2 (.dual s)=none:=by
 cases s with
 | base w=>rfl
 | dual s=>simp [jD]
 | two op a b=>exact absurd ⟨op,a,b,rfl⟩ hd
theorem aAj {t:XT} (hd:¬ ∃s,t=.dual s):jD 2 t=none:=by
 cases t with
 | base w=>rfl
 | dual s=>exact absurd ⟨s,rfl⟩ hd
 | two op a b=>simp [jD]
theorem aAk {op:Int} {a b:XT} (h:TA a=TA b):jD 3 (.two op a b)=some (TA a):=by simp [jD,h]
theorem dA8 {op:Int} {a b:XT} (h:¬TA a=TA b):jD 3 (.two op a b)=none:=by simp [jD,h]
theorem aAl {t:XT} (hd:¬ ∃op a b,t=.two op a b):jD 3 t=none:=by
 cases t with
 | base w=>rfl
 | dual s=>cases s<;>simp [jD]
 | two op a b=>exact absurd ⟨op,a,b,rfl⟩ hd
end Go.Proofs.YtpihighajaeabaaGreat
namespace Go.Proofs.YtpihighajaeabaaGreat
open Go.RowKit
set_option linter.unusedVariables false
set_option linter.unusedSimpArgs false
structure qS (T:List kA→Prop) (e:List kA) (m:Nat) (q:List kA×XT×List kA):Prop where
 eq:e=q.1++(TA q.2.1++q.2.2)
 ok:okT q.2.1
 at':m+1=q.1.length+(TA q.2.1).length
 put:∀t',okT t'→T (q.1++(TA t'++q.2.2))
def rS (e:List kA):Prop:=∃t,okT t∧e=TA t
theorem zK:∀ {u:XT},okT u→∀ {m:Nat},m<(TA u).length→∃q,qS rS (TA u) m q
 | .base w,h,m,hm=>⟨([],.base w,[]),⟨by simp,h,by simp [TA] at hm ⊢;omega,fun t' ht=>⟨t',ht,by simp⟩⟩⟩
 | .dual s,h,m,hm=>by
  by_cases hs:m<(TA s).length
  ·obtain ⟨⟨pre,t,post⟩,h1,h2,h3,h4⟩:=zK (u:=s) h hs;refine ⟨(pre,t,post++[⟨3,SA⟩]),⟨?_,h2,h3,fun t' ht=>?_⟩⟩
   ·show TA s++_=_
    rw [h1];simp
   ·obtain ⟨u',hu,he⟩:=h4 t' ht;refine ⟨.dual u',hu,?_⟩;show _=TA u'++_
    rw [← he];simp
  ·exact ⟨([],.dual s,[]),⟨by simp,h,by have:=aE s;dsimp only;simp only [List.length_nil];omega,fun t' ht=>⟨t',ht,by simp⟩⟩⟩
 | .two op a b,h,m,hm=>by
  have hl:=VD op a b;by_cases ha:m<(TA a).length
  ·obtain ⟨⟨pre,t,post⟩,h1,h2,h3,h4⟩:=zK (u:=a) h.2.1 ha;refine ⟨(pre,t,post++(TA b++[⟨op,SA⟩])),⟨?_,h2,h3,fun t' ht=>?_⟩⟩
   ·show TA a++_=_
    rw [h1];simp
   ·obtain ⟨u',hu,he⟩:=h4 t' ht;refine ⟨.two op u' b,⟨h.1,hu,h.2.2⟩,?_⟩;show _=TA u'++_
    rw [← he];simp
  ·by_cases hb:m<(TA a).length+(TA b).length
   ·obtain ⟨⟨pre,t,post⟩,h1,h2,h3,h4⟩:=zK (u:=b) h.2.2 (m:=m-(TA a).length) (by omega);refine ⟨(TA a++pre,t,post++[⟨op,SA⟩]),⟨?_,h2,by dsimp only at h3 ⊢;rw [List.length_append];omega,fun t' ht=>?_⟩⟩
    ·show TA a++(TA b++_)=_
     rw [h1];simp
    ·obtain ⟨u',hu,he⟩:=h4 t' ht;refine ⟨.two op a u',⟨h.1,h.2.1,hu⟩,?_⟩;show _=TA a++(TA u'++_)
     rw [← he];simp
   ·exact ⟨([],.two op a b,[]),⟨by simp,h,by dsimp only;simp only [List.length_nil];omega,fun t' ht=>⟨t',ht,by simp⟩⟩⟩
theorem aAm {e:List kA} (h:bB e=true) {m:Nat} (hm:m<e.length):∃q,qS rS e m q:=by
 obtain ⟨t,ht,rfl⟩:=bAr h;exact zK ht hm
theorem aAn {r:Int} {t:XT} {x:List kA} (h:jD r t=some x) (hok:okT t):∃t',okT t'∧x=TA t':=by
 cases t with
 | base w=>cases h
 | two op a b=>
  simp only [jD] at h
  split at h
  ·injection h with h;exact ⟨a,hok.2.1,h.symm⟩
  ·cases h
 | dual s=>
  cases s with
  | base w=>cases h
  | dual s=>
   simp only [jD] at h
   split at h
   ·injection h with h;exact ⟨s,hok,h.symm⟩
   ·cases h
  | two op a b=>
   simp only [jD] at h
   split at h
   ·injection h with h;exact ⟨.two op (.dual a) (.dual b),⟨hok.1,hok.2.1,hok.2.2⟩,by rw [← h];simp [TA]⟩
   ·cases h
def LT (q:List kA×XT×List kA) (r:Int) (e:List kA):List kA×Bool:=match jD r q.2.1 with
 | some x=>if (q.1++(x++q.2.2)).length≤9 then (q.1++(x++q.2.2),true) else (e,false)
 | none=>(e,false)
open Classical in
noncomputable def fE (e:List kA) (r m:Int):List kA×Bool:=
 if h:(bB e=true∧0≤m∧m<e.length)∧∃q,qS rS e m.toNat q then LT h.2.choose r e else (e,false)
theorem bM {e:List kA} {r m:Int} (h:¬(bB e=true∧0≤m∧m<e.length)):fE e r m=(e,false):=by unfold fE;rw [dif_neg (fun k=>h k.1)]
theorem iN {e:List kA} {r:Int} {m:Nat} (h:bB e=true) (hm:m<e.length):∃q,qS rS e m q∧fE e r m=LT q r e:=by
 have hh:(bB e=true∧0≤(m:Int)∧(m:Int)<e.length)∧∃q,qS rS e (m:Int).toNat q:=⟨⟨h,by omega,by omega⟩,aAm h hm⟩;refine ⟨hh.2.choose,hh.2.choose_spec,?_⟩;unfold fE;rw [dif_pos hh]
theorem YP {e y:List kA} {r m:Int} (h:fE e r m=(y,true)):bB y=true:=by
 by_cases hc:bB e=true∧0≤m∧m<e.length
 ·obtain ⟨k,rfl⟩:∃k:Nat,m=k:=⟨m.toNat,by omega⟩;obtain ⟨q,hq,hr⟩:=iN (r:=r) hc.1 (m:=k) (by omega);rw [hr] at h;unfold LT at h
  cases hx:jD r q.2.1 with
  | none=>rw [hx] at h;cases h
  | some x=>
   rw [hx] at h;dsimp only at h
   split at h
   ·rename_i hl
    injection h with h _;obtain ⟨t',ht',rfl⟩:=aAn hx hq.ok;obtain ⟨u,hu,he⟩:=hq.put t' ht';rw [← h,he];exact qY hu (by rw [← he];exact hl)
   ·cases h
 ·rw [bM hc] at h;cases h
theorem SV {e:List kA} {r m:Int} (h:(fE e r m).2=false):fE e r m=(e,false):=by
 by_cases hc:bB e=true∧0≤m∧m<e.length
 ·obtain ⟨k,rfl⟩:∃k:Nat,m=k:=⟨m.toNat,by omega⟩;obtain ⟨q,hq,hr⟩:=iN (r:=r) hc.1 (m:=k) (by omega);rw [hr] at h ⊢;unfold LT at h ⊢
  cases hx:jD r q.2.1 with
  | none=>rfl
  | some x=>
   rw [hx] at h;dsimp only at h ⊢
   split at h
   ·cases h
   ·rename_i hl;rw [if_neg hl]
 ·exact bM hc
theorem DU {e:List kA} (h:bB e=true):e.length≤9:=by
 unfold bB at h;rw [Bool.and_eq_true,decide_eq_true_eq,decide_eq_true_eq] at h;exact h.2
theorem fAr {e:List kA} (h:bB e=true):0<e.length:=by
 obtain ⟨t,_,rfl⟩:=bAr h;exact pD t
theorem dA9 {w:World} {e:List kA} {v:Value} (h:Rd RA w e [v]) (hn:0<e.length):∃b o n c,v=.slice (some ⟨b,o,none⟩) n c∧Hid (n=e.length)∧n≤c∧c≤9223372036854775807:=by
 obtain ⟨A,n,c,rfl,hl,hc,hm⟩:=iA h;unfold maxLen at hm;obtain ⟨x,hx⟩:=rA (xs:=e) (k:=0) hn;obtain ⟨b,o,_,_,_,_,rfl,_⟩:=bE h hx;exact ⟨b,o,n,c,rfl,Lib.hid hl,hc,hm⟩
def iAy (e:List kA) (r m:Int) (w:World) (e':Ending) (w':World):Prop:=∃v b,e'=.returned (.tuple #[v,.bool b])∧Bw w w'∧b=(fE e r m).2∧(b=true→Rd RA w' (fE e r m).1 [v])
theorem sY.a {e:List kA} {r:Int} {m:Nat} {q:List kA×XT×List kA} {w:World} {e':Ending} {w':World} (hr:fE e r m=LT q r e) (h:sY q.1 q.2.2 (jD r q.2.1) w e' w'):iAy e r m w e' w':=by
 obtain ⟨v,b,he,hb,hx⟩:=h;refine ⟨v,b,he,hb,?_⟩;rw [hr];unfold LT
 cases ho:jD r q.2.1 with
 | none=>
  rw [ho] at hx;dsimp only at hx ⊢;exact ⟨hx,fun h=>by rw [hx] at h;cases h⟩
 | some x=>
  rw [ho] at hx;dsimp only at hx ⊢;by_cases hl:(q.1++(x++q.2.2)).length≤9
  ·rw [if_pos hl];exact ⟨by rw [hx.1];exact decide_eq_true hl,fun _=>hx.2⟩
  ·rw [if_neg hl];exact ⟨by rw [hx.1];exact decide_eq_false hl,fun h=>by rw [hx.1,decide_eq_false hl] at h;cases h⟩
end Go.Proofs.YtpihighajaeabaaGreat
