/- The smallest change that makes an item one of the best: plain model. -/
import Derived.Test.YtpihighajaeabaaGreatQBestS
import Derived.Test.YtpihighajaeabaaGreatQReach
import Derived.Test.YtpihighajaeabaaGreatQFind
import Derived.Test.YtpihighajaeabaaGreatQOwn2
namespace Go.Proofs.YtpihighajaeabaaGreat
open Go.RowKit
set_option linter.unusedVariables false
structure PO (c:gA→gA→Int):Prop where
 code:∀x y,-1≤c x y∧c x y≤2
 refl:∀x,LA x=true→c x x=0
 anti:∀x y,LA x=true→LA y=true→c y x=wH (c x y)
 tr:∀x y z,LA x=true→LA y=true→LA z=true→0≤c x y→c x y≤1→0≤c y z→c y z≤1→c x z=max (c x y) (c y z)
theorem UO (w:eB) (a:Int):iE w a a=0:=by
 unfold iE;repeat' split
 all_goals first | rfl | omega | contradiction
theorem eU {l:List lB} (h:yB l=true) {a:Int} (ha:0≤a∧a≤9):AC l a a=false:=by
 simp only [yB,Bool.and_eq_true,List.all_eq_true] at h;have:=h.2.2 a.toNat (List.mem_range.2 (by omega));rw [Int.toNat_of_nonneg ha.1] at this
 simpa using this
theorem MZ {l:List lB} (h:yB l=true) {a b:Int} (ha:0≤a∧a≤9) (hb:0≤b∧b≤9) (h1:AC l a b=true):AC l b a=false:=by
 rw [Bool.eq_false_iff];intro h2;have:=YK hb h1 h2;rw [eU h ha] at this
 cases this
theorem cAk {w:eB} (hw:gB w=true) {a b:Int} (ha:0≤a∧a≤9) (hb:0≤b∧b≤9):iE w b a=wH (iE w a b):=by
 by_cases h4:w.kind=4
 ·have hp:=NF hw h4;unfold iE;rw [if_pos h4,if_pos h4];by_cases e:a=b
  ·rw [if_pos e,if_pos e.symm];rfl
  ·rw [if_neg e,if_neg (fun h=>e h.symm)];rcases Bool.eq_false_or_eq_true (AC w.pairs a b) with h1 | h1
   ·rw [MZ hp ha hb h1,h1];rfl
   ·rcases Bool.eq_false_or_eq_true (AC w.pairs b a) with h2 | h2
    ·rw [h1,h2];rfl
    ·rw [h1,h2];rfl
 ·unfold iE;rw [if_neg h4,if_neg h4];unfold wH
  repeat' split
  all_goals omega
theorem gAu {w:eB} (hw:gB w=true) {a b c:Int} (ha:0≤a∧a≤9) (hb:0≤b∧b≤9) (hc:0≤c∧c≤9) (h1:0≤iE w a b) (h2:iE w a b≤1) (h3:0≤iE w b c) (h4:iE w b c≤1):iE w a c=max (iE w a b) (iE w b c):=by
 by_cases k4:w.kind=4
 ·have hp:=NF hw k4;by_cases e:a=b
  ·subst e;rw [UO];omega
  by_cases e2:b=c
  ·subst e2;rw [UO];omega
  unfold iE at h1 h2 h3 h4 ⊢;simp only [if_pos k4,if_neg e,if_neg e2] at h1 h2 h3 h4 ⊢;rcases Bool.eq_false_or_eq_true (AC w.pairs a b) with r1 | r1
  ·rcases Bool.eq_false_or_eq_true (AC w.pairs b c) with r2 | r2
   ·have r3:=YK hb r1 r2;have e3:a≠c:=fun h=>by subst h;rw [eU hp ha] at r3;cases r3
    simp [r1,r2,r3,e3]
   ·rcases Bool.eq_false_or_eq_true (AC w.pairs c b) with r3 | r3
    ·simp [r2,r3] at h3
    ·simp [r2,r3] at h4
  ·rcases Bool.eq_false_or_eq_true (AC w.pairs b a) with r3 | r3
   ·simp [r1,r3] at h1
   ·simp [r1,r3] at h2
 ·unfold iE at h1 h2 h3 h4 ⊢;simp only [if_neg k4] at h1 h2 h3 h4 ⊢;generalize iD w a=ra at *;generalize iD w b=rb at *;generalize iD w c=rc at *;have t1:¬rb<ra:=fun hl=>by
   rw [if_neg (by omega),if_pos hl] at h1;omega
  have t2:¬rc<rb:=fun hl=>by
   rw [if_neg (by omega),if_pos hl] at h3;omega
  rw [if_neg t1,if_neg t2,if_neg (show ¬rc<ra by omega)];by_cases u1:ra<rb
  ·rw [if_pos u1,if_pos (show ra<rc by omega)];split<;>omega
  ·rw [if_neg u1];by_cases u2:rb<rc
   ·rw [if_pos u2,if_pos (show ra<rc by omega)];omega
   ·rw [if_neg u2,if_neg (show ¬ra<rc by omega)];omega
theorem PO.base {w:eB} (hw:gB w=true):PO (kF w):=by
 have hf:=fC hw;obtain ⟨f,hf2⟩:∃f:Nat,w.field=f:=⟨w.field.toNat,by omega⟩;have bd:∀x,LA x=true→0≤nE x w.field∧nE x w.field≤9:=fun x hx=>by rw [hf2];exact XK hx (by omega)
 refine ⟨fun x y=>WT _ _ _,fun x hx=>UO _ _,fun x y hx hy=>cAk hw (bd x hx) (bd y hy),fun x y z hx hy hz=>gAu hw (bd x hx) (bd y hy) (bd z hz)⟩
theorem PO.dual {c:gA→gA→Int} (h:PO c):PO (fun x y=>wH (c x y)):=by
 refine ⟨fun x y=>OO (h.code x y),fun x hx=>by rw [h.refl x hx];rfl,fun x y hx hy=>by rw [h.anti x y hx hy],fun x y z hx hy hz h1 h2 h3 h4=>?_⟩;rw [← h.anti x y hx hy] at h1 h2 ⊢;rw [← h.anti y z hy hz] at h3 h4 ⊢;rw [← h.anti x z hx hz,h.tr z y x hz hy hx h3 h4 h1 h2];omega
theorem MP {a:Int} (h : -1≤a∧a≤2):a = -1∨a=0∨a=1∨a=2:=by omega
theorem cAl (op:Int):RD op 0 0=0:=by unfold RD;simp
theorem cAm (op:Int) {a b:Int} (ha : -1≤a∧a≤2) (hb : -1≤b∧b≤2):RD op (wH a) (wH b)=wH (RD op a b):=by
 by_cases h1:op=1
 ·subst h1;rcases MP ha with rfl | rfl | rfl | rfl<;>rcases MP hb with rfl | rfl | rfl | rfl<;>decide
 by_cases h2:op=2
 ·subst h2;rcases MP ha with rfl | rfl | rfl | rfl<;>rcases MP hb with rfl | rfl | rfl | rfl<;>decide
 unfold RD;rw [if_neg h1,if_neg h2,if_neg h1,if_neg h2];rcases MP ha with rfl | rfl | rfl | rfl<;>rcases MP hb with rfl | rfl | rfl | rfl<;>decide
theorem gX {a b:Int} (ha : -1≤a∧a≤2) (hb : -1≤b∧b≤2) (h1:0≤RD 1 a b) (h2:RD 1 a b≤1):(0≤a∧a≤1)∧(0≤b∧b≤1):=by
 rcases MP ha with rfl | rfl | rfl | rfl<;>rcases MP hb with rfl | rfl | rfl | rfl<;>first | exact ⟨⟨by omega,by omega⟩,by omega,by omega⟩ | exact absurd h1 (by decide) | exact absurd h2 (by decide)
theorem VO {a b:Int} (ha:0≤a∧a≤1) (hb:0≤b∧b≤1):RD 1 a b=max a b:=by
 have ea:a=0∨a=1:=by omega
 have eb:b=0∨b=1:=by omega
 rcases ea with rfl | rfl<;>rcases eb with rfl | rfl<;>decide
theorem gAv {op:Int} {a1 b1 a2 b2 a3 b3:Int} (ha1 : -1≤a1∧a1≤2) (hb1 : -1≤b1∧b1≤2) (ha2 : -1≤a2∧a2≤2) (hb2 : -1≤b2∧b2≤2)
  (ha:0≤a1→a1≤1→0≤a2→a2≤1→a3=max a1 a2) (hb:0≤b1→b1≤1→0≤b2→b2≤1→b3=max b1 b2)
  (h1:0≤RD op a1 b1) (h2:RD op a1 b1≤1) (h3:0≤RD op a2 b2) (h4:RD op a2 b2≤1):RD op a3 b3=max (RD op a1 b1) (RD op a2 b2):=by
 by_cases k1:op=1
 ·subst k1;have p:=gX ha1 hb1 h1 h2;have q:=gX ha2 hb2 h3 h4;have e1:=ha p.1.1 p.1.2 q.1.1 q.1.2;have e2:=hb p.2.1 p.2.2 q.2.1 q.2.2;rw [VO p.1 p.2,VO q.1 q.2,VO (by omega) (by omega)];omega
 by_cases k2:op=2
 ·subst k2;have e:∀a b:Int,RD 2 a b=if a=0 then b else a:=fun a b=>rfl
  rw [e] at h1 h2 h3 h4 ⊢;rw [e,e];by_cases z1:a1=0
  ·rw [if_pos z1] at h1 h2 ⊢;by_cases z2:a2=0
   ·rw [if_pos z2] at h3 h4 ⊢;rw [if_pos (by omega)];omega
   ·rw [if_neg z2] at h3 h4 ⊢;rw [if_neg (by omega)];omega
  ·rw [if_neg z1] at h1 h2 ⊢;by_cases z2:a2=0
   ·rw [if_pos z2] at h3 h4 ⊢;rw [if_neg (by omega)];omega
   ·rw [if_neg z2] at h3 h4 ⊢;rw [if_neg (by omega)];omega
 have e:∀a b:Int,RD op a b=if a=b then a else 2:=fun a b=>by unfold RD;rw [if_neg k1,if_neg k2]
 rw [e] at h1 h2 h3 h4 ⊢;rw [e,e];by_cases z1:a1=b1
 ·rw [if_pos z1] at h1 h2 ⊢;by_cases z2:a2=b2
  ·rw [if_pos z2] at h3 h4 ⊢;rw [if_pos (by omega)];omega
  ·rw [if_neg z2] at h4;omega
 ·rw [if_neg z1] at h2;omega
theorem PO.two {op:Int} {a b:gA→gA→Int} (ha:PO a) (hb:PO b):PO (fun x y=>RD op (a x y) (b x y)):=by
 refine ⟨fun x y=>NO (ha.code x y) (hb.code x y),fun x hx=>by rw [ha.refl x hx,hb.refl x hx,cAl],fun x y hx hy=>by rw [ha.anti x y hx hy,hb.anti x y hx hy];exact cAm op (ha.code x y) (hb.code x y),fun x y z hx hy hz h1 h2 h3 h4=>?_⟩;exact gAv (ha.code x y) (hb.code x y) (ha.code y z) (hb.code y z) (ha.tr x y z hx hy hz) (hb.tr x y z hx hy hz) h1 h2 h3 h4
theorem eAx {α:Type} {l:List α} (h:0<l.length):∃T a,l=T++[a]:=⟨l.dropLast,l.getLast (fun e=>by rw [e] at h;simp at h),(List.dropLast_concat_getLast _).symm⟩
theorem iX {e:List kA} (hE:bB e=true):∀k,k≤e.length→∃fs:List (gA→gA→Int),(∀c∈fs,PO c)∧(∀x y,oE e x y k=fs.map (fun c=>c x y))∧KB (e.drop k) fs.length=some 1
 | 0,_=>⟨[],by simp,fun x y=>by simp [oE],by simpa using fI hE⟩
 | k+1,hk=>by
  obtain ⟨fs,h1,h2,h3⟩:=iX hE k (by omega);obtain ⟨n,hn⟩:∃n,e[k]? = some n:=⟨e[k],List.getElem?_eq_getElem (by omega)⟩;obtain ⟨ho,hd⟩:=VM h3 hn;have hge:=SO ho;by_cases h0:n.op=0
  ·refine ⟨fs++[kF n.wish],fun c hc=>?_,fun x y=>?_,?_⟩
   ·rcases List.mem_append.1 hc with hc | hc
    ·exact h1 c hc
    ·rw [List.mem_singleton] at hc;rw [hc];exact PO.base (aL ho h0)
   ·rw [XG hn,h2,TM h0];simp
   ·rw [← hd];congr 1;simp [zC,h0]
  ·by_cases h3':n.op=3
   ·have:zC n.op=1:=by unfold zC;rw [if_neg h0,if_pos h3']
    rw [this] at hge hd;obtain ⟨T,c,rfl⟩:=eAx (l:=fs) (by omega);refine ⟨T++[fun x y=>wH (c x y)],fun d hc=>?_,fun x y=>?_,?_⟩
    ·rcases List.mem_append.1 hc with hc | hc
     ·exact h1 d (by simp [hc])
     ·rw [List.mem_singleton] at hc;rw [hc];exact PO.dual (h1 c (by simp))
    ·rw [XG hn,h2,List.map_append,List.map_cons,List.map_nil,UM h3'];simp
    ·rw [← hd];congr 1;simp
   ·have h2':zC n.op=2:=by unfold zC;rw [if_neg h0,if_neg h3']
    rw [h2'] at hge hd;obtain ⟨T',b,rfl⟩:=eAx (l:=fs) (by omega);obtain ⟨T,a,rfl⟩:=eAx (l:=T') (by simp at hge;omega);refine ⟨T++[fun x y=>RD n.op (a x y) (b x y)],fun d hc=>?_,fun x y=>?_,?_⟩
    ·rcases List.mem_append.1 hc with hc | hc
     ·exact h1 d (by simp [hc])
     ·rw [List.mem_singleton] at hc;rw [hc];exact PO.two (h1 a (by simp)) (h1 b (by simp))
    ·rw [XG hn,h2,List.append_assoc,List.map_append,List.map_append,List.map_cons,List.map_cons,List.map_nil,List.singleton_append,RO h0 h3'];simp
    ·rw [← hd];congr 1;simp<;>omega
theorem PI {e:List kA} (hE:bB e=true):PO (CC e):=by
 obtain ⟨fs,h1,h2,h3⟩:=iX hE e.length (Nat.le_refl _);rw [List.drop_length] at h3;simp only [KB] at h3;have hl:fs.length=1:=by injection h3 with h3;omega
 match fs,hl with
 | [c],_=>
  have hc:CC e=c:=by
   funext x y
   rw [← bL (k:=e.length) (Nat.le_refl _),h2];rfl
  rw [hc];exact h1 c (by simp)
theorem NZ {e:List kA} {x x' y y':gA} (hx:x.vals=x'.vals) (hy:y.vals=y'.vals):CC e x y=CC e x' y':=by
 have:lE x y=lE x' y':=by
  funext st n
  unfold lE kF nE;rw [hx,hy]
 unfold CC;rw [this]
theorem PO.top {c:gA→gA→Int} (h:PO c):∀ {l:List gA},l≠[]→(∀x∈l,LA x=true)→∃m∈l,∀y∈l,c y m≠1
 | [],hl,_=>absurd rfl hl
 | x::l,_,hi=>by
  have hx:=hi x (by simp);by_cases hl:l=[]
  ·subst hl;exact ⟨x,by simp,fun y hy=>by rw [List.mem_singleton] at hy;rw [hy,h.refl x hx];omega⟩
  ·obtain ⟨m,hm,ht⟩:=PO.top h hl (fun y hy=>hi y (by simp [hy]));have hmi:=hi m (by simp [hm]);by_cases hb:c x m=1
   ·refine ⟨x,by simp,fun y hy he=>?_⟩;rcases List.mem_cons.1 hy with rfl | hy
    ·rw [h.refl _ hx] at he;omega
    ·refine ht y hy ?_;rw [h.tr y x m (hi y (by simp [hy])) hx hmi (by omega) (by omega) (by omega) (by omega)];omega
   ·exact ⟨m,by simp [hm],fun y hy=>by
     rcases List.mem_cons.1 hy with rfl | hy
     ·exact hb
     ·exact ht y hy⟩
theorem eAy {l:List gA} {e:List kA} (hE:bB e=true) (hl:l≠[]) (hi:∀x∈l,LA x=true):mD l e≠[]:=by
 obtain ⟨m,hm,ht⟩:=(PI hE).top hl hi;have:m.id∈mD l e:=by
  unfold mD;refine List.mem_map.2 ⟨m,List.mem_filter.2 ⟨hm,?_⟩,rfl⟩;unfold ZF;rw [Bool.not_eq_true',List.any_eq_false];intro y hy;simp only [MC,decide_eq_true_iff];exact ht y hy
 intro h;rw [h] at this;simp at this
end Go.Proofs.YtpihighajaeabaaGreat
namespace Go.Proofs.YtpihighajaeabaaGreat
open Go.RowKit
set_option linter.unusedVariables false
def eL (a b:Int):Int:=if a-b<b-a then b-a else a-b
def zF:List Int→List Int→Int
 | a::p,b::q=>eL a b+zF p q
 | _,_=>0
def gD (x y:gA):Int:=if LA x && LA y then zF x.vals y.vals else 0
theorem mR {xs ys:List Int} {k:Nat} {x y:Int} (hx:xs[k]? = some x) (hy:ys[k]? = some y):zF (xs.drop k) (ys.drop k)=eL x y+zF (xs.drop (k+1)) (ys.drop (k+1)):=by
 rw [NB hx,NB hy,zF]
set_option maxHeartbeats 800000 in
theorem eAz (w:World) (x y:gA) (v1 v2:Value) (h1:Rd XA w x.vals [v1]) (h2:Rd XA w y.vals [v2]) :
  Calls Tryz.prog 289 #[.agg #[.int .i64 x.id,v1],.agg #[.int .i64 y.id,v2]] w (Ret w (.int .i64 (gD x y))):=by
 have B0:Bw w ((w.alloc (.cells #[.int .i64 x.id,v1] 30)).alloc (.cells #[.int .i64 y.id,v2] 30)):=((Bw.refl w).alloc _).alloc _;obtain ⟨A1,n1,c1,rfl,a1,a2,a3⟩:=iA h1;obtain ⟨A2,n2,c2,rfl,b1,b2,b3⟩:=iA h2;have L1:=Lib.hid a1;have L2:=Lib.hid b1;clear a1 b1;unfold maxLen at a3 b3;go_enter Tryz.func289,Tryz.ntmps289;go_wp2_with fail;refine (MH _ x _ (h1.bw dA B0)).mono ?_;rintro e w2 ⟨rfl,hb2⟩;have hc2:=rG hb2;by_cases i1:LA x=true
 ·go_wp2_with fail;refine (MH _ y _ (h2.bw dA (B0.then hb2))).mono ?_;rintro e w3 ⟨rfl,hb3⟩;have B3:=hb2.then hb3;have hc3:=rG B3;clear hc2;by_cases i2:LA y=true
  ·have hn1:n1=3:=L1.out.trans (YA i1);have hn2:n2=3:=L2.out.trans (YA i2);subst hn1 hn2;have fin:gD x y=zF x.vals y.vals:=by simp [gD,i1,i2]
   have FIN:=Lib.hid fin;clear fin;go_wp2
   go_loopw [5,6] (fun s i w'=>∃(k:Nat) (n:Int),k≤3∧i=.int .i64 k∧s=.int .i64 n∧0≤n∧n≤9*k∧Hid (gD x y=n+zF (x.vals.drop k) (y.vals.drop k))∧Bw ((w.alloc (.cells #[.int .i64 x.id,.slice A1 3 c1] 30)).alloc (.cells #[.int .i64 y.id,.slice A2 3 c2] 30)) w') (fun s i _=>3-(intOf i).toNat)
   case atStart=>exact ⟨0,0,by omega,rfl,rfl,by omega,by omega,by show _=_;rw [FIN.out];simp,B3⟩
   case round=>
    obtain ⟨k,n,hk,rfl,rfl,g1,g2,HE,hb⟩:=hrel;have hc:=rG hb;clear hc3;by_cases hlt:k<3
    ·obtain ⟨p,hp⟩:=rA (xs:=x.vals) (k:=k) (by rw [← L1.out];exact hlt);obtain ⟨q,hq⟩:=rA (xs:=y.vals) (k:=k) (by rw [← L2.out];exact hlt);obtain ⟨ba,oa,rfl,_,hcx⟩:=GB (h1.bw dA (B0.then hb)) hp;obtain ⟨bb,ob,rfl,_,hcy⟩:=GB (h2.bw dA (B0.then hb)) hq;have ⟨p1,p2⟩:=dE i1 (List.mem_of_getElem? hp);have ⟨q1,q2⟩:=dE i2 (List.mem_of_getElem? hq);have HS:=Lib.hid (mR hp hq);clear hp hq h1 h2;go_wp2
     go_quiet (fail)
     go_wp2;have hd:0≤eL p q∧eL p q≤9:=by unfold eL;split<;>omega
     go_roundw
     case rel=>exact ⟨k+1,n+eL p q,by omega,by go_num,rfl,by omega,by omega,by show _=_;rw [HE.out,HS.out];omega,hb.drewN _⟩
     case measure=>simp [intOf];omega
    ·obtain rfl:k=3:=by omega
     go_wp2;go_ret;exact Ret.int (by rw [HE.out,List.drop_of_length_le (by rw [← L1.out];omega)];simp [zF]) (B0.then hb)
  ·have i2':LA y=false:=by simpa using i2
   clear i2;go_wp2;go_ret;exact Ret.int (by simp [gD,i2']) (B0.then B3)
 ·have i1':LA x=false:=by simpa using i1
  clear i1;go_wp2;go_ret;exact Ret.int (by simp [gD,i1']) (B0.then hb2)
set_option maxHeartbeats 800000 in
theorem fA0 (w:World) (x y:gA) (v1 v2:Value) (h1:Rd XA w x.vals [v1]) (h2:Rd XA w y.vals [v2]) :
  Calls Tryz.prog 286 #[.agg #[.int .i64 x.id,v1],.agg #[.int .i64 y.id,v2]] w (Ret w (.int .i64 (gD x y))):=by
 have B0:Bw w ((w.alloc (.cells #[.int .i64 x.id,v1] 30)).alloc (.cells #[.int .i64 y.id,v2] 30)):=((Bw.refl w).alloc _).alloc _;obtain ⟨A1,n1,c1,rfl,a1,a2,a3⟩:=iA h1;obtain ⟨A2,n2,c2,rfl,b1,b2,b3⟩:=iA h2;have L1:=Lib.hid a1;have L2:=Lib.hid b1;clear a1 b1;unfold maxLen at a3 b3;go_enter Tryz.func286,Tryz.ntmps286;go_wp2_with fail;refine (IE _ x _ (h1.bw dA B0)).mono ?_;rintro e w2 ⟨rfl,hb2⟩;have hc2:=rG hb2;by_cases i1:LA x=true
 ·go_wp2_with fail;refine (IE _ y _ (h2.bw dA (B0.then hb2))).mono ?_;rintro e w3 ⟨rfl,hb3⟩;have B3:=hb2.then hb3;have hc3:=rG B3;clear hc2;by_cases i2:LA y=true
  ·have hn1:n1=3:=L1.out.trans (YA i1);have hn2:n2=3:=L2.out.trans (YA i2);subst hn1 hn2;have fin:gD x y=zF x.vals y.vals:=by simp [gD,i1,i2]
   have FIN:=Lib.hid fin;clear fin;go_wp2
   go_loopw [5,19] (fun s i w'=>∃(k:Nat) (n:Int),k≤3∧i=.int .i64 k∧s=.int .i64 n∧0≤n∧n≤9*k∧Hid (gD x y=n+zF (x.vals.drop k) (y.vals.drop k))∧Bw ((w.alloc (.cells #[.int .i64 x.id,.slice A1 3 c1] 30)).alloc (.cells #[.int .i64 y.id,.slice A2 3 c2] 30)) w') (fun s i _=>3-(intOf i).toNat)
   case atStart=>exact ⟨0,0,by omega,rfl,rfl,by omega,by omega,by show _=_;rw [FIN.out];simp,B3⟩
   case round=>
    obtain ⟨k,n,hk,rfl,rfl,g1,g2,HE,hb⟩:=hrel;have hc:=rG hb;clear hc3;by_cases hlt:k<3
    ·obtain ⟨p,hp⟩:=rA (xs:=x.vals) (k:=k) (by rw [← L1.out];exact hlt);obtain ⟨q,hq⟩:=rA (xs:=y.vals) (k:=k) (by rw [← L2.out];exact hlt);obtain ⟨ba,oa,rfl,_,hcx⟩:=GB (h1.bw dA (B0.then hb)) hp;obtain ⟨bb,ob,rfl,_,hcy⟩:=GB (h2.bw dA (B0.then hb)) hq;have ⟨p1,p2⟩:=dE i1 (List.mem_of_getElem? hp);have ⟨q1,q2⟩:=dE i2 (List.mem_of_getElem? hq);have HS:=Lib.hid (mR hp hq);clear hp hq h1 h2;go_wp2
     go_quiet (fail)
     go_wp2;have hd:0≤eL p q∧eL p q≤9:=by unfold eL;split<;>omega
     go_roundw
     case rel=>exact ⟨k+1,n+eL p q,by omega,by go_num,rfl,by omega,by omega,by show _=_;rw [HE.out,HS.out];omega,hb.drewN _⟩
     case measure=>simp [intOf];omega
    ·obtain rfl:k=3:=by omega
     go_wp2;go_ret;exact Ret.int (by rw [HE.out,List.drop_of_length_le (by rw [← L1.out];omega)];simp [zF]) (B0.then hb)
  ·have i2':LA y=false:=by simpa using i2
   clear i2;go_wp2;go_ret;exact Ret.int (by simp [gD,i2']) (B0.then B3)
 ·have i1':LA x=false:=by simpa using i1
  clear i1;go_wp2;go_ret;exact Ret.int (by simp [gD,i1']) (B0.then hb2)
end Go.Proofs.YtpihighajaeabaaGreat
namespace Go.Proofs.YtpihighajaeabaaGreat
open Go.RowKit
set_option linter.unusedVariables false
def IB (id:Int) (n:Nat):gA:=⟨id,[(n:Int) / 100,(n:Int) / 10 % 10,(n:Int) % 10]⟩
def RC (e:List kA) (id:Int) (y x:gA):Bool:=decide (y.id≠id) && MC e y x
def AF (l:List gA) (e:List kA) (id:Int) (x:gA):Bool:=!(l.any fun y=>RC e id y x)
def WO (l:List gA) (e:List kA) (p:gA) (id:Int) (s:gA×Int) (n:Nat):gA×Int:=
 if (decide (s.2<0) || decide (gD p (IB id n)<s.2)) && AF l e id (IB id n) then (IB id n,gD p (IB id n)) else s
def XE (l:List gA) (e:List kA) (p:gA) (id:Int):Nat→gA×Int
 | 0=>(⟨0,[]⟩,-1)
 | n+1=>WO l e p id (XE l e p id n) n
def nD (l:List gA) (id:Int):gA:=(l[(UA l id).toNat]?).getD ⟨0,[]⟩
def qB (l:List gA) (e:List kA) (id:Int):Bool:=dB l e && decide (0≤UA l id)
def TB (l:List gA) (e:List kA) (id:Int):gA:=if qB l e id then (XE l e (nD l id) id 1000).1 else ⟨0,[]⟩
def xC (l:List gA) (e:List kA) (id:Int):Int:=if qB l e id then (XE l e (nD l id) id 1000).2 else 0
theorem KE {l:List gA} {id:Int} {j:Nat} {x:gA} (h:UA l id=(j:Int)) (hx:l[j]? = some x):nD l id=x:=by
 unfold nD;rw [h];simp [hx]
theorem gAw (a b:Int):0≤eL a b:=by unfold eL;split<;>omega
theorem cAn (a b:Int):eL a b=eL b a:=by unfold eL;split<;>split<;>omega
theorem jX:∀xs ys,0≤zF xs ys
 | a::p,b::q=>by have:=gAw a b;have:=jX p q;rw [zF];omega
 | [],_=>by simp [zF]
 | _::_,[]=>by simp [zF]
theorem oR:∀xs ys,zF xs ys=zF ys xs
 | a::p,b::q=>by rw [zF,zF,cAn a b,oR p q]
 | [],[]=>rfl
 | [],_::_=>rfl
 | _::_,[]=>rfl
theorem fU (x y:gA):0≤gD x y:=by unfold gD;split;exact jX _ _;exact Int.le_refl _
theorem kX (x y:gA):gD x y=gD y x:=by unfold gD;rw [Bool.and_comm,oR]
theorem gU {id:Int} (h:0≤id∧id≤99) {n:Nat} (hn:n<1000):LA (IB id n)=true:=by
 simp only [LA,IB,inB,Bool.and_eq_true,decide_eq_true_eq,List.all_cons,List.all_nil,List.length_cons,List.length_nil];refine ⟨decide_eq_true h,by trivial,?_⟩;exact ⟨⟨by omega,by omega⟩,⟨by omega,by omega⟩,⟨by omega,by omega⟩,trivial⟩
theorem gAx {x:gA} (h:LA x=true) (id:Int):∃n,n<1000∧(IB id n).vals=x.vals:=by
 have hl:=YA h;have hv:=fun v hv=>dE h (v:=v) hv
 obtain ⟨i,vs⟩:=x;dsimp only at hl hv
 match vs,hl with
 | [a,b,c],_=>
  have ha:=hv a (by simp);have hb:=hv b (by simp);have hc:=hv c (by simp);refine ⟨a.toNat*100+b.toNat*10+c.toNat,by omega,?_⟩;simp only [IB,List.cons.injEq,and_true];refine ⟨by omega,by omega,by omega⟩
theorem XO (l:List gA) (e:List kA) (p:gA) (id:Int):∀n,(XE l e p id n=(⟨0,[]⟩,-1))∨0≤(XE l e p id n).2
 | 0=>.inl rfl
 | n+1=>by
  rw [XE,WO]
  split
  ·exact .inr (fU _ _)
  ·exact XO l e p id n
theorem pR {l:List gA} {e:List kA} {p:gA} {id:Int} {m:Nat} (hf:AF l e id (IB id m)=true):∀ {n},m<n→0≤(XE l e p id n).2
 | 0,h=>absurd h (Nat.not_lt_zero _)
 | n+1,h=>by
  rw [XE,WO]
  split
  ·exact fU _ _
  ·rename_i hc
   by_cases hm:m=n
   ·subst hm;rcases XO l e p id m with h1 | h1
    ·rw [h1,hf] at hc;simp at hc
    ·exact h1
   ·exact pR hf (by omega)
theorem lX {l:List gA} {e:List kA} {id:Int} (hE:bB e=true) (hi:∀x∈l,LA x=true) (hid:0≤id∧id≤99):∃m,m<1000∧AF l e id (IB id m)=true:=by
 by_cases hl:l.filter (fun y=>decide (y.id≠id))=[]
 ·refine ⟨0,by omega,?_⟩;unfold AF;rw [Bool.not_eq_true',List.any_eq_false];intro y hy;have:=List.filter_eq_nil_iff.1 hl y hy;unfold RC;intro hc;rw [Bool.and_eq_true] at hc;exact this hc.1
 ·obtain ⟨t,ht,hb⟩:=(PI hE).top hl (fun x hx=>hi x (List.mem_filter.1 hx).1);obtain ⟨n,hn,hv⟩:=gAx (hi t (List.mem_filter.1 ht).1) id;refine ⟨n,hn,?_⟩;unfold AF;rw [Bool.not_eq_true',List.any_eq_false];intro y hy;unfold RC MC;intro hc;rw [Bool.and_eq_true,decide_eq_true_eq,decide_eq_true_eq] at hc;have h2:=hc.2;rw [NZ (x':=y) (y':=t) rfl hv] at h2;exact hb y (List.mem_filter.2 ⟨hy,by simpa using hc.1⟩) h2
theorem qR {l:List gA} {e:List kA} {p:gA} {id:Int} (hB:dB l e=true) (hid:0≤id∧id≤99):0≤(XE l e p id 1000).2:=by
 obtain ⟨m,hm,hf⟩:=lX (iC hB) (fun x hx=>NA (sA hB) hx) hid;exact pR hf hm
theorem qV (l:List gA) (e:List kA) (p:gA) (id:Int):∀n,0≤(XE l e p id n).2→∃m,m<n∧XE l e p id n=(IB id m,gD p (IB id m))∧AF l e id (IB id m)=true
 | 0,h=>absurd h (by simp [XE])
 | n+1,h=>by
  rw [XE,WO] at h ⊢
  split
  ·rename_i hc
   exact ⟨n,by omega,rfl,(by simpa using hc:_∧_).2⟩
  ·rename_i hc
   rw [if_neg hc] at h;obtain ⟨m,hm,h1⟩:=qV l e p id n h;exact ⟨m,by omega,h1⟩
theorem mX {l:List gA} {e:List kA} {p:gA} {id:Int} {n:Nat} (h1:(XE l e p id n).2<0∨gD p (IB id n)<(XE l e p id n).2) (h2:AF l e id (IB id n)=true):XE l e p id (n+1)=(IB id n,gD p (IB id n)):=by
 rw [XE,WO,h2,if_pos]
 simpa using h1
theorem bAk {l:List gA} {e:List kA} {p:gA} {id:Int} {n:Nat} (h:¬((XE l e p id n).2<0∨gD p (IB id n)<(XE l e p id n).2)∨AF l e id (IB id n)=false):XE l e p id (n+1)=XE l e p id n:=by
 rw [XE,WO,if_neg];intro hc;simp only [Bool.and_eq_true,Bool.or_eq_true,decide_eq_true_eq] at hc;rcases h with h | h
 ·exact h hc.1
 ·rw [h] at hc;exact absurd hc.2 (by simp)
theorem NP {w:World} {a b c:Int}:ZA (w.alloc (.cells #[.int .i64 a,.int .i64 b,.int .i64 c] 3)) [a,b,c] [.slice (some ⟨w.heap.size,0,none⟩) 3 3] [w.heap.size]:=by
 refine ⟨_,[[.int .i64 a],[.int .i64 b],[.int .i64 c]],[[],[],[]],rfl,⟨by simp,.inr ⟨w.heap.size,3,_,rfl,Nat.zero_le _,heap_alloc_new w _,Nat.le_refl _,by unfold maxLen;omega,rfl,by simp⟩⟩,?_,by simp [Value.ownBlock]⟩;exact ⟨⟨⟨rfl,rfl⟩,rfl⟩,⟨⟨rfl,rfl⟩,rfl⟩,⟨⟨rfl,rfl⟩,rfl⟩,trivial⟩
theorem vI (w:World):ZA w [] [.slice none 0 0] []:=⟨_,[],[],rfl,World.ownsRow_nil _ _ _ _,trivial,by simp [Value.ownBlock]⟩
end Go.Proofs.YtpihighajaeabaaGreat
