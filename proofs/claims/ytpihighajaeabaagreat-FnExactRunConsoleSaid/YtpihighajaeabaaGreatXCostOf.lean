/- For every input, FnExactCostOf returns true and leaves its arguments as they were. No condition. -/
import Derived.Test.YtpihighajaeabaaGreatXArePairsS
import Derived.Test.YtpihighajaeabaaGreatXIntss
import Derived.Test.YtpihighajaeabaaGreatXModel
import Derived.Test.YtpihighajaeabaaGreatXWishes
import Derived.Test.YtpihighajaeabaaGreatRows
namespace Go.Proofs.YtpihighajaeabaaGreat
open Go.RowKit Go.ChangeShapes Go.WideShapes Go.ChangeAt Go.Proofs.Tryz
set_option linter.all false
set_option maxRecDepth 100000
set_option maxHeartbeats 16000000
def nL (x:Int):List Int->Nat->Int
 | [],_=>-1
 | y::l,i=>if x=y then (i:Int) else nL x l (i+1)
theorem iAt {xs:List Int} {k:Nat} {x y:Int} (h:xs[k]? = some y):nL x (xs.drop k) k=if x=y then (k:Int) else nL x (xs.drop (k+1)) (k+1):=by rw [nC h,nL]
theorem KH (x:Int):∀(l:List Int) (i:Nat),decide (0<=nL x l i)=l.contains x
 | [],i=>by simp [nL]
 | y::l,i=>by
  rw [nL,List.contains_cons];by_cases h:x=y
  ·rw [if_pos h];simp [h]
  ·rw [if_neg h,KH x l (i+1)];simp [h]
theorem QG (w:World) (xs:List Int) (x:Int) (v:Value) (h:Rd aB w xs [v]):Calls prog 95 #[v,.int .i64 x] w (Ret w (.int .i64 (nL x xs 0))):=by
 obtain ⟨A,n,c,rfl,L,Lc,Lm⟩:=yA h;go_enter func95,ntmps95;go_wp2
 go_loopg [8] n (fun g i w'=>∃k:Nat,k<=n/\g=n-k/\i=.int .i64 k/\Hid (nL x xs 0=nL x (xs.drop k) k)/\Bw w w')
 ·exact ⟨0,by omega,rfl,rfl,pA6 rfl,Bw.refl _⟩
 ·obtain ⟨k,hk,rfl,rfl,HE,hb⟩:=hrel;by_cases hlt:k<n
  ·obtain ⟨y,hy⟩:=tA (xs:=xs) (k:=k) (by have:=L.out;omega);obtain ⟨ba,oa,rfl,_,bb⟩:=KB h hy;have hc:=hb.cell bb;have HS:=pA6 (iAt (x:=x) hy);have i1:(0:Int)<=(k:Int):=by omega
   have i2:(k:Int)<(n:Int):=by omega
   clear hy h bb;by_cases he:x=y
   ·have e1:(x==y)=true:=by simpa using he
    have HX:=pA6 (show nL x xs 0=k by rw [HE.out,HS.out,if_pos he]);clear he;go_wp2;go_ret;exact Ret.int (HX.out.symm) (hb)
   ·have e1:(x==y)=false:=by simpa using he
    have HX:=pA6 (show nL x xs 0=nL x (xs.drop (k+1)) (k+1) by rw [HE.out,HS.out,if_neg he]);clear he;go_wp2
    go_roundg (n-(k+1))
    ·exact ⟨k+1,by omega,rfl,by go_num,HX,hb⟩
    ·omega
  ·have HX:=pA6 (show nL x xs 0 = -1 by rw [HE.out,List.drop_of_length_le (by have:=L.out;omega)];rfl);go_wp2;go_ret;exact Ret.int (HX.out.symm) (hb)
theorem CE (w:World) (xs:List Int) (x:Int) (v:Value) (h:Rd aB w xs [v]):Calls prog 104 #[v,.int .i64 x] w (Ret w (.bool (xs.contains x))):=by
 have HC:=pA6 (KH x xs 0);go_enter func104,ntmps104;go_wp2_with fail;refine (QG _ xs x _ h).mono ?_;rintro e w2 ⟨rfl,hb2⟩;go_wp2;go_ret;exact Ret.bool (HC.out) (hb2)
def EC (e:List mA) (y x:iA):Bool:=decide (zC e y x=1)
def DH (l:List iA) (e:List mA) (x:iA):Bool:=!(l.any fun y=>EC e y x)
def wD (l:List iA) (e:List mA):List Int:=(l.filter (DH l e)).map (·.id)
def kB (l:List iA) (e:List mA):Bool:=dB l && pB e
def eB (l:List iA) (e:List mA):List Int:=if kB l e then wD l e else []
def QB (l:List iA) (ids:List Int) (b:Bool):List iA:=l.filter fun x=>ids.contains x.id==b
theorem TQ:∀ {l:List iA} {p:Option Int},pAl p l=true->pAl none l=true
 | [],_,_=>rfl
 | x::l,none,h=>h
 | x::l,some p,h=>by
  simp only [pAl,Bool.and_eq_true] at h ⊢;exact ⟨h.1.1,h.2⟩
theorem ES {p q:Int} (hpq:p<=q):∀ {l:List iA},pAl (some q) l=true->pAl (some p) l=true
 | [],_=>rfl
 | x::l,h=>by
  simp only [pAl,Bool.and_eq_true,decide_eq_true_iff] at h ⊢;exact ⟨⟨h.1.1,by omega⟩,h.2⟩
theorem VE (f:iA->Bool):∀ {l:List iA} {p:Option Int},pAl p l=true->pAl p (l.filter f)=true
 | [],_,_=>by simp [pAl]
 | x::l,none,h=>by
  have hh:=h;simp only [pAl,Bool.and_eq_true] at h;by_cases hf:f x=true
  ·rw [List.filter_cons_of_pos hf];simp only [pAl,Bool.and_eq_true];exact ⟨h.1,VE f h.2⟩
  ·rw [List.filter_cons_of_neg hf];exact VE f (TQ h.2)
 | x::l,some p,h=>by
  simp only [pAl,Bool.and_eq_true,decide_eq_true_iff] at h;by_cases hf:f x=true
  ·rw [List.filter_cons_of_pos hf];simp only [pAl,Bool.and_eq_true,decide_eq_true_iff];exact ⟨h.1,VE f h.2⟩
  ·rw [List.filter_cons_of_neg hf];exact VE f (ES (by omega) h.2)
theorem FU {l:List iA} (f:iA->Bool) (h:dB l=true):dB (l.filter f)=true:=by
 unfold dB at h ⊢;simp only [Bool.and_eq_true,decide_eq_true_iff] at h ⊢;exact ⟨VE f h.1,Nat.le_trans (List.length_filter_le _ _) h.2⟩
theorem AA {l:List iA} {e:List mA} (h:kB l e=true):dB l=true:=by unfold kB at h;simp only [Bool.and_eq_true] at h;exact h.1
theorem yB {l:List iA} {e:List mA} (h:kB l e=true):pB e=true:=by unfold kB at h;simp only [Bool.and_eq_true] at h;exact h.2
theorem jJ (l:List iA) (e:List mA):(wD l e).length<=l.length:=by unfold wD;rw [List.length_map];exact List.length_filter_le _ _
def DI (l:List iA) (e:List mA) (k:Nat):List Int:=((l.take k).filter (DH l e)).map (·.id)
theorem EV {l:List iA} {e:List mA} {k:Nat} {x:iA} (hx:l[k]? = some x) (h:DH l e x=true):DI l e (k+1)=DI l e k++[x.id]:=by
 unfold DI;rw [List.take_add_one,hx,List.filter_append,List.map_append];simp [h]
theorem VY {l:List iA} {e:List mA} {k:Nat} {x:iA} (hx:l[k]? = some x) (h:DH l e x=false):DI l e (k+1)=DI l e k:=by
 unfold DI;rw [List.take_add_one,hx,List.filter_append,List.map_append];simp [h]
theorem GV {l:List iA} {e:List mA} {k:Nat} (h:l.length<=k):DI l e k=wD l e:=by unfold DI wD;rw [List.take_of_length_le h]
theorem IV {l:List iA} {e:List mA} {k:Nat}:(DI l e k).length<=k:=by
 unfold DI;rw [List.length_map];exact Nat.le_trans (List.length_filter_le _ _) (by rw [List.length_take];omega)
theorem LH {α:Type} (f:α->Bool) {l:List α} {k:Nat} {y:α} (h:l[k]? = some y):(l.take (k+1)).any f=((l.take k).any f || f y):=by
 rw [List.take_add_one,h,List.any_append];simp
theorem EI {α:Type} (f:α->Bool) {l:List α} {k:Nat} (h:l.length<=k):(l.take k).any f=l.any f:=by rw [List.take_of_length_le h]
def FI (l:List iA) (ids:List Int) (b:Bool) (k:Nat):List iA:=(l.take k).filter fun x=>ids.contains x.id==b
theorem JV {l:List iA} {ids:List Int} {b:Bool} {k:Nat} {x:iA} (hx:l[k]? = some x) (h:ids.contains x.id=b):FI l ids b (k+1)=FI l ids b k++[x]:=by
 have hb:(ids.contains x.id==b)=true:=by rw [h];simp
 unfold FI;rw [List.take_add_one,hx,List.filter_append];simp only [Option.toList_some,List.filter_cons,List.filter_nil,hb,if_true]
theorem WY {l:List iA} {ids:List Int} {b:Bool} {k:Nat} {x:iA} (hx:l[k]? = some x) (h:ids.contains x.id=!b):FI l ids b (k+1)=FI l ids b k:=by
 have hb:(ids.contains x.id==b)=false:=by rw [h];cases b<;>rfl
 unfold FI;rw [List.take_add_one,hx,List.filter_append];simp only [Option.toList_some,List.filter_cons,List.filter_nil,hb,List.append_nil,Bool.false_eq_true,if_false]
theorem KV {l:List iA} {ids:List Int} {b:Bool} {k:Nat} (h:l.length<=k):FI l ids b k=QB l ids b:=by unfold FI QB;rw [List.take_of_length_le h]
theorem LV {l:List iA} {ids:List Int} {b:Bool} {k:Nat}:(FI l ids b k).length<=k:=by
 unfold FI;exact Nat.le_trans (List.length_filter_le _ _) (by rw [List.length_take];omega)
theorem XY (l:List iA) (ids:List Int) (b:Bool):(QB l ids b).length<=l.length:=List.length_filter_le _ _
def JB (s:zA):Bool:=kB s.items s.wanted && (decide (s.best=wD s.items s.wanted) && inB s.tests 0 1000000)
structure PO (c:iA->iA->Int):Prop where
 code:∀x y,-1<=c x y/\c x y<=2
 refl:∀x,gB x=true->c x x=0
 anti:∀x y,gB x=true->gB y=true->c y x=bJ (c x y)
 tr:∀x y z,gB x=true->gB y=true->gB z=true->0<=c x y->c x y<=1->0<=c y z->c y z<=1->c x z=max (c x y) (c y z)
theorem pAs (w:AB) (a:Int):AF w a a=0:=by
 unfold AF;repeat' split
 all_goals first | rfl | omega | contradiction
theorem YY {l:List EB} (h:ZB l=true) {a:Int} (ha:0<=a/\a<=9):iD l a a=false:=by
 simp only [ZB,Bool.and_eq_true,List.all_eq_true] at h;have:=h.2.2 a.toNat (List.mem_range.2 (by omega));rw [Int.toNat_of_nonneg ha.1] at this
 simpa using this
theorem fAr {l:List EB} (h:ZB l=true) {a b:Int} (ha:0<=a/\a<=9) (hb:0<=b/\b<=9) (h1:iD l a b=true):iD l b a=false:=by
 rw [Bool.eq_false_iff];intro h2;have:=fN hb h1 h2;rw [YY h ha] at this
 cases this
theorem iAy {w:AB} (hw:DB w=true) {a b:Int} (ha:0<=a/\a<=9) (hb:0<=b/\b<=9):AF w b a=bJ (AF w a b):=by
 by_cases h4:w.kind=4
 ·have hp:=oH hw h4;unfold AF;rw [if_pos h4,if_pos h4];by_cases e:a=b
  ·rw [if_pos e,if_pos e.symm];rfl
  ·rw [if_neg e,if_neg (fun h=>e h.symm)];rcases pA8 (iD w.pairs a b) with h1 | h1
   ·rw [fAr hp ha hb h1,h1];rfl
   ·rcases pA8 (iD w.pairs b a) with h2 | h2
    ·rw [h1,h2];rfl
    ·rw [h1,h2];rfl
 ·unfold AF;rw [if_neg h4,if_neg h4];unfold bJ
  repeat' split
  all_goals omega
theorem mAz {w:AB} (hw:DB w=true) {a b c:Int} (ha:0<=a/\a<=9) (hb:0<=b/\b<=9) (hc:0<=c/\c<=9) (h1:0<=AF w a b) (h2:AF w a b<=1) (h3:0<=AF w b c) (h4:AF w b c<=1):AF w a c=max (AF w a b) (AF w b c):=by
 by_cases k4:w.kind=4
 ·have hp:=oH hw k4;by_cases e:a=b
  ·subst e;rw [pAs];omega
  by_cases e2:b=c
  ·subst e2;rw [pAs];omega
  unfold AF at h1 h2 h3 h4 ⊢;simp only [if_pos k4,if_neg e,if_neg e2] at h1 h2 h3 h4 ⊢;rcases pA8 (iD w.pairs a b) with r1 | r1
  ·rcases pA8 (iD w.pairs b c) with r2 | r2
   ·have r3:=fN hb r1 r2;have e3:a≠c:=fun h=>by subst h;rw [YY hp ha] at r3;cases r3
    simp [r1,r2,r3,e3]
   ·rcases pA8 (iD w.pairs c b) with r3 | r3
    ·simp [r2,r3] at h3
    ·simp [r2,r3] at h4
  ·rcases pA8 (iD w.pairs b a) with r3 | r3
   ·simp [r1,r3] at h1
   ·simp [r1,r3] at h2
 ·unfold AF at h1 h2 h3 h4 ⊢;simp only [if_neg k4] at h1 h2 h3 h4 ⊢;generalize YD w a=ra at *;generalize YD w b=rb at *;generalize YD w c=rc at *;have t1:¬rb<ra:=fun hl=>by
   rw [if_neg (by omega),if_pos hl] at h1;omega
  have t2:¬rc<rb:=fun hl=>by
   rw [if_neg (by omega),if_pos hl] at h3;omega
  rw [if_neg t1,if_neg t2,if_neg (show ¬rc<ra by omega)];by_cases u1:ra<rb
  ·rw [if_pos u1,if_pos (show ra<rc by omega)];split<;>omega
  ·rw [if_neg u1];by_cases u2:rb<rc
   ·rw [if_pos u2,if_pos (show ra<rc by omega)];omega
   ·rw [if_neg u2,if_neg (show ¬ra<rc by omega)];omega
theorem PO.base {w:AB} (hw:DB w=true):PO (PG w):=by
 have hf:=NF hw;obtain ⟨f,hf2⟩:∃f:Nat,w.field=f:=⟨w.field.toNat,by omega⟩;have bd:∀x,gB x=true->0<=LF x w.field/\LF x w.field<=9:=fun x hx=>by rw [hf2];exact eN hx (by omega)
 refine ⟨fun x y=>QY _ _ _,fun x hx=>pAs _ _,fun x y hx hy=>iAy hw (bd x hx) (bd y hy),fun x y z hx hy hz=>mAz hw (bd x hx) (bd y hy) (bd z hz)⟩
theorem PO.dual {c:iA->iA->Int} (h:PO c):PO (fun x y=>bJ (c x y)):=by
 refine ⟨fun x y=>zS (h.code x y),fun x hx=>by rw [h.refl x hx];rfl,fun x y hx hy=>by rw [h.anti x y hx hy],fun x y z hx hy hz h1 h2 h3 h4=>?_⟩;rw [<-h.anti x y hx hy] at h1 h2 ⊢;rw [<-h.anti y z hy hz] at h3 h4 ⊢;rw [<-h.anti x z hx hz,h.tr z y x hz hy hx h3 h4 h1 h2];omega
theorem PT {a:Int} (h : -1<=a/\a<=2):a = -1\/a=0\/a=1\/a=2:=by omega
theorem iAz (op:Int):UE op 0 0=0:=by unfold UE;simp
theorem jA0 (op:Int) {a b:Int} (ha : -1<=a/\a<=2) (hb : -1<=b/\b<=2):UE op (bJ a) (bJ b)=bJ (UE op a b):=by
 by_cases h1:op=1
 ·subst h1;rcases PT ha with rfl | rfl | rfl | rfl<;>rcases PT hb with rfl | rfl | rfl | rfl<;>decide
 by_cases h2:op=2
 ·subst h2;rcases PT ha with rfl | rfl | rfl | rfl<;>rcases PT hb with rfl | rfl | rfl | rfl<;>decide
 unfold UE;rw [if_neg h1,if_neg h2,if_neg h1,if_neg h2];rcases PT ha with rfl | rfl | rfl | rfl<;>rcases PT hb with rfl | rfl | rfl | rfl<;>decide
theorem cAc {a b:Int} (ha : -1<=a/\a<=2) (hb : -1<=b/\b<=2) (h1:0<=UE 1 a b) (h2:UE 1 a b<=1):(0<=a/\a<=1)/\(0<=b/\b<=1):=by
 rcases PT ha with rfl | rfl | rfl | rfl<;>rcases PT hb with rfl | rfl | rfl | rfl<;>first | exact ⟨⟨by omega,by omega⟩,by omega,by omega⟩ | exact absurd h1 (by decide) | exact absurd h2 (by decide)
theorem GS {a b:Int} (ha:0<=a/\a<=1) (hb:0<=b/\b<=1):UE 1 a b=max a b:=by
 have ea:a=0\/a=1:=by omega
 have eb:b=0\/b=1:=by omega
 rcases ea with rfl | rfl<;>rcases eb with rfl | rfl<;>decide
theorem nA0 {op:Int} {a1 b1 a2 b2 a3 b3:Int} (ha1 : -1<=a1/\a1<=2) (hb1 : -1<=b1/\b1<=2) (ha2 : -1<=a2/\a2<=2) (hb2 : -1<=b2/\b2<=2)
  (ha:0<=a1->a1<=1->0<=a2->a2<=1->a3=max a1 a2) (hb:0<=b1->b1<=1->0<=b2->b2<=1->b3=max b1 b2)
  (h1:0<=UE op a1 b1) (h2:UE op a1 b1<=1) (h3:0<=UE op a2 b2) (h4:UE op a2 b2<=1):UE op a3 b3=max (UE op a1 b1) (UE op a2 b2):=by
 by_cases k1:op=1
 ·subst k1;have p:=cAc ha1 hb1 h1 h2;have q:=cAc ha2 hb2 h3 h4;have e1:=ha p.1.1 p.1.2 q.1.1 q.1.2;have e2:=hb p.2.1 p.2.2 q.2.1 q.2.2;rw [GS p.1 p.2,GS q.1 q.2,GS (by omega) (by omega)];omega
 by_cases k2:op=2
 ·subst k2;have e:∀a b:Int,UE 2 a b=if a=0 then b else a:=fun a b=>rfl
  rw [e] at h1 h2 h3 h4 ⊢;rw [e,e];by_cases z1:a1=0
  ·rw [if_pos z1] at h1 h2 ⊢;by_cases z2:a2=0
   ·rw [if_pos z2] at h3 h4 ⊢;rw [if_pos (by omega)];omega
   ·rw [if_neg z2] at h3 h4 ⊢;rw [if_neg (by omega)];omega
  ·rw [if_neg z1] at h1 h2 ⊢;by_cases z2:a2=0
   ·rw [if_pos z2] at h3 h4 ⊢;rw [if_neg (by omega)];omega
   ·rw [if_neg z2] at h3 h4 ⊢;rw [if_neg (by omega)];omega
 have e:∀a b:Int,UE op a b=if a=b then a else 2:=fun a b=>by unfold UE;rw [if_neg k1,if_neg k2]
 rw [e] at h1 h2 h3 h4 ⊢;rw [e,e];by_cases z1:a1=b1
 ·rw [if_pos z1] at h1 h2 ⊢;by_cases z2:a2=b2
  ·rw [if_pos z2] at h3 h4 ⊢;rw [if_pos (by omega)];omega
  ·rw [if_neg z2] at h4;omega
 ·rw [if_neg z1] at h2;omega
theorem PO.two {op:Int} {a b:iA->iA->Int} (ha:PO a) (hb:PO b):PO (fun x y=>UE op (a x y) (b x y)):=by
 refine ⟨fun x y=>yS (ha.code x y) (hb.code x y),fun x hx=>by rw [ha.refl x hx,hb.refl x hx,iAz],fun x y hx hy=>by rw [ha.anti x y hx hy,hb.anti x y hx hy];exact jA0 op (ha.code x y) (hb.code x y),fun x y z hx hy hz h1 h2 h3 h4=>?_⟩;exact nA0 (ha.code x y) (hb.code x y) (ha.code y z) (hb.code y z) (ha.tr x y z hx hy hz) (hb.tr x y z hx hy hz) h1 h2 h3 h4
theorem kAz {α:Type} {l:List α} (h:0<l.length):∃T a,l=T++[a]:=⟨l.dropLast,l.getLast (fun e=>by rw [e] at h;simp at h),(List.dropLast_concat_getLast _).symm⟩
theorem cAd {e:List mA} (hE:pB e=true):∀k,k<=e.length->∃fs:List (iA->iA->Int),(∀c∈fs,PO c)/\(∀x y,MF e x y k=fs.map (fun c=>c x y))/\qC (e.drop k) fs.length=some 1
 | 0,_=>⟨[],by simp,fun x y=>by simp [MF],by simpa using VJ hE⟩
 | k+1,hk=>by
  obtain ⟨fs,h1,h2,h3⟩:=cAd hE k (by omega);obtain ⟨n,hn⟩:∃n,e[k]? = some n:=⟨e[k],List.getElem?_eq_getElem (by omega)⟩;obtain ⟨ho,hd⟩:=SP h3 hn;have hge:=DS ho;by_cases h0:n.op=0
  ·refine ⟨fs++[PG n.wish],fun c hc=>?_,fun x y=>?_,?_⟩
   ·rcases List.mem_append.1 hc with hc | hc
    ·exact h1 c hc
    ·rw [List.mem_singleton] at hc;rw [hc];exact PO.base (iN ho h0)
   ·rw [AI hn,h2,PP h0];simp
   ·rw [<-hd];congr 1;simp [aD,h0]
  ·by_cases h3':n.op=3
   ·have:aD n.op=1:=by unfold aD;rw [if_neg h0,if_pos h3']
    rw [this] at hge hd;obtain ⟨T,c,rfl⟩:=kAz (l:=fs) (by omega);refine ⟨T++[fun x y=>bJ (c x y)],fun d hc=>?_,fun x y=>?_,?_⟩
    ·rcases List.mem_append.1 hc with hc | hc
     ·exact h1 d (by simp [hc])
     ·rw [List.mem_singleton] at hc;rw [hc];exact PO.dual (h1 c (by simp))
    ·rw [AI hn,h2,List.map_append,List.map_cons,List.map_nil,QP h3'];simp
    ·rw [<-hd];congr 1;simp
   ·have bb:aD n.op=2:=by unfold aD;rw [if_neg h0,if_neg h3']
    rw [bb] at hge hd;obtain ⟨T',b,rfl⟩:=kAz (l:=fs) (by omega);obtain ⟨T,a,rfl⟩:=kAz (l:=T') (by simp at hge;omega);refine ⟨T++[fun x y=>UE n.op (a x y) (b x y)],fun d hc=>?_,fun x y=>?_,?_⟩
    ·rcases List.mem_append.1 hc with hc | hc
     ·exact h1 d (by simp [hc])
     ·rw [List.mem_singleton] at hc;rw [hc];exact PO.two (h1 a (by simp)) (h1 b (by simp))
    ·rw [AI hn,h2,List.append_assoc,List.map_append,List.map_append,List.map_cons,List.map_cons,List.map_nil,List.singleton_append,BS h0 h3'];simp
    ·rw [<-hd];congr 1;simp<;>omega
theorem GJ {e:List mA} (hE:pB e=true):PO (zC e):=by
 obtain ⟨fs,h1,h2,h3⟩:=cAd hE e.length (Nat.le_refl _);rw [List.drop_length] at h3;simp only [qC] at h3;have hl:fs.length=1:=by injection h3 with h3;omega
 match fs,hl with
 | [c],_=>
  have hc:zC e=c:=by
   funext x y
   rw [<-jN (k:=e.length) (Nat.le_refl _),h2];rfl
  rw [hc];exact h1 c (by simp)
theorem fAs {e:List mA} {x x' y y':iA} (hx:x.vals=x'.vals) (hy:y.vals=y'.vals):zC e x y=zC e x' y':=by
 have:EF x y=EF x' y':=by
  funext st n
  unfold EF PG LF;rw [hx,hy]
 unfold zC;rw [this]
theorem PO.top {c:iA->iA->Int} (h:PO c):∀ {l:List iA},l≠[]->(∀x∈l,gB x=true)->∃m∈l,∀y∈l,c y m≠1
 | [],hl,_=>absurd rfl hl
 | x::l,_,hi=>by
  have hx:=hi x (by simp);by_cases hl:l=[]
  ·subst hl;exact ⟨x,by simp,fun y hy=>by rw [List.mem_singleton] at hy;rw [hy,h.refl x hx];omega⟩
  ·obtain ⟨m,hm,ht⟩:=PO.top h hl (fun y hy=>hi y (by simp [hy]));have bb:=hi m (by simp [hm]);by_cases hb:c x m=1
   ·refine ⟨x,by simp,fun y hy he=>?_⟩;rcases List.mem_cons.1 hy with rfl | hy
    ·rw [h.refl _ hx] at he;omega
    ·refine ht y hy ?_;rw [h.tr y x m (hi y (by simp [hy])) hx bb (by omega) (by omega) (by omega) (by omega)];omega
   ·exact ⟨m,by simp [hm],fun y hy=>by
     rcases List.mem_cons.1 hy with rfl | hy
     ·exact hb
     ·exact ht y hy⟩
theorem lA0 {l:List iA} {e:List mA} (hE:pB e=true) (hl:l≠[]) (hi:∀x∈l,gB x=true):wD l e≠[]:=by
 obtain ⟨m,hm,ht⟩:=(GJ hE).top hl hi;have:m.id∈wD l e:=by
  unfold wD;refine List.mem_map.2 ⟨m,List.mem_filter.2 ⟨hm,?_⟩,rfl⟩;unfold DH;rw [Bool.not_eq_true',List.any_eq_false];intro y hy;simp only [EC,decide_eq_true_iff];exact ht y hy
 intro h;rw [h] at this;simp at this
def nN (a b:Int):Int:=if a-b<b-a then b-a else a-b
def cH:List Int->List Int->Int
 | a::p,b::q=>nN a b+cH p q
 | _,_=>0
def XD (x y:iA):Int:=if gB x && gB y then cH x.vals y.vals else 0
theorem OV {xs ys:List Int} {k:Nat} {x y:Int} (hx:xs[k]? = some x) (hy:ys[k]? = some y):cH (xs.drop k) (ys.drop k)=nN x y+cH (xs.drop (k+1)) (ys.drop (k+1)):=by
 rw [nC hx,nC hy,cH]
theorem lA1 (w:World) (x y:iA) (v1 v2:Value) (h1:Rd aB w x.vals [v1]) (h2:Rd aB w y.vals [v2]) :
  Calls prog 289 #[.agg #[.int .i64 x.id,v1],.agg #[.int .i64 y.id,v2]] w (Ret w (.int .i64 (XD x y))):=by
 have B0:Bw w ((w.alloc (.cells #[.int .i64 x.id,v1] 30)).alloc (.cells #[.int .i64 y.id,v2] 30)):=((Bw.refl w).alloc _).alloc _;obtain ⟨A1,n1,c1,rfl,a1,a2,a3⟩:=qA h1;obtain ⟨A2,n2,c2,rfl,b1,b2,b3⟩:=qA h2;have L1:=pA6 a1;have L2:=pA6 b1;clear a1 b1;unfold maxLen at a3 b3;go_enter func289,ntmps289;go_wp2_with fail;refine (XG _ x _ (h1.bw dA B0)).mono ?_;rintro e w2 ⟨rfl,bc⟩;have bj:=mH bc;by_cases i1:gB x=true
 ·go_wp2_with fail;refine (XG _ y _ (h2.bw dA (B0.then bc))).mono ?_;rintro e w3 ⟨rfl,bg⟩;have B3:=bc.then bg;have bk:=mH B3;clear bj;by_cases i2:gB y=true
  ·have bm:n1=3:=L1.out.trans (jB i1);have bn:n2=3:=L2.out.trans (jB i2);subst bm bn;have bd:XD x y=cH x.vals y.vals:=by simp [XD,i1,i2]
   have bf:=pA6 bd;clear bd;go_wp2
   go_loopw [5,6] (fun s i w'=>∃(k:Nat) (n:Int),k<=3/\i=.int .i64 k/\s=.int .i64 n/\0<=n/\n<=9*k/\Hid (XD x y=n+cH (x.vals.drop k) (y.vals.drop k))/\Bw ((w.alloc (.cells #[.int .i64 x.id,.slice A1 3 c1] 30)).alloc (.cells #[.int .i64 y.id,.slice A2 3 c2] 30)) w') (fun s i _=>3-(intOf i).toNat)
   case atStart=>exact ⟨0,0,by omega,rfl,rfl,by omega,by omega,by show _=_;rw [bf.out];simp,B3⟩
   case round=>
    obtain ⟨k,n,hk,rfl,rfl,g1,g2,HE,hb⟩:=hrel;have hc:=mH hb;clear bk;by_cases hlt:k<3
    ·obtain ⟨p,hp⟩:=tA (xs:=x.vals) (k:=k) (by rw [<-L1.out];exact hlt);obtain ⟨q,hq⟩:=tA (xs:=y.vals) (k:=k) (by rw [<-L2.out];exact hlt);obtain ⟨ba,oa,rfl,_,hcx⟩:=KB (h1.bw dA (B0.then hb)) hp;obtain ⟨bb,ob,rfl,_,hcy⟩:=KB (h2.bw dA (B0.then hb)) hq;have ⟨p1,p2⟩:=QE i1 (List.mem_of_getElem? hp);have ⟨q1,q2⟩:=QE i2 (List.mem_of_getElem? hq);have HS:=pA6 (OV hp hq);clear hp hq h1 h2;go_wp2
     go_quiet (fail)
     go_wp2;have hd:0<=nN p q/\nN p q<=9:=by unfold nN;split<;>omega
     go_roundw
     case rel=>exact ⟨k+1,n+nN p q,by omega,by go_num,rfl,by omega,by omega,by show _=_;rw [HE.out,HS.out];omega,hb.drewN _⟩
     case measure=>simp [intOf];omega
    ·obtain rfl:k=3:=by omega
     go_wp2;go_ret;exact Ret.int (by rw [HE.out,List.drop_of_length_le (by rw [<-L1.out];omega)];simp [cH]) (B0.then hb)
  ·have bq:gB y=false:=by simpa using i2
   clear i2;go_wp2;go_ret;exact Ret.int (by simp [XD,bq]) (B0.then B3)
 ·have bp:gB x=false:=by simpa using i1
  clear i1;go_wp2;go_ret;exact Ret.int (by simp [XD,bp]) (B0.then bc)
theorem lA2 (w:World) (x y:iA) (v1 v2:Value) (h1:Rd aB w x.vals [v1]) (h2:Rd aB w y.vals [v2]) :
  Calls prog 286 #[.agg #[.int .i64 x.id,v1],.agg #[.int .i64 y.id,v2]] w (Ret w (.int .i64 (XD x y))):=by
 have B0:Bw w ((w.alloc (.cells #[.int .i64 x.id,v1] 30)).alloc (.cells #[.int .i64 y.id,v2] 30)):=((Bw.refl w).alloc _).alloc _;obtain ⟨A1,n1,c1,rfl,a1,a2,a3⟩:=qA h1;obtain ⟨A2,n2,c2,rfl,b1,b2,b3⟩:=qA h2;have L1:=pA6 a1;have L2:=pA6 b1;clear a1 b1;unfold maxLen at a3 b3;go_enter func286,ntmps286;go_wp2_with fail;refine (cG _ x _ (h1.bw dA B0)).mono ?_;rintro e w2 ⟨rfl,bc⟩;have bj:=mH bc;by_cases i1:gB x=true
 ·go_wp2_with fail;refine (cG _ y _ (h2.bw dA (B0.then bc))).mono ?_;rintro e w3 ⟨rfl,bg⟩;have B3:=bc.then bg;have bk:=mH B3;clear bj;by_cases i2:gB y=true
  ·have bm:n1=3:=L1.out.trans (jB i1);have bn:n2=3:=L2.out.trans (jB i2);subst bm bn;have bd:XD x y=cH x.vals y.vals:=by simp [XD,i1,i2]
   have bf:=pA6 bd;clear bd;go_wp2
   go_loopw [5,19] (fun s i w'=>∃(k:Nat) (n:Int),k<=3/\i=.int .i64 k/\s=.int .i64 n/\0<=n/\n<=9*k/\Hid (XD x y=n+cH (x.vals.drop k) (y.vals.drop k))/\Bw ((w.alloc (.cells #[.int .i64 x.id,.slice A1 3 c1] 30)).alloc (.cells #[.int .i64 y.id,.slice A2 3 c2] 30)) w') (fun s i _=>3-(intOf i).toNat)
   case atStart=>exact ⟨0,0,by omega,rfl,rfl,by omega,by omega,by show _=_;rw [bf.out];simp,B3⟩
   case round=>
    obtain ⟨k,n,hk,rfl,rfl,g1,g2,HE,hb⟩:=hrel;have hc:=mH hb;clear bk;by_cases hlt:k<3
    ·obtain ⟨p,hp⟩:=tA (xs:=x.vals) (k:=k) (by rw [<-L1.out];exact hlt);obtain ⟨q,hq⟩:=tA (xs:=y.vals) (k:=k) (by rw [<-L2.out];exact hlt);obtain ⟨ba,oa,rfl,_,hcx⟩:=KB (h1.bw dA (B0.then hb)) hp;obtain ⟨bb,ob,rfl,_,hcy⟩:=KB (h2.bw dA (B0.then hb)) hq;have ⟨p1,p2⟩:=QE i1 (List.mem_of_getElem? hp);have ⟨q1,q2⟩:=QE i2 (List.mem_of_getElem? hq);have HS:=pA6 (OV hp hq);clear hp hq h1 h2;go_wp2
     go_quiet (fail)
     go_wp2;have hd:0<=nN p q/\nN p q<=9:=by unfold nN;split<;>omega
     go_roundw
     case rel=>exact ⟨k+1,n+nN p q,by omega,by go_num,rfl,by omega,by omega,by show _=_;rw [HE.out,HS.out];omega,hb.drewN _⟩
     case measure=>simp [intOf];omega
    ·obtain rfl:k=3:=by omega
     go_wp2;go_ret;exact Ret.int (by rw [HE.out,List.drop_of_length_le (by rw [<-L1.out];omega)];simp [cH]) (B0.then hb)
  ·have bq:gB y=false:=by simpa using i2
   clear i2;go_wp2;go_ret;exact Ret.int (by simp [XD,bq]) (B0.then B3)
 ·have bp:gB x=false:=by simpa using i1
  clear i1;go_wp2;go_ret;exact Ret.int (by simp [XD,bp]) (B0.then bc)
def lC (id:Int) (n:Nat):iA:=⟨id,[(n:Int) / 100,(n:Int) / 10 % 10,(n:Int) % 10]⟩
def ID (e:List mA) (id:Int) (y x:iA):Bool:=decide (y.id≠id) && EC e y x
def eH (l:List iA) (e:List mA) (id:Int) (x:iA):Bool:=!(l.any fun y=>ID e id y x)
def IS (l:List iA) (e:List mA) (p:iA) (id:Int) (s:iA×Int) (n:Nat):iA×Int:=
 if (decide (s.2<0) || decide (XD p (lC id n)<s.2)) && eH l e id (lC id n) then (lC id n,XD p (lC id n)) else s
def CG (l:List iA) (e:List mA) (p:iA) (id:Int):Nat->iA×Int
 | 0=>(⟨0,[]⟩,-1)
 | n+1=>IS l e p id (CG l e p id n) n
def VB (l:List iA) (id:Int):iA:=(l[(rB l id).toNat]?).getD ⟨0,[]⟩
def MB (l:List iA) (e:List mA) (id:Int):Bool:=kB l e && decide (0<=rB l id)
def AC (l:List iA) (e:List mA) (id:Int):iA:=if MB l e id then (CG l e (VB l id) id 1000).1 else ⟨0,[]⟩
def cD (l:List iA) (e:List mA) (id:Int):Int:=if MB l e id then (CG l e (VB l id) id 1000).2 else 0
theorem lF {l:List iA} {id:Int} {j:Nat} {x:iA} (h:rB l id=(j:Int)) (hx:l[j]? = some x):VB l id=x:=by
 unfold VB;rw [h];simp [hx]
theorem nA1 (a b:Int):0<=nN a b:=by unfold nN;split<;>omega
theorem jA1 (a b:Int):nN a b=nN b a:=by unfold nN;split<;>split<;>omega
theorem cAe:∀xs ys,0<=cH xs ys
 | a::p,b::q=>by have:=nA1 a b;have:=cAe p q;rw [cH];omega
 | [],_=>by simp [cH]
 | _::_,[]=>by simp [cH]
theorem PV:∀xs ys,cH xs ys=cH ys xs
 | a::p,b::q=>by rw [cH,cH,jA1 a b,PV p q]
 | [],[]=>rfl
 | [],_::_=>rfl
 | _::_,[]=>rfl
theorem ZY (x y:iA):0<=XD x y:=by unfold XD;split;exact cAe _ _;exact Int.le_refl _
theorem cAf (x y:iA):XD x y=XD y x:=by unfold XD;rw [Bool.and_comm,PV]
theorem aZ {id:Int} (h:0<=id/\id<=99) {n:Nat} (hn:n<1000):gB (lC id n)=true:=by
 simp only [gB,lC,inB,Bool.and_eq_true,decide_eq_true_eq,List.all_cons,List.all_nil,List.length_cons,List.length_nil];refine ⟨decide_eq_true h,by trivial,?_⟩;exact ⟨⟨by omega,by omega⟩,⟨by omega,by omega⟩,⟨by omega,by omega⟩,trivial⟩
theorem nA2 {x:iA} (h:gB x=true) (id:Int):∃n,n<1000/\(lC id n).vals=x.vals:=by
 have hl:=jB h;have hv:=fun v hv=>QE h (v:=v) hv
 obtain ⟨i,vs⟩:=x;dsimp only at hl hv
 match vs,hl with
 | [a,b,c],_=>
  have ha:=hv a (by simp);have hb:=hv b (by simp);have hc:=hv c (by simp);refine ⟨a.toNat*100+b.toNat*10+c.toNat,by omega,?_⟩;simp only [lC,List.cons.injEq,and_true];refine ⟨by omega,by omega,by omega⟩
theorem JS (l:List iA) (e:List mA) (p:iA) (id:Int):∀n,(CG l e p id n=(⟨0,[]⟩,-1))\/0<=(CG l e p id n).2
 | 0=>.inl rfl
 | n+1=>by
  rw [CG,IS]
  split
  ·exact .inr (ZY _ _)
  ·exact JS l e p id n
theorem QV {l:List iA} {e:List mA} {p:iA} {id:Int} {m:Nat} (hf:eH l e id (lC id m)=true):∀ {n},m<n->0<=(CG l e p id n).2
 | 0,h=>absurd h (Nat.not_lt_zero _)
 | n+1,h=>by
  rw [CG,IS]
  split
  ·exact ZY _ _
  ·rename_i hc
   by_cases hm:m=n
   ·subst hm;rcases JS l e p id m with h1 | h1
    ·rw [h1,hf] at hc;simp at hc
    ·exact h1
   ·exact QV hf (by omega)
theorem cAg {l:List iA} {e:List mA} {id:Int} (hE:pB e=true) (hi:∀x∈l,gB x=true) (hid:0<=id/\id<=99):∃m,m<1000/\eH l e id (lC id m)=true:=by
 by_cases hl:l.filter (fun y=>decide (y.id≠id))=[]
 ·refine ⟨0,by omega,?_⟩;unfold eH;rw [Bool.not_eq_true',List.any_eq_false];intro y hy;have:=List.filter_eq_nil_iff.1 hl y hy;unfold ID;intro hc;rw [Bool.and_eq_true] at hc;exact this hc.1
 ·obtain ⟨t,ht,hb⟩:=(GJ hE).top hl (fun x hx=>hi x (List.mem_filter.1 hx).1);obtain ⟨n,hn,hv⟩:=nA2 (hi t (List.mem_filter.1 ht).1) id;refine ⟨n,hn,?_⟩;unfold eH;rw [Bool.not_eq_true',List.any_eq_false];intro y hy;unfold ID EC;intro hc;rw [Bool.and_eq_true,decide_eq_true_eq,decide_eq_true_eq] at hc;have h2:=hc.2;rw [fAs (x':=y) (y':=t) rfl hv] at h2;exact hb y (List.mem_filter.2 ⟨hy,by simpa using hc.1⟩) h2
theorem RV {l:List iA} {e:List mA} {p:iA} {id:Int} (hB:kB l e=true) (hid:0<=id/\id<=99):0<=(CG l e p id 1000).2:=by
 obtain ⟨m,hm,hf⟩:=cAg (yB hB) (fun x hx=>TA (AA hB) hx) hid;exact QV hf hm
theorem aAf (l:List iA) (e:List mA) (p:iA) (id:Int):∀n,0<=(CG l e p id n).2->∃m,m<n/\CG l e p id n=(lC id m,XD p (lC id m))/\eH l e id (lC id m)=true
 | 0,h=>absurd h (by simp [CG])
 | n+1,h=>by
  rw [CG,IS] at h ⊢
  split
  ·rename_i hc
   exact ⟨n,by omega,rfl,(by simpa using hc:_/\_).2⟩
  ·rename_i hc
   rw [if_neg hc] at h;obtain ⟨m,hm,h1⟩:=aAf l e p id n h;exact ⟨m,by omega,h1⟩
theorem cAh {l:List iA} {e:List mA} {p:iA} {id:Int} {n:Nat} (h1:(CG l e p id n).2<0\/XD p (lC id n)<(CG l e p id n).2) (h2:eH l e id (lC id n)=true):CG l e p id (n+1)=(lC id n,XD p (lC id n)):=by
 rw [CG,IS,h2,if_pos]
 simpa using h1
theorem iA0 {l:List iA} {e:List mA} {p:iA} {id:Int} {n:Nat} (h:¬((CG l e p id n).2<0\/XD p (lC id n)<(CG l e p id n).2)\/eH l e id (lC id n)=false):CG l e p id (n+1)=CG l e p id n:=by
 rw [CG,IS,if_neg];intro hc;simp only [Bool.and_eq_true,Bool.or_eq_true,decide_eq_true_eq] at hc;rcases h with h | h
 ·exact h hc.1
 ·rw [h] at hc;exact absurd hc.2 (by simp)
theorem QT {w:World} {a b c:Int}:WA (w.alloc (.cells #[.int .i64 a,.int .i64 b,.int .i64 c] 3)) [a,b,c] [.slice (some ⟨w.heap.size,0,none⟩) 3 3] [w.heap.size]:=by
 refine ⟨_,[[.int .i64 a],[.int .i64 b],[.int .i64 c]],[[],[],[]],rfl,⟨by simp,.inr ⟨w.heap.size,3,_,rfl,Nat.zero_le _,heap_alloc_new w _,Nat.le_refl _,by unfold maxLen;omega,rfl,by simp⟩⟩,?_,by simp [Value.ownBlock]⟩;exact ⟨⟨⟨rfl,rfl⟩,rfl⟩,⟨⟨rfl,rfl⟩,rfl⟩,⟨⟨rfl,rfl⟩,rfl⟩,trivial⟩
theorem mK (w:World):WA w [] [.slice none 0 0] []:=⟨_,[],[],rfl,World.ownsRow_nil _ _ _ _,trivial,by simp [Value.ownBlock]⟩
end Go.Proofs.YtpihighajaeabaaGreat
