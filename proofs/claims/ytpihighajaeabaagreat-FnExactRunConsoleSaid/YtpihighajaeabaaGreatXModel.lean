/- The program's answers in plain words: orders, wishes, expressions. No program in sight. -/
import Derived.Test.YtpihighajaeabaaGreatXItems
namespace Go.Proofs.YtpihighajaeabaaGreat
open Go.RowKit Go.Proofs.Tryz
set_option linter.all false
set_option maxRecDepth 100000
set_option maxHeartbeats 16000000
def TE (id:Int):Nat->List iA->Int
 | _,[]=>-1
 | k,x::xs=>if x.id=id then (k:Int) else TE id (k+1) xs
def rB (l:List iA) (id:Int):Int:=TE id 0 l
theorem JQ {id:Int} {l:List iA} {k:Nat} {x:iA} (h:l[k]? = some x) (e:x.id=id):TE id k (l.drop k)=k:=by rw [nC h,TE,if_pos e]
theorem JT {id:Int} {l:List iA} {k:Nat} {x:iA} (h:l[k]? = some x) (e:¬x.id=id):TE id k (l.drop k)=TE id (k+1) (l.drop (k+1)):=by rw [nC h,TE,if_neg e]
theorem KQ {id:Int} {l:List iA} {k:Nat} (h:l.length<=k):TE id k (l.drop k) = -1:=by rw [List.drop_of_length_le h,TE]
theorem dN (id:Int):∀(l:List iA) (k:Nat),(TE id k l = -1/\∀x∈l,x.id≠id)\/∃(j:Nat) (x:iA),TE id k l=((k+j:Nat):Int)/\l[j]? = some x/\x.id=id
 | [],k=>.inl ⟨rfl,fun x hx=>by simp at hx⟩
 | y::ys,k=>by
  by_cases h:y.id=id
  ·exact .inr ⟨0,y,by simp [TE,h],rfl,h⟩
  ·rcases dN id ys (k+1) with ⟨h1,h2⟩ | ⟨j,x,h1,h2,h3⟩
   ·refine .inl ⟨by rw [TE,if_neg h];exact h1,fun x hx=>?_⟩;rcases List.mem_cons.1 hx with rfl | hx
    ·exact h
    ·exact h2 x hx
   ·exact .inr ⟨j+1,x,by rw [TE,if_neg h,h1];congr 1;omega,by simpa using h2,h3⟩
theorem OC (l:List iA) (id:Int):(rB l id = -1/\∀x∈l,x.id≠id)\/∃(j:Nat) (x:iA),rB l id=(j:Int)/\l[j]? = some x/\x.id=id:=by
 rcases dN id l 0 with h | ⟨j,x,h1,h2,h3⟩
 ·exact .inl h
 ·exact .inr ⟨j,x,by rw [rB,h1];simp,h2,h3⟩
theorem gD (w:World) (l:List iA) (id:Int) (v:Value) (h:Rd LA w l [v]):Calls prog 20 #[v,.int .i64 id] w (Ret w (.int .i64 (rB l id))):=by
 obtain ⟨A,n,c,rfl,a1,a2,a3⟩:=qA h;unfold maxLen at a3;have L1:=pA6 a1;clear a1;go_enter func20,ntmps20;go_wp2
 go_loopw [5] (fun i w'=>∃k:Nat,k<=n/\i=.int .i64 k/\Hid (rB l id=TE id k (l.drop k))/\Bw w w') (fun i _=>n-(intOf i).toNat)
 case atStart=>exact ⟨0,by omega,rfl,rfl,Bw.refl _⟩
 case round=>
  obtain ⟨k,hk,rfl,HE,hb⟩:=hrel;by_cases hlt:k<n
  ·obtain ⟨x,hx⟩:=tA (xs:=l) (k:=k) (by rw [<-L1.out];exact hlt);obtain ⟨ba,oa,A',c',rfl,_,hcx,_,_⟩:=qB (h.bw gA hb) hx;by_cases he:x.id=id
   ·have HS:=pA6 (JQ hx he);have ht:(x.id==id)=true:=by simpa using he
    clear hx h he;go_wp2;go_ret;exact Ret.int (by rw [HE.out,HS.out]) hb
   ·have HS:=pA6 (JT hx he);have ht:(x.id==id)=false:=by simpa using he
    clear hx h he;go_wp2
    go_roundw
    case rel=>exact ⟨k+1,by omega,by go_num,by show _=_;rw [HE.out,HS.out],hb⟩
    case measure=>simp [intOf];omega
  ·go_wp2;go_ret;exact Ret.int (by rw [HE.out,KQ (by rw [<-L1.out];omega)]) hb
theorem KT (w:World) (x:iA) (id:Int) (v:Value) (g:Nat) (hg:w.cell? ⟨g,0,none⟩=some (.int .i64 id)) :
  Calls prog 159 #[.agg #[.int .i64 x.id,v],.pointer (some ⟨g,0,none⟩)] w (Ret w (.bool (decide (x.id=id)))):=by
 have hg':(w.alloc (.cells #[.int .i64 x.id,v] 30)).cell? ⟨g,0,none⟩=some (.int .i64 id):=((Bw.refl w).alloc _).cell hg;by_cases he:x.id=id
 ·have ht:(x.id==id)=true:=by simpa using he
  have hd:decide (x.id=id)=true:=by simpa using he
  rw [hd];clear he hd;go_enter func159,ntmps159;go_wp2;go_ret;exact Ret.bool rfl ((Bw.refl w).alloc _)
 ·have ht:(x.id==id)=false:=by simpa using he
  have hd:decide (x.id=id)=false:=by simpa using he
  rw [hd];clear he hd;go_enter func159,ntmps159;go_wp2;go_ret;exact Ret.bool rfl ((Bw.refl w).alloc _)
theorem dM (w:World) (l:List iA) (id:Int) (v:Value) (g:Nat) (h:Rd LA w l [v]) (hg:w.cell? ⟨g,0,none⟩=some (.int .i64 id)) :
  Calls prog 158 #[v,.func (.func 159) #[] #[.pointer (some ⟨g,0,none⟩)]] w (Ret w (.int .i64 (rB l id))):=by
 obtain ⟨A,n,c,rfl,a1,a2,a3⟩:=qA h;unfold maxLen at a3;have L1:=pA6 a1;clear a1;go_enter func158,ntmps158;go_wp2
 go_loopw [8] (fun i w'=>∃k:Nat,k<=n/\i=.int .i64 k/\Hid (rB l id=TE id k (l.drop k))/\Bw w w') (fun i _=>n-(intOf i).toNat)
 case atStart=>exact ⟨0,by omega,rfl,rfl,Bw.refl _⟩
 case round=>
  obtain ⟨k,hk,rfl,HE,hb⟩:=hrel;by_cases hlt:k<n
  ·obtain ⟨x,hx⟩:=tA (xs:=l) (k:=k) (by rw [<-L1.out];exact hlt);obtain ⟨ba,oa,A',c',rfl,_,hcx,hcx1,_⟩:=qB (h.bw gA hb) hx;have bc:=hb.cell hg;clear h hg;by_cases he:x.id=id
   ·have HS:=pA6 (JQ hx he);have hd:decide (x.id=id)=true:=by simpa using he
    clear hx he;go_wp2_with fail;refine (KT _ x id _ g bc).mono ?_;rintro e w2 ⟨rfl,bb⟩;rw [hd];go_wp2;go_ret;exact Ret.int (by rw [HE.out,HS.out]) (hb.then bb)
   ·have HS:=pA6 (JT hx he);have hd:decide (x.id=id)=false:=by simpa using he
    clear hx he;go_wp2_with fail;refine (KT _ x id _ g bc).mono ?_;rintro e w2 ⟨rfl,bb⟩;rw [hd];go_wp2
    go_roundw
    case rel=>exact ⟨k+1,by omega,by go_num,by show _=_;rw [HE.out,HS.out],hb.then bb⟩
    case measure=>simp [intOf];omega
  ·go_wp2;go_ret;exact Ret.int (by rw [HE.out,KQ (by rw [<-L1.out];omega)]) hb
theorem GD (w:World) (l:List iA) (id:Int) (v:Value) (h:Rd LA w l [v]):Calls prog 77 #[v,.int .i64 id] w (Ret w (.int .i64 (rB l id))):=by
 have B0:Bw w (w.alloc (.cells #[.int .i64 id] 3)):=(Bw.refl w).alloc _;have hg:(w.alloc (.cells #[.int .i64 id] 3)).cell? ⟨w.heap.size,0,none⟩=some (.int .i64 id):=by go_simp
 go_enter func77,ntmps77;go_wp2_with fail;refine (dM _ l id _ w.heap.size (h.bw gA B0) hg).mono ?_;rintro e w2 ⟨rfl,bb⟩;go_wp2;go_ret;exact Ret.int rfl (B0.then bb)
def pAl:Option Int->List iA->Bool
 | _,[]=>true
 | none,x::xs=>gB x && pAl (some x.id) xs
 | some p,x::xs=>(gB x && decide (p<x.id)) && pAl (some x.id) xs
def dB (l:List iA):Bool:=pAl none l && decide (l.length<=16)
def CH (l:List iA) (k:Nat):Option Int:=match k with | 0=>none | k+1=>(l[k]?).map (·.id)
theorem aI {l:List iA} {k:Nat} {x:iA} (h:l[k]? = some x):CH l (k+1)=some x.id:=by simp [CH,h]
theorem mV (w:World) (l:List iA) (v:Value) (h:Rd LA w l [v]):Calls prog 30 #[v] w (Ret w (.bool (dB l))):=by
 obtain ⟨A,n,c,rfl,a1,a2,a3⟩:=qA h;unfold maxLen at a3;have L1:=pA6 a1;clear a1;go_enter func30,ntmps30;go_wp2
 go_loopw [3] (fun i w'=>∃k:Nat,k<=n/\i=.int .i64 k/\Hid (pAl none l=pAl (CH l k) (l.drop k))/\Bw w w') (fun i _=>n-(intOf i).toNat)
 case atStart=>exact ⟨0,by omega,rfl,rfl,Bw.refl _⟩
 case round=>
  obtain ⟨k,hk,rfl,HE,hb⟩:=hrel;by_cases hlt:k<n
  ·obtain ⟨x,hx⟩:=tA (xs:=l) (k:=k) (by rw [<-L1.out];exact hlt);have bj:=h.bw gA hb;obtain ⟨ba,oa,A',c',rfl,_,bg,bc,bn⟩:=qB bj hx;have i1:(0:Int)<=(k:Int):=by omega
   have i2:(k:Int)<(n:Int):=by omega
   by_cases hk0:0<k
   ·obtain ⟨y,hy⟩:=tA (xs:=l) (k:=k-1) (by rw [<-L1.out];omega);obtain ⟨_,_,_,_,e,_,bm,_,_⟩:=qB bj hy;injection e with e;injection e with e1 e2;subst e1 e2;have HP:Hid (pAl (CH l k) (l.drop k)=((gB x && decide (y.id<x.id)) && pAl (CH l (k+1)) (l.drop (k+1)))):=by
     show _=_
     have e:CH l k=some y.id:=by have:=aI hy;rwa [show k-1+1=k from by omega] at this
     rw [e,nC hx,pAl,aI hx]
    have bb:Rd aB wr _ _:=bn;have bd:=hb;have s0:=pA bg;have s1:=pA bc;have s2:=pA bm;clear bj bg bc bm hx hy h;by_cases hi:gB x=true
    ·by_cases hle:y.id<x.id
     ·have ht:decide (x.id<=y.id)=false:=by simp;omega
      go_wp2;refine IA (by kernel_rfl) ?_
      repeat (first | go_big_quiet_skip | (go_big_quiet_want;go_big_quiet_op;first | go_big_quiet_on | (apply Exists.intro;refine ⟨fun _=>?_,?_⟩;(· (((first | (go_at_call 84;exact DA (XG _ x _ (Rd.bw dA bb (eC.bw _))))))));go_big_quiet_on)))
      refine JA fun wq hbq=>?_
      try dsimp only at *
      go_wp2
      go_roundw
      case rel=>exact ⟨k+1,by omega,by go_num,by show _=_;rw [HE.out,HP.out];simp [hi,hle],bd.then hbq⟩
      case measure=>simp [intOf];omega
     ·have ht:decide (x.id<=y.id)=true:=by simp;omega
      have HD:Hid (decide (y.id<x.id)=false):=by show _=_;simp;omega
      go_wp2;refine IA (by kernel_rfl) ?_
      repeat (first | go_big_quiet_skip | (go_big_quiet_want;go_big_quiet_op;first | go_big_quiet_on | (apply Exists.intro;refine ⟨fun _=>?_,?_⟩;(· (((first | (go_at_call 84;exact DA (XG _ x _ (Rd.bw dA bb (eC.bw _))))))));go_big_quiet_on)))
      refine JA fun wq hbq=>?_
      try dsimp only at *
      go_wp2;go_ret;exact Ret.bool (by rw [dB,HE.out,HP.out,HD.out];simp) (bd.then hbq)
    ·have bk:gB x=false:=by simpa using hi
     clear hi;go_wp2;refine IA (by kernel_rfl) ?_
     repeat (first | go_big_quiet_skip | (go_big_quiet_want;go_big_quiet_op;first | go_big_quiet_on | (apply Exists.intro;refine ⟨fun _=>?_,?_⟩;(· (((first | (go_at_call 84;exact DA (XG _ x _ (Rd.bw dA bb (eC.bw _))))))));go_big_quiet_on)))
     refine JA fun wq hbq=>?_
     try dsimp only at *
     go_wp2;go_ret;exact Ret.bool (by rw [dB,HE.out,HP.out];simp [bk]) (bd.then hbq)
   ·have HP:Hid (pAl (CH l k) (l.drop k)=(gB x && pAl (CH l (k+1)) (l.drop (k+1)))):=by
     show _=_
     obtain rfl:k=0:=by omega
     rw [aI hx,nC hx];rfl
    have bb:Rd aB wr _ _:=bn;have bd:=hb;have s0:=pA bg;have s1:=pA bc;clear bj bg bc hx h;by_cases hi:gB x=true
    ·go_wp2;refine IA (by kernel_rfl) ?_
     repeat (first | go_big_quiet_skip | (go_big_quiet_want;go_big_quiet_op;first | go_big_quiet_on | (apply Exists.intro;refine ⟨fun _=>?_,?_⟩;(· (((first | (go_at_call 84;exact DA (XG _ x _ (Rd.bw dA bb (eC.bw _))))))));go_big_quiet_on)))
     refine JA fun wq hbq=>?_
     try dsimp only at *
     go_wp2
     go_roundw
     case rel=>exact ⟨k+1,by omega,by go_num,by show _=_;rw [HE.out,HP.out];simp [hi],bd.then hbq⟩
     case measure=>simp [intOf];omega
    ·have bk:gB x=false:=by simpa using hi
     clear hi;go_wp2;refine IA (by kernel_rfl) ?_
     repeat (first | go_big_quiet_skip | (go_big_quiet_want;go_big_quiet_op;first | go_big_quiet_on | (apply Exists.intro;refine ⟨fun _=>?_,?_⟩;(· (((first | (go_at_call 84;exact DA (XG _ x _ (Rd.bw dA bb (eC.bw _))))))));go_big_quiet_on)))
     refine JA fun wq hbq=>?_
     try dsimp only at *
     go_wp2;go_ret;exact Ret.bool (by rw [dB,HE.out,HP.out];simp [bk]) (bd.then hbq)
  ·have bf:Hid (pAl none l=true):=by show _=_;rw [HE.out,List.drop_of_length_le (by rw [<-L1.out];omega)];cases CH l k<;>rfl
   by_cases h16:n<=16
   ·go_wp2;go_ret;exact Ret.bool (by rw [dB,bf.out,<-L1.out];simp;omega) hb
   ·have bp:Hid (decide (n<=16)=false):=by show _=_;simpa using h16
    go_wp2;go_ret;exact Ret.bool (by rw [dB,bf.out,<-L1.out,bp.out];simp;omega) hb
theorem nV (w:World) (l:List iA) (v:Value) (h:Rd LA w l [v]):Calls prog 168 #[v] w (Ret w (.bool (dB l))):=by
 obtain ⟨A,n,c,rfl,a1,a2,a3⟩:=qA h;unfold maxLen at a3;have L1:=pA6 a1;clear a1;go_enter func168,ntmps168;go_wp2
 go_loopw [7] (fun i w'=>∃k:Nat,k<=n/\i=.int .i64 k/\Hid (pAl none l=pAl (CH l k) (l.drop k))/\Bw w w') (fun i _=>n-(intOf i).toNat)
 case atStart=>exact ⟨0,by omega,rfl,rfl,Bw.refl _⟩
 case round=>
  obtain ⟨k,hk,rfl,HE,hb⟩:=hrel;by_cases hlt:k<n
  ·obtain ⟨x,hx⟩:=tA (xs:=l) (k:=k) (by rw [<-L1.out];exact hlt);have bf:=h.bw gA hb;obtain ⟨ba,oa,A',c',rfl,_,hcx,hcx1,bk⟩:=qB bf hx;have i1:(0:Int)<=(k:Int):=by omega
   have i2:(k:Int)<(n:Int):=by omega
   by_cases hk0:0<k
   ·obtain ⟨y,hy⟩:=tA (xs:=l) (k:=k-1) (by rw [<-L1.out];omega);obtain ⟨_,_,_,_,e,_,bj,_,_⟩:=qB bf hy;injection e with e;injection e with e1 e2;subst e1 e2;have HP:Hid (pAl (CH l k) (l.drop k)=((gB x && decide (y.id<x.id)) && pAl (CH l (k+1)) (l.drop (k+1)))):=by
     show _=_
     have e:CH l k=some y.id:=by have:=aI hy;rwa [show k-1+1=k from by omega] at this
     rw [e,nC hx,pAl,aI hx]
    have A1:Bw wr (wr.alloc (.cells #[.int .i64 x.id,.slice A' x.vals.length c'] 30)):=(Bw.refl wr).alloc _;have bb:Rd aB (wr.alloc (.cells #[.int .i64 x.id,.slice A' x.vals.length c'] 30)) _ _:=Rd.bw dA bk A1;have bc:=hb.then A1;have s0:=pA (show (wr.alloc (.cells #[.int .i64 x.id,.slice A' x.vals.length c'] 30)).cell? ⟨wr.heap.size,0,none⟩=some (.int .i64 x.id) by go_simp);have s1:=pA (show (wr.alloc (.cells #[.int .i64 x.id,.slice A' x.vals.length c'] 30)).cell? ⟨wr.heap.size,1,none⟩=some (.slice A' x.vals.length c') by go_simp);have s2:=pA (A1.cell bj);clear bf bj hx hy h;by_cases hi:gB x=true
    ·by_cases hle:y.id<x.id
     ·have ht:decide (x.id<=y.id)=false:=by simp;omega
      go_wp2;refine IA (by kernel_rfl) ?_
      repeat (first | go_big_quiet_skip | (go_big_quiet_want;go_big_quiet_op;first | go_big_quiet_on | (apply Exists.intro;refine ⟨fun _=>?_,?_⟩;(· (((first | (go_at_call 76;exact DA (cG _ x _ (Rd.bw dA bb (eC.bw _))))))));go_big_quiet_on)))
      refine JA fun wq hbq=>?_
      try dsimp only at *
      go_wp2
      go_roundw
      case rel=>exact ⟨k+1,by omega,by go_num,by show _=_;rw [HE.out,HP.out];simp [hi,hle],bc.then hbq⟩
      case measure=>simp [intOf];omega
     ·have ht:decide (x.id<=y.id)=true:=by simp;omega
      have HD:Hid (decide (y.id<x.id)=false):=by show _=_;simp;omega
      go_wp2;refine IA (by kernel_rfl) ?_
      repeat (first | go_big_quiet_skip | (go_big_quiet_want;go_big_quiet_op;first | go_big_quiet_on | (apply Exists.intro;refine ⟨fun _=>?_,?_⟩;(· (((first | (go_at_call 76;exact DA (cG _ x _ (Rd.bw dA bb (eC.bw _))))))));go_big_quiet_on)))
      refine JA fun wq hbq=>?_
      try dsimp only at *
      go_wp2;go_ret;exact Ret.bool (by rw [dB,HE.out,HP.out,HD.out];simp) (bc.then hbq)
    ·have bg:gB x=false:=by simpa using hi
     clear hi;go_wp2;refine IA (by kernel_rfl) ?_
     repeat (first | go_big_quiet_skip | (go_big_quiet_want;go_big_quiet_op;first | go_big_quiet_on | (apply Exists.intro;refine ⟨fun _=>?_,?_⟩;(· (((first | (go_at_call 76;exact DA (cG _ x _ (Rd.bw dA bb (eC.bw _))))))));go_big_quiet_on)))
     refine JA fun wq hbq=>?_
     try dsimp only at *
     go_wp2;go_ret;exact Ret.bool (by rw [dB,HE.out,HP.out];simp [bg]) (bc.then hbq)
   ·have HP:Hid (pAl (CH l k) (l.drop k)=(gB x && pAl (CH l (k+1)) (l.drop (k+1)))):=by
     show _=_
     obtain rfl:k=0:=by omega
     rw [aI hx,nC hx];rfl
    have A1:Bw wr (wr.alloc (.cells #[.int .i64 x.id,.slice A' x.vals.length c'] 30)):=(Bw.refl wr).alloc _;have bb:Rd aB (wr.alloc (.cells #[.int .i64 x.id,.slice A' x.vals.length c'] 30)) _ _:=Rd.bw dA bk A1;have bc:=hb.then A1;have s0:=pA (show (wr.alloc (.cells #[.int .i64 x.id,.slice A' x.vals.length c'] 30)).cell? ⟨wr.heap.size,0,none⟩=some (.int .i64 x.id) by go_simp);have s1:=pA (show (wr.alloc (.cells #[.int .i64 x.id,.slice A' x.vals.length c'] 30)).cell? ⟨wr.heap.size,1,none⟩=some (.slice A' x.vals.length c') by go_simp);clear bf hx h;by_cases hi:gB x=true
    ·go_wp2;refine IA (by kernel_rfl) ?_
     repeat (first | go_big_quiet_skip | (go_big_quiet_want;go_big_quiet_op;first | go_big_quiet_on | (apply Exists.intro;refine ⟨fun _=>?_,?_⟩;(· (((first | (go_at_call 76;exact DA (cG _ x _ (Rd.bw dA bb (eC.bw _))))))));go_big_quiet_on)))
     refine JA fun wq hbq=>?_
     try dsimp only at *
     go_wp2
     go_roundw
     case rel=>exact ⟨k+1,by omega,by go_num,by show _=_;rw [HE.out,HP.out];simp [hi],bc.then hbq⟩
     case measure=>simp [intOf];omega
    ·have bg:gB x=false:=by simpa using hi
     clear hi;go_wp2;refine IA (by kernel_rfl) ?_
     repeat (first | go_big_quiet_skip | (go_big_quiet_want;go_big_quiet_op;first | go_big_quiet_on | (apply Exists.intro;refine ⟨fun _=>?_,?_⟩;(· (((first | (go_at_call 76;exact DA (cG _ x _ (Rd.bw dA bb (eC.bw _))))))));go_big_quiet_on)))
     refine JA fun wq hbq=>?_
     try dsimp only at *
     go_wp2;go_ret;exact Ret.bool (by rw [dB,HE.out,HP.out];simp [bg]) (bc.then hbq)
  ·have bd:Hid (pAl none l=true):=by show _=_;rw [HE.out,List.drop_of_length_le (by rw [<-L1.out];omega)];cases CH l k<;>rfl
   by_cases h16:n<=16
   ·go_wp2;go_ret;exact Ret.bool (by rw [dB,bd.out,<-L1.out];simp;omega) hb
   ·have bm:Hid (decide (n<=16)=false):=by show _=_;simpa using h16
    go_wp2;go_ret;exact Ret.bool (by rw [dB,bd.out,<-L1.out,bm.out];simp;omega) hb
theorem pD {x lo hi:Int}:inB x lo hi=true↔lo<=x/\x<=hi:=by unfold inB;exact decide_eq_true_iff
theorem gJ:∀ {l:List iA} {p:Option Int} {x:iA},pAl p l=true->x∈l->gB x=true
 | y::l,none,x,h,hx=>by
  simp only [pAl,Bool.and_eq_true] at h;rcases List.mem_cons.1 hx with rfl | hx
  ·exact h.1
  ·exact gJ h.2 hx
 | y::l,some p,x,h,hx=>by
  simp only [pAl,Bool.and_eq_true] at h;rcases List.mem_cons.1 hx with rfl | hx
  ·exact h.1.1
  ·exact gJ h.2 hx
theorem TA {l:List iA} {x:iA} (h:dB l=true) (hx:x∈l):gB x=true:=by
 simp only [dB,Bool.and_eq_true] at h;exact gJ h.1 hx
theorem VA {l:List iA} (h:dB l=true):l.length<=16:=by
 simp only [dB,Bool.and_eq_true,decide_eq_true_iff] at h;exact h.2
theorem jB {x:iA} (h:gB x=true):x.vals.length=3:=by
 simp only [gB,Bool.and_eq_true,decide_eq_true_iff] at h;exact h.2.1
theorem lE {x:iA} (h:gB x=true):0<=x.id/\x.id<=99:=by
 simp only [gB,Bool.and_eq_true] at h;exact pD.1 h.1
theorem QE {x:iA} (h:gB x=true) {v:Int} (hv:v∈x.vals):0<=v/\v<=9:=by
 simp only [gB,Bool.and_eq_true,List.all_eq_true] at h;exact pD.1 (h.2.2 v hv)
def LF (x:iA) (f:Int):Int:=x.vals.getD f.toNat 0
theorem EL {x:iA} (h:gB x=true) {f:Nat} (hf:f<=2):x.vals[f]? = some (LF x f):=by
 have hl:=jB h;unfold LF;rw [Int.toNat_natCast,List.getD_eq_getElem?_getD,List.getElem?_eq_getElem (by omega)];rfl
theorem eN {x:iA} (h:gB x=true) {f:Nat} (hf:f<=2):0<=LF x f/\LF x f<=9:=QE h (List.mem_of_getElem? (EL h hf))
def PM (l:List EB) (i j:Nat):Bool:=l.any fun p=>decide (p.fst=(i:Int)) && decide (p.snd=(j:Int))
def oD (M:Nat->Nat->Bool):Nat->Nat->Nat->Bool
 | 0=>M
 | k+1=>fun i j=>oD M k i j || (oD M k i k && oD M k k j)
def iD (l:List EB) (a b:Int):Bool:=oD (PM l) 10 a.toNat b.toNat
def aAc (p:EB):Bool:=inB p.fst 0 9 && inB p.snd 0 9
def pE (l:List EB):Bool:=l.all aAc
def ZB (l:List EB):Bool:=pE l && (decide (l.length<=8) && (List.range 10).all fun v=>!iD l (v:Int) (v:Int))
theorem cA2 {M:Nat->Nat->Bool} {i j:Nat} (h:M i j=true):∀k,oD M k i j=true
 | 0=>h
 | k+1=>by simp [oD,cA2 h k]
theorem LQ (M:Nat->Nat->Bool):∀(k m:Nat),m<k->∀i j,oD M k i m=true->oD M k m j=true->oD M k i j=true
 | 0,m,h,_,_,_,_=>by omega
 | k+1,m,h,i,j,h1,h2=>by
  simp only [oD,Bool.or_eq_true,Bool.and_eq_true] at h1 h2 ⊢;have ih:=LQ M k m;by_cases hm:m<k
  ·have ih:=ih hm;rcases h1 with h1 | ⟨h1,h1'⟩<;>rcases h2 with h2 | ⟨h2,h2'⟩
   ·exact .inl (ih _ _ h1 h2)
   ·exact .inr ⟨ih _ _ h1 h2,h2'⟩
   ·exact .inr ⟨h1,ih _ _ h1' h2⟩
   ·exact .inr ⟨h1,h2'⟩
  ·obtain rfl:m=k:=by omega
   rcases h1 with h1 | ⟨h1,h1'⟩<;>rcases h2 with h2 | ⟨h2,h2'⟩
   ·exact .inr ⟨h1,h2⟩
   ·exact .inr ⟨h1,h2'⟩
   ·exact .inr ⟨h1,h2⟩
   ·exact .inr ⟨h1,h2'⟩
theorem bL {M:Nat->Nat->Bool} {R:Nat->Nat->Prop} (ht:∀a b c,R a b->R b c->R a c) (hM:∀i j,M i j=true->R i j):∀(k:Nat) {i j:Nat},oD M k i j=true->R i j
 | 0,i,j,h=>hM i j h
 | k+1,i,j,h=>by
  simp only [oD,Bool.or_eq_true,Bool.and_eq_true] at h;rcases h with h | ⟨h1,h2⟩
  ·exact bL ht hM k h
  ·exact ht _ _ _ (bL ht hM k h1) (bL ht hM k h2)
theorem iAj {M:Nat->Nat->Bool} {k i:Nat}:oD M (k+1) i k=oD M k i k:=by
 simp only [oD];cases oD M k i k<;>simp
theorem iAk {M:Nat->Nat->Bool} {k j:Nat}:oD M (k+1) k j=oD M k k j:=by
 simp only [oD];cases oD M k k j<;>simp
theorem iAl {l:List EB} {i j:Nat} (h:PM l i j=true):∃p∈l,p.fst=(i:Int)/\p.snd=(j:Int):=by
 obtain ⟨p,hp,h⟩:=List.any_eq_true.1 h;simp at h;exact ⟨p,hp,h⟩
theorem bI {l:List EB} (h:pE l=true) {p:EB} (hp:p∈l):(0<=p.fst/\p.fst<=9)/\0<=p.snd/\p.snd<=9:=by
 have:=List.all_eq_true.1 h p hp;simp only [aAc,Bool.and_eq_true,pD] at this;exact this
theorem fAf {l:List EB} (hl:pE l=true) {p:EB} (hp:p∈l):iD l p.fst p.snd=true:=by
 have:=bI hl hp;refine cA2 ?_ 10;refine List.any_eq_true.2 ⟨p,hp,?_⟩;simp only [Bool.and_eq_true,decide_eq_true_iff];omega
theorem fN {l:List EB} {a b c:Int} (hb:0<=b/\b<=9) (h1:iD l a b=true) (h2:iD l b c=true):iD l a c=true:=
 LQ _ 10 b.toNat (by omega) _ _ h1 h2
theorem kAr {l:List EB} {a b:Int} {S:List Int} (ha:0<=a) (hb:0<=b) (h0:a∈S) (hS:∀s∈S,∀p∈l,p.fst=s->p.snd∈S/\p.snd≠b):iD l a b=false:=by
 rw [Bool.eq_false_iff];intro h;have:=bL (R:=fun i j=>(i:Int)∈S->((j:Int)∈S/\(j:Int)≠b)) (fun x y z h1 h2 hx=>h2 (h1 hx).1) (fun i j h hi=>by
  obtain ⟨p,hp,e1,e2⟩:=iAl h;rw [<-e2];exact hS _ hi p hp e1) 10 h
 have:=this (by rw [Int.toNat_of_nonneg ha];exact h0);omega
end Go.Proofs.YtpihighajaeabaaGreat
