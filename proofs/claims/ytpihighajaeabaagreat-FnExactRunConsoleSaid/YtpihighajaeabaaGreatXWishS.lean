/- Valid wishes in the reference. -/
import Derived.Test.YtpihighajaeabaaGreatXArePairsS
import Derived.Test.YtpihighajaeabaaGreatXIntss
import Derived.Test.YtpihighajaeabaaGreatXWishes
namespace Go.Proofs.YtpihighajaeabaaGreat
open Go.RowKit Tryz
set_option linter.all false
set_option maxRecDepth 100000
set_option maxHeartbeats 16000000
theorem RY {l:List Int} {k:Nat} {x y:Int} (hk:0<k) (hy:l[k-1]? = some y) (h:l[k]? = some x):VC (xK l k) (l.drop k)=((inB x 0 9 && decide (y<x)) && VC (xK l (k+1)) (l.drop (k+1))):=by
 obtain ⟨j,rfl⟩:∃j,k=j+1:=⟨k-1,by omega⟩;exact kAv hy h
theorem kAw (w:World) (l:List Int) (v:Value) (h:Rd aB w l [v]):Calls prog 174 #[v] w (Ret w (.bool (VC none l && decide (0<l.length)))):=by
 obtain ⟨A,n,c,rfl,L,Lc,Lm⟩:=yA h;go_enter func174,ntmps174;go_wp2
 go_loopw [3] (fun i w'=>∃k:Nat,k<=n/\i=.int .i64 k/\Hid (VC none l=VC (xK l k) (l.drop k))/\Bw w w') (fun i _=>n-(intOf i).toNat)
 case atStart=>exact ⟨0,by omega,rfl,pA6 rfl,Bw.refl _⟩
 case round=>
  obtain ⟨k,hk,rfl,HE,hb⟩:=hrel;by_cases hlt:k<n
  ·obtain ⟨x,hx⟩:=tA (xs:=l) (k:=k) (by have:=L.out;omega);have bc:=h.bw dA hb;obtain ⟨ba,oa,rfl,_,bd⟩:=KB bc hx;have i1:(0:Int)<=(k:Int):=by omega
   have i2:(k:Int)<(n:Int):=by omega
   have bb:=hb;have s0:=pA bd;by_cases hk0:0<k
   ·obtain ⟨y,hy⟩:=tA (xs:=l) (k:=k-1) (by have:=L.out;omega);obtain ⟨_,_,e,_,bf⟩:=KB bc hy;injection e with e;injection e with e1 e2;subst e1 e2;have HP:=pA6 (RY hk0 hy hx);have s2:=pA bf;clear bc bd bf hx hy h;rcases pA8 (inB x 0 9) with hi | hi
    ·by_cases hle:y<x
     ·have ht:decide (x<=y)=false:=by simp;omega
      go_wp2;refine IA (by kernel_rfl) ?_
      repeat (first | go_big_quiet_skip | (go_big_quiet_want;go_big_quiet_op;first | go_big_quiet_on | (apply Exists.intro;refine ⟨fun _=>?_,?_⟩;(· (((first | (go_at_call 103;exact DA (rC (UH _ _ _ _) (congrArg Value.bool hi)))))));go_big_quiet_on)))
      refine JA fun wq hbq=>?_
      try dsimp only at *
      go_wp2
      go_roundw
      case rel=>exact ⟨k+1,by omega,by go_num,pA6 (by rw [HE.out,HP.out];simp [hi,hle]),bb.then hbq⟩
      case measure=>simp [intOf];omega
     ·have ht:decide (x<=y)=true:=by simp;omega
      have HD:Hid (decide (y<x)=false):=by show _=_;simp;omega
      go_wp2;refine IA (by kernel_rfl) ?_
      repeat (first | go_big_quiet_skip | (go_big_quiet_want;go_big_quiet_op;first | go_big_quiet_on | (apply Exists.intro;refine ⟨fun _=>?_,?_⟩;(· (((first | (go_at_call 103;exact DA (rC (UH _ _ _ _) (congrArg Value.bool hi)))))));go_big_quiet_on)))
      refine JA fun wq hbq=>?_
      try dsimp only at *
      go_wp2;go_ret;exact Ret.bool (by rw [HE.out,HP.out,HD.out];simp) (bb.then hbq)
    ·go_wp2;refine IA (by kernel_rfl) ?_
     repeat (first | go_big_quiet_skip | (go_big_quiet_want;go_big_quiet_op;first | go_big_quiet_on | (apply Exists.intro;refine ⟨fun _=>?_,?_⟩;(· (((first | (go_at_call 103;exact DA (rC (UH _ _ _ _) (congrArg Value.bool hi)))))));go_big_quiet_on)))
     refine JA fun wq hbq=>?_
     try dsimp only at *
     go_wp2;go_ret;exact Ret.bool (by rw [HE.out,HP.out];simp [hi]) (bb.then hbq)
   ·have HP:=pA6 (show VC (xK l k) (l.drop k)=(inB x 0 9 && VC (xK l (k+1)) (l.drop (k+1))) by
     obtain rfl:k=0:=by omega
     exact PY hx)
    clear bc bd hx h;rcases pA8 (inB x 0 9) with hi | hi
    ·go_wp2;refine IA (by kernel_rfl) ?_
     repeat (first | go_big_quiet_skip | (go_big_quiet_want;go_big_quiet_op;first | go_big_quiet_on | (apply Exists.intro;refine ⟨fun _=>?_,?_⟩;(· (((first | (go_at_call 103;exact DA (rC (UH _ _ _ _) (congrArg Value.bool hi)))))));go_big_quiet_on)))
     refine JA fun wq hbq=>?_
     try dsimp only at *
     go_wp2
     go_roundw
     case rel=>exact ⟨k+1,by omega,by go_num,pA6 (by rw [HE.out,HP.out];simp [hi]),bb.then hbq⟩
     case measure=>simp [intOf];omega
    ·go_wp2;refine IA (by kernel_rfl) ?_
     repeat (first | go_big_quiet_skip | (go_big_quiet_want;go_big_quiet_op;first | go_big_quiet_on | (apply Exists.intro;refine ⟨fun _=>?_,?_⟩;(· (((first | (go_at_call 103;exact DA (rC (UH _ _ _ _) (congrArg Value.bool hi)))))));go_big_quiet_on)))
     refine JA fun wq hbq=>?_
     try dsimp only at *
     go_wp2;go_ret;exact Ret.bool (by rw [HE.out,HP.out];simp [hi]) (bb.then hbq)
  ·have HF:=pA6 (show VC none l=true by rw [HE.out,List.drop_of_length_le (by have:=L.out;omega)];cases xK l k<;>rfl);clear HE;by_cases h0:0<n
   ·have HN:=pA6 (show decide (0<l.length)=true from decide_eq_true (by have:=L.out;omega));go_wp2;go_ret;exact Ret.bool (by rw [HF.out,HN.out];simp) hb
   ·obtain rfl:n=0:=by omega
    have HN:=pA6 (show decide (0<l.length)=false from decide_eq_false (by have:=L.out;omega));go_wp2;go_ret;exact Ret.bool (by rw [HF.out,HN.out];simp) hb
theorem oAl {α:Type} {l:List α} {n:Nat} (h:n=l.length):decide (l.length=0)=decide (n=0):=by rw [h]
def VD (w:AB):Bool:=
 inB w.field 0 2 && (
  if w.kind=0\/w.kind=1 then decide (w.value=0) && (decide (w.list.length=0) && decide (w.pairs.length=0))
  else if w.kind=2 then inB w.value 0 9 && (decide (w.list.length=0) && decide (w.pairs.length=0))
  else if w.kind=3 then decide (w.value=0) && ((VC none w.list && decide (0<w.list.length)) && decide (w.pairs.length=0))
  else if w.kind=4 then decide (w.value=0) && (decide (w.list.length=0) && ZB w.pairs)
  else false)
theorem fAm (w:AB):VD w=DB w:=by
 unfold VD DB;have hz:∀l:List Int,l.length=0->VC none l=true:=fun l h=>by rw [List.eq_nil_of_length_eq_zero h];rfl
 by_cases k0:w.kind=0
 ·rw [if_pos (.inl k0)];by_cases hv:w.value=0<;>by_cases hl:w.list.length=0<;>simp [k0,hv,hl,hz,inB,Nat.pos_iff_ne_zero]
 by_cases k1:w.kind=1
 ·rw [if_pos (.inr k1)];by_cases hv:w.value=0<;>by_cases hl:w.list.length=0<;>simp [k1,hv,hl,hz,inB,Nat.pos_iff_ne_zero]
 rw [if_neg (by simp [k0,k1])];by_cases k2:w.kind=2
 ·rw [if_pos k2];by_cases hl:w.list.length=0<;>simp [k2,hl,hz,inB,Nat.pos_iff_ne_zero]
 rw [if_neg k2];by_cases k3:w.kind=3
 ·rw [if_pos k3];by_cases hv:w.value=0
  ·simp [k3,hv,inB,Nat.pos_iff_ne_zero,Bool.and_assoc]
  ·simp [k3,hv]
 rw [if_neg k3];by_cases k4:w.kind=4
 ·rw [if_pos k4];by_cases hv:w.value=0<;>by_cases hl:w.list.length=0<;>simp [k4,hv,hl,hz,inB,Nat.pos_iff_ne_zero]
 rw [if_neg k4];have:inB w.kind 0 4=false:=by simp [inB];omega
 rw [this];simp
theorem tV (w:World) (x:AB) (v u:Value) (h:Rd aB w x.list [v]) (h':Rd MC w x.pairs [u]) :
  Calls prog 111 #[.agg #[.int .i64 x.kind,.int .i64 x.field,.int .i64 x.value,v,u]] w (Ret w (.bool (DB x))):=by
 rw [<-fAm];obtain ⟨A,n,c,rfl,L,Lc,Lm⟩:=yA h;obtain ⟨B,m,c',rfl,M,Mc,Mm⟩:=yA h';have LN:=pA6 (oAl L.out);have MN:=pA6 (oAl M.out);have B0:Bw w (w.alloc (.cells #[.int .i64 x.kind,.int .i64 x.field,.int .i64 x.value,.slice A n c,.slice B m c'] 109)):=(Bw.refl w).alloc _;go_enter func111,ntmps111;go_wp2_with fail;refine (UH _ _ _ _).mono ?_;rintro e w1 ⟨rfl,bc⟩;obtain ⟨p0,p1,p2,p3,p4⟩:C5 w1 w.heap.size (.int .i64 x.kind) (.int .i64 x.field) (.int .i64 x.value) (.slice A n c) (.slice B m c'):=bc.c5 (by unfold C5;go_simp);have B1:=B0.then bc;rcases pA8 (inB x.field 0 2) with e1 | e1
 ·have E1:=pA6 e1;rw [e1];clear e1;by_cases k0:x.kind=0
  ·have K:=pA6 k0;have q0:(x.kind==0)=true:=by simpa using k0
   clear k0;by_cases v0:x.value=0
   ·have V0:=pA6 v0;have v1:(x.value==0)=true:=by simpa using v0
    clear v0;by_cases n0:n=0
    ·have N0:=pA6 (show x.list=[] from List.eq_nil_of_length_eq_zero (by have:=L.out;omega));subst n0;by_cases m0:m=0
     ·have M0:=pA6 (show x.pairs=[] from List.eq_nil_of_length_eq_zero (by have:=M.out;omega));subst m0;go_wp2;go_ret;exact Ret.bool (by simp [VD,E1.out,K.out,V0.out,N0.out,M0.out]) (B1)
     ·have M0:=pA6 (show x.pairs≠[] from fun e=>by have:=M.out;rw [e] at this;exact m0 this);have m1:((m:Int)==0)=false:=by simp;omega
      go_wp2;go_ret;exact Ret.bool (by simp [VD,E1.out,K.out,M0.out]) (B1)
    ·have N0:=pA6 (show x.list≠[] from fun e=>by have:=L.out;rw [e] at this;exact n0 this);have n1:((n:Int)==0)=false:=by simp;omega
     go_wp2;go_ret;exact Ret.bool (by simp [VD,E1.out,K.out,N0.out]) (B1)
   ·have V0:=pA6 v0;have v1:(x.value==0)=false:=by simpa using v0
    clear v0;go_wp2;go_ret;exact Ret.bool (by simp [VD,E1.out,K.out,V0.out]) (B1)
  by_cases k1:x.kind=1
  ·have K:=pA6 k1;have q1:(x.kind==1)=true:=by simpa using k1
   have q0:(x.kind==0)=false:=by simp;omega
   clear k0 k1;by_cases v0:x.value=0
   ·have V0:=pA6 v0;have v1:(x.value==0)=true:=by simpa using v0
    clear v0;by_cases n0:n=0
    ·have N0:=pA6 (show x.list=[] from List.eq_nil_of_length_eq_zero (by have:=L.out;omega));subst n0;by_cases m0:m=0
     ·have M0:=pA6 (show x.pairs=[] from List.eq_nil_of_length_eq_zero (by have:=M.out;omega));subst m0;go_wp2;go_ret;exact Ret.bool (by simp [VD,E1.out,K.out,V0.out,N0.out,M0.out]) (B1)
     ·have M0:=pA6 (show x.pairs≠[] from fun e=>by have:=M.out;rw [e] at this;exact m0 this);have m1:((m:Int)==0)=false:=by simp;omega
      go_wp2;go_ret;exact Ret.bool (by simp [VD,E1.out,K.out,M0.out]) (B1)
    ·have N0:=pA6 (show x.list≠[] from fun e=>by have:=L.out;rw [e] at this;exact n0 this);have n1:((n:Int)==0)=false:=by simp;omega
     go_wp2;go_ret;exact Ret.bool (by simp [VD,E1.out,K.out,N0.out]) (B1)
   ·have V0:=pA6 v0;have v1:(x.value==0)=false:=by simpa using v0
    clear v0;go_wp2;go_ret;exact Ret.bool (by simp [VD,E1.out,K.out,V0.out]) (B1)
  by_cases k2:x.kind=2
  ·have K:=pA6 k2;have q2:(x.kind==2)=true:=by simpa using k2
   have q0:(x.kind==0)=false:=by simp;omega
   have q1:(x.kind==1)=false:=by simp;omega
   clear k0 k1 k2;go_wp2_with fail;refine (UH _ _ _ _).mono ?_;rintro e w2 ⟨rfl,bb⟩;replace p3:=bb.cell p3;replace p4:=bb.cell p4;replace B1:=B1.then bb;rcases pA8 (inB x.value 0 9) with e2 | e2
   ·have E2:=pA6 e2;rw [e2];clear e2;by_cases n0:n=0
    ·have N0:=pA6 (show x.list=[] from List.eq_nil_of_length_eq_zero (by have:=L.out;omega));subst n0;by_cases m0:m=0
     ·have M0:=pA6 (show x.pairs=[] from List.eq_nil_of_length_eq_zero (by have:=M.out;omega));subst m0;go_wp2;go_ret;exact Ret.bool (by simp [VD,E1.out,E2.out,K.out,N0.out,M0.out]) (B1)
     ·have M0:=pA6 (show x.pairs≠[] from fun e=>by have:=M.out;rw [e] at this;exact m0 this);have m1:((m:Int)==0)=false:=by simp;omega
      go_wp2;go_ret;exact Ret.bool (by simp [VD,E1.out,K.out,M0.out]) (B1)
    ·have N0:=pA6 (show x.list≠[] from fun e=>by have:=L.out;rw [e] at this;exact n0 this);have n1:((n:Int)==0)=false:=by simp;omega
     go_wp2;go_ret;exact Ret.bool (by simp [VD,E1.out,K.out,N0.out]) (B1)
   ·have E2:=pA6 e2;rw [e2];clear e2;go_wp2;go_ret;exact Ret.bool (by simp [VD,E1.out,E2.out,K.out]) (B1)
  by_cases k3:x.kind=3
  ·have K:=pA6 k3;have q3:(x.kind==3)=true:=by simpa using k3
   have q0:(x.kind==0)=false:=by simp;omega
   have q1:(x.kind==1)=false:=by simp;omega
   have q2:(x.kind==2)=false:=by simp;omega
   clear k0 k1 k2 k3;by_cases v0:x.value=0
   ·have V0:=pA6 v0;have v1:(x.value==0)=true:=by simpa using v0
    clear v0;go_wp2_with fail;refine (kAw _ x.list _ (h.bw dA B1)).mono ?_;rintro e w2 ⟨rfl,bb⟩;replace p4:=bb.cell p4;replace B1:=B1.then bb;rcases pA8 (VC none x.list && decide (0<x.list.length)) with e2 | e2
    ·have E2:=pA6 e2;rw [e2];clear e2;by_cases m0:m=0
     ·have M0:=pA6 (show x.pairs=[] from List.eq_nil_of_length_eq_zero (by have:=M.out;omega));subst m0;go_wp2;go_ret;exact Ret.bool (by rw [VD,E2.out];simp [E1.out,K.out,V0.out,M0.out]) (B1)
     ·have M0:=pA6 (show x.pairs≠[] from fun e=>by have:=M.out;rw [e] at this;exact m0 this);have m1:((m:Int)==0)=false:=by simp;omega
      go_wp2;go_ret;exact Ret.bool (by rw [VD,E2.out];simp [E1.out,K.out,V0.out,M0.out]) (B1)
    ·have E2:=pA6 e2;rw [e2];clear e2;go_wp2;go_ret;exact Ret.bool (by rw [VD,E2.out];simp [E1.out,K.out,V0.out]) (B1)
   ·have V0:=pA6 v0;have v1:(x.value==0)=false:=by simpa using v0
    clear v0;go_wp2;go_ret;exact Ret.bool (by simp [VD,E1.out,K.out,V0.out]) (B1)
  by_cases k4:x.kind=4
  ·have K:=pA6 k4;have q4:(x.kind==4)=true:=by simpa using k4
   have q0:(x.kind==0)=false:=by simp;omega
   have q1:(x.kind==1)=false:=by simp;omega
   have q2:(x.kind==2)=false:=by simp;omega
   have q3:(x.kind==3)=false:=by simp;omega
   clear k0 k1 k2 k3 k4;by_cases v0:x.value=0
   ·have V0:=pA6 v0;have v1:(x.value==0)=true:=by simpa using v0
    clear v0;by_cases n0:n=0
    ·have N0:=pA6 (show x.list=[] from List.eq_nil_of_length_eq_zero (by have:=L.out;omega));subst n0;go_wp2_with fail;refine (oV _ x.pairs _ (h'.bw RA B1)).mono ?_;rintro e w2 ⟨rfl,bb⟩;rcases pA8 (ZB x.pairs) with e2 | e2
     all_goals
      have E2:=pA6 e2;rw [e2];clear e2;go_wp2;go_ret;exact Ret.bool (by simp [VD,E1.out,E2.out,K.out,V0.out,N0.out]) (B1.then bb)
    ·have N0:=pA6 (show x.list≠[] from fun e=>by have:=L.out;rw [e] at this;exact n0 this);have n1:((n:Int)==0)=false:=by simp;omega
     go_wp2;go_ret;exact Ret.bool (by simp [VD,E1.out,K.out,N0.out]) (B1)
   ·have V0:=pA6 v0;have v1:(x.value==0)=false:=by simpa using v0
    clear v0;go_wp2;go_ret;exact Ret.bool (by simp [VD,E1.out,K.out,V0.out]) (B1)
  have q0:(x.kind==0)=false:=by simpa using k0
  have q1:(x.kind==1)=false:=by simpa using k1
  have q2:(x.kind==2)=false:=by simpa using k2
  have q3:(x.kind==3)=false:=by simpa using k3
  have q4:(x.kind==4)=false:=by simpa using k4
  have K:=pA6 (show ¬(x.kind=0\/x.kind=1)/\¬x.kind=2/\¬x.kind=3/\¬x.kind=4 from ⟨by omega,k2,k3,k4⟩);clear k0 k1 k2 k3 k4;go_wp2;go_ret;exact Ret.bool (by rw [VD,if_neg K.out.1,if_neg K.out.2.1,if_neg K.out.2.2.1,if_neg K.out.2.2.2];simp) (B1)
 ·have E1:=pA6 e1;rw [e1];clear e1;go_wp2;go_ret;exact Ret.bool (by simp [VD,E1.out]) (B1)
end Go.Proofs.YtpihighajaeabaaGreat
