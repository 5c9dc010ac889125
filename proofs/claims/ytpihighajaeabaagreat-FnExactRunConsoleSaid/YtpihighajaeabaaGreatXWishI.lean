/- Valid wishes in the program. -/
import Derived.Test.YtpihighajaeabaaGreatXArePairs
import Derived.Test.YtpihighajaeabaaGreatXWishS
namespace Go.Proofs.YtpihighajaeabaaGreat
open Go.RowKit Go.Proofs.Tryz
set_option linter.all false
set_option maxRecDepth 100000
set_option maxHeartbeats 16000000
theorem FL (w:World) (x:AB) (v u:Value) (h:Rd aB w x.list [v]) (h':Rd MC w x.pairs [u]) :
  Calls prog 185 #[.agg #[.int .i64 x.kind,.int .i64 x.field,.int .i64 x.value,v,u]] w (Ret w (.bool (DB x))):=by
 obtain ⟨A,n,c,rfl,L,Lc,Lm⟩:=yA h;obtain ⟨B,m,c',rfl,M,Mc,Mm⟩:=yA h';have B0:Bw w (w.alloc (.cells #[.int .i64 x.kind,.int .i64 x.field,.int .i64 x.value,.slice A n c,.slice B m c'] 109)):=(Bw.refl w).alloc _;go_enter func185,ntmps185;go_wp2_with fail;refine (rD _ _ _ _).mono ?_;rintro e w1 ⟨rfl,bk⟩;obtain ⟨p0,p1,p2,p3,p4⟩:C5 w1 w.heap.size (.int .i64 x.kind) (.int .i64 x.field) (.int .i64 x.value) (.slice A n c) (.slice B m c'):=bk.c5 (by unfold C5;go_simp);have B1:=B0.then bk;rcases pA8 (inB x.field 0 2) with e1 | e1
 ·have E1:=pA6 e1;rw [e1];clear e1;go_wp2_with fail;refine (rD _ _ _ _).mono ?_;rintro e w2 ⟨rfl,bb⟩;replace p0:=bb.cell p0;replace p1:=bb.cell p1;replace p2:=bb.cell p2;replace p3:=bb.cell p3;replace p4:=bb.cell p4;replace B1:=B1.then bb;rcases pA8 (inB x.kind 0 4) with e2 | e2
  ·have E2:=pA6 e2;rw [e2];clear e2;go_wp2_with fail;refine (rD _ _ _ _).mono ?_;rintro e w3 ⟨rfl,bc⟩;replace p0:=bc.cell p0;replace p1:=bc.cell p1;replace p2:=bc.cell p2;replace p3:=bc.cell p3;replace p4:=bc.cell p4;replace B1:=B1.then bc;rcases pA8 (inB x.value 0 9) with e3 | e3
   ·have E3:=pA6 e3;rw [e3];clear e3;go_wp2
    go_loopg [24] n (fun g i w'=>∃k:Nat,k<=n/\g=n-k/\i=.int .i64 k/\Hid (VC none x.list=VC (xK x.list k) (x.list.drop k))/\Bw w3 w')
    ·exact ⟨0,by omega,rfl,rfl,pA6 rfl,Bw.refl _⟩
    ·obtain ⟨k,hk,rfl,rfl,HE,hb⟩:=hrel;replace p0:=hb.cell p0;replace p1:=hb.cell p1;replace p2:=hb.cell p2;replace p3:=hb.cell p3;replace p4:=hb.cell p4;by_cases hlt:k<n
     ·obtain ⟨y,hy⟩:=tA (xs:=x.list) (k:=k) (by have:=L.out;omega);obtain ⟨ba,oa,rfl,_,bg⟩:=KB h hy;have hcx:=(B1.then hb).cell bg;have i1:(0:Int)<=(k:Int):=by omega
      have i2:(k:Int)<(n:Int):=by omega
      by_cases bj:0<k
      ·obtain ⟨z,hz⟩:=tA (xs:=x.list) (k:=k-1) (by have:=L.out;omega);obtain ⟨_,_,e,_,bn⟩:=KB h hz;injection e with e;injection e with e1 e2;subst e1 e2;have bm:=(B1.then hb).cell bn;have HP:=pA6 (RY bj hz hy);clear hy hz h bg bn;go_wp2_with fail;refine (rD _ _ _ _).mono ?_;rintro e w4 ⟨rfl,bf⟩;replace p3:=bf.cell p3;replace bm:=bf.cell bm;have bd:=hb.then bf;rcases pA8 (inB y 0 9) with e4 | e4
       ·have E4:=pA6 e4;rw [e4];clear e4;by_cases hle:z<y
        ·have ht:decide (y<=z)=false:=by simp;omega
         have HD:=pA6 hle;go_wp2
         go_roundg (n-(k+1))
         ·exact ⟨k+1,by omega,rfl,by go_num,pA6 (by rw [HE.out,HP.out];simp [E4.out,HD.out]),bd⟩
         ·omega
        ·have ht:decide (y<=z)=true:=by simp;omega
         have HD:Hid (decide (z<y)=false):=by show _=_;simp;omega
         go_wp2;go_ret;exact Ret.bool (by rw [DB,HE.out,HP.out,HD.out];simp) (B1.then bd)
       ·have E4:=pA6 e4;rw [e4];clear e4;go_wp2;go_ret;exact Ret.bool (by rw [DB,HE.out,HP.out];simp [E4.out]) (B1.then bd)
      ·have HP:=pA6 (show VC (xK x.list k) (x.list.drop k)=(inB y 0 9 && VC (xK x.list (k+1)) (x.list.drop (k+1))) by
        obtain rfl:k=0:=by omega
        exact PY hy)
       clear hy h bg;go_wp2_with fail;refine (rD _ _ _ _).mono ?_;rintro e w4 ⟨rfl,bf⟩;have bd:=hb.then bf;rcases pA8 (inB y 0 9) with e4 | e4
       ·have E4:=pA6 e4;rw [e4];clear e4;go_wp2
        go_roundg (n-(k+1))
        ·exact ⟨k+1,by omega,rfl,by go_num,pA6 (by rw [HE.out,HP.out];simp [E4.out]),bd⟩
        ·omega
       ·have E4:=pA6 e4;rw [e4];clear e4;go_wp2;go_ret;exact Ret.bool (by rw [DB,HE.out,HP.out];simp [E4.out]) (B1.then bd)
     ·obtain rfl:k=n:=by omega
      have HT:=pA6 (show VC none x.list=true by rw [HE.out,List.drop_of_length_le (by rw [<-L.out];exact Nat.le_refl _)];cases xK x.list k<;>rfl);have HW:=pA6 (show DB x=((decide (x.kind=2) || decide (x.value=0)) && ((decide (x.kind=3)==decide (0<k)) && (if x.kind=4 then ZB x.pairs else decide (m=0)))) by
       rw [DB,E1.out,E2.out,E3.out,HT.out,<-L.out,<-M.out];simp)
      have B2:=B1.then hb;clear HE hlt;by_cases k2:x.kind=2\/x.value=0
      ·have K2:=pA6 (show (decide (x.kind=2) || decide (x.value=0))=true by simpa using k2);have c2:(x.kind != 2 && x.value != 0)=false:=by simp;omega
       by_cases k3:x.kind=3↔0<k
       ·have K3:=pA6 (show (decide (x.kind=3)==decide (0<k))=true by simpa using k3);by_cases q2:x.kind=2
        ·have r2:(x.kind != 2)=false:=by simpa using q2
         by_cases q3:x.kind=3
         ·have r3:(x.kind==3)=true:=by simpa using q3
          omega
         ·have r3:(x.kind==3)=false:=by simpa using q3
          obtain rfl:k=0:=by simp [q3] at k3;omega
          by_cases q4:x.kind=4
          ·have r4:(x.kind==4)=true:=by simpa using q4
           omega
          ·have r4:(x.kind==4)=false:=by simpa using q4
           have Q4:=pA6 q4;clear k2 k3 q2 q3 q4 c2;by_cases m0:m=0
           ·subst m0;go_wp2;go_ret;exact Ret.bool (by rw [HW.out,K2.out,K3.out,if_neg Q4.out];simp) (B2)
           ·have m1:((m:Int)==0)=false:=by simp;omega
            have m2:decide (m=0)=false:=by simpa using m0
            go_wp2;go_ret;exact Ret.bool (by rw [HW.out,K2.out,K3.out,if_neg Q4.out];simp [m0]) (B2)
        ·have r2:(x.kind != 2)=true:=by simpa using q2
         have rv:(x.value != 0)=false:=by simp;omega
         by_cases q3:x.kind=3
         ·have r3:(x.kind==3)=true:=by simpa using q3
          have bj:0<k:=by simp [q3] at k3;omega
          by_cases q4:x.kind=4
          ·have r4:(x.kind==4)=true:=by simpa using q4
           omega
          ·have r4:(x.kind==4)=false:=by simpa using q4
           have Q4:=pA6 q4;clear k2 k3 q2 q3 q4 c2;by_cases m0:m=0
           ·subst m0;go_wp2;go_ret;exact Ret.bool (by rw [HW.out,K2.out,K3.out,if_neg Q4.out];simp) (B2)
           ·have m1:((m:Int)==0)=false:=by simp;omega
            have m2:decide (m=0)=false:=by simpa using m0
            go_wp2;go_ret;exact Ret.bool (by rw [HW.out,K2.out,K3.out,if_neg Q4.out];simp [m0]) (B2)
         ·have r3:(x.kind==3)=false:=by simpa using q3
          obtain rfl:k=0:=by simp [q3] at k3;omega
          by_cases q4:x.kind=4
          ·have r4:(x.kind==4)=true:=by simpa using q4
           have Q4:=pA6 q4;clear k2 k3 q2 q3 q4 c2;go_wp2_with fail;refine (rV _ x.pairs _ (h'.bw RA B2)).mono ?_;rintro e w5 ⟨rfl,bp⟩;go_wp2;go_ret;exact Ret.bool (by rw [HW.out,K2.out,K3.out,if_pos Q4.out];simp) (B2.then bp)
          ·have r4:(x.kind==4)=false:=by simpa using q4
           have Q4:=pA6 q4;clear k2 k3 q2 q3 q4 c2;by_cases m0:m=0
           ·subst m0;go_wp2;go_ret;exact Ret.bool (by rw [HW.out,K2.out,K3.out,if_neg Q4.out];simp) (B2)
           ·have m1:((m:Int)==0)=false:=by simp;omega
            have m2:decide (m=0)=false:=by simpa using m0
            go_wp2;go_ret;exact Ret.bool (by rw [HW.out,K2.out,K3.out,if_neg Q4.out];simp [m0]) (B2)
       ·have K3:=pA6 (show (decide (x.kind=3)==decide (0<k))=false by simpa using k3);by_cases q2:x.kind=2;rotate_left
        focus
         have r2:(x.kind != 2)=true:=by simpa using q2
         have rv:(x.value != 0)=false:=by simp;omega
        rotate_right
        focus
         have r2:(x.kind != 2)=false:=by simpa using q2
        all_goals
         by_cases q3:x.kind=3
         ·have r3:(x.kind==3)=true:=by simpa using q3
          obtain rfl:k=0:=by simp [q3] at k3;omega
          clear k2 k3 q2 q3 c2;go_wp2;go_ret;exact Ret.bool (by rw [HW.out,K3.out];simp) (B2)
         ·have r3:(x.kind==3)=false:=by simpa using q3
          have bj:0<k:=by simp [q3] at k3;omega
          clear k2 k3 q2 q3 c2;go_wp2;go_ret;exact Ret.bool (by rw [HW.out,K3.out];simp) (B2)
      ·have K2:=pA6 (show (decide (x.kind=2) || decide (x.value=0))=false by simpa using k2);have r2:(x.kind != 2)=true:=by simp;omega
       have rv:(x.value != 0)=true:=by simp;omega
       clear k2;go_wp2;go_ret;exact Ret.bool (by rw [HW.out,K2.out];simp) (B2)
   ·have E3:=pA6 e3;rw [e3];clear e3;go_wp2;go_ret;exact Ret.bool (by simp [DB,E3.out]) (B1)
  ·have E2:=pA6 e2;rw [e2];clear e2;go_wp2;go_ret;exact Ret.bool (by simp [DB,E2.out]) (B1)
 ·have E1:=pA6 e1;rw [e1];clear e1;go_wp2;go_ret;exact Ret.bool (by simp [DB,E1.out]) (B1)
end Go.Proofs.YtpihighajaeabaaGreat
