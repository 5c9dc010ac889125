/- Comparisons of values and items in the program. -/
import Derived.Test.YtpihighajaeabaaGreatQWishS
import Derived.Test.YtpihighajaeabaaGreatQReach
import Derived.WalkSmall
namespace Go.Proofs.YtpihighajaeabaaGreat
open Go.RowKit
set_option linter.unusedVariables false
set_option linter.unusedSimpArgs false
set_option maxRecDepth 100000 in
set_option maxHeartbeats 3200000 in
theorem fG (w:World) (x:eB) (v u:Value) (h:Rd XA w x.list [v]) (h':Rd RB w x.pairs [u]) :
  Calls Tryz.prog 185 #[.agg #[.int .i64 x.kind,.int .i64 x.field,.int .i64 x.value,v,u]] w (Ret w (.bool (gB x))):=by
 obtain ⟨A,n,c,rfl,L0,Lc,Lm⟩:=iA h;unfold maxLen at Lm;have L:=Lib.hid L0;clear L0;obtain ⟨B,m,c',rfl,M0,Mc,Mm⟩:=iA h';unfold maxLen at Mm;have M:=Lib.hid M0;clear M0;have B0:Bw w (w.alloc (.cells #[.int .i64 x.kind,.int .i64 x.field,.int .i64 x.value,.slice A n c,.slice B m c'] 109)):=(Bw.refl w).alloc _;go_enter Tryz.func185,Tryz.ntmps185;go_wp2_with fail;refine (JC _ _ _ _).mono ?_;rintro e w1 ⟨rfl,hb1⟩;have p0:w1.cell? ⟨w.heap.size,0,none⟩=some (.int .i64 x.kind):=hb1.cell (by go_simp);have p1:w1.cell? ⟨w.heap.size,1,none⟩=some (.int .i64 x.field):=hb1.cell (by go_simp);have p2:w1.cell? ⟨w.heap.size,2,none⟩=some (.int .i64 x.value):=hb1.cell (by go_simp);have p3:w1.cell? ⟨w.heap.size,3,none⟩=some (.slice A n c):=hb1.cell (by go_simp);have p4:w1.cell? ⟨w.heap.size,4,none⟩=some (.slice B m c'):=hb1.cell (by go_simp);have B1:=B0.then hb1;rcases Bool.eq_false_or_eq_true (inB x.field 0 2) with e1 | e1
 ·have E1:=Lib.hid e1;rw [e1];clear e1;go_wp2_with fail;refine (JC _ _ _ _).mono ?_;rintro e w2 ⟨rfl,hb2⟩;replace p0:=hb2.cell p0;replace p1:=hb2.cell p1;replace p2:=hb2.cell p2;replace p3:=hb2.cell p3;replace p4:=hb2.cell p4;replace B1:=B1.then hb2;rcases Bool.eq_false_or_eq_true (inB x.kind 0 4) with e2 | e2
  ·have E2:=Lib.hid e2;rw [e2];clear e2;go_wp2_with fail;refine (JC _ _ _ _).mono ?_;rintro e w3 ⟨rfl,hb3⟩;replace p0:=hb3.cell p0;replace p1:=hb3.cell p1;replace p2:=hb3.cell p2;replace p3:=hb3.cell p3;replace p4:=hb3.cell p4;replace B1:=B1.then hb3;rcases Bool.eq_false_or_eq_true (inB x.value 0 9) with e3 | e3
   ·have E3:=Lib.hid e3;rw [e3];clear e3;go_wp2
    go_loopg [24] n (fun g i w'=>∃k:Nat,k≤n∧g=n-k∧i=.int .i64 k∧Hid (rC none x.list=rC (II x.list k) (x.list.drop k))∧Bw w3 w')
    case atStart=>exact ⟨0,by omega,rfl,rfl,Lib.hid rfl,Bw.refl _⟩
    case round=>
     obtain ⟨k,hk,rfl,rfl,HE,hb⟩:=hrel;replace p0:=hb.cell p0;replace p1:=hb.cell p1;replace p2:=hb.cell p2;replace p3:=hb.cell p3;replace p4:=hb.cell p4;by_cases hlt:k<n
     ·obtain ⟨y,hy⟩:=rA (xs:=x.list) (k:=k) (by have:=L.out;omega);obtain ⟨ba,oa,rfl,_,hc0⟩:=GB h hy;have hcx:=(B1.then hb).cell hc0;have i1:(0:Int)≤(k:Int):=by omega
      have i2:(k:Int)<(n:Int):=by omega
      by_cases hk0:0<k
      ·obtain ⟨z,hz⟩:=rA (xs:=x.list) (k:=k-1) (by have:=L.out;omega);obtain ⟨_,_,e,_,hz0⟩:=GB h hz;injection e with e;injection e with e1 e2;subst e1 e2;have hcz:=(B1.then hb).cell hz0;have HP:=Lib.hid (YT hk0 hz hy);clear hy hz h hc0 hz0;go_wp2_with fail;refine (JC _ _ _ _).mono ?_;rintro e w4 ⟨rfl,hb4⟩;replace p3:=hb4.cell p3;replace hcz:=hb4.cell hcz;have hbb:=hb.then hb4;rcases Bool.eq_false_or_eq_true (inB y 0 9) with e4 | e4
       ·have E4:=Lib.hid e4;rw [e4];clear e4;by_cases hle:z<y
        ·have ht:decide (y≤z)=false:=by simp;omega
         have HD:=Lib.hid hle;go_wp2
         go_roundg (n-(k+1))
         case measure=>omega
         case rel=>exact ⟨k+1,by omega,rfl,by go_num,Lib.hid (by rw [HE.out,HP.out];simp [E4.out,HD.out]),hbb⟩
        ·have ht:decide (y≤z)=true:=by simp;omega
         have HD:Hid (decide (z<y)=false):=by show _=_;simp;omega
         go_wp2;go_ret;exact Ret.bool (by rw [gB,HE.out,HP.out,HD.out];simp) (B1.then hbb)
       ·have E4:=Lib.hid e4;rw [e4];clear e4;go_wp2;go_ret;exact Ret.bool (by rw [gB,HE.out,HP.out];simp [E4.out]) (B1.then hbb)
      ·have HP:=Lib.hid (show rC (II x.list k) (x.list.drop k)=(inB y 0 9 && rC (II x.list (k+1)) (x.list.drop (k+1))) by
        obtain rfl:k=0:=by omega
        exact VT hy)
       clear hy h hc0;go_wp2_with fail;refine (JC _ _ _ _).mono ?_;rintro e w4 ⟨rfl,hb4⟩;have hbb:=hb.then hb4;rcases Bool.eq_false_or_eq_true (inB y 0 9) with e4 | e4
       ·have E4:=Lib.hid e4;rw [e4];clear e4;go_wp2
        go_roundg (n-(k+1))
        case measure=>omega
        case rel=>exact ⟨k+1,by omega,rfl,by go_num,Lib.hid (by rw [HE.out,HP.out];simp [E4.out]),hbb⟩
       ·have E4:=Lib.hid e4;rw [e4];clear e4;go_wp2;go_ret;exact Ret.bool (by rw [gB,HE.out,HP.out];simp [E4.out]) (B1.then hbb)
     ·obtain rfl:k=n:=by omega
      have HT:=Lib.hid (show rC none x.list=true by rw [HE.out,List.drop_of_length_le (by rw [← L.out];exact Nat.le_refl _)];cases II x.list k<;>rfl);have HW:=Lib.hid (show gB x=((decide (x.kind=2) || decide (x.value=0)) && ((decide (x.kind=3)==decide (0<k)) && (if x.kind=4 then yB x.pairs else decide (m=0)))) by
       rw [gB,E1.out,E2.out,E3.out,HT.out,← L.out,← M.out];simp)
      have B2:=B1.then hb;clear HE hlt;by_cases k2:x.kind=2∨x.value=0
      ·have K2:=Lib.hid (show (decide (x.kind=2) || decide (x.value=0))=true by simpa using k2);have c2:(x.kind != 2 && x.value != 0)=false:=by simp;omega
       by_cases k3:x.kind=3↔0<k
       ·have K3:=Lib.hid (show (decide (x.kind=3)==decide (0<k))=true by simpa using k3);by_cases q2:x.kind=2
        ·have r2:(x.kind != 2)=false:=by simpa using q2
         by_cases q3:x.kind=3
         ·have r3:(x.kind==3)=true:=by simpa using q3
          omega
         ·have r3:(x.kind==3)=false:=by simpa using q3
          obtain rfl:k=0:=by simp [q3] at k3;omega
          by_cases q4:x.kind=4
          ·have r4:(x.kind==4)=true:=by simpa using q4
           omega
          ·have r4:(x.kind==4)=false:=by simpa using q4
           have Q4:=Lib.hid q4;clear k2 k3 q2 q3 q4 c2;by_cases m0:m=0
           ·subst m0;go_wp2;go_ret;exact Ret.bool (by rw [HW.out,K2.out,K3.out,if_neg Q4.out];simp) (B2)
           ·have m1:((m:Int)==0)=false:=by simp;omega
            have m2:decide (m=0)=false:=by simpa using m0
            go_wp2;go_ret;exact Ret.bool (by rw [HW.out,K2.out,K3.out,if_neg Q4.out];simp [m0]) (B2)
        ·have r2:(x.kind != 2)=true:=by simpa using q2
         have rv:(x.value != 0)=false:=by simp;omega
         by_cases q3:x.kind=3
         ·have r3:(x.kind==3)=true:=by simpa using q3
          have hk0:0<k:=by simp [q3] at k3;omega
          by_cases q4:x.kind=4
          ·have r4:(x.kind==4)=true:=by simpa using q4
           omega
          ·have r4:(x.kind==4)=false:=by simpa using q4
           have Q4:=Lib.hid q4;clear k2 k3 q2 q3 q4 c2;by_cases m0:m=0
           ·subst m0;go_wp2;go_ret;exact Ret.bool (by rw [HW.out,K2.out,K3.out,if_neg Q4.out];simp) (B2)
           ·have m1:((m:Int)==0)=false:=by simp;omega
            have m2:decide (m=0)=false:=by simpa using m0
            go_wp2;go_ret;exact Ret.bool (by rw [HW.out,K2.out,K3.out,if_neg Q4.out];simp [m0]) (B2)
         ·have r3:(x.kind==3)=false:=by simpa using q3
          obtain rfl:k=0:=by simp [q3] at k3;omega
          by_cases q4:x.kind=4
          ·have r4:(x.kind==4)=true:=by simpa using q4
           have Q4:=Lib.hid q4;clear k2 k3 q2 q3 q4 c2;go_wp2_with fail;refine (XQ _ x.pairs _ (h'.bw DA B2)).mono ?_;rintro e w5 ⟨rfl,hb5⟩;go_wp2;go_ret;exact Ret.bool (by rw [HW.out,K2.out,K3.out,if_pos Q4.out];simp) (B2.then hb5)
          ·have r4:(x.kind==4)=false:=by simpa using q4
           have Q4:=Lib.hid q4;clear k2 k3 q2 q3 q4 c2;by_cases m0:m=0
           ·subst m0;go_wp2;go_ret;exact Ret.bool (by rw [HW.out,K2.out,K3.out,if_neg Q4.out];simp) (B2)
           ·have m1:((m:Int)==0)=false:=by simp;omega
            have m2:decide (m=0)=false:=by simpa using m0
            go_wp2;go_ret;exact Ret.bool (by rw [HW.out,K2.out,K3.out,if_neg Q4.out];simp [m0]) (B2)
       ·have K3:=Lib.hid (show (decide (x.kind=3)==decide (0<k))=false by simpa using k3);by_cases q2:x.kind=2
        ·have r2:(x.kind != 2)=false:=by simpa using q2
         by_cases q3:x.kind=3
         ·have r3:(x.kind==3)=true:=by simpa using q3
          obtain rfl:k=0:=by simp [q3] at k3;omega
          clear k2 k3 q2 q3 c2;go_wp2;go_ret;exact Ret.bool (by rw [HW.out,K3.out];simp) (B2)
         ·have r3:(x.kind==3)=false:=by simpa using q3
          have hk0:0<k:=by simp [q3] at k3;omega
          clear k2 k3 q2 q3 c2;go_wp2;go_ret;exact Ret.bool (by rw [HW.out,K3.out];simp) (B2)
        ·have r2:(x.kind != 2)=true:=by simpa using q2
         have rv:(x.value != 0)=false:=by simp;omega
         by_cases q3:x.kind=3
         ·have r3:(x.kind==3)=true:=by simpa using q3
          obtain rfl:k=0:=by simp [q3] at k3;omega
          clear k2 k3 q2 q3 c2;go_wp2;go_ret;exact Ret.bool (by rw [HW.out,K3.out];simp) (B2)
         ·have r3:(x.kind==3)=false:=by simpa using q3
          have hk0:0<k:=by simp [q3] at k3;omega
          clear k2 k3 q2 q3 c2;go_wp2;go_ret;exact Ret.bool (by rw [HW.out,K3.out];simp) (B2)
      ·have K2:=Lib.hid (show (decide (x.kind=2) || decide (x.value=0))=false by simpa using k2);have r2:(x.kind != 2)=true:=by simp;omega
       have rv:(x.value != 0)=true:=by simp;omega
       clear k2;go_wp2;go_ret;exact Ret.bool (by rw [HW.out,K2.out];simp) (B2)
   ·have E3:=Lib.hid e3;rw [e3];clear e3;go_wp2;go_ret;exact Ret.bool (by simp [gB,E3.out]) (B1)
  ·have E2:=Lib.hid e2;rw [e2];clear e2;go_wp2;go_ret;exact Ret.bool (by simp [gB,E2.out]) (B1)
 ·have E1:=Lib.hid e1;rw [e1];clear e1;go_wp2;go_ret;exact Ret.bool (by simp [gB,E1.out]) (B1)
end Go.Proofs.YtpihighajaeabaaGreat
namespace Go.Proofs.YtpihighajaeabaaGreat
open Go.RowKit
set_option linter.unusedVariables false
theorem ZT {w:World}:∀ {xs:List Int} {us:List (List Value)} {Fs:List (List Nat)},dG (fun x u f=>RG w x u f∧u.length=1) xs us Fs→us.flatten=xs.map (Value.int .i64)∧Fs.flatten=[]
 | [],[],[],_=>⟨rfl,rfl⟩
 | x::xs,u::us,f::Fs,h=>by
  obtain ⟨h1,h2⟩:=h;have ih:=ZT h2;obtain ⟨⟨rfl,rfl⟩,_⟩:=h1;simp [ih.1,ih.2]
 | [],_::_,_,h=>by cases h
 | [],[],_::_,h=>by cases h
 | _::_,[],_,h=>by cases h
 | _::_,_::_,[],h=>by cases h
theorem ON {w:World}:∀xs:List Int,dG (fun x u f=>RG w x u f∧u.length=1) xs (xs.map fun x=>[Value.int .i64 x]) (xs.map fun _=>[])
 | []=>trivial
 | x::xs=>⟨⟨⟨rfl,rfl⟩,rfl⟩,ON xs⟩
theorem oV {α β:Type}:∀xs:List α,(xs.map fun _=>([]:List β)).flatten=[]
 | []=>rfl
 | _::xs=>by simp
theorem PN:∀xs:List Int,(xs.map fun x=>[Value.int .i64 x]).flatten=xs.map (Value.int .i64)
 | []=>rfl
 | x::xs=>by rw [List.map_cons,List.flatten_cons,PN xs];rfl
theorem cAd {w:World} {xs:List Int} {v:Value} {F:List Nat}:ZA w xs [v] F↔w.ownsRow 0 3 1 v xs.length (xs.map (Value.int .i64))∧F=v.ownBlock.toList:=by
 constructor
 ·rintro ⟨v',us,Fs,e,hown,hall,rfl⟩;injection e with e;subst e;have:=ZT hall;rw [this.1] at hown;exact ⟨hown,by rw [this.2];simp⟩
 ·rintro ⟨h,rfl⟩;exact ⟨v,_,_,rfl,by rw [PN];exact h,ON xs,by rw [oV];simp⟩
theorem QO {w:World} {xs:List Int} {x:Int} {g n c:Nat} {F:List Nat} (h:ZA w (xs++[x]) [.slice (some ⟨g,0,none⟩) n c] F):ZA w xs [.slice (some ⟨g,0,none⟩) xs.length c] F:=by
 rw [cAd] at h ⊢;obtain ⟨h1,h2⟩:=h;refine ⟨?_,h2⟩;have hn:n=xs.length+1:=by
  rcases h1.2 with ⟨h,_⟩ | ⟨g',cap,cur,h,_⟩
  ·cases h
  ·injection h with _ h _;simpa using h
 subst hn;refine ownsRow_pop (last:=[.int .i64 x]) (by simp) ?_
 simpa using h1
theorem aU {l:List Int} (h:0<l.length):∃T a,l=T++[a]:=⟨l.dropLast,l.getLast (fun e=>by rw [e] at h;simp at h),(List.dropLast_concat_getLast _).symm⟩
theorem iAa {l:List Int} (h:2≤l.length):∃T a b,l=T++[a,b]:=by
 obtain ⟨T,b,rfl⟩:=aU (l:=l) (by omega);obtain ⟨T',a,rfl⟩:=aU (l:=T) (by simp at h;omega);exact ⟨T',a,b,by simp⟩
theorem TM {x y:gA} {st:List Int} {n:kA} (h:n.op=0):lE x y st n=st++[kF n.wish x y]:=by unfold lE;rw [if_pos h]
theorem UM {x y:gA} {T:List Int} {a:Int} {n:kA} (h:n.op=3):lE x y (T++[a]) n=T++[wH a]:=by
 unfold lE;rw [if_neg (by omega),if_pos h];simp
theorem RO {x y:gA} {T:List Int} {a b:Int} {n:kA} (h:n.op≠0) (h3:n.op≠3):lE x y (T++[a,b]) n=T++[RD n.op a b]:=by
 unfold lE;rw [if_neg h,if_neg h3];simp [List.getD_eq_getElem?_getD]
theorem VM {e:List kA} {k:Nat} {d:Int} {n:kA} (h:KB (e.drop k) d=some 1) (hn:e[k]? = some n):LC n d=true∧KB (e.drop (k+1)) (d-zC n.op+1)=some 1:=by
 rw [NB hn] at h;unfold KB at h
 split at h
 ·rename_i hk;exact ⟨hk,h⟩
 ·cases h
theorem bU {n:kA} {d:Int} (h:LC n d=true):0≤n.op∧n.op≤4:=by
 unfold LC at h;simp only [Bool.and_eq_true] at h;exact qC.1 h.1
theorem SO {n:kA} {d:Int} (h:LC n d=true):zC n.op≤d:=by
 unfold LC at h;simp only [Bool.and_eq_true,decide_eq_true_iff] at h;exact h.2.1
theorem aL {n:kA} {d:Int} (h:LC n d=true) (h0:n.op=0):gB n.wish=true:=by
 unfold LC at h;simp only [Bool.and_eq_true,decide_eq_true_iff] at h;have:=h.2.2;rw [if_pos h0] at this;exact this
theorem fI {e:List kA} (h:bB e=true):KB e 0=some 1:=by
 unfold bB at h;simp only [Bool.and_eq_true,decide_eq_true_iff] at h;exact h.1
theorem YQ {e:List kA} (h:bB e=true):e.length≤9:=by
 unfold bB at h;simp only [Bool.and_eq_true,decide_eq_true_iff] at h;exact h.2
def oE (e:List kA) (x y:gA) (k:Nat):List Int:=(e.take k).foldl (lE x y) []
theorem XG {e:List kA} {x y:gA} {k:Nat} {n:kA} (hn:e[k]? = some n):oE e x y (k+1)=lE x y (oE e x y k) n:=by
 unfold oE;rw [List.take_add_one,hn,List.foldl_append];rfl
theorem bL {e:List kA} {x y:gA} {k:Nat} (hk:e.length≤k):(oE e x y k).getD 0 0=CC e x y:=by
 unfold oE CC;rw [List.take_of_length_le hk]
def JP (st:List Int):Prop:=∀v∈st,-1≤v∧v≤2
theorem xH {st:List Int} {v:Int} (h:JP st) (hv : -1≤v∧v≤2):JP (st++[v]):=fun u hu=>by
 rcases List.mem_append.1 hu with hu | hu
 ·exact h u hu
 ·simp at hu;rw [hu];exact hv
theorem mK {st l:List Int} (h:JP (st++l)):JP st:=fun u hu=>h u (List.mem_append_left _ hu)
theorem QN (w:eB) (x y:gA) : -1≤kF w x y∧kF w x y≤2:=WT _ _ _
theorem fC {w:eB} (h:gB w=true):0≤w.field∧w.field≤2:=by
 unfold gB at h;simp only [Bool.and_eq_true] at h;exact qC.1 h.1
theorem vF {w:eB} (h:gB w=true):0≤w.kind∧w.kind≤4:=by
 unfold gB at h;simp only [Bool.and_eq_true] at h;exact qC.1 h.2.1
theorem gC {w:eB} (h:gB w=true):0≤w.value∧w.value≤9:=by
 unfold gB at h;simp only [Bool.and_eq_true] at h;exact qC.1 h.2.2.1
theorem NF {w:eB} (h:gB w=true) (h4:w.kind=4):yB w.pairs=true:=by
 unfold gB at h;simp only [Bool.and_eq_true] at h;have:=h.2.2.2.2.2.2;rw [if_pos h4] at this;exact this
theorem wF {l:List lB} (h:yB l=true):rD l=true:=by
 unfold yB at h;simp only [Bool.and_eq_true] at h;exact h.1
theorem YG {l:List lB} (h:yB l=true):l.length≤8:=by
 unfold yB at h;simp only [Bool.and_eq_true,decide_eq_true_iff] at h;exact h.2.1
theorem RN {w:eB} {v:Int} (hw:gB w=true) (hv:0≤v∧v≤9):0≤iD w v∧iD w v≤9:=by
 have:=gC hw;unfold iD;repeat' split
 all_goals omega
end Go.Proofs.YtpihighajaeabaaGreat
namespace Go.Proofs.YtpihighajaeabaaGreat
open Go.RowKit
set_option linter.unusedVariables false
set_option linter.unusedSimpArgs false
def zJ (x:Int):List Int→Nat→Int
 | [],_=>-1
 | y::l,i=>if x=y then (i:Int) else zJ x l (i+1)
theorem cAe {xs:List Int} {k:Nat} {x y:Int} (h:xs[k]? = some y):zJ x (xs.drop k) k=if x=y then (k:Int) else zJ x (xs.drop (k+1)) (k+1):=by rw [NB h,zJ]
theorem gG (x:Int):∀(l:List Int) (i:Nat),decide (0≤zJ x l i)=l.contains x
 | [],i=>by simp [zJ]
 | y::l,i=>by
  rw [zJ,List.contains_cons];by_cases h:x=y
  ·rw [if_pos h];simp [h]
  ·rw [if_neg h,gG x l (i+1)];simp [h]
set_option maxHeartbeats 800000 in
theorem lF (w:World) (xs:List Int) (x:Int) (v:Value) (h:Rd XA w xs [v]):Calls Tryz.prog 95 #[v,.int .i64 x] w (Ret w (.int .i64 (zJ x xs 0))):=by
 obtain ⟨A,n,c,rfl,L0,Lc,Lm⟩:=iA h;unfold maxLen at Lm;have L:=Lib.hid L0;clear L0;go_enter Tryz.func95,Tryz.ntmps95;go_wp2
 go_loopg [8] n (fun g i w'=>∃k:Nat,k≤n∧g=n-k∧i=.int .i64 k∧Hid (zJ x xs 0=zJ x (xs.drop k) k)∧Bw w w')
 case atStart=>exact ⟨0,by omega,rfl,rfl,Lib.hid rfl,Bw.refl _⟩
 case round=>
  obtain ⟨k,hk,rfl,rfl,HE,hb⟩:=hrel;by_cases hlt:k<n
  ·obtain ⟨y,hy⟩:=rA (xs:=xs) (k:=k) (by have:=L.out;omega);obtain ⟨ba,oa,rfl,_,hc0⟩:=GB h hy;have hc:=hb.cell hc0;have HS:=Lib.hid (cAe (x:=x) hy);have i1:(0:Int)≤(k:Int):=by omega
   have i2:(k:Int)<(n:Int):=by omega
   clear hy h hc0;by_cases he:x=y
   ·have e1:(x==y)=true:=by simpa using he
    have HX:=Lib.hid (show zJ x xs 0=k by rw [HE.out,HS.out,if_pos he]);clear he;go_wp2;go_ret;exact Ret.int (HX.out.symm) (hb)
   ·have e1:(x==y)=false:=by simpa using he
    have HX:=Lib.hid (show zJ x xs 0=zJ x (xs.drop (k+1)) (k+1) by rw [HE.out,HS.out,if_neg he]);clear he;go_wp2
    go_roundg (n-(k+1))
    case measure=>omega
    case rel=>exact ⟨k+1,by omega,rfl,by go_num,HX,hb⟩
  ·have HX:=Lib.hid (show zJ x xs 0 = -1 by rw [HE.out,List.drop_of_length_le (by have:=L.out;omega)];rfl);go_wp2;go_ret;exact Ret.int (HX.out.symm) (hb)
set_option maxHeartbeats 400000 in
theorem CD (w:World) (xs:List Int) (x:Int) (v:Value) (h:Rd XA w xs [v]):Calls Tryz.prog 104 #[v,.int .i64 x] w (Ret w (.bool (xs.contains x))):=by
 have HC:=Lib.hid (gG x xs 0);go_enter Tryz.func104,Tryz.ntmps104;go_wp2_with fail;refine (lF _ xs x _ h).mono ?_;rintro e w2 ⟨rfl,hb2⟩;go_wp2;go_ret;exact Ret.bool (HC.out) (hb2)
end Go.Proofs.YtpihighajaeabaaGreat
namespace Go.Proofs.YtpihighajaeabaaGreat
open Go.RowKit
set_option linter.unusedVariables false
set_option linter.unusedSimpArgs false
theorem eAu (a b:Int):max a b=if a≤b then b else a:=by by_cases h:a≤b<;>simp [h]<;>omega
theorem cAf (x:eB) (v:Int) (k0:¬x.kind=0) (k1:¬x.kind=1) (k2:x.kind=2):iD x v=if v-x.value<x.value-v then x.value-v else v-x.value:=by
 rw [iD,if_neg k0,if_neg k1,if_pos k2,eAu];by_cases h:v-x.value≤x.value-v
 ·rw [if_pos h];split<;>omega
 ·rw [if_neg h,if_neg (by omega)]
def iT (w:World) (v:Value) (e:Ending) (w':World):Prop:=e=.returned v∧w'=w
theorem iT.int {w:World} {a b:Int} (h:b=a):iT w (.int .i64 b) (.returned (.int .i64 a)) w:=⟨by rw [h],rfl⟩
set_option maxRecDepth 100000 in
theorem SN (w:World) (a b:Int) (ha : -1≤a∧a≤2) (hb : -1≤b∧b≤2):Calls Tryz.prog 161 #[.int .i64 1,.int .i64 a,.int .i64 b] w (iT w (.int .i64 (RD 1 a b))):=by
 have ea:a = -1∨a=0∨a=1∨a=2:=by omega
 have eb:b = -1∨b=0∨b=1∨b=2:=by omega
 clear ha hb;rcases ea with rfl | rfl | rfl | rfl<;>rcases eb with rfl | rfl | rfl | rfl
 all_goals
  go_enter Tryz.func161,Tryz.ntmps161;go_wp2;go_ret;exact iT.int rfl
set_option maxRecDepth 100000 in
theorem rQ (w:World) (op a b:Int) (hop:op=1∨op=2∨op=4) (ha : -1≤a∧a≤2) (hb : -1≤b∧b≤2):Calls Tryz.prog 161 #[.int .i64 op,.int .i64 a,.int .i64 b] w (iT w (.int .i64 (RD op a b))):=by
 rcases hop with rfl | rfl | rfl
 ·exact SN w a b ha hb
 ·by_cases h:a=0
  ·have e1:(a != 0)=false:=by simpa using h
   have H:=Lib.hid (show RD 2 a b=b by rw [RD,if_neg (by omega),if_pos rfl,if_pos h]);clear h;go_enter Tryz.func161,Tryz.ntmps161;go_wp2;go_ret;exact iT.int H.out
  ·have e1:(a != 0)=true:=by simpa using h
   have H:=Lib.hid (show RD 2 a b=a by rw [RD,if_neg (by omega),if_pos rfl,if_neg h]);clear h;go_enter Tryz.func161,Tryz.ntmps161;go_wp2;go_ret;exact iT.int H.out
 ·by_cases h:a=b
  ·have e1:(a==b)=true:=by simpa using h
   have H:=Lib.hid (show RD 4 a b=a by rw [RD,if_neg (by omega),if_neg (by omega),if_pos h]);clear h;go_enter Tryz.func161,Tryz.ntmps161;go_wp2;go_ret;exact iT.int H.out
  ·have e1:(a==b)=false:=by simpa using h
   have H:=Lib.hid (show RD 4 a b=2 by rw [RD,if_neg (by omega),if_neg (by omega),if_neg h]);clear h;go_enter Tryz.func161,Tryz.ntmps161;go_wp2;go_ret;exact iT.int H.out
theorem Ret.two {w w':World} {a b:Int} {c:Value} (h:a=b) (hb:Bw w w'):Ret w (.tuple #[.int .i64 b,c]) (.returned (.tuple #[.int .i64 a,c])) w':=⟨by rw [h],hb⟩
set_option maxRecDepth 100000 in
set_option maxHeartbeats 1600000 in
theorem wM (w:World) (x:eB) (a u:Value) (v:Int) (h:Rd XA w x.list [a]) (h':Rd RB w x.pairs [u]) (hx:gB x=true) (h4:¬x.kind=4) (hv:0≤v∧v≤9) :
  Calls Tryz.prog 260 #[.agg #[.int .i64 x.kind,.int .i64 x.field,.int .i64 x.value,a,u],.int .i64 v] w (Ret w (.tuple #[.int .i64 (iD x v),.bool true])):=by
 have B0:Bw w (w.alloc (.cells #[.int .i64 x.kind,.int .i64 x.field,.int .i64 x.value,a,u] 109)):=(Bw.refl w).alloc _;have HX:=Lib.hid hx;have HV:=Lib.hid (qC.2 hv);have hval:=gC hx;have hk:=vF hx;clear hx;go_enter Tryz.func260,Tryz.ntmps260;go_wp2_with fail;refine (fG _ x _ _ (h.bw dA B0) (h'.bw DA B0)).mono ?_;rintro e w1 ⟨rfl,hb1⟩;rw [HX.out];have p0:w1.cell? ⟨w.heap.size,0,none⟩=some (.int .i64 x.kind):=hb1.cell (by go_simp);have p1:w1.cell? ⟨w.heap.size,1,none⟩=some (.int .i64 x.field):=hb1.cell (by go_simp);have p2:w1.cell? ⟨w.heap.size,2,none⟩=some (.int .i64 x.value):=hb1.cell (by go_simp);have p3:w1.cell? ⟨w.heap.size,3,none⟩=some (a):=hb1.cell (by go_simp);have p4:w1.cell? ⟨w.heap.size,4,none⟩=some (u):=hb1.cell (by go_simp);have B1:=B0.then hb1;go_wp2_with fail;refine (JC _ _ _ _).mono ?_;rintro e w2 ⟨rfl,hb2⟩;rw [HV.out];replace p0:=hb2.cell p0;replace p2:=hb2.cell p2;replace p3:=hb2.cell p3;replace B1:=B1.then hb2;clear p1 p4;by_cases k0:x.kind=0
 ·have q0:(x.kind==0)=true:=by simpa using k0
  have E:=Lib.hid (show v=iD x v by rw [iD,if_pos k0]);clear k0 h4;go_wp2;refine bodyPost_ret (v:=.tuple #[.int .i64 v,.bool true]) (by simp [results,Tryz.results260,go_sem]) rfl (Ret.two (E.out) (B1))
 have q0:(x.kind==0)=false:=by simpa using k0
 by_cases k1:x.kind=1
 ·have q1:(x.kind==1)=true:=by simpa using k1
  have E:=Lib.hid (show 9-v=iD x v by rw [iD,if_neg k0,if_pos k1]);clear k0 k1 h4;go_wp2;refine bodyPost_ret (v:=.tuple #[.int .i64 (9-v),.bool true]) (by simp [results,Tryz.results260,go_sem]) rfl (Ret.two (E.out) (B1))
 have q1:(x.kind==1)=false:=by simpa using k1
 by_cases k2:x.kind=2
 ·have q2:(x.kind==2)=true:=by simpa using k2
  have K:=cAf x v k0 k1 k2;by_cases hlt:v-x.value<x.value-v
  ·rw [if_pos hlt] at K;have E:=Lib.hid K;clear k0 k1 k2 h4 K;go_wp2;refine bodyPost_ret (v:=.tuple #[.int .i64 (x.value-v),.bool true]) (by simp [results,Tryz.results260,go_sem]) rfl (Ret.two (E.out.symm) (B1))
  ·rw [if_neg hlt] at K;have E:=Lib.hid K;clear k0 k1 k2 h4 K;go_wp2;refine bodyPost_ret (v:=.tuple #[.int .i64 (v-x.value),.bool true]) (by simp [results,Tryz.results260,go_sem]) rfl (Ret.two (E.out.symm) (B1))
 have q2:(x.kind==2)=false:=by simpa using k2
 have k3:x.kind=3:=by omega
 have q3:(x.kind==3)=true:=by simpa using k3
 have E:=Lib.hid (show iD x v=if x.list.contains v then 0 else 1 by rw [iD,if_neg k0,if_neg k1,if_neg k2]);clear k0 k1 k2 k3 h4 hk;go_wp2_with fail;refine (CD _ x.list v _ (h.bw dA B1)).mono ?_;rintro e w3 ⟨rfl,hb3⟩;rcases Bool.eq_false_or_eq_true (x.list.contains v) with e1 | e1
 ·have R:=Lib.hid e1;rw [e1];clear e1;go_wp2;refine bodyPost_ret (v:=.tuple #[.int .i64 0,.bool true]) (by simp [results,Tryz.results260,go_sem]) rfl (Ret.two ((by rw [E.out,R.out];rfl)) ((B1.then hb3)))
 ·have R:=Lib.hid e1;rw [e1];clear e1;go_wp2;refine bodyPost_ret (v:=.tuple #[.int .i64 1,.bool true]) (by simp [results,Tryz.results260,go_sem]) rfl (Ret.two ((by rw [E.out,R.out];rfl)) ((B1.then hb3)))
end Go.Proofs.YtpihighajaeabaaGreat
