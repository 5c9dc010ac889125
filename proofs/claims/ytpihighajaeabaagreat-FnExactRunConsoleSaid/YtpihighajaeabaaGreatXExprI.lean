/- Valid expressions in the program. -/
import Derived.Test.YtpihighajaeabaaGreatXWishS
import Derived.Test.YtpihighajaeabaaGreatXIntss
import Derived.Test.YtpihighajaeabaaGreatXWishI
namespace Go.Proofs.YtpihighajaeabaaGreat
open Go.RowKit Go.Proofs.Tryz
set_option linter.all false
set_option maxRecDepth 100000
set_option maxHeartbeats 16000000
theorem fAo (x:AB):decide (x=KA)=(decide (x.kind=0) && (decide (x.field=0) && (decide (x.value=0) && (decide (x.list.length=0) && decide (x.pairs.length=0))))):=by
 rw [Bool.eq_iff_iff];simp [AB.eq_iff,KA]
theorem xV (w:World) (x:AB) (v u:Value) (h:Rd aB w x.list [v]) (h':Rd MC w x.pairs [u]) :
  Calls prog 112 #[.agg #[.int .i64 x.kind,.int .i64 x.field,.int .i64 x.value,v,u]] w (Ret w (.bool (decide (x=KA)))):=by
 obtain ⟨A,n,c,rfl,L,Lc,Lm⟩:=yA h;obtain ⟨B,m,c',rfl,M,Mc,Mm⟩:=yA h';have HD:=pA6 (fAo x);rw [<-L.out,<-M.out] at HD;have B0:Bw w (w.alloc (.cells #[.int .i64 x.kind,.int .i64 x.field,.int .i64 x.value,.slice A n c,.slice B m c'] 109)):=(Bw.refl w).alloc _;by_cases e1:x.kind=0
 ·by_cases e2:x.field=0
  ·by_cases e3:x.value=0
   ·have a1:(x.kind==0)=true:=by simpa using e1
    have a2:(x.field==0)=true:=by simpa using e2
    have a3:(x.value==0)=true:=by simpa using e3
    by_cases e4:n=0
    ·by_cases e5:m=0
     ·have E:=pA6 (show decide (x=KA)=true by rw [HD.out];simp [e1,e2,e3,e4,e5]);subst e4 e5;clear e1 e2 e3 HD;go_enter func112,ntmps112;go_wp2;go_ret;exact Ret.bool (E.out.symm) (B0)
     ·have E:=pA6 (show decide (x=KA)=false by rw [HD.out];simp [e5]);have a5:((m:Int)==0)=false:=by simp;omega
      subst e4;clear e1 e2 e3 HD;go_enter func112,ntmps112;go_wp2;go_ret;exact Ret.bool (E.out.symm) (B0)
    ·have E:=pA6 (show decide (x=KA)=false by rw [HD.out];simp [e4]);have a4:((n:Int)==0)=false:=by simp;omega
     clear e1 e2 e3 HD;go_enter func112,ntmps112;go_wp2;go_ret;exact Ret.bool (E.out.symm) (B0)
   ·have E:=pA6 (show decide (x=KA)=false by rw [HD.out];simp [e3]);have a1:(x.kind==0)=true:=by simpa using e1
    have a2:(x.field==0)=true:=by simpa using e2
    have a3:(x.value==0)=false:=by simpa using e3
    clear e1 e2 e3 HD;go_enter func112,ntmps112;go_wp2;go_ret;exact Ret.bool (E.out.symm) (B0)
  ·have E:=pA6 (show decide (x=KA)=false by rw [HD.out];simp [e2]);have a1:(x.kind==0)=true:=by simpa using e1
   have a2:(x.field==0)=false:=by simpa using e2
   clear e1 e2 HD;go_enter func112,ntmps112;go_wp2;go_ret;exact Ret.bool (E.out.symm) (B0)
 ·have E:=pA6 (show decide (x=KA)=false by rw [HD.out];simp [e1]);have a1:(x.kind==0)=false:=by simpa using e1
  clear e1 HD;go_enter func112,ntmps112;go_wp2;go_ret;exact Ret.bool (E.out.symm) (B0)
theorem iAw {e:List mA} {k:Nat} {d:Int} {n:mA} (hn:e[k]? = some n) (h:vD n d=false):qC (e.drop k) d=none:=by
 rw [nC hn,qC,h];rfl
theorem fAp {e:List mA} {k:Nat} {d:Int} {n:mA} (hn:e[k]? = some n) (h:vD n d=true):qC (e.drop k) d=qC (e.drop (k+1)) (d-aD n.op+1):=by
 rw [nC hn,qC,if_pos h]
def yK (e:List mA) (k:Nat) (d:Int):Bool:=decide (qC (e.drop k) d=some 1) && decide (e.length<=9)
theorem yV {e:List mA} {k:Nat} {d:Int} {n:mA} (hn:e[k]? = some n) (h:vD n d=false):yK e k d=false:=by rw [yK,iAw hn h];rfl
theorem OT {e:List mA} {k:Nat} {d:Int} {n:mA} (hn:e[k]? = some n) (h:vD n d=true):yK e k d=yK e (k+1) (d-aD n.op+1):=by rw [yK,fAp hn h];rfl
theorem CV {e:List mA} {k:Nat} {d:Int} (hk:e.length=k):yK e k d=(decide (d=1) && decide (k<=9)):=by
 rw [yK,List.drop_of_length_le (by omega),qC,hk];simp
theorem cA9 {n:mA} {d:Int} (h0:n.op=0) (hd:0<=d):vD n d=DB n.wish:=by
 unfold vD;rw [h0];simp [inB,aD,hd]
theorem cAa {n:mA} {d:Int} (h0:n.op=3):vD n d=(decide (1<=d) && decide (n.wish=KA)):=by
 unfold vD;rw [h0];simp [inB,aD]
theorem fAq {n:mA} {d:Int} (h0:n.op=1\/n.op=2\/n.op=4):vD n d=(decide (2<=d) && decide (n.wish=KA)):=by
 unfold vD;rcases h0 with h0 | h0 | h0<;>rw [h0]<;>simp [inB,aD]
theorem cAb {n:mA} {d:Int} (h0:¬n.op=0) (h1:¬n.op=1) (h2:¬n.op=2) (h3:¬n.op=3) (h4:¬n.op=4):vD n d=false:=by
 unfold vD;have:inB n.op 0 4=false:=by simp [inB];omega
 rw [this];rfl
theorem aH (w:World) (e:List mA) (v:Value) (h:Rd OA w e [v]):Calls prog 31 #[v] w (Ret w (.bool (pB e))):=by
 obtain ⟨A,n,c,rfl,L,Lc,Lm⟩:=yA h;go_enter func31,ntmps31;go_wp2
 go_loopg [3,4] n (fun g d i w'=>∃(k:Nat) (m:Int),k<=n/\g=n-k/\d=.int .i64 m/\i=.int .i64 k/\0<=m/\m<=k/\Hid (pB e=yK e k m)/\Bw w w')
 ·exact ⟨0,0,by omega,rfl,rfl,rfl,by omega,by omega,pA6 rfl,Bw.refl _⟩
 ·obtain ⟨k,m,hk,rfl,rfl,rfl,m0,mk,HE,hb⟩:=hrel;by_cases hlt:k<n
  ·obtain ⟨x,hx⟩:=tA (xs:=e) (k:=k) (by have:=L.out;omega);obtain ⟨ba,oa,Al,cl,Ap,cp,rfl,_,c0,c1,c2,c3,c4,c5,hl,hp⟩:=mE h hx;have i1:(0:Int)<=(k:Int):=by omega
   have i2:(k:Int)<(n:Int):=by omega
   have p0:=hb.cell c0;have p1:=hb.cell c1;have p2:=hb.cell c2;have p3:=hb.cell c3;have p4:=hb.cell c4;have p5:=hb.cell c5;have bj:=Rd.bw dA hl hb;have bk:=Rd.bw RA hp hb;have HH:=pA6 h;have bb:=pA6 (show vD x m=true->pB e=yK e (k+1) (m-aD x.op+1) from fun hg=>by rw [HE.out,OT hx hg]);have bc:=pA6 (show vD x m=false->pB e=false from fun hg=>by rw [HE.out,yV hx hg]);clear c0 c1 c2 c3 c4 c5 hx h hl hp HE;by_cases o0:x.op=0
   ·have q0:(x.op==0)=true:=by simpa using o0
    have ho:=cA9 (n:=x) o0 m0;rw [ho,show aD x.op=0 by rw [o0];rfl] at bb;rw [ho] at bc;clear ho o0;go_wp2_with fail;refine (tV _ x.wish _ _ bj bk).mono ?_;rintro e w2 ⟨rfl,bd⟩;have bf:=hb.then bd;rcases pA8 (DB x.wish) with e1 | e1
    ·have G:=pA6 (bb.out e1);rw [e1];rw [show m-0+1=m+1 by omega] at G;clear e1 bb bc;go_wp2
     go_roundg (n-(k+1))
     ·exact ⟨k+1,m+1,by omega,rfl,rfl,by go_num,by omega,by omega,G,bf⟩
     ·omega
    ·have G:=pA6 (bc.out e1);rw [e1];clear e1 bb bc;go_wp2;go_ret;exact Ret.bool (G.out.symm) (bf)
   have q0:(x.op==0)=false:=by simpa using o0
   by_cases o3:x.op=3
   ·have q3:(x.op==3)=true:=by simpa using o3
    have ho:=cAa (n:=x) (d:=m) o3;rw [ho,show aD x.op=1 by rw [o3];rfl,show m-1+1=m by omega] at bb;rw [ho] at bc;clear ho o0 o3;by_cases hd:m<1
    ·have G:=pA6 (bc.out (by rw [show decide (1<=m)=false by simp;omega];rfl));clear bb bc;go_wp2;go_ret;exact Ret.bool (G.out.symm) (hb)
    ·rw [show decide (1<=m)=true by simp;omega,Bool.true_and] at bb bc;go_wp2_with fail;refine (xV _ x.wish _ _ bj bk).mono ?_;rintro e w2 ⟨rfl,bd⟩;have bf:=hb.then bd;rcases pA8 (decide (x.wish=KA)) with e1 | e1
     ·have G:=pA6 (bb.out e1);rw [e1];clear e1 bb bc;go_wp2
      go_roundg (n-(k+1))
      ·exact ⟨k+1,m,by omega,rfl,rfl,by go_num,by omega,by omega,G,bf⟩
      ·omega
     ·have G:=pA6 (bc.out e1);rw [e1];clear e1 bb bc;go_wp2;go_ret;exact Ret.bool (G.out.symm) (bf)
   have q3:(x.op==3)=false:=by simpa using o3
   by_cases ot:x.op=1\/x.op=2\/x.op=4
   ·have ho:=fAq (n:=x) (d:=m) ot;rw [ho,show aD x.op=2 by rcases ot with h | h | h<;>rw [h]<;>rfl,show m-2+1=m-1 by omega] at bb;rw [ho] at bc;by_cases hd:m<2
    ·have G:=pA6 (bc.out (by rw [show decide (2<=m)=false by simp;omega];rfl));clear bb bc;rcases ot with o1 | o1 | o1
     ·have q1:(x.op==1)=true:=by simpa using o1
      clear o0 o1 o3;go_wp2;go_ret;exact Ret.bool (G.out.symm) (hb)
     ·have q1:(x.op==1)=false:=by simp;omega
      have q2:(x.op==2)=true:=by simpa using o1
      clear o0 o1 o3;go_wp2;go_ret;exact Ret.bool (G.out.symm) (hb)
     ·have q1:(x.op==1)=false:=by simp;omega
      have q2:(x.op==2)=false:=by simp;omega
      have q4:(x.op==4)=true:=by simpa using o1
      clear o0 o1 o3;go_wp2;go_ret;exact Ret.bool (G.out.symm) (hb)
    ·rw [show decide (2<=m)=true by simp;omega,Bool.true_and] at bb bc;have bg:=xV wr x.wish _ _ bj bk;rcases pA8 (decide (x.wish=KA)) with e1 | e1
     all_goals rw [e1] at bg
     ·have G:=pA6 (bb.out e1);clear e1 bb bc;rcases ot with o1 | o1 | o1
      ·have q1:(x.op==1)=true:=by simpa using o1
       clear o0 o1 o3;go_wp2_with fail;refine (bg).mono ?_;rintro e w2 ⟨rfl,bd⟩;have bf:=hb.then bd;go_wp2
       go_roundg (n-(k+1))
       ·exact ⟨k+1,m-1,by omega,rfl,rfl,by go_num,by omega,by omega,G,bf⟩
       ·omega
      ·have q1:(x.op==1)=false:=by simp;omega
       have q2:(x.op==2)=true:=by simpa using o1
       clear o0 o1 o3;go_wp2_with fail;refine (bg).mono ?_;rintro e w2 ⟨rfl,bd⟩;have bf:=hb.then bd;go_wp2
       go_roundg (n-(k+1))
       ·exact ⟨k+1,m-1,by omega,rfl,rfl,by go_num,by omega,by omega,G,bf⟩
       ·omega
      ·have q1:(x.op==1)=false:=by simp;omega
       have q2:(x.op==2)=false:=by simp;omega
       have q4:(x.op==4)=true:=by simpa using o1
       clear o0 o1 o3;go_wp2_with fail;refine (bg).mono ?_;rintro e w2 ⟨rfl,bd⟩;have bf:=hb.then bd;go_wp2
       go_roundg (n-(k+1))
       ·exact ⟨k+1,m-1,by omega,rfl,rfl,by go_num,by omega,by omega,G,bf⟩
       ·omega
     ·have G:=pA6 (bc.out e1);clear e1 bb bc;rcases ot with o1 | o1 | o1
      ·have q1:(x.op==1)=true:=by simpa using o1
       clear o0 o1 o3;go_wp2_with fail;refine (bg).mono ?_;rintro e w2 ⟨rfl,bd⟩;go_wp2;go_ret;exact Ret.bool (G.out.symm) (hb.then bd)
      ·have q1:(x.op==1)=false:=by simp;omega
       have q2:(x.op==2)=true:=by simpa using o1
       clear o0 o1 o3;go_wp2_with fail;refine (bg).mono ?_;rintro e w2 ⟨rfl,bd⟩;go_wp2;go_ret;exact Ret.bool (G.out.symm) (hb.then bd)
      ·have q1:(x.op==1)=false:=by simp;omega
       have q2:(x.op==2)=false:=by simp;omega
       have q4:(x.op==4)=true:=by simpa using o1
       clear o0 o1 o3;go_wp2_with fail;refine (bg).mono ?_;rintro e w2 ⟨rfl,bd⟩;go_wp2;go_ret;exact Ret.bool (G.out.symm) (hb.then bd)
   have q1:(x.op==1)=false:=by simp;omega
   have q2:(x.op==2)=false:=by simp;omega
   have q4:(x.op==4)=false:=by simp;omega
   have G:=pA6 (bc.out (cAb o0 (by omega) (by omega) o3 (by omega)));clear bb bc o0 o3 ot;go_wp2;go_ret;exact Ret.bool (G.out.symm) (hb)
  ·obtain rfl:k=n:=by omega
   have HF:=pA6 (show pB e=(decide (m=1) && decide (k<=9)) by rw [HE.out,CV L.out.symm]);clear HE hlt;by_cases hm:m=1
   ·have q1:(m==1)=true:=by simpa using hm
    by_cases h9:(k:Int)<=9
    ·have G:=pA6 (show pB e=true by rw [HF.out];simp [hm];omega);clear hm HF;go_wp2;go_ret;exact Ret.bool (G.out.symm) (hb)
    ·have G:=pA6 (show pB e=false by rw [HF.out];simp;omega);clear hm HF;go_wp2;go_ret;exact Ret.bool (G.out.symm) (hb)
   ·have q1:(m==1)=false:=by simpa using hm
    have G:=pA6 (show pB e=false by rw [HF.out];simp [hm]);clear hm HF;go_wp2;go_ret;exact Ret.bool (G.out.symm) (hb)
theorem zK (w:World) (op:Int):Calls prog 184 #[.int .i64 op] w (Ret w (.int .i64 (aD op))):=by
 by_cases h0:op=0
 ·have q0:(op==0)=true:=by simpa using h0
  have E:=pA6 (show aD op=0 by rw [aD,if_pos h0]);clear h0;go_enter func184,ntmps184;go_wp2;go_ret;exact Ret.int (E.out.symm) (Bw.refl _)
 have q0:(op==0)=false:=by simpa using h0
 by_cases h3:op=3
 ·have q3:(op==3)=true:=by simpa using h3
  have E:=pA6 (show aD op=1 by rw [aD,if_neg h0,if_pos h3]);clear h0 h3;go_enter func184,ntmps184;go_wp2;go_ret;exact Ret.int (E.out.symm) (Bw.refl _)
 ·have q3:(op==3)=false:=by simpa using h3
  have E:=pA6 (show aD op=2 by rw [aD,if_neg h0,if_neg h3]);clear h0 h3;go_enter func184,ntmps184;go_wp2;go_ret;exact Ret.int (E.out.symm) (Bw.refl _)
theorem DV (op:Int):0<=aD op/\aD op<=2:=by
 unfold aD
 repeat' split
 all_goals omega
theorem CI (w:World) (e:List mA) (v:Value) (h:Rd OA w e [v]):Calls prog 133 #[v] w (Ret w (.bool (pB e))):=by
 obtain ⟨A,n,c,rfl,L,Lc,Lm⟩:=yA h;go_enter func133,ntmps133;go_wp2
 go_loopg [3,8] n (fun g d i w'=>∃(k:Nat) (m:Int),k<=n/\g=n-k/\d=.int .i64 m/\i=.int .i64 k/\0<=m/\m<=k/\Hid (pB e=yK e k m)/\Bw w w')
 ·exact ⟨0,0,by omega,rfl,rfl,rfl,by omega,by omega,pA6 rfl,Bw.refl _⟩
 ·obtain ⟨k,m,hk,rfl,rfl,rfl,m0,mk,HE,hb⟩:=hrel;by_cases hlt:k<n
  ·obtain ⟨x,hx⟩:=tA (xs:=e) (k:=k) (by have:=L.out;omega);obtain ⟨ba,oa,Al,cl,Ap,cp,rfl,_,c0,c1,c2,c3,c4,c5,hl,hp⟩:=mE h hx;have i1:(0:Int)<=(k:Int):=by omega
   have i2:(k:Int)<(n:Int):=by omega
   replace c0:=hb.cell c0;replace c1:=hb.cell c1;replace c2:=hb.cell c2;replace c3:=hb.cell c3;replace c4:=hb.cell c4;replace c5:=hb.cell c5;have D1:Bw wr (wr.alloc (.cells #[.int .i64 x.op,.int .i64 x.wish.kind,.int .i64 x.wish.field,.int .i64 x.wish.value,.slice Al x.wish.list.length cl,.slice Ap x.wish.pairs.length cp] 111)):=(Bw.refl wr).alloc _;have HH:=pA6 h;have hbx:=World.block_lt_of_cell? _ _ c0;have bq:=DV x.op;obtain ⟨O,hO⟩:=pA7 (aD x.op);have bp:∀W,Calls prog 184 #[.int .i64 x.op] W (Ret W (.int .i64 O)):=fun W=>by rw [hO];exact zK W x.op
   have bb:=pA6 (show vD x m=true->pB e=yK e (k+1) (m-O+1) from fun hg=>by rw [HE.out,OT hx hg,hO]);have bc:=pA6 (show vD x m=false->pB e=false from fun hg=>by rw [HE.out,yV hx hg]);have HN:=pA6 (show vD x m=(inB x.op 0 4 && (decide (O<=m) && if x.op=0 then DB x.wish else decide (x.wish=KA))) by rw [hO];rfl);rw [<-hO] at bq;clear hx h HE hO;go_wp2_with fail;refine (rD _ _ _ _).mono ?_;rintro e w2 ⟨rfl,bm⟩;obtain ⟨p0,p1,p2,p3,p4,p5⟩:C6 w2 wr.heap.size (.int .i64 x.op) (.int .i64 x.wish.kind) (.int .i64 x.wish.field) (.int .i64 x.wish.value) (.slice Al x.wish.list.length cl) (.slice Ap x.wish.pairs.length cp):=bm.c6 (by unfold C6;go_simp);have D2:=D1.then bm;have B2:=hb.then D2;have bj:=Rd.bw dA hl B2;have bk:=Rd.bw RA hp B2;clear c0 c1 c2 c3 c4 c5 D1 bm hl hp;rcases pA8 (inB x.op 0 4) with e1 | e1
   ·have E1:=pA6 e1;rw [e1];clear e1;go_wp2_with fail;refine (bp _).mono ?_;rintro e w3 ⟨rfl,bf⟩;replace p0:=bf.cell p0;replace p1:=bf.cell p1;replace p2:=bf.cell p2;replace p3:=bf.cell p3;replace p4:=bf.cell p4;replace p5:=bf.cell p5;have B3:=B2.then bf;replace bj:=Rd.bw dA bj bf;replace bk:=Rd.bw RA bk bf;by_cases hd:m<O
    ·have G:=pA6 (bc.out (by rw [HN.out,show decide (O<=m)=false by simp;omega];simp));clear bb bc HN;go_wp2;go_ret;exact Ret.bool (G.out.symm) (B3)
    ·by_cases o0:x.op=0
     ·have q0:(x.op==0)=true:=by simpa using o0
      have q1:(x.op != 0)=false:=by simpa using o0
      have bd:=pA6 (show vD x m=DB x.wish by rw [HN.out,E1.out,if_pos o0,show decide (O<=m)=true by simp;omega];rfl);clear o0 HN;go_wp2_with fail;refine (FL _ x.wish _ _ bj bk).mono ?_;rintro e w4 ⟨rfl,bg⟩;replace p0:=bg.cell p0;have B4:=B3.then bg;rcases pA8 (DB x.wish) with e2 | e2
      ·have G:=pA6 (bb.out (by rw [bd.out,e2]));rw [e2];clear e2 bb bc bd;go_wp2_with fail;refine (bp _).mono ?_;rintro e w5 ⟨rfl,bn⟩;go_wp2
       go_roundg (n-(k+1))
       ·exact ⟨k+1,m-O+1,by omega,rfl,rfl,by go_num,by omega,by omega,G,B4.then bn⟩
       ·omega
      ·have G:=pA6 (bc.out (by rw [bd.out,e2]));rw [e2];clear e2 bb bc bd;go_wp2;go_ret;exact Ret.bool (G.out.symm) (B4)
     ·have q0:(x.op==0)=false:=by simpa using o0
      have q1:(x.op != 0)=true:=by simpa using o0
      have bd:=pA6 (show vD x m=decide (x.wish=KA) by rw [HN.out,E1.out,if_neg o0,show decide (O<=m)=true by simp;omega];rfl);clear o0 HN;go_wp2_with fail;refine (MT _ x.wish KA _ (.slice none 0 0) _ (.slice none 0 0) bj CQ bk CQ).mono ?_;rintro e w4 ⟨rfl,bg⟩;replace p0:=bg.cell p0;have B4:=B3.then bg;rcases pA8 (decide (x.wish=KA)) with e2 | e2
      ·have G:=pA6 (bb.out (by rw [bd.out,e2]));rw [e2];clear e2 bb bc bd;go_wp2_with fail;refine (bp _).mono ?_;rintro e w5 ⟨rfl,bn⟩;go_wp2
       go_roundg (n-(k+1))
       ·exact ⟨k+1,m-O+1,by omega,rfl,rfl,by go_num,by omega,by omega,G,B4.then bn⟩
       ·omega
      ·have G:=pA6 (bc.out (by rw [bd.out,e2]));rw [e2];clear e2 bb bc bd;go_wp2;go_ret;exact Ret.bool (G.out.symm) (B4)
   ·have G:=pA6 (bc.out (by rw [HN.out,e1];rfl));rw [e1];clear e1 bb bc HN;go_wp2;go_ret;exact Ret.bool (G.out.symm) (B2)
  ·obtain rfl:k=n:=by omega
   have HF:=pA6 (show pB e=(decide (m=1) && decide (k<=9)) by rw [HE.out,CV L.out.symm]);clear HE hlt;by_cases hm:m=1
   ·have q1:(m==1)=true:=by simpa using hm
    by_cases h9:(k:Int)<=9
    ·have G:=pA6 (show pB e=true by rw [HF.out];simp [hm];omega);clear hm HF;go_wp2;go_ret;exact Ret.bool (G.out.symm) (hb)
    ·have G:=pA6 (show pB e=false by rw [HF.out];simp;omega);clear hm HF;go_wp2;go_ret;exact Ret.bool (G.out.symm) (hb)
   ·have q1:(m==1)=false:=by simpa using hm
    have G:=pA6 (show pB e=false by rw [HF.out];simp [hm]);clear hm HF;go_wp2;go_ret;exact Ret.bool (G.out.symm) (hb)
end Go.Proofs.YtpihighajaeabaaGreat
