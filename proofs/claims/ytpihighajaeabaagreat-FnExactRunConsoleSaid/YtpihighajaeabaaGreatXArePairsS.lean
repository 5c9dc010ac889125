/- Valid pairs in the reference. -/
import Derived.Test.YtpihighajaeabaaGreatXModel
import Derived.Test.YtpihighajaeabaaGreatXWishes
namespace Go.Proofs.YtpihighajaeabaaGreat
open Go.RowKit Go.Proofs.Tryz
set_option linter.all false
set_option maxRecDepth 100000
set_option maxHeartbeats 16000000
theorem TX {xs:List Int} {k:Nat} {y:Int} (h:xs[k]? = some y) (x:Int):(xs.drop k).contains x=(x==y || (xs.drop (k+1)).contains x):=by rw [nC h,List.contains_cons]
theorem eM (w:World) (xs:List Int) (x:Int) (v:Value) (h:Rd aB w xs [v]):Calls prog 100 #[v,.int .i64 x] w (Ret w (.bool (xs.contains x))):=by
 obtain ⟨A,n,c,rfl,L,Lc,Lm⟩:=yA h;go_enter func100,ntmps100;go_wp2
 go_loopw [5] (fun i w'=>∃k:Nat,k<=n/\i=.int .i64 k/\Hid (xs.contains x=(xs.drop k).contains x)/\Bw w w') (fun i _=>n-(intOf i).toNat)
 case atStart=>exact ⟨0,by omega,rfl,pA6 rfl,Bw.refl _⟩
 case round=>
  obtain ⟨k,hk,rfl,HE,hb⟩:=hrel;by_cases hlt:k<n
  ·obtain ⟨y,hy⟩:=tA (xs:=xs) (k:=k) (by have:=L.out;omega);obtain ⟨ba,oa,rfl,_,bb⟩:=KB h hy;have hc:=hb.cell bb;have HS:=pA6 (TX hy x);clear hy h bb;by_cases he:y=x
   ·have e1:(y==x)=true:=by simpa using he
    have HX:=pA6 he;clear he;go_wp2;go_ret;exact Ret.bool (by rw [HE.out,HS.out,HX.out];simp) hb
   ·have e1:(y==x)=false:=by simpa using he
    have HX:=pA6 (show (x==y)=false by simpa using fun e=>he e.symm);clear he;go_wp2
    go_roundw
    case rel=>exact ⟨k+1,by omega,by go_num,pA6 (by rw [HE.out,HS.out,HX.out];simp),hb⟩
    case measure=>simp [intOf];omega
  ·go_wp2;go_ret;exact Ret.bool (by rw [HE.out,List.drop_of_length_le (by rw [<-L.out];omega)];simp) hb
theorem MQ {xs:List EB} {k:Nat} {y:EB} (h:xs[k]? = some y):pE (xs.drop k)=(inB y.fst 0 9 && (inB y.snd 0 9 && pE (xs.drop (k+1)))):=by rw [nC h,pE,List.all_cons,aAc,Bool.and_assoc];rfl
theorem iAn (w:World) (xs:List EB) (v:Value) (h:Rd MC w xs [v]):Calls prog 232 #[v] w (Ret w (.bool (pE xs && decide (xs.length<=8)))):=by
 obtain ⟨A,n,c,rfl,L,Lc,Lm⟩:=yA h;go_enter func232,ntmps232;go_wp2
 go_loopw [3] (fun i w'=>∃k:Nat,k<=n/\i=.int .i64 k/\Hid (pE xs=pE (xs.drop k))/\Bw w w') (fun i _=>n-(intOf i).toNat)
 case atStart=>exact ⟨0,by omega,rfl,pA6 rfl,Bw.refl _⟩
 case round=>
  obtain ⟨k,hk,rfl,HE,hb⟩:=hrel;by_cases hlt:k<n
  ·obtain ⟨y,hy⟩:=tA (xs:=xs) (k:=k) (by have:=L.out;omega);obtain ⟨ba,oa,rfl,_,bj,bk⟩:=FG h hy;have hx0:=hb.cell bj;have bf:=hb.cell bk;have HS:=pA6 (MQ hy);clear hy h;go_wp2_with fail;refine (UH _ _ _ _).mono ?_;rintro e w2 ⟨rfl,bb⟩;replace bf:=bb.cell bf;have bc:=hb.then bb;rcases pA8 (inB y.fst 0 9) with e1 | e1
   ·have E1:=pA6 e1;rw [show inB y.fst 0 9=true from E1.out];clear e1;go_wp2_with fail;refine (UH _ _ _ _).mono ?_;rintro e w3 ⟨rfl,bg⟩;have bd:=bc.then bg;rcases pA8 (inB y.snd 0 9) with e2 | e2
    ·have E2:=pA6 e2;rw [show inB y.snd 0 9=true from E2.out];clear e2;go_wp2
     go_roundw
     case rel=>exact ⟨k+1,by omega,by go_num,pA6 (by rw [HE.out,HS.out,E1.out,E2.out];simp),bd⟩
     case measure=>simp [intOf];omega
    ·have E2:=pA6 e2;rw [show inB y.snd 0 9=false from E2.out];clear e2;go_wp2;go_ret;exact Ret.bool (by rw [HE.out,HS.out,E1.out,E2.out];simp) bd
   ·have E1:=pA6 e1;rw [show inB y.fst 0 9=false from E1.out];clear e1;go_wp2;go_ret;exact Ret.bool (by rw [HE.out,HS.out,E1.out];simp) bc
  ·have HT:=pA6 (show pE xs=true by rw [HE.out,List.drop_of_length_le (by rw [<-L.out];omega)];rfl);by_cases h8:n<=8
   ·go_wp2;go_ret;exact Ret.bool (by rw [HT.out,<-L.out];simp;omega) hb
   ·go_wp2;go_ret;exact Ret.bool (by rw [HT.out,<-L.out];simp;omega) hb
def UJ:List EB->List Int->Nat
 | [],_=>0
 | p::l,S=>(if p.snd∈S then 0 else 1)+UJ l S
theorem hAw:∀(l:List EB) (S:List Int),UJ l S<=l.length
 | [],_=>Nat.le_refl _
 | p::l,S=>by
  have:=hAw l S;simp only [UJ,List.length_cons];split<;>omega
theorem NQ (y:Int):∀(l:List EB) (S:List Int),UJ l (S++[y])<=UJ l S
 | [],_=>Nat.le_refl _
 | p::l,S=>by
  have:=NQ y l S;by_cases h1:p.snd∈S
  ·simp only [UJ,h1,if_pos,List.mem_append,true_or];omega
  ·simp only [UJ,if_neg h1];split<;>omega
theorem pO {p:EB}:∀ {l:List EB} {S:List Int},p∈l->p.snd∉S->UJ l (S++[p.snd])+1<=UJ l S
 | q::l,S,hp,hS=>by
  have hle:=NQ p.snd l S;rcases List.mem_cons.1 hp with rfl | hp
  ·simp only [UJ,if_neg hS];rw [if_pos (by simp)];omega
  ·have ih:=pO (l:=l) hp hS;by_cases h1:q.snd∈S
   ·simp only [UJ,if_pos h1];rw [if_pos (by simp [h1])];omega
   ·simp only [UJ,if_neg h1]
    split<;>omega
structure NP (l:List EB) (a b:Int) (S:List Int) (i:Nat):Prop where
 mem:a∈S
 rng:∀s∈S,0<=s/\s<=9
 sound:∀s∈S,s=a\/iD l a s=true
 done:∀j s,j<i->S[j]? = some s->∀p∈l,p.fst=s->p.snd∈S/\p.snd≠b
 bound:UJ l S+S.length<=l.length+1
theorem NP.start {l:List EB} {a b:Int} (ha:0<=a/\a<=9):NP l a b [a] 0:=
 ⟨by simp,by simpa using ha,by simp,fun j s h=>by omega,by have:=hAw l [a];simp;omega⟩
theorem NP.reach {l:List EB} {a b:Int} {S:List Int} {i:Nat} (h:NP l a b S i) (hl:pE l=true) {s:Int} (hs:s∈S) {p:EB} (hp:p∈l) (e:p.fst=s):iD l a p.snd=true:=by
 have h1:=fAf hl hp;rw [e] at h1;rcases h.sound s hs with rfl | h2
 ·exact h1
 ·exact fN (h.rng s hs) h2 h1
theorem NP.push {l:List EB} {a b:Int} {S:List Int} {i:Nat} (h:NP l a b S i) (hl:pE l=true) {s:Int} (hs:s∈S) {p:EB} (hp:p∈l) (e:p.fst=s) (hn:p.snd∉S) (hi:i<S.length):NP l a b (S++[p.snd]) i:=by
 refine ⟨by simp [h.mem],fun t ht=>?_,fun t ht=>?_,fun j t hj ht q hq eq=>?_,?_⟩
 ·rcases List.mem_append.1 ht with ht | ht
  ·exact h.rng t ht
  ·simp at ht;rw [ht];exact (bI hl hp).2
 ·rcases List.mem_append.1 ht with ht | ht
  ·exact h.sound t ht
  ·simp at ht;rw [ht];exact .inr (h.reach hl hs hp e)
 ·rw [List.getElem?_append_left (by omega)] at ht;have:=h.done j t hj ht q hq eq;exact ⟨by simp [this.1],this.2⟩
 ·have h1:=pO hp hn;have h2:=h.bound;simp;omega
theorem NP.next {l:List EB} {a b:Int} {S:List Int} {i:Nat} (h:NP l a b S i) {s:Int} (hs:S[i]? = some s) (hall:∀j p,j<l.length->l[j]? = some p->p.fst=s->p.snd∈S/\p.snd≠b):NP l a b S (i+1):=
 ⟨h.mem,h.rng,h.sound,fun j t hj ht q hq eq=>by
  by_cases hji:j<i
  ·exact h.done j t hji ht q hq eq
  ·obtain rfl:j=i:=by omega
   rw [hs] at ht;injection ht with ht;subst ht;obtain ⟨m,hm⟩:=List.mem_iff_getElem?.1 hq;exact hall m q (List.getElem?_eq_some_iff.1 hm).1 hm eq,h.bound⟩
theorem NP.no {l:List EB} {a b:Int} {S:List Int} {i:Nat} (h:NP l a b S i) (hi:S.length<=i) (ha:0<=a) (hb:0<=b):iD l a b=false:=
 kAr ha hb h.mem fun s hs p hp e=>by
  obtain ⟨m,hm⟩:=List.mem_iff_getElem?.1 hs;exact h.done m s (by have:=(List.getElem?_eq_some_iff.1 hm).1;omega) hm p hp e
theorem iAo (w:World) (i:Int):WA (w.alloc (.cells #[.int .i64 i] 3)) [i] [.slice (some ⟨w.heap.size,0,none⟩) 1 1] [w.heap.size]:=by
 refine ⟨_,[[.int .i64 i]],[[]],rfl,?_,⟨⟨⟨rfl,rfl⟩,rfl⟩,trivial⟩,by simp [Value.ownBlock]⟩;exact World.ownsRow_lit w #[.int .i64 i] 1 (Nat.zero_le _) (by simp [maxLen]) rfl
theorem xS (w:World) (l:List EB) (a b:Int) (v:Value) (h:Rd MC w l [v]) (hl:pE l=true) (h8:l.length<=8) (ha:0<=a/\a<=9) (hb0:0<=b/\b<=9) :
  Calls prog 226 #[v,.int .i64 a,.int .i64 b] w (Ret w (.bool (iD l a b))):=by
 obtain ⟨i0,hi,cz,db,dc⟩:=info_parts xC;obtain ⟨A,n,c,rfl,L,Lc,Lm⟩:=yA h;have HL:=pA6 hl;have n8:n<=8:=by rw [L.out];exact h8
 have bz:=iAo w a;have A0:Bw w (w.alloc (.cells #[.int .i64 a] 3)):=(Bw.refl w).alloc _;have I0:=pA6 (NP.start (l:=l) (b:=b) ha);have HA:=pA6 ha;have HB:=pA6 hb0;clear hl h8 ha hb0;go_enter func226,ntmps226;go_wp2
 go_loopg [7,8] (2*UJ l [a]+1) (fun g s i w'=>∃(k m:Nat) (S:List Int) (F:List Nat) (A':Option Addr) (c':Nat),k<=m/\Hid (m=S.length)/\g=2*UJ l S+(S.length-k)/\i=.int .i64 k/\s=.slice A' m c'/\m<=9/\WA w' S [.slice A' m c'] F/\sA w.heap.size F/\Hid (NP l a b S k)/\Bw w w')
 ·exact ⟨0,1,[a],[w.heap.size],_,_,by omega,pA6 rfl,rfl,rfl,rfl,by omega,bz,⟨by simp,by simp⟩,I0,A0⟩
 ·clear bz A0 I0;obtain ⟨i,m,S,F,A',c',hk,LM,rfl,rfl,rfl,bg,hv,hF,I,hb⟩:=hrel;by_cases hlt:i<m
  ·obtain ⟨s,hs⟩:=tA (xs:=S) (k:=i) (by have:=LM.out;omega);have HS:=pA6 hs;have M0:=pA6 (show 2*UJ l S+S.length=2*UJ l S+S.length from rfl);obtain ⟨T,hT⟩:=pA7 (2*UJ l S+S.length);have HT:=pA6 (show 2*UJ l S+S.length<=T by omega);obtain ⟨G,hG⟩:=pA7 (2*UJ l S+(S.length-i));have G2:=pA6 (show T<G+i+1/\i<T by
    have h2:=LM.out;omega)
   have HG:=pA6 hG;clear hs hT M0 hG;go_wp2
   go_loopg [7,9] n (fun g s2 i2 w'=>∃(k m:Nat) (S:List Int) (F:List Nat) (A':Option Addr) (c':Nat),k<=n/\g=n-k/\i2=.int .i64 k/\s2=.slice A' m c'/\Hid (m=S.length)/\i<m/\m<=9/\WA w' S [.slice A' m c'] F/\sA w.heap.size F/\Hid (NP l a b S i)/\Hid (S[i]? = some s)/\Hid (2*UJ l S+S.length<=T)/\Hid (∀j p,j<k->l[j]? = some p->p.fst=s->p.snd∈S/\p.snd≠b)/\Bw w w')
   ·exact ⟨0,m,S,F,A',c',by omega,rfl,rfl,rfl,LM,hlt,bg,hv,hF,I,HS,HT,pA6 (fun j p hj=>by omega),hb⟩
   ·clear hv hF I HS HT hb LM bg hk hlt;obtain ⟨k,m,S,F,A',c',hk2,rfl,rfl,rfl,LM,bq,bg,hv,hF,I,HS,HT,HD,hb⟩:=hrel;by_cases hlt2:k<n
    ·obtain ⟨p,hp⟩:=tA (xs:=l) (k:=k) (by have:=L.out;omega);obtain ⟨ba,oa,rfl,_,cn,cp⟩:=FG h hp;have hx0:=hb.cell cn;have cx:=hb.cell cp;obtain ⟨bs,os,rfl,_,hxs⟩:=KB (xA hv) HS.out;have HP:=pA6 hp;have i1:(0:Int)<=(k:Int):=by omega
     have i2:(k:Int)<(n:Int):=by omega
     have j1:(0:Int)<=(i:Int):=by omega
     have j2:(i:Int)<(m:Int):=by omega
     clear hp;by_cases he:p.fst=s
     ·have e1:(p.fst != s)=false:=by simpa using he
      have e2:(p.fst==s)=true:=by simpa using he
      have HE:=pA6 he;clear he;have hD1:=(Bw.refl wr).drew;by_cases hb1:p.snd=b
      ·have f1:(p.snd==b)=true:=by simpa using hb1
       have bn:=pA6 hb1;clear hb1;go_wp2
       go_quiet (fail)
       go_wp2;go_ret;exact Ret.bool (by rw [<-bn.out];exact (I.out.reach HL.out (List.mem_of_getElem? HS.out) (List.mem_of_getElem? HP.out) HE.out).symm) (hb.drewN _)
      ·have f1:(p.snd==b)=false:=by simpa using hb1
       have bn:=pA6 hb1;clear hb1;go_wp2
       go_quiet (fail)
       have bj:=(aA (B:=w.heap.size)).bw ((Bw.refl wr).drewN nq) hb.size hv;have bf:=hb.drewN nq;go_wp2_with fail;refine (eM _ S p.snd _ (xA bj)).mono ?_;rintro e w2 ⟨rfl,bm⟩;have bv:=(aA (B:=w.heap.size)).bw bm bf.size bj;have bp:=bf.then bm;have hx2:w2.cell? ⟨ba,oa+k*2+1,none⟩=some (.int .i64 p.snd):=bm.cell (((Bw.refl wr).drewN nq).cell cx);rcases pA8 (S.contains p.snd) with bc | bc
       ·have bk:=pA6 (show p.snd∈S by simpa using bc);rw [bc];clear bc hv bj hb bf bm;go_wp2
        go_roundg (n-(k+1))
        ·exact ⟨k+1,m,S,F,_,c',by omega,rfl,by go_num,rfl,LM,bq,bg,bv,hF,I,HS,HT,pA6 (fun j q hj hq eq=>by
         by_cases hjk:j<k
         ·exact HD.out j q hjk hq eq
         ·obtain rfl:j=k:=by omega
          rw [HP.out] at hq;injection hq with hq;subst hq;exact ⟨bk.out,bn.out⟩),bp⟩
        ·omega
       ·have bk:=pA6 (show p.snd∉S by simpa using bc);rw [bc];have bb:=I.out.bound;have bd:S.length+1<=9:=by
         have h1:=pO (List.mem_of_getElem? HP.out) bk.out;have h2:=L.out;omega
        have HM:=pA6 bd;have ct:m+1<=9:=by rw [LM.out];exact bd
        have bx:=pA6 (show m+1=(S++[p.snd]).length by rw [List.length_append,<-LM.out];rfl);have I':=pA6 (I.out.push HL.out (List.mem_of_getElem? HS.out) (List.mem_of_getElem? HP.out) HE.out bk.out (by rw [<-LM.out];exact bq));have cd:=pA6 (show (S++[p.snd])[i]? = some s by rw [List.getElem?_append_left (by rw [<-LM.out];exact bq)];exact HS.out);have cf:=pA6 (show 2*UJ l (S++[p.snd])+(S++[p.snd]).length<=T by
         have h1:=pO (List.mem_of_getElem? HP.out) bk.out;have h2:=HT.out;simp at h2 ⊢;omega)
        have cc:=pA6 (show ∀j q,j<k+1->l[j]? = some q->q.fst=s->q.snd∈S++[p.snd]/\q.snd≠b from fun j q hj hq eq=>by
         by_cases hjk:j<k
         ·have:=HD.out j q hjk hq eq;exact ⟨by simp [this.1],this.2⟩
         ·obtain rfl:j=k:=by omega
          rw [HP.out] at hq;injection hq with hq;subst hq;exact ⟨by simp,bn.out⟩)
        have A1:Bw w2 (w2.alloc (.cells #[.int .i64 p.snd] 3)):=(Bw.refl w2).alloc _;have cv:=(aA (B:=w.heap.size)).bw A1 bp.size bv;have cm:=bp.then A1;have cj:=(aA (B:=0)).lt bv;have cq:∀j t,[Value.int .i64 p.snd][j]? = some t->(w2.alloc (.cells #[.int .i64 p.snd] 3)).cell? ((⟨w2.heap.size,0,none⟩:Addr).add j)=some t:=World.news_of_block (cs:=#[.int .i64 p.snd]) (t:=3) (fr:=(0,0)) (heap_alloc_new _ _);have cb:∀v' w' F',WA w' (S++[p.snd]) [v'] F'->∃A' c',v'=.slice A' (m+1) c':=fun v' w' F' bt=>by
         obtain ⟨A',c',e,_⟩:=XA (xA bt);exact ⟨A',c',by rw [bx.out];exact e⟩
        clear bc hv bj hb bf bm bb bd I HS HT HD LM;go_wp2_with (at_builtin;refine iC _ rfl (.tmp 49) (.tmp 55) 26 rfl w 3 i0 _ 1 8 underlying26 hi cz db dc rfl (by omega) YA _ S F rfl cv hF ⟨w2.heap.size,0,none⟩ 1 rfl p.snd [.int .i64 p.snd] [] cq ⟨rfl,rfl⟩ rfl w2.heap.size cj sA.nil bp.size (by have:=HM.out;omega) (by have:=HM.out;omega) cm ?_;intro v' w' F' bt cg ck hO' hF2);obtain ⟨A2,c2,rfl⟩:=cb _ _ _ bt
        go_roundg (n-(k+1))
        ·exact ⟨k+1,m+1,S++[p.snd],F',A2,c2,by omega,rfl,by go_num,rfl,bx,by omega,ct,bt,cg,I',cd,cf,cc,ck⟩
        ·omega
     ·have e1:(p.fst != s)=true:=by simpa using he
      have e2:(p.fst==s)=false:=by simpa using he
      have HE:=pA6 he;clear he;go_wp2
      go_quiet (fail)
      have bj:=(aA (B:=w.heap.size)).bw ((Bw.refl wr).drewN nq) hb.size hv;have bf:=hb.drewN nq;go_wp2
      go_roundg (n-(k+1))
      ·exact ⟨k+1,m,S,F,_,c',by omega,rfl,by go_num,rfl,LM,bq,bg,bj,hF,I,HS,HT,pA6 (fun j q hj hq eq=>by
       by_cases hjk:j<k
       ·exact HD.out j q hjk hq eq
       ·obtain rfl:j=k:=by omega
        rw [HP.out] at hq;injection hq with hq;subst hq;exact absurd eq HE.out),bf⟩
      ·omega
    ·obtain rfl:k=n:=by omega
     have I':=pA6 (I.out.next HS.out (fun j p hj=>HD.out j p (by rw [L.out];exact hj)));have G3:=pA6 (show 2*UJ l S+(S.length-(i+1))<G by
      have h1:=HT.out;have h2:=G2.out;have h3:=LM.out;omega)
     clear HD HT;go_wp2
     go_roundg (2*UJ l S+(S.length-(i+1)))
     ·exact ⟨i+1,m,S,F,A',c',by omega,LM,rfl,by go_num,rfl,bg,hv,hF,I',hb⟩
     ·rw [<-HG.out];exact G3.out
  ·obtain rfl:i=m:=by omega
   have HN:=pA6 (I.out.no (by rw [LM.out];exact Nat.le_refl _) HA.out.1 HB.out.1);clear I;go_wp2;go_ret;exact Ret.bool (by rw [HN.out]) hb
theorem gN (f:Nat->Bool) {k n:Nat} (h:k<n):(List.range' k (n-k)).all f=(f k && (List.range' (k+1) (n-(k+1))).all f):=by
 rw [show n-k=(n-(k+1))+1 by omega,List.range'_succ,List.all_cons]
theorem oV (w:World) (l:List EB) (v:Value) (h:Rd MC w l [v]):Calls prog 175 #[v] w (Ret w (.bool (ZB l))):=by
 go_enter func175,ntmps175;go_wp2_with fail;refine (iAn _ l _ h).mono ?_;rintro e w2 ⟨rfl,bb⟩;have h2:=h.bw RA bb;rcases pA8 (pE l && decide (l.length<=8)) with e1 | e1
 ·have E1:=pA6 e1;rw [e1];have hl:pE l=true:=by simp at e1;exact e1.1
  have h8:l.length<=8:=by simp at e1;exact e1.2
  have HL:=pA6 hl;have H8:=pA6 h8;have HM:=pA6 (show ZB l=(List.range' 0 (10-0)).all (fun v=>!iD l (v:Int) (v:Int)) by
   unfold ZB;rw [hl,List.range_eq_range'];simp [h8])
  clear e1 hl h8;go_wp2
  go_loopg [3] 10 (fun g i w'=>∃k:Nat,k<=10/\g=10-k/\i=.int .i64 k/\Hid (ZB l=(List.range' k (10-k)).all (fun v=>!iD l (v:Int) (v:Int)))/\Bw w w')
  ·exact ⟨0,by omega,rfl,rfl,HM,bb⟩
  ·obtain ⟨k,hk,rfl,rfl,HE,hb⟩:=hrel;by_cases hlt:k<10
   ·have HS:=pA6 (gN (fun v=>!iD l (v:Int) (v:Int)) hlt);have k9:(k:Int)<=9:=by omega
    go_wp2_with fail;refine (xS _ l (k:Int) (k:Int) _ (h.bw RA hb) HL.out H8.out (by omega) (by omega)).mono ?_;rintro e w3 ⟨rfl,bc⟩;rcases pA8 (iD l (k:Int) (k:Int)) with e2 | e2
    ·have E2:=pA6 e2;rw [show iD l (k:Int) (k:Int)=true from E2.out];clear e2;go_wp2;go_ret;exact Ret.bool (by rw [HE.out,HS.out,E2.out];simp) (hb.then bc)
    ·have E2:=pA6 e2;rw [show iD l (k:Int) (k:Int)=false from E2.out];clear e2;go_wp2
     go_roundg (10-(k+1))
     ·exact ⟨k+1,by omega,rfl,by go_num,pA6 (by rw [HE.out,HS.out,E2.out];simp),hb.then bc⟩
     ·omega
   ·obtain rfl:k=10:=by omega
    go_wp2;go_ret;exact Ret.bool (by rw [HE.out];simp) hb
 ·have HM:=pA6 (show ZB l=false by
   unfold ZB;simp at e1;by_cases hl:pE l=true
   ·have:=e1 hl;simp;intro _ h;omega
   ·simp at hl;simp [hl])
  rw [e1];clear e1;go_wp2;go_ret;exact Ret.bool (by rw [HM.out]) (bb)
end Go.Proofs.YtpihighajaeabaaGreat
