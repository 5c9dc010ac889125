/- Copies of standing answers, in both programs. -/
import Derived.Test.YtpihighajaeabaaGreatXSortU
import Derived.Test.YtpihighajaeabaaGreatXOnly
import Derived.Test.YtpihighajaeabaaGreatXDelW
import Derived.Test.YtpihighajaeabaaGreatXCodes
namespace Go.Proofs.YtpihighajaeabaaGreat
open Go.RowKit Go.Proofs.Tryz
set_option linter.all false
set_option maxRecDepth 100000
set_option maxHeartbeats 16000000
theorem gAq {ys:List Int} {a:Int} {k:Nat} (hs:ys.Pairwise (·<=·)) (hk:k<=ys.length) (h1:∀j b,k<=j->ys[j]? = some b->a<b) (h2:∀b,0<k->ys[k-1]? = some b->b<=a):(ys.take k++[a]++ys.drop k).Pairwise (·<=·):=by
 have hA:∀x∈ys.take k,x<=a:=by
  intro x hx;obtain ⟨j,hj⟩:=List.mem_iff_getElem?.1 hx;rw [List.getElem?_take] at hj
  split at hj
  ·rename_i hjk
   have bb:k-1<ys.length:=by omega
   have h3:=h2 _ (by omega) (List.getElem?_eq_getElem bb);obtain ⟨bc,ej⟩:=List.getElem?_eq_some_iff.1 hj;by_cases e:j=k-1
   ·subst e;rw [<-ej];exact h3
   ·have:=(List.pairwise_iff_getElem.1 hs) j (k-1) bc bb (by omega);rw [ej] at this;omega
  ·cases hj
 have hB:∀x∈ys.drop k,a<x:=by
  intro x hx;obtain ⟨j,hj⟩:=List.mem_iff_getElem?.1 hx;rw [List.getElem?_drop] at hj;exact h1 (k+j) x (by omega) hj
 rw [List.pairwise_append,List.pairwise_append];refine ⟨⟨hs.sublist (List.take_sublist _ _),List.pairwise_singleton _ _,fun x hx y hy=>by rw [List.mem_singleton.1 hy];exact hA x hx⟩,hs.sublist (List.drop_sublist _ _),fun x hx y hy=>?_⟩;have h4:=hB y hy;rcases List.mem_append.1 hx with hx | hx
 ·have:=hA x hx;omega
 ·rw [List.mem_singleton.1 hx];omega
theorem mA1 (ys:List Int) (a:Int) (k:Nat):(ys.take k++[a]++ys.drop k).Perm (ys++[a]):=by
 have h1:(ys.take k++[a]++ys.drop k).Perm (ys.take k++(ys.drop k++[a])):=by
  rw [List.append_assoc];exact (List.Perm.refl _).append List.perm_append_comm
 rw [<-List.append_assoc,List.take_append_drop] at h1;exact h1
def RN (l:List Int) (k:Nat) (ys:List Int):Prop:=ys.Perm (l.take k)/\ys.Pairwise (·<=·)
theorem DP {l ys:List Int} {k m:Nat} {a:Int} (h:RN l k ys) (ha:l[k]? = some a) (hm:m<=ys.length) (h1:∀j b,m<=j->ys[j]? = some b->a<b) (h2:∀b,0<m->ys[m-1]? = some b->b<=a):RN l (k+1) (ys.take m++[a]++ys.drop m):=by
 refine ⟨?_,gAq h.2 hm h1 h2⟩;rw [List.take_add_one,ha];exact (mA1 ys a m).trans (h.1.append_right _)
theorem bAa {l ys:List Int} {k:Nat} (h:RN l k ys) (hk:l.length<=k):ys=kG l:=by
 have h1:=h.1;rw [List.take_of_length_le hk] at h1;exact gAo h1 h.2
theorem bAb {l ys:List Int} {k:Nat} (h:RN l k ys) (hk:k<=l.length):ys.length=k:=by rw [h.1.length_eq,List.length_take];omega
theorem UI {w:World} {S:JC} {xs:List Int} {b o n c m:Nat} (h:aB w S xs [.slice (some ⟨b,o,none⟩) n c]) (hm:m<=n):aB w S (xs.take m) [.slice (some ⟨b,o,none⟩) m c]:=by
 have hl:=(ZL h).1;have h2:=bA2 h 0 m (Nat.zero_le _) hm hl;have h3:rSl 1 mAv w S (xs.take m) [.slice (some ⟨b,o,none⟩) m c]:=by simpa using h2
 exact h3
theorem VI {w:World} {S:JC} {xs:List Int} {b o n c m:Nat} (h:aB w S xs [.slice (some ⟨b,o,none⟩) n c]) (hm:m<=n):aB w S (xs.drop m) [.slice (some ⟨b,o+m,none⟩) (n-m) (c-m)]:=by
 have hl:=(ZL h).1;have:=bA2 h m n hm (Nat.le_refl _) hl;rw [Nat.mul_one,List.take_of_length_le (by rw [List.length_drop];omega)] at this;exact this
theorem sQ {w:World} {S:JC} {xs:List Int} {A:Option Addr} {n:Nat} (h1:xs.length=n) (h0:n=0):aB w S xs [.slice A n 0]:=by
 subst h0;obtain rfl:=List.eq_nil_of_length_eq_zero h1;exact ⟨A,0,rfl,Nat.le_refl _,by decide,fun k x hx=>by simp at hx⟩
theorem eAg (w:World) (l:List Int) (v:Value) (h:Rd aB w l [v]) (hn:l.length<=1048576):Calls prog 88 #[v] w (WB w (nE WA w.heap.size (kG l))):=by
 obtain ⟨i0,hi,bj,bk,bm⟩:=info_parts xC;obtain ⟨A,n,c,rfl,L,Lc,Lm⟩:=yA h;rw [<-L.out] at hn;have A0:Bw w (w.alloc (.cells #[] 3)):=(Bw.refl w).alloc _;have fb:=MA (e:=3) (sz:=1) (R:=IF) w;have HH:=pA6 h;clear h;go_enter func88,ntmps88;go_wp2
 go_loopg [3,4] n (fun gh s i w'=>∃(k:Nat) (ys:List Int) (g c2:Nat) (F:List Nat),k<=n/\gh=n-k/\i=.int .i64 k/\s=.slice (some ⟨g,0,none⟩) k c2/\k<=c2/\c2<=maxLen/\Hid (RN l k ys)/\WA w' ys [.slice (some ⟨g,0,none⟩) k c2] F/\sA w.heap.size F/\Bw w w')
 ·exact ⟨0,[],w.heap.size,0,_,by omega,rfl,rfl,rfl,by omega,by decide,pA6 ⟨List.Perm.refl _,List.Pairwise.nil⟩,fb,⟨by simp,by simp⟩,A0⟩
 ·clear fb A0;obtain ⟨k,ys,g,c2,F,hk,rfl,rfl,rfl,hkc,ck,HS,hv,hF,hb⟩:=hrel;have bz:=pA6 (bAb HS.out (by rw [<-L.out];exact hk));unfold maxLen at ck;by_cases hlt:k<n
  ·have h:=HH.out;obtain ⟨a,ha⟩:=tA (xs:=l) (k:=k) (by have:=L.out;omega);obtain ⟨ba,oa,rfl,_,dx⟩:=KB h ha;have dm:=hb.cell dx;have i1:(0:Int)<=(k:Int):=by omega
   have i2:(k:Int)<(n:Int):=by omega
   have HA:=pA6 ha;have HR:=pA6 (xA hv);clear ha h dx;go_wp2
   go_loopg [5] k (fun gh i w'=>∃m:Nat,m<=k/\m=gh/\i=.int .i64 m/\Hid (∀j b,m<=j->ys[j]? = some b->a<b)/\Bw wr w')
   ·exact ⟨k,by omega,rfl,rfl,pA6 (fun j b hj hb=>by have:=(List.getElem?_eq_some_iff.1 hb).1;have:=bz.out;omega),Bw.refl _⟩
   ·obtain ⟨m,hm,rfl,rfl,HG,cb⟩:=hrel;have dv:=hb.then cb;by_cases hm0:m=0
    ·have HX:=pA6 (show ∀b,0<m->ys[m-1]? = some b->b<=a from fun b hb=>by omega);have m0:¬0<m:=by omega
     have m1:decide (0<m)=false:=decide_eq_false m0;clear hm0;go_wp2_with fail;refine IA (by kernel_rfl) ?_
     repeat (first | go_big_quiet_skip | (go_big_quiet_want;go_big_quiet_op;go_big_quiet_on))
     refine JA fun wq hbq=>?_
     try dsimp only at *
     have cv:=dv.then hbq;have cp:=HR.out.bw dA (cb.then hbq);have bv:=(cb.then hbq).cell dm;have cz:=MA (e:=3) (sz:=1) (R:=IF) wq;have BE:Bw wq (wq.alloc (.cells #[] 3)):=(Bw.refl wq).alloc _;have db:=cp.bw dA BE;have fg:(m:Int)<=(k:Int):=by omega
     have fj:(0:Int)<=(m:Int):=by omega
     have fk:(m:Int)<=(c2:Int):=by omega
     have ff:(k:Int)<=(c2:Int):=by omega
     have dc:=pA6 (DP HS.out HA.out (by have:=bz.out;omega) HG.out HX.out);have cq:=pA6 cp;have bb:=pA6 (show (ys.take m).length=m by rw [List.length_take];have:=bz.out;omega);have bf:=pA6 (show (ys.drop m).length=k-m by rw [List.length_drop];have:=bz.out;omega);have bn:=pA6 (show (ys.take m++[a]).length=m+1 by rw [List.length_append,bb.out];rfl);have bt:=pA6 (show (ys.take m++[a]++ys.drop m).length=k+1 by rw [List.length_append,bn.out,bf.out];omega);clear cp;by_cases ck:m=c2;rotate_left
     focus
      have dp:¬c2=m:=fun e=>ck e.symm
      go_wp2_with (first
       | (at_builtin;refine YB _ rfl (.tmp 32) (.tmp 35) 26 rfl wq 3 i0 _ 1 8 underlying26 hi bj bk bm rfl (by omega) YA _ [] [wq.heap.size] rfl cz ⟨by simp,by simp⟩ _ rfl (ys.take m) (UI db (by omega)) (fun y u h=>⟨h,rfl⟩) (by rw [bb.out];simp;omega) (by rw [bb.out];simp;omega) BE ?_;intro v1 w1 F1 bd cc bc;rw [List.nil_append] at bd;obtain ⟨A1,L1,c1,rfl,l1,_⟩:=qA (xA bd);replace l1:=pA6 l1;replace bv:=bc.cell bv;have bp:=(Bw.refl w1).alloc (.cells #[.int .i64 a] 3);have cn:=(aA (B:=wq.heap.size)).bw bp bc.size bd;have cf:=(aA (B:=0)).lt bd;have cg:=bc.then bp;have cj:=cell_one_new w1 (.int .i64 a) 3;have cm:=bc.size)
       | (at_builtin;refine lB _ rfl (.tmp 37) (.tmp 42) 26 rfl wq 3 i0 _ 1 8 underlying26 hi bj bk bm rfl (by omega) YA _ (ys.take m) F1 rfl cn cc ⟨w1.heap.size,0,none⟩ 1 rfl a [.int .i64 a] [] cj ⟨rfl,rfl⟩ rfl w1.heap.size cf sA.nil cm (by have:=bb.out;omega) (by have:=bb.out;omega) cg ?_;intro v2 w2 F2 bs cd bq;obtain ⟨A2,L2,dd,rfl,l2,_⟩:=qA (xA bs);replace l2:=pA6 l2;have bx:=VI (m:=m) (cq.out.bw dA bq) (by omega);rw [Nat.zero_add] at bx)
       | (at_builtin;refine YB _ rfl (.tmp 44) (.tmp 47) 26 rfl wq 3 i0 _ 1 8 underlying26 hi bj bk bm rfl (by omega) YA _ (ys.take m++[a]) F2 rfl bs cd _ rfl (ys.drop m) bx (fun y u h=>⟨h,rfl⟩) (by rw [bn.out,bf.out];omega) (by rw [bn.out,bf.out];omega) bq ?_;intro v3 w3 F3 bg cs ct;obtain ⟨g3,c3,rfl,l3,ds,dq⟩:=aL bg (by rw [bt.out];omega);rw [bt.out] at bg l3 ⊢))
     rotate_right
     focus
      subst ck;go_wp2_with (first
       | (at_builtin;refine YB _ rfl (.tmp 32) (.tmp 35) 26 rfl wq 3 i0 _ 1 8 underlying26 hi bj bk bm rfl (by omega) YA _ [] [wq.heap.size] rfl cz ⟨by simp,by simp⟩ _ rfl (ys.take m) (UI db (by omega)) (fun y u h=>⟨h,rfl⟩) (by rw [bb.out];simp;omega) (by rw [bb.out];simp;omega) BE ?_;intro v1 w1 F1 bd cc bc;rw [List.nil_append] at bd;obtain ⟨A1,L1,c1,rfl,l1,_⟩:=qA (xA bd);replace l1:=pA6 l1;replace bv:=bc.cell bv;have bp:=(Bw.refl w1).alloc (.cells #[.int .i64 a] 3);have cn:=(aA (B:=wq.heap.size)).bw bp bc.size bd;have cf:=(aA (B:=0)).lt bd;have cg:=bc.then bp;have cj:=cell_one_new w1 (.int .i64 a) 3;have cm:=bc.size)
       | (at_builtin;refine lB _ rfl (.tmp 37) (.tmp 42) 26 rfl wq 3 i0 _ 1 8 underlying26 hi bj bk bm rfl (by omega) YA _ (ys.take m) F1 rfl cn cc ⟨w1.heap.size,0,none⟩ 1 rfl a [.int .i64 a] [] cj ⟨rfl,rfl⟩ rfl w1.heap.size cf sA.nil cm (by have:=bb.out;omega) (by have:=bb.out;omega) cg ?_;intro v2 w2 F2 bs cd bq;obtain ⟨A2,L2,dd,rfl,l2,_⟩:=qA (xA bs);replace l2:=pA6 l2;have bx:=VI (m:=m) (cq.out.bw dA bq) (by omega);rw [Nat.zero_add] at bx)
       | (at_builtin;refine YB _ rfl (.tmp 44) (.tmp 47) 26 rfl wq 3 i0 _ 1 8 underlying26 hi bj bk bm rfl (by omega) YA _ (ys.take m++[a]) F2 rfl bs cd _ rfl (ys.drop m) (sQ (S:=lt w2) (n:=0) (by rw [bf.out];omega) rfl) (fun y u h=>⟨h,rfl⟩) (by rw [bn.out,bf.out];omega) (by rw [bn.out,bf.out];omega) bq ?_;intro v3 w3 F3 bg cs ct;obtain ⟨g3,c3,rfl,l3,ds,dq⟩:=aL bg (by rw [bt.out];omega);rw [bt.out] at bg l3 ⊢))
     all_goals
      have df:sA w.heap.size F3:=cs.mono cv.size;have dj:=cv.then ct
      go_roundg (n-(k+1))
      ·exact ⟨k+1,_,g3,c3,F3,by omega,rfl,by go_num,rfl,by omega,by assumption,dc,bg,df,dj⟩
      ·omega
    ·obtain ⟨m',rfl⟩:∃m',m=m'+1:=⟨m-1,by omega⟩;have m0:0<m'+1:=by omega
     have m1:decide (0<m'+1)=true:=decide_eq_true m0;have dz:=HR.out.bw dA cb;obtain ⟨b,dk⟩:=tA (xs:=ys) (k:=m') (by have:=bz.out;omega);obtain ⟨b2,o2,eA,_,dn⟩:=KB dz dk;injection eA with eA;injection eA with e1 e2 _;subst e1 e2;rw [Nat.zero_add] at dn;have cx:=cb.cell dm;have j1:(0:Int)<=(m':Int):=by omega
     have j2:(m':Int)<(k:Int):=by omega
     have s0:=pA dn;have s1:=pA cx;have dt:=pA6 dk;clear hm0 dz dk;by_cases hba:a<b
     ·have fc:=pA6 (show ∀j x,m'<=j->ys[j]? = some x->a<x from fun j x hj hx=>by
       by_cases e:j=m'
       ·subst e;have h3:=dt.out;rw [hx] at h3;injection h3 with h3;omega
       ·exact HG.out j x (by omega) hx)
      go_wp2_with fail;refine IA (by kernel_rfl) ?_
      repeat (first | go_big_quiet_skip | (go_big_quiet_want;go_big_quiet_op;go_big_quiet_on))
      refine JA fun wq hbq=>?_
      try dsimp only at *
      have fd:=cb.then hbq;clear s0 s1;go_wp2
      go_roundg m'
      ·exact ⟨m',by omega,rfl,by go_num,fc,fd⟩
      ·omega
     ·have HX:=pA6 (show ∀x,0<m'+1->ys[m'+1-1]? = some x->x<=a from fun x _ hx=>by
       have h3:=dt.out;rw [show m'+1-1=m' from rfl,h3] at hx;injection hx with hx;omega)
      go_wp2_with fail;refine IA (by kernel_rfl) ?_
      repeat (first | go_big_quiet_skip | (go_big_quiet_want;go_big_quiet_op;go_big_quiet_on))
      refine JA fun wq hbq=>?_
      try dsimp only at *
      clear s0 s1 dn cx j1 j2;have cv:=dv.then hbq;have cp:=HR.out.bw dA (cb.then hbq);have bv:=(cb.then hbq).cell dm;have cz:=MA (e:=3) (sz:=1) (R:=IF) wq;have BE:Bw wq (wq.alloc (.cells #[] 3)):=(Bw.refl wq).alloc _;have db:=cp.bw dA BE;have fg:((m'+1):Int)<=(k:Int):=by omega
      have fj:(0:Int)<=((m'+1):Int):=by omega
      have fk:((m'+1):Int)<=(c2:Int):=by omega
      have ff:(k:Int)<=(c2:Int):=by omega
      have dc:=pA6 (DP HS.out HA.out (by have:=bz.out;omega) HG.out HX.out);have cq:=pA6 cp;have bb:=pA6 (show (ys.take (m'+1)).length=(m'+1) by rw [List.length_take];have:=bz.out;omega);have bf:=pA6 (show (ys.drop (m'+1)).length=k-(m'+1) by rw [List.length_drop];have:=bz.out;omega);have bn:=pA6 (show (ys.take (m'+1)++[a]).length=(m'+1)+1 by rw [List.length_append,bb.out];rfl);have bt:=pA6 (show (ys.take (m'+1)++[a]++ys.drop (m'+1)).length=k+1 by rw [List.length_append,bn.out,bf.out];omega);clear cp;by_cases ck:(m'+1)=c2;rotate_left
      focus
       have dp:¬c2=(m'+1):=fun e=>ck e.symm
       go_wp2_with (first
        | (at_builtin;refine YB _ rfl (.tmp 32) (.tmp 35) 26 rfl wq 3 i0 _ 1 8 underlying26 hi bj bk bm rfl (by omega) YA _ [] [wq.heap.size] rfl cz ⟨by simp,by simp⟩ _ rfl (ys.take (m'+1)) (UI db (by omega)) (fun y u h=>⟨h,rfl⟩) (by rw [bb.out];simp;omega) (by rw [bb.out];simp;omega) BE ?_;intro v1 w1 F1 bd cc bc;rw [List.nil_append] at bd;obtain ⟨A1,L1,c1,rfl,l1,_⟩:=qA (xA bd);replace l1:=pA6 l1;replace bv:=bc.cell bv;have bp:=(Bw.refl w1).alloc (.cells #[.int .i64 a] 3);have cn:=(aA (B:=wq.heap.size)).bw bp bc.size bd;have cf:=(aA (B:=0)).lt bd;have cg:=bc.then bp;have cj:=cell_one_new w1 (.int .i64 a) 3;have cm:=bc.size)
        | (at_builtin;refine lB _ rfl (.tmp 37) (.tmp 42) 26 rfl wq 3 i0 _ 1 8 underlying26 hi bj bk bm rfl (by omega) YA _ (ys.take (m'+1)) F1 rfl cn cc ⟨w1.heap.size,0,none⟩ 1 rfl a [.int .i64 a] [] cj ⟨rfl,rfl⟩ rfl w1.heap.size cf sA.nil cm (by have:=bb.out;omega) (by have:=bb.out;omega) cg ?_;intro v2 w2 F2 bs cd bq;obtain ⟨A2,L2,dd,rfl,l2,_⟩:=qA (xA bs);replace l2:=pA6 l2;have bx:=VI (m:=m'+1) (cq.out.bw dA bq) (by omega);rw [Nat.zero_add] at bx)
        | (at_builtin;refine YB _ rfl (.tmp 44) (.tmp 47) 26 rfl wq 3 i0 _ 1 8 underlying26 hi bj bk bm rfl (by omega) YA _ (ys.take (m'+1)++[a]) F2 rfl bs cd _ rfl (ys.drop (m'+1)) bx (fun y u h=>⟨h,rfl⟩) (by rw [bn.out,bf.out];omega) (by rw [bn.out,bf.out];omega) bq ?_;intro v3 w3 F3 bg cs ct;obtain ⟨g3,c3,rfl,l3,ds,dq⟩:=aL bg (by rw [bt.out];omega);rw [bt.out] at bg l3 ⊢))
      rotate_right
      focus
       (obtain rfl:=ck)
       go_wp2_with (first
        | (at_builtin;refine YB _ rfl (.tmp 32) (.tmp 35) 26 rfl wq 3 i0 _ 1 8 underlying26 hi bj bk bm rfl (by omega) YA _ [] [wq.heap.size] rfl cz ⟨by simp,by simp⟩ _ rfl (ys.take (m'+1)) (UI db (by omega)) (fun y u h=>⟨h,rfl⟩) (by rw [bb.out];simp;omega) (by rw [bb.out];simp;omega) BE ?_;intro v1 w1 F1 bd cc bc;rw [List.nil_append] at bd;obtain ⟨A1,L1,c1,rfl,l1,_⟩:=qA (xA bd);replace l1:=pA6 l1;replace bv:=bc.cell bv;have bp:=(Bw.refl w1).alloc (.cells #[.int .i64 a] 3);have cn:=(aA (B:=wq.heap.size)).bw bp bc.size bd;have cf:=(aA (B:=0)).lt bd;have cg:=bc.then bp;have cj:=cell_one_new w1 (.int .i64 a) 3;have cm:=bc.size)
        | (at_builtin;refine lB _ rfl (.tmp 37) (.tmp 42) 26 rfl wq 3 i0 _ 1 8 underlying26 hi bj bk bm rfl (by omega) YA _ (ys.take (m'+1)) F1 rfl cn cc ⟨w1.heap.size,0,none⟩ 1 rfl a [.int .i64 a] [] cj ⟨rfl,rfl⟩ rfl w1.heap.size cf sA.nil cm (by have:=bb.out;omega) (by have:=bb.out;omega) cg ?_;intro v2 w2 F2 bs cd bq;obtain ⟨A2,L2,dd,rfl,l2,_⟩:=qA (xA bs);replace l2:=pA6 l2;have bx:=VI (m:=m'+1) (cq.out.bw dA bq) (by omega);rw [Nat.zero_add] at bx)
        | (at_builtin;refine YB _ rfl (.tmp 44) (.tmp 47) 26 rfl wq 3 i0 _ 1 8 underlying26 hi bj bk bm rfl (by omega) YA _ (ys.take (m'+1)++[a]) F2 rfl bs cd _ rfl (ys.drop (m'+1)) (sQ (S:=lt w2) (n:=0) (by rw [bf.out];omega) rfl) (fun y u h=>⟨h,rfl⟩) (by rw [bn.out,bf.out];omega) (by rw [bn.out,bf.out];omega) bq ?_;intro v3 w3 F3 bg cs ct;obtain ⟨g3,c3,rfl,l3,ds,dq⟩:=aL bg (by rw [bt.out];omega);rw [bt.out] at bg l3 ⊢))
      all_goals
       have df:sA w.heap.size F3:=cs.mono cv.size;have dj:=cv.then ct
       go_roundg (n-(k+1))
       ·exact ⟨k+1,_,g3,c3,F3,by omega,rfl,by go_num,rfl,by omega,by assumption,dc,bg,df,dj⟩
       ·omega
  ·obtain rfl:k=n:=by omega
   have HE:=pA6 (bAa HS.out (by rw [<-L.out];exact Nat.le_refl _));rw [HE.out] at hv;go_wp2;go_ret;exact ⟨_,rfl,⟨F,hv,hF⟩,hb⟩
theorem IE (w:World) (s:zA) (va vb vc:Value) (ha:Rd LA w s.items [va]) (hb:Rd OA w s.wanted [vb]) (hc:Rd aB w s.best [vc]) (t1:jC s.items<=1048576) (t2:sB s.wanted<=1048576) (t3:s.best.length<=1048576) :
  Calls prog 75 #[.agg #[va,vb,vc,.int .i64 s.tests]] w (jA6 GB w s):=by
 obtain ⟨W,hW⟩:=pA7 (((w.alloc (.cells #[va,vb,vc,.int .i64 s.tests] 28)).alloc (.cells #[.slice none 0 0,.slice none 0 0,.slice none 0 0,.int .i64 0] 28)).drew);have A0:Bw w W:=by rw [hW];exact (((Bw.refl w).alloc _).alloc _).drew
 have k0:W.cell? ⟨w.heap.size,0,none⟩=some va:=by rw [hW];go_simp
 have k1:W.cell? ⟨w.heap.size,1,none⟩=some vb:=by rw [hW];go_simp
 have k2:W.cell? ⟨w.heap.size,2,none⟩=some vc:=by rw [hW];go_simp
 have k3:W.cell? ⟨w.heap.size,3,none⟩=some (.int .i64 s.tests):=by rw [hW];go_simp
 have bR:Box W (w.heap.size+1) [.slice none 0 0,.slice none 0 0,.slice none 0 0,.int .i64 0]:=by
  have:=Box.new (w.alloc (.cells #[va,vb,vc,.int .i64 s.tests] 28)) #[.slice none 0 0,.slice none 0 0,.slice none 0 0,.int .i64 0] 28;rw [show (w.alloc (.cells #[va,vb,vc,.int .i64 s.tests] 28)).heap.size=w.heap.size+1 from by simp] at this;rw [hW];exact this.bw (Bw.refl _).drew
 have z0:W.heap.size=w.heap.size+2:=by rw [hW];simp
 have c1:=TT W s.items va (ha.bw gA A0) t1;have c2:=pA6 (fun W' (B:Bw W W')=>iI W' s.wanted vb (hb.bw jA (A0.then B)) t2);have c3:=pA6 (fun W' (B:Bw W W')=>bQ W' s.best vc (hc.bw dA (A0.then B)) t3);have HW:=pA6 hW;clear hW ha hb hc;go_enter func75,ntmps75;go_wp2
 go_region_held3 (fun w'=>w'.cell? ⟨w.heap.size,0,none⟩=some va/\w'.cell? ⟨w.heap.size,1,none⟩=some vb/\w'.cell? ⟨w.heap.size,2,none⟩=some vc/\w'.cell? ⟨w.heap.size,3,none⟩=some (.int .i64 s.tests)) (first | go_keep | exact ⟨k0,k1,k2,k3⟩ | (rw [HW.out] at k0 k1 k2 k3;exact ⟨k0,k1,k2,k3⟩))
  (first
   | (go_at_call 107;rw [<-HW.out];refine c1.mono ?_;rintro e w1 ⟨v1,rfl,⟨F1,o1,f1⟩,bb⟩;obtain ⟨A1,d1,rfl,_⟩:=XA (pC o1);replace k0:=bb.cell k0;replace k1:=bb.cell k1;replace k2:=bb.cell k2;replace k3:=bb.cell k3)
   | (go_at_call 108;refine (c2.out _ bb).mono ?_;rintro e w2 ⟨v2,rfl,⟨F2,o2,f2⟩,bc⟩;obtain ⟨A2,d2,rfl,_⟩:=XA (bB o2);replace k0:=bc.cell k0;replace k1:=bc.cell k1;replace k2:=bc.cell k2;replace k3:=bc.cell k3;have bf:=bb.then bc)
   | (go_at_call 96;refine (c3.out _ bf).mono ?_;rintro e w3 ⟨v3,rfl,⟨F3,o3,f3⟩,bd⟩;obtain ⟨A3,d3,rfl,_⟩:=XA (xA o3);replace k0:=bd.cell k0;replace k1:=bd.cell k1;replace k2:=bd.cell k2;replace k3:=bd.cell k3;have bj:=bf.then bd;have bg:=bR.bw bj;have r0:=bg.c 0 _ rfl;have r1:=bg.c 1 _ rfl;have r2:=bg.c 2 _ rfl;have r3:=bg.c 3 _ rfl;have rf:=bg.fr))
 have bp:=(rA (B:=0)).lt o1;have bq:=(kA (B:=0)).lt o2;have z1:=bb.size;have z2:=bc.size;have bs:=nA (bc.then bd) rA o1;have bt:=nA bd kA o2;have bk:∀b∈F1,w.heap.size+2<=b:=fun b hb=>by have:=f1.ge b hb;omega
 have bm:∀b∈F2,w.heap.size+2<=b:=fun b hb=>by have:=f2.ge b hb;omega
 have bn:∀b∈F3,w.heap.size+2<=b:=fun b hb=>by have:=f3.ge b hb;omega
 have FF:sA w.heap.size (F1++(F2++F3)):=sA.append (m:=w1.heap.size) (f1.mono (by omega)) bp (sA.append (m:=w2.heap.size) f2 bq f3 (by omega)) (by omega);have B4:=A0.then bj;clear bR bg c1 c2 c3 o1 o2 bj bf bb bc bd;go_wp2;refine bodyPost_ret (v:=.agg #[.slice A1 s.items.length d1,.slice A2 s.wanted.length d2,.slice A3 s.best.length d3,.int .i64 s.tests]) (by simp [results,results75,go_sem,r0,r1,r2,r3]) rfl ⟨_,F1++(F2++F3),rfl,⟨_,_,_,F1,F2,F3,rfl,?_,?_,?_,rfl⟩,FF,?_⟩
 ·refine (rA (B:=0)).step (fun b hb=>?_) bs;rcases hb with hb | hb
  ·have:=bk b hb
   repeat rw [Below.heap_setCell _ _ _ _ (by dsimp only;omega)]
  ·omega
 ·refine (kA (B:=0)).step (fun b hb=>?_) bt;rcases hb with hb | hb
  ·have:=bm b hb
   repeat rw [Below.heap_setCell _ _ _ _ (by dsimp only;omega)]
  ·omega
 ·refine (aA (B:=0)).step (fun b hb=>?_) o3;rcases hb with hb | hb
  ·have:=bn b hb
   repeat rw [Below.heap_setCell _ _ _ _ (by dsimp only;omega)]
  ·omega
 ·repeat (first | with_reducible exact B4 | with_reducible refine Bw.set ?_ ?_ _)
  all_goals (dsimp only;omega)
structure St3 (W X:World) (l:List iA) (v:Value) (F:List Nat) (e:List mA) (u:Value) (G:List Nat) (b:List Int) (t:Value) (H:List Nat):Prop where
 h1:tD X l [v] F
 h2:mC X e [u] G
 h3:WA X b [t] H
 d1:∀b∈F,b∉G
 d2:∀b∈F,b∉H
 d3:∀b∈G,b∉H
 f1:sA W.heap.size F
 f2:sA W.heap.size G
 f3:sA W.heap.size H
 B:Bw W X
theorem St3.start (W:World):St3 W W [] (.slice none 0 0) [] [] (.slice none 0 0) [] [] (.slice none 0 0) []:=⟨XB _,XB _,XB _,by simp,by simp,by simp,sA.nil,sA.nil,sA.nil,Bw.refl W⟩
theorem St3.call1 {W X X':World} {l l' v v' F F' e u G b t H} (p:St3 W X l v F e u G b t H) (hb:Bw X X') (o:tD X' l' [v'] F') (f:sA X.heap.size F'):St3 W X' l' v' F' e u G b t H:=
 ⟨o,nA hb kA p.h2,nA hb aA p.h3,fun c h1 h2=>by have:=f.ge c h1;have:=(kA (B:=0)).lt p.h2 c h2;omega,fun c h1 h2=>by have:=f.ge c h1;have:=(aA (B:=0)).lt p.h3 c h2;omega,p.d3,f.mono p.B.size,p.f2,p.f3,p.B.then hb⟩
theorem St3.call2 {W X X':World} {l v F e e' u u' G G' b t H} (p:St3 W X l v F e u G b t H) (hb:Bw X X') (o:mC X' e' [u'] G') (f:sA X.heap.size G'):St3 W X' l v F e' u' G' b t H:=
 ⟨nA hb rA p.h1,o,nA hb aA p.h3,fun c h1 h2=>by have:=f.ge c h2;have:=(rA (B:=0)).lt p.h1 c h1;omega,p.d2,fun c h1 h2=>by have:=f.ge c h1;have:=(aA (B:=0)).lt p.h3 c h2;omega,p.f1,f.mono p.B.size,p.f3,p.B.then hb⟩
theorem St3.row3 {W X:World} {l v F e u G b t H} (p:St3 W X l v F e u G b t H):St3 W (X.alloc (.cells #[] 3)) l v F e u G [] (.slice (some ⟨X.heap.size,0,none⟩) 0 0) [X.heap.size]:=by
 have A:Bw X (X.alloc (.cells #[] 3)):=(Bw.refl X).alloc _;have hs:=p.B.size;exact ⟨nA A rA p.h1,nA A kA p.h2,MA X,p.d1,fun c h1 h2=>by have:=(rA (B:=0)).lt p.h1 c h1;simp at h2;omega,fun c h1 h2=>by have:=(kA (B:=0)).lt p.h2 c h1;simp at h2;omega,p.f1,p.f2,⟨by simp,by simpa using hs⟩,p.B.then A⟩
theorem St3.ret {w W X:World} {s:zA} {A1 A2 A3:Option Addr} {d1 d2 d3:Nat} {F G H:List Nat} {a0 a1 a2 a3:Value} (p:St3 W X s.items (.slice A1 s.items.length d1) F s.wanted (.slice A2 s.wanted.length d2) G s.best (.slice A3 s.best.length d3) H) (A0:Bw w W) (hz:W.heap.size=w.heap.size+2) :
  jA6 GB w s (.returned (.agg #[.slice A1 s.items.length d1,.slice A2 s.wanted.length d2,.slice A3 s.best.length d3,.int .i64 s.tests])) (nA9 X (w.heap.size+1) a0 a1 a2 a3):=by
 obtain ⟨h1,h2,h3,e1,e2,e3,f1,f2,f3,B⟩:=p;have nF:w.heap.size+1∉F:=fun h=>by have:=f1.ge _ h;omega
 have nG:w.heap.size+1∉G:=fun h=>by have:=f2.ge _ h;omega
 have nH:w.heap.size+1∉H:=fun h=>by have:=f3.ge _ h;omega
 refine ⟨[.slice A1 s.items.length d1,.slice A2 s.wanted.length d2,.slice A3 s.best.length d3,.int .i64 s.tests],F++(G++H),rfl,⟨_,_,_,F,G,H,rfl,KJ rA h1 nF,KJ kA h2 nG,KJ aA h3 nH,rfl⟩,⟨?_,?_⟩,(A0.then B).set4 (by omega)⟩
 ·rw [List.nodup_append,List.nodup_append];refine ⟨f1.nodup,⟨f2.nodup,f3.nodup,fun a ha b hb e=>e3 a ha (e▸hb)⟩,fun a ha b hb e=>?_⟩;rcases List.mem_append.1 hb with hb | hb
  ·exact e1 a ha (e▸hb)
  ·exact e2 a ha (e▸hb)
 ·intro b hb;rcases List.mem_append.1 hb with hb | hb
  ·have:=f1.ge b hb;omega
  ·rcases List.mem_append.1 hb with hb | hb
   ·have:=f2.ge b hb;omega
   ·have:=f3.ge b hb;omega
section
variable {ops:Array Oper} {o:Oper} {a:Act} {K:Act->World->Prop} {Q:Exit->Act->World->Prop} {E:Prop}
theorem St3.app3 {W X:World} {l v F e u G t H} (p:St3 W X l v F e u G [] t H) (s x:Operand) (hgd:o.guard=none) (ho:o.op=.call { callee:=.builtin .append,args:=#[s,x],argTypes:=#[26,26] })
  (hs:a.eval s=t) (sv:Value) (hx:a.eval x=sv) (ys:List Int) (hsrc:Rd aB W ys [sv]) (hn:ys.length<=1048576)
  (h:∀A c w' H',St3 W w' l v F e u G ys (.slice A ys.length c) H'->K (a.put o.dst (.slice A ys.length c)) w'):if Region.wanted o (yielded ops a.tmps)=true then Oper.wp prog o a X K Q else E:=by
 obtain ⟨i0,bb,bc,bd,bf⟩:=info_parts xC;refine QD X hgd s x 26 ho W 3 i0 _ 1 8 underlying26 bb bc bd bf rfl (by omega) YA t [] H hs p.h3 p.f3 sv hx ys (hsrc.bw dA p.B) (fun y u h=>⟨h,rfl⟩) (by simp;omega) (by simp;omega) p.B ?_;intro v' w' F' o1 f1 hb hO hF;rw [List.nil_append] at o1;obtain ⟨A,c,rfl,_⟩:=XA (xA o1);refine h A c w' F' ⟨hO.keeps rA p.h1 p.d2,hO.keeps kA p.h2 p.d3,o1,p.d1,fun b hb hg=>?_,fun b hb hg=>?_,p.f1,p.f2,f1,hb⟩
 ·rcases hF b hg with h | h
  ·exact p.d2 b hb h
  ·have:=(rA (B:=0)).lt p.h1 b hb;omega
 ·rcases hF b hg with h | h
  ·exact p.d3 b hb h
  ·have:=(kA (B:=0)).lt p.h2 b hb;omega
end
theorem rI (w:World) (s:zA) (va vb vc:Value) (ha:Rd LA w s.items [va]) (hb:Rd OA w s.wanted [vb]) (hc:Rd aB w s.best [vc]) (t1:jC s.items<=1048576) (t2:sB s.wanted<=1048576) (t3:s.best.length<=1048576) :
  Calls prog 83 #[.agg #[va,vb,vc,.int .i64 s.tests]] w (jA6 GB w s):=by
 obtain ⟨Z,hZ⟩:=pA7 (((w.alloc (.cells #[va,vb,vc,.int .i64 s.tests] 28)).alloc (.cells #[.slice none 0 0,.slice none 0 0,.slice none 0 0,.int .i64 0] 28)));have A0:Bw w Z.drew:=by rw [hZ];exact (((Bw.refl w).alloc _).alloc _).drew
 have y0:Z.cell? ⟨w.heap.size,0,none⟩=some va:=by rw [hZ];go_simp
 have y1:Z.cell? ⟨w.heap.size,1,none⟩=some vb:=by rw [hZ];go_simp
 have y2:Z.cell? ⟨w.heap.size,2,none⟩=some vc:=by rw [hZ];go_simp
 have y3:Z.cell? ⟨w.heap.size,3,none⟩=some (.int .i64 s.tests):=by rw [hZ];go_simp
 have k0:Z.drew.cell? ⟨w.heap.size,0,none⟩=some va:=by rw [hZ];go_simp
 have k1:Z.drew.cell? ⟨w.heap.size,1,none⟩=some vb:=by rw [hZ];go_simp
 have k2:Z.drew.cell? ⟨w.heap.size,2,none⟩=some vc:=by rw [hZ];go_simp
 have k3:Z.drew.cell? ⟨w.heap.size,3,none⟩=some (.int .i64 s.tests):=by rw [hZ];go_simp
 have bR:Box Z.drew (w.heap.size+1) [.slice none 0 0,.slice none 0 0,.slice none 0 0,.int .i64 0]:=by
  have:=Box.new (w.alloc (.cells #[va,vb,vc,.int .i64 s.tests] 28)) #[.slice none 0 0,.slice none 0 0,.slice none 0 0,.int .i64 0] 28;rw [show (w.alloc (.cells #[va,vb,vc,.int .i64 s.tests] 28)).heap.size=w.heap.size+1 from by simp] at this;rw [hZ];exact this.bw (Bw.refl _).drew
 have z0:Z.drew.heap.size=w.heap.size+2:=by rw [hZ];simp
 have c1:=fun W' (B:Bw Z.drew W')=>dA7 W' s.items va (ha.bw gA (A0.then B)) t1
 have c2:=fun W' (B:Bw Z.drew W')=>gG W' s.wanted vb (hb.bw jA (A0.then B)) t2
 have bc:Rd aB Z.drew s.best [vc]:=hc.bw dA A0;have HW:=pA6 hZ;have bd:=pA6 z0;have p:=St3.start Z.drew;clear hZ ha hb hc z0;go_enter func83,ntmps83;go_wp2;rw [<-HW.out]
 go_region_held3 (fun w'=>w'.cell? ⟨w.heap.size,0,none⟩=some va/\w'.cell? ⟨w.heap.size,1,none⟩=some vb/\w'.cell? ⟨w.heap.size,2,none⟩=some vc/\w'.cell? ⟨w.heap.size,3,none⟩=some (.int .i64 s.tests)) (first | go_keep | exact ⟨k0,k1,k2,k3⟩ | exact ⟨e0,e1,e2,e3⟩ | (have HB:=p.B;exact ⟨HB.cell k0,HB.cell k1,HB.cell k2,HB.cell k3⟩))
  (first
   | (go_at_call 109;first
     | (refine (c1 _ p.B).mono ?_;rintro e' w2 ⟨v2,rfl,⟨F2,o2,f2⟩,bb⟩;obtain ⟨A1,d1,rfl,_⟩:=XA (pC o2);replace p:=p.call1 bb o2 f2;clear o2 f2 bb;(try clear e0 e1 e2 e3 g0 g1 g2 g3 gf);have HB:=p.B;have e0:=HB.cell k0;have e1:=HB.cell k1;have e2:=HB.cell k2;have e3:=HB.cell k3;have bX:=bR.bw HB;have g0:=bX.c 0 _ rfl;have g1:=bX.c 1 _ rfl;have g2:=bX.c 2 _ rfl;have g3:=bX.c 3 _ rfl;have gf:=bX.fr;clear HB bX)
     | (refine (c1 _ p.row3.B).mono ?_;rintro e' w2 ⟨v2,rfl,⟨F2,o2,f2⟩,bb⟩;obtain ⟨A1,d1,rfl,_⟩:=XA (pC o2);replace p:=p.row3.call1 bb o2 f2;clear o2 f2 bb;(try clear e0 e1 e2 e3 g0 g1 g2 g3 gf);have HB:=p.B;have e0:=HB.cell k0;have e1:=HB.cell k1;have e2:=HB.cell k2;have e3:=HB.cell k3;have bX:=bR.bw HB;have g0:=bX.c 0 _ rfl;have g1:=bX.c 1 _ rfl;have g2:=bX.c 2 _ rfl;have g3:=bX.c 3 _ rfl;have gf:=bX.fr;clear HB bX))
   | (go_at_call 110;first
     | (refine (c2 _ p.B).mono ?_;rintro e' w2 ⟨v2,rfl,⟨F2,o2,f2⟩,bb⟩;obtain ⟨A2,d2,rfl,_⟩:=XA (bB o2);replace p:=p.call2 bb o2 f2;clear o2 f2 bb;(try clear e0 e1 e2 e3 g0 g1 g2 g3 gf);have HB:=p.B;have e0:=HB.cell k0;have e1:=HB.cell k1;have e2:=HB.cell k2;have e3:=HB.cell k3;have bX:=bR.bw HB;have g0:=bX.c 0 _ rfl;have g1:=bX.c 1 _ rfl;have g2:=bX.c 2 _ rfl;have g3:=bX.c 3 _ rfl;have gf:=bX.fr;clear HB bX)
     | (refine (c2 _ p.row3.B).mono ?_;rintro e' w2 ⟨v2,rfl,⟨F2,o2,f2⟩,bb⟩;obtain ⟨A2,d2,rfl,_⟩:=XA (bB o2);replace p:=p.row3.call2 bb o2 f2;clear o2 f2 bb;(try clear e0 e1 e2 e3 g0 g1 g2 g3 gf);have HB:=p.B;have e0:=HB.cell k0;have e1:=HB.cell k1;have e2:=HB.cell k2;have e3:=HB.cell k3;have bX:=bR.bw HB;have g0:=bX.c 0 _ rfl;have g1:=bX.c 1 _ rfl;have g2:=bX.c 2 _ rfl;have g3:=bX.c 3 _ rfl;have gf:=bX.fr;clear HB bX))
   | ((first
    | refine St3.app3 p (.tmp 9) (.tmp 11) rfl rfl (by first | rfl | (go_simp;done)) _ (by rfl) s.best bc t3 ?_
    | refine St3.app3 p.row3 (.tmp 9) (.tmp 11) rfl rfl (by first | rfl | (go_simp;done)) _ (by rfl) s.best bc t3 ?_);clear p;intro A3 d3 w2 H2 p;(try clear e0 e1 e2 e3 g0 g1 g2 g3 gf);have HB:=p.B;have e0:=HB.cell k0;have e1:=HB.cell k1;have e2:=HB.cell k2;have e3:=HB.cell k3;have bX:=bR.bw HB;have g0:=bX.c 0 _ rfl;have g1:=bX.c 1 _ rfl;have g2:=bX.c 2 _ rfl;have g3:=bX.c 3 _ rfl;have gf:=bX.fr;clear HB bX))
 all_goals
  go_wp2;refine bodyPost_ret (v:=.agg #[.slice A1 s.items.length d1,.slice A2 s.wanted.length d2,.slice A3 s.best.length d3,.int .i64 s.tests]) (by simp [results,results83,go_sem,g0,g1,g2,g3]) rfl (p.ret A0 bd.out)
end Go.Proofs.YtpihighajaeabaaGreat
