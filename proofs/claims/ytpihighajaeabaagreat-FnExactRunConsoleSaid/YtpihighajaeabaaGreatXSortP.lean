/- The library's stable sort of Ids by how many items they dominate (below twenty: insertion). -/
import Derived.Test.YtpihighajaeabaaGreatXVoteC
import Derived.Test.YtpihighajaeabaaGreatXCodes
namespace Go.Proofs.YtpihighajaeabaaGreat
open Go.RowKit Go.Proofs.Tryz
set_option linter.all false
set_option maxRecDepth 100000
set_option maxHeartbeats 16000000
def yR (l:List iA) (e:List mA) (id:Int):Int:=if MB l e id then ((xD l e id 1).length:Int) else -1
def SE (l:List iA) (e:List mA) (m:Int) (x:iA):Bool:=decide (yR l e x.id<m)
def QI (l:List iA) (e:List mA) (m:Int):List Int:=if kB l e then eG (SE l e m) l else []
theorem gT (l:List iA) (e:List mA) (m:Int):(QI l e m).length<=16:=by
 unfold QI;split
 ·rename_i h;exact Nat.le_trans (KS _ _) (VA (AA h))
 ·simp
theorem lAn (w:World) (l:List iA) (e:List mA) (id:Int) (v u:Value) (h:Rd LA w l [v]) (h':Rd OA w e [u]) :
  Calls prog 122 #[v,u,.int .i64 id] w (Ret w (.int .i64 (yR l e id))):=by
 have k1:=KE w l e _ _ h h';have k2:=fun W (B:Bw w W)=>GD W l id _ (h.bw gA B)
 have k3:=fun W (B:Bw w W)=>GI W l e id _ _ (h.bw gA B) (h'.bw jA B)
 obtain ⟨Y,hY⟩:=pA7 (yR l e id);rw [<-hY];unfold yR MB at hY;by_cases hB:kB l e=true
 ·rw [hB] at k1 hY;obtain ⟨f,hf⟩:=pA7 (rB l id);simp only [<-hf] at k2 hY;by_cases h0:f<0
  ·have HY:=pA6 (show Y = -1 by rw [hY];simp;omega);clear hY hf hB k3;go_enter func122,ntmps122;go_wp2_with fail;refine k1.mono ?_;rintro e w1 ⟨rfl,bb⟩;have hc:=k2 w1 bb;go_wp2_with fail;refine hc.mono ?_;rintro e w2 ⟨rfl,bc⟩;clear hc k1 k2;go_wp2;go_ret;exact Ret.int HY.out.symm (bb.then bc)
  ·have HY:=pA6 (show Y=((xD l e id 1).length:Int) by rw [hY];simp;omega);have i0:¬f<0:=h0;clear hY hf hB h0;go_enter func122,ntmps122;go_wp2_with fail;refine k1.mono ?_;rintro e w1 ⟨rfl,bb⟩;have hc:=k2 w1 bb;go_wp2_with fail;refine hc.mono ?_;rintro e w2 ⟨rfl,bc⟩;have B2:=bb.then bc;have hd:=k3 w2 B2;clear hc k1 k2 k3;go_wp2_with fail;refine hd.mono ?_;rintro e w3 ⟨v3,rfl,⟨F3,o3,f3⟩,bf⟩;have r3:=xA o3;obtain ⟨A,n,c,rfl,ln,_⟩:=qA r3;have LN:=pA6 ln;clear hd o3 f3 r3 ln;go_wp2;go_ret;exact Ret.int (by rw [HY.out,LN.out]) (B2.then bf)
 ·have bd:kB l e=false:=by simpa using hB
  rw [bd] at k1 hY;have HY:=pA6 (show Y = -1 from hY);clear hY hB bd k2 k3;go_enter func122,ntmps122;go_wp2_with fail;refine k1.mono ?_;rintro e w1 ⟨rfl,bb⟩;clear k1;go_wp2;go_ret;exact Ret.int HY.out.symm bb
theorem lAo (w:World) (l:List iA) (e:List mA) (id:Int) (v u:Value) (h:Rd LA w l [v]) (h':Rd OA w e [u]) :
  Calls prog 280 #[v,u,.int .i64 id] w (Ret w (.int .i64 (yR l e id))):=by
 have k1:=EE w l e _ _ h h';have k2:=fun W (B:Bw w W)=>gD W l id _ (h.bw gA B)
 have k3:=fun W (B:Bw w W)=>CK W l e id _ _ (h.bw gA B) (h'.bw jA B)
 obtain ⟨Y,hY⟩:=pA7 (yR l e id);rw [<-hY];unfold yR MB at hY;by_cases hB:kB l e=true
 ·rw [hB] at k1 hY;obtain ⟨f,hf⟩:=pA7 (rB l id);simp only [<-hf] at k2 hY;by_cases h0:f<0
  ·have HY:=pA6 (show Y = -1 by rw [hY];simp;omega);clear hY hf hB k3;go_enter func280,ntmps280;go_wp2_with fail;refine k1.mono ?_;rintro e w1 ⟨rfl,bb⟩;have hc:=k2 w1 bb;go_wp2_with fail;refine hc.mono ?_;rintro e w2 ⟨rfl,bc⟩;clear hc k1 k2;go_wp2;go_ret;exact Ret.int HY.out.symm (bb.then bc)
  ·have HY:=pA6 (show Y=((xD l e id 1).length:Int) by rw [hY];simp;omega);have i0:¬f<0:=h0;clear hY hf hB h0;go_enter func280,ntmps280;go_wp2_with fail;refine k1.mono ?_;rintro e w1 ⟨rfl,bb⟩;have hc:=k2 w1 bb;go_wp2_with fail;refine hc.mono ?_;rintro e w2 ⟨rfl,bc⟩;have B2:=bb.then bc;have hd:=k3 w2 B2;clear hc k1 k2 k3;go_wp2_with fail;refine hd.mono ?_;rintro e w3 ⟨v3,rfl,⟨F3,o3,f3⟩,bf⟩;have r3:=xA o3;obtain ⟨A,n,c,rfl,ln,_⟩:=qA r3;have LN:=pA6 ln;clear hd o3 f3 r3 ln;go_wp2;go_ret;exact Ret.int (by rw [HY.out,LN.out]) (B2.then bf)
 ·have bd:kB l e=false:=by simpa using hB
  rw [bd] at k1 hY;have HY:=pA6 (show Y = -1 from hY);clear hY hB bd k2 k3;go_enter func280,ntmps280;go_wp2_with fail;refine k1.mono ?_;rintro e w1 ⟨rfl,bb⟩;clear k1;go_wp2;go_ret;exact Ret.int HY.out.symm bb
theorem dAv (w:World) (l:List iA) (e:List mA) (m:Int) (v u:Value) (h:Rd LA w l [v]) (h':Rd OA w e [u]) :
  Calls prog 39 #[v,u,.int .i64 m] w (WB w (nE WA w.heap.size (QI l e m))):=by
 obtain ⟨i0,hi,cs,ct,cv⟩:=info_parts xC;have bs:=MA (e:=3) (sz:=1) (R:=IF) w;have A0:Bw w (w.alloc (.cells #[] 3)):=(Bw.refl w).alloc _;have HH:=pA6 h;have k1:=KE _ l e _ _ (h.bw gA A0) (h'.bw jA A0);obtain ⟨Y,hY⟩:=pA7 (QI l e m);rw [<-hY];unfold QI at hY;obtain ⟨A,n,c,rfl,L,Lc,Lm⟩:=yA h;by_cases hB:kB l e=true
 ·rw [hB] at k1;have HB:=pA6 hB;have HY:=pA6 (show Y=eG (SE l e m) l by rw [hY,if_pos hB]);have n16:n<=16:=by rw [L.out];exact VA (AA hB)
  clear hB hY h;go_enter func39,ntmps39;go_wp2_with fail;refine k1.mono ?_;rintro e w2 ⟨rfl,bb⟩;have B2:=A0.then bb;have bk:=nA bb aA bs;clear k1 bs bb A0;go_wp2
  go_loopg [7,18] n (fun g s i w'=>∃(k:Nat) (F:List Nat),k<=n/\g=n-k/\i=.int .i64 k/\WA w' (eF (SE l e m) l k) [s] F/\sA w.heap.size F/\Bw w w')
  ·exact ⟨0,_,by omega,rfl,rfl,bk,⟨by simp,by simp⟩,B2⟩
  ·clear bk B2;obtain ⟨k,F,hk,rfl,rfl,hv,hF,hb⟩:=hrel;by_cases hlt:k<n
   ·obtain ⟨x,hx⟩:=tA (xs:=l) (k:=k) (by have:=L.out;omega);obtain ⟨b2,o2,Ax,cx,rfl,_,cb,bp,bd⟩:=qB HH.out hx;have cd:=pA6 (TA (AA HB.out) (List.mem_of_getElem? hx));have bq:=jB cd.out;rw [bq] at bp bd;have i1:(0:Int)<=(k:Int):=by omega
    have i2:(k:Int)<(n:Int):=by omega
    replace cb:=hb.cell cb;replace bp:=hb.cell bp;have bm:=pA6 (fun hf=>kJ (f:=SE l e m) hx hf);have cc:=pA6 (fun hf=>BK (f:=SE l e m) hx hf);have hA:=(Bw.refl wr).alloc (.cells #[.int .i64 x.id,.slice Ax 3 cx] 30);have bX:=Box.new wr #[.int .i64 x.id,.slice Ax 3 cx] 30;have bj:=hb.then hA;have hc:=lAn (wr.alloc (.cells #[.int .i64 x.id,.slice Ax 3 cx] 30)) l e x.id _ _ (HH.out.bw gA bj) (h'.bw jA bj);obtain ⟨R,hR⟩:=pA7 (yR l e x.id);rw [<-hR] at hc;have HR:=pA6 hR;have cg:=(aA (B:=0)).lt hv;have bv:=pA6 (mJ (f:=SE l e m) (l:=l) (k:=k));have cm:=hb.size;clear hR hx bd;go_wp2_with fail;refine hc.mono ?_;rintro e w4 ⟨rfl,bg⟩;have bx:=bX.bw bg;have bt:=nA (hA.then bg) aA hv;have bc:=bj.then bg;clear hc bX hA bj hv;by_cases hlm:R<m
    ·have HS:=pA6 (show eF (SE l e m) l (k+1)=eF (SE l e m) l k++[x.id] from bm.out (by unfold SE;rw [<-HR.out];exact decide_eq_true hlm));have bn:=(Bw.refl w4).alloc (.cells #[.int .i64 x.id] 3);have cq:=nA bn aA bt;have ck:=bc.then bn;have cn:=cell_one_new w4 (.int .i64 x.id) 3;obtain ⟨b0,b1,bf⟩:=bx.a2;clear bt bn bg;go_wp2_with (at_builtin;refine iC _ rfl (.tmp 29) (.tmp 32) 26 rfl w 3 i0 _ 1 8 underlying26 hi cs ct cv rfl (by omega) YA _ (eF (SE l e m) l k) F rfl cq hF ⟨w4.heap.size,0,none⟩ 1 rfl x.id [.int .i64 x.id] [] cn ⟨rfl,rfl⟩ rfl wr.heap.size cg sA.nil cm (by have:=bv.out;omega) (by have:=bv.out;omega) ck ?_;intro v' w' F' cp cf cj hO' hs')
     go_roundg (n-(k+1))
     ·exact ⟨k+1,F',by omega,rfl,by go_num,by rw [HS.out];exact cp,cf,cj⟩
     ·omega
    ·have HS:=pA6 (show eF (SE l e m) l (k+1)=eF (SE l e m) l k from cc.out (by unfold SE;rw [<-HR.out];exact decide_eq_false hlm));clear bx;go_wp2
     go_roundg (n-(k+1))
     ·exact ⟨k+1,F,by omega,rfl,by go_num,by rw [HS.out];exact bt,hF,bc⟩
     ·omega
   ·obtain rfl:k=n:=by omega
    rw [lJ (by rw [<-L.out];exact Nat.le_refl _)] at hv;go_wp2;go_ret;exact ⟨_,rfl,⟨F,by rw [HY.out];exact hv,hF⟩,hb⟩
 ·have bz:kB l e=false:=by simpa using hB
  rw [bz] at k1;have HY:=pA6 (show Y=[] by rw [hY,if_neg hB]);clear hB bz hY h;go_enter func39,ntmps39;go_wp2_with fail;refine k1.mono ?_;rintro e w2 ⟨rfl,bb⟩;have bk:=nA bb aA bs;clear k1;go_wp2;go_ret;exact ⟨_,rfl,⟨_,by rw [HY.out];exact bk,⟨by simp,by simp⟩⟩,A0.then bb⟩
theorem dAw (w:World) (l:List iA) (e:List mA) (m:Int) (v u:Value) (h:Rd LA w l [v]) (h':Rd OA w e [u]) :
  Calls prog 256 #[v,u,.int .i64 m] w (WB w (nE WA w.heap.size (QI l e m))):=by
 obtain ⟨i0,hi,ck,cm,cn⟩:=info_parts xC;have bk:=MA (e:=3) (sz:=1) (R:=IF) w;have A0:Bw w (w.alloc (.cells #[] 3)):=(Bw.refl w).alloc _;have HH:=pA6 h;have k1:=fun W (B:Bw w W)=>EE W l e _ _ (h.bw gA B) (h'.bw jA B)
 obtain ⟨Y,hY⟩:=pA7 (QI l e m);rw [<-hY];unfold QI at hY;obtain ⟨A,n,c,rfl,L,Lc,Lm⟩:=yA h;by_cases hB:kB l e=true
 ·simp only [hB] at k1;have HB:=pA6 hB;have HY:=pA6 (show Y=eG (SE l e m) l by rw [hY,if_pos hB]);have n16:n<=16:=by rw [L.out];exact VA (AA hB)
  have K1:=pA6 k1;clear hB hY h k1;go_enter func256,ntmps256;go_wp2
  go_loopg [7,8] n (fun g s i w'=>∃(k:Nat) (F:List Nat),k<=n/\g=n-k/\i=.int .i64 k/\WA w' (eF (SE l e m) l k) [s] F/\sA w.heap.size F/\Bw w w')
  ·exact ⟨0,_,by omega,rfl,rfl,bk,⟨by simp,by simp⟩,A0⟩
  ·clear bk A0;obtain ⟨k,F,hk,rfl,rfl,hv,hF,hb⟩:=hrel;by_cases hlt:k<n
   ·obtain ⟨x,hx⟩:=tA (xs:=l) (k:=k) (by have:=L.out;omega);obtain ⟨b2,o2,Ax,cx,rfl,_,bp,_,_⟩:=qB HH.out hx;have i1:(0:Int)<=(k:Int):=by omega
    have i2:(k:Int)<(n:Int):=by omega
    have bm:=pA6 (fun hf=>kJ (f:=SE l e m) hx hf);have bv:=pA6 (fun hf=>BK (f:=SE l e m) hx hf);have bf:=K1.out wr hb;go_wp2_with fail;refine bf.mono ?_;rintro e w3 ⟨rfl,bc⟩;have bb:=hb.then bc;replace bp:=bb.cell bp;have bg:=nA bc aA hv;have hc:=lAo w3 l e x.id _ _ (HH.out.bw gA bb) (h'.bw jA bb);obtain ⟨R,hR⟩:=pA7 (yR l e x.id);rw [<-hR] at hc;have HR:=pA6 hR;have bz:=(aA (B:=0)).lt bg;have bs:=pA6 (mJ (f:=SE l e m) (l:=l) (k:=k));clear hR hx hv bf;go_wp2_with fail;refine hc.mono ?_;rintro e w4 ⟨rfl,bj⟩;have bq:=nA bj aA bg;have bd:=bb.then bj;have hd4:=bj.cell bp;have cd:=bb.size;clear hc bg hb bc;by_cases hlm:R<m
    ·have HS:=pA6 (show eF (SE l e m) l (k+1)=eF (SE l e m) l k++[x.id] from bm.out (by unfold SE;rw [<-HR.out];exact decide_eq_true hlm));have bn:=(Bw.refl w4).alloc (.cells #[.int .i64 x.id] 3);have cj:=nA bn aA bq;have cc:=bd.then bn;have cf:=cell_one_new w4 (.int .i64 x.id) 3;clear bq bn bj;go_wp2_with (at_builtin;refine iC _ rfl (.tmp 31) (.tmp 37) 26 rfl w 3 i0 _ 1 8 underlying26 hi ck cm cn rfl (by omega) YA _ (eF (SE l e m) l k) F rfl cj hF ⟨w4.heap.size,0,none⟩ 1 rfl x.id [.int .i64 x.id] [] cf ⟨rfl,rfl⟩ rfl w3.heap.size bz sA.nil cd (by have:=bs.out;omega) (by have:=bs.out;omega) cc ?_;intro v' w' F' cg bx cb hO' hs')
     go_roundg (n-(k+1))
     ·exact ⟨k+1,F',by omega,rfl,by go_num,by rw [HS.out];exact cg,bx,cb⟩
     ·omega
    ·have HS:=pA6 (show eF (SE l e m) l (k+1)=eF (SE l e m) l k from bv.out (by unfold SE;rw [<-HR.out];exact decide_eq_false hlm));go_wp2
     go_roundg (n-(k+1))
     ·exact ⟨k+1,F,by omega,rfl,by go_num,by rw [HS.out];exact bq,hF,bd⟩
     ·omega
   ·obtain rfl:k=n:=by omega
    rw [lJ (by rw [<-L.out];exact Nat.le_refl _)] at hv;go_wp2;go_ret;exact ⟨_,rfl,⟨F,by rw [HY.out];exact hv,hF⟩,hb⟩
 ·have bt:kB l e=false:=by simpa using hB
  simp only [bt] at k1;have HY:=pA6 (show Y=[] by rw [hY,if_neg hB]);have bf:=k1 (w.alloc (.cells #[] 3)) A0;clear hB bt hY h k1;by_cases hn:n=0
  ·subst hn;go_enter func256,ntmps256;go_wp2
   go_loopg [7,8] 0 (fun g s i w'=>g=0/\i=.int .i64 0/\s=.slice (some ⟨w.heap.size,0,none⟩) 0 0/\w'=w.alloc (.cells #[] 3))
   ·exact ⟨rfl,rfl,rfl,rfl⟩
   ·obtain ⟨rfl,rfl,rfl,rfl⟩:=hrel;go_wp2;go_ret;exact ⟨_,rfl,⟨_,by rw [HY.out];exact bk,⟨by simp,by simp⟩⟩,A0⟩
  ·have i1:(0:Int)<(n:Int):=by omega
   go_enter func256,ntmps256;go_wp2
   go_loopg [7,8] 0 (fun g s i w'=>g=0/\i=.int .i64 0/\s=.slice (some ⟨w.heap.size,0,none⟩) 0 0/\w'=w.alloc (.cells #[] 3))
   ·exact ⟨rfl,rfl,rfl,rfl⟩
   ·obtain ⟨rfl,rfl,rfl,rfl⟩:=hrel;go_wp2_with fail;refine bf.mono ?_;rintro e w3 ⟨rfl,bc⟩;have bg:=nA bc aA bk;clear bf;go_wp2;go_ret;exact ⟨_,rfl,⟨_,by rw [HY.out];exact bg,⟨by simp,by simp⟩⟩,A0.then bc⟩
def MJ (c:Int->Nat) (x:Int):List Int->List Int
 | []=>[x]
 | y::r=>if c y<c x then y::MJ c x r else x::y::r
def jL (c:Int->Nat) (xs:List Int):List Int:=xs.foldl (fun r x=>MJ c x r) []
theorem dAx (c:Int->Nat) (x:Int):∀r:List Int,(MJ c x r).length=r.length+1
 | []=>rfl
 | y::r=>by rw [MJ];split<;>simp [dAx c x r]
theorem nQ {c:Int->Nat} {xs:List Int} {k:Nat} {x:Int} (h:xs[k]? = some x):jL c (xs.take (k+1))=MJ c x (jL c (xs.take k)):=by
 unfold jL;rw [List.take_add_one,h,List.foldl_append];rfl
theorem tZ (c:Int->Nat) (xs:List Int) (k:Nat) (hk:k<=xs.length):(jL c (xs.take k)).length=k:=by
 induction k with
 | zero=>rfl
 | succ k ih=>
  rw [nQ (List.getElem?_eq_getElem (show k<xs.length by omega)),dAx,ih (by omega)]
theorem nAe (a:List Int) (y x:Int) (t:List Int):((a++y::x::t).set (a.length+1) y).set a.length x=a++x::y::t:=by
 induction a with
 | nil=>rfl
 | cons z a ih=>simp [ih]
theorem oAc (a:List Int) (y x:Int) (t:List Int):(a++y::x::t)[a.length]? = some y/\(a++y::x::t)[a.length+1]? = some x:=by
 induction a with
 | nil=>exact ⟨rfl,rfl⟩
 | cons z a ih=>simp
theorem iA4 {w:World} {xs:List Int} {v:Value} {F:List Nat} (h:WA w xs [v] F):F=v.ownBlock.toList:=by
 obtain ⟨v',us,Fs,hv,hown,bb,hF⟩:=h;injection hv with hv;subst hv;have:∀ {xs:List Int} {us:List (List Value)} {fs:List (List Nat)},IH (fun x u f=>IF w x u f/\u.length=1) xs us fs->fs.flatten=[]:=by
  intro xs
  induction xs with
  | nil=>intro us fs h;cases us<;>cases fs<;>first | rfl | exact h.elim
  | cons x xs ih=>
   intro us fs h
   cases us<;>cases fs<;>first | exact h.elim | skip
   rename_i u us f fs
   have h1:=ih h.2;rw [List.flatten_cons,h1,h.1.1.2];rfl
 rw [hF,this bb,List.append_nil]
theorem wZ {w:World} {g n c k:Nat} {y:Int} {xs:List Int} (hv:WA w xs [.slice (some ⟨g,0,none⟩) n c] [g]) (hk:k<xs.length):WA (w.setCell ⟨g,k,none⟩ (.int .i64 y)) (xs.set k y) [.slice (some ⟨g,0,none⟩) n c] [g]:=by
 have bb:=(aA (B:=0)).lt hv;obtain ⟨F',h1,h2,_⟩:=YK (YA (B:=0)) hv ⟨by simp,by simp⟩ (k:=k) (y:=y) (u:=[.int .i64 y]) (f:=[]) ⟨rfl,rfl⟩ rfl (m:=w.heap.size) bb sA.nil (Nat.zero_le _) hk;simp only [rE,Nat.mul_one] at h1;have h3:=iA4 h1;rw [h3] at h1;exact h1
structure Env (B p1 p2:Nat) (vl ve:Value) (l:List iA) (e:List mA) (w:World):Prop where
 c1:w.cell? ⟨p1,0,none⟩=some vl
 c2:w.cell? ⟨p2,0,none⟩=some ve
 l1:p1<B
 l2:p2<B
 rl:LA w (fun b=>b<B) l [vl]
 re:OA w (fun b=>b<B) e [ve]
 sz:B<=w.heap.size
theorem Env.only {B p1 p2 g:Nat} {vl ve:Value} {l:List iA} {e:List mA} {w w':World} (h:Env B p1 p2 vl ve l e w) (hO:TB [g] w w') (hg:B<=g):Env B p1 p2 vl ve l e w':=
 ⟨hO.cell h.c1 (by have:=h.l1;simp;omega),hO.cell h.c2 (by have:=h.l2;simp;omega),h.l1,h.l2,
  gA.step ⟨fun _ hb=>hb,fun q hq=>World.cell?_of_block (hO.2 _ (Nat.lt_of_lt_of_le hq h.sz) (by have:q.block<B:=hq;simp;omega))⟩ h.rl,
  jA.step ⟨fun _ hb=>hb,fun q hq=>World.cell?_of_block (hO.2 _ (Nat.lt_of_lt_of_le hq h.sz) (by have:q.block<B:=hq;simp;omega))⟩ h.re,Nat.le_trans h.sz hO.1⟩
theorem Env.bw {B p1 p2:Nat} {vl ve:Value} {l:List iA} {e:List mA} {w w':World} (h:Env B p1 p2 vl ve l e w) (hb:Bw w w'):Env B p1 p2 vl ve l e w':=
 ⟨hb.cell h.c1,hb.cell h.c2,h.l1,h.l2,gA.step ⟨fun _ hb=>hb,fun q hq=>Below.cell hb (Nat.lt_of_lt_of_le hq h.sz)⟩ h.rl,jA.step ⟨fun _ hb=>hb,fun q hq=>Below.cell hb (Nat.lt_of_lt_of_le hq h.sz)⟩ h.re,Nat.le_trans h.sz hb.size⟩
theorem Env.rdl {B p1 p2:Nat} {vl ve:Value} {l:List iA} {e:List mA} {w:World} (h:Env B p1 p2 vl ve l e w):Rd LA w l [vl]:=gA.step ⟨fun _ hb=>Nat.lt_of_lt_of_le hb h.sz,fun _ _=>rfl⟩ h.rl
theorem Env.rde {B p1 p2:Nat} {vl ve:Value} {l:List iA} {e:List mA} {w:World} (h:Env B p1 p2 vl ve l e w):Rd OA w e [ve]:=jA.step ⟨fun _ hb=>Nat.lt_of_lt_of_le hb h.sz,fun _ _=>rfl⟩ h.re
def SM (g:Nat) (w w':World):Prop:=∀w0:World,Bw w0 w->w0.heap.size<=g->Bw w0 w'
theorem SM.refl (g:Nat) (w:World):SM g w w:=fun _ h _=>h
theorem SM.bw {g:Nat} {w w' w2:World} (h:SM g w w') (hb:Bw w' w2):SM g w w2:=fun w0 k hg=>(h w0 k hg).then hb
theorem SM.set {g o:Nat} {w w':World} {u:Value} (h:SM g w w'):SM g w (w'.setCell ⟨g,o,none⟩ u):=fun w0 k hg=>(h w0 k hg).set hg u
theorem vM (l:List iA) (e:List mA):(eB l e).length<=16:=by
 unfold eB
 split
 ·rename_i h
  have h1:=VA (AA h);exact Nat.le_trans (jJ l e) h1
 ·simp
def VO (l:List iA) (e:List mA) (id:Int):Nat:=(xD l e id (-1)).length
theorem jAl (w:World) (a b:Int) (B p1 p2:Nat) (vl ve:Value) (l:List iA) (e:List mA) (hE:Env B p1 p2 vl ve l e w) :
  Calls prog 120 #[.int .i64 a,.int .i64 b,.pointer (some ⟨p1,0,none⟩),.pointer (some ⟨p2,0,none⟩)] w (Ret w (.int .i64 ((VO l e b:Int)-(VO l e a:Int)))):=by
 have c1:=hE.c1;have c2:=hE.c2;obtain ⟨Al,nl,cl,rfl,ll,lc,lm⟩:=qA hE.rdl;unfold maxLen at lm;obtain ⟨Ae,ne,ce,rfl,le,_⟩:=qA hE.rde;have LL:=pA6 ll;have LE:=pA6 le;obtain ⟨ca,bb⟩:=pA7 (VO l e a);obtain ⟨cb,bc⟩:=pA7 (VO l e b);rw [<-bb,<-bc];have ka:ca<=nl:=by rw [bb,ll];exact fG _ _ _ _
 have kb:cb<=nl:=by rw [bc,ll];exact fG _ _ _ _
 have HW:=pA6 (show IntKind.i64.wrap ((cb:Int)-(ca:Int))=(cb:Int)-(ca:Int) by simp [IntKind.wrap,IntKind.bits,IntKind.signed];omega);have hD:=(Bw.refl w).drew;have cc:∀(id:Int) (W:World),Bw w W->Calls prog 121 #[.slice Al nl cl,.slice Ae ne ce,.int .i64 id] W (fun e' W'=>∃A c,e'=.returned (.slice A (VO l e id) c)/\Bw W W'):=fun id W hb=>by
  refine (CP W l e id _ _ ((hE.bw hb).rdl) ((hE.bw hb).rde)).mono ?_;rintro e' W' ⟨v,rfl,⟨F,o,f⟩,bf⟩;obtain ⟨A,n,c,rfl,hn,_⟩:=qA (xA o);exact ⟨A,c,by rw [hn];rfl,bf⟩
 have CA:=pA6 (fun W (B:Bw w W)=>(show Calls prog 121 #[.slice Al nl cl,.slice Ae ne ce,.int .i64 a] W (fun e' W'=>∃A c,e'=.returned (.slice A ca c)/\Bw W W') by rw [bb];exact cc a W B));have CB:=pA6 (fun W (B:Bw w W)=>(show Calls prog 121 #[.slice Al nl cl,.slice Ae ne ce,.int .i64 b] W (fun e' W'=>∃A c,e'=.returned (.slice A cb c)/\Bw W W') by rw [bc];exact cc b W B));have hB:=Bw.refl w.drew;have y1:=hD.cell c1;have y2:=hD.cell c2;clear bb bc cc hE ll le;go_enter func120,ntmps120;go_wp2_with fail
 go_region_held3 (fun w'=>w'.cell? ⟨p1,0,none⟩=some (.slice Al nl cl)/\w'.cell? ⟨p2,0,none⟩=some (.slice Ae ne ce)) (first | exact ⟨y1,y2⟩ | exact ⟨hB.cell y1,hB.cell y2⟩)
  (first
   | (go_at_call 121;first | ((with_reducible refine (CB.out _ (hD.then hB)).mono ?_);rintro e' w5 ⟨A5,c5,rfl,bd⟩;replace hB:=hB.then bd) | ((with_reducible refine (CA.out _ (hD.then hB)).mono ?_);rintro e' w5 ⟨A6,c6,rfl,bd⟩;replace hB:=hB.then bd)))
 all_goals
  go_wp2;go_ret;exact Ret.int HW.out (hD.then hB)
theorem dAy (w:World) (xs:List Int) (g n c B p1 p2:Nat) (vl ve:Value) (l:List iA) (e:List mA) (hv:WA w xs [.slice (some ⟨g,0,none⟩) n c] [g]) (hE:Env B p1 p2 vl ve l e w) (hg:B<=g) (hn:Hid (xs.length=n)) (hn1:1<=n) (hn2:n<=1048576) :
  Calls prog 234 #[.slice (some ⟨g,0,none⟩) n c,.int .i64 0,.int .i64 n,.func (.func 120) #[] #[.pointer (some ⟨p1,0,none⟩),.pointer (some ⟨p2,0,none⟩)]] w
   (fun e' w'=>e'=.returned (.tuple #[])/\WA w' (jL (VO l e) xs).reverse [.slice (some ⟨g,0,none⟩) n c] [g]/\TB [g] w w'/\SM g w w'):=by
 obtain ⟨cn,bs⟩:=pA7 (VO l e);have cc:=pA6 bs;rw [<-bs];clear bs;go_enter func234,ntmps234;go_wp2
 go_loopg [8] n (fun gg i w'=>∃k:Nat,1<=k/\k<=n/\gg=n-k+1/\i=.int .i64 k/\WA w' ((jL cn (xs.take k)).reverse++xs.drop k) [.slice (some ⟨g,0,none⟩) n c] [g]/\TB [g] w w'/\SM g w w')
 ·refine ⟨1,by omega,by omega,by omega,rfl,?_,TB.refl _ _,SM.refl _ _⟩;obtain ⟨x,hx⟩:=tA (xs:=xs) (k:=0) (by have:=hn.out;omega);rw [nQ hx];have:xs=x::xs.drop 1:=by
   cases xs with
   | nil=>simp at hx
   | cons y t=>simp at hx;subst hx;rfl
  show WA w ([x]++xs.drop 1) _ _
  rw [List.singleton_append,<-this];exact hv
 ·clear hv;obtain ⟨k,hk1,hk,rfl,rfl,hv,hO,hK⟩:=hrel;by_cases hlt:k<n
  ·obtain ⟨x,hx⟩:=tA (xs:=xs) (k:=k) (by have:=hn.out;omega);have HS:=pA6 (nQ (c:=cn) hx);have bp:=pA6 (tZ cn xs k (by have:=hn.out;omega));have HX:=pA6 (show xs.drop k=x::xs.drop (k+1) from nC hx);rw [HX.out] at hv;obtain ⟨R,hR⟩:=pA7 (jL cn (xs.take k));obtain ⟨D,hD⟩:=pA7 (xs.drop (k+1));rw [<-hR] at hv HS bp;rw [<-hD] at hv;have HD:=pA6 hD;have bm:=pA6 (show (R.reverse++x::(([]:List Int).reverse++D)).length=n by
    have h1:=hn.out;have h2:=bp.out;rw [HD.out];simp only [List.length_append,List.length_reverse,List.length_cons,List.length_drop,List.reverse_nil,List.nil_append];omega)
   clear hR hD hx HX;go_wp2
   go_loopg [9] (k+1) (fun gg z w'=>∃(j:Nat) (p r:List Int),j<=k/\gg=j+1/\z=.int .i64 j/\Hid (r.length=j/\MJ cn x R=p++MJ cn x r/\(r.reverse++x::(p.reverse++D)).length=n)/\WA w' (r.reverse++x::(p.reverse++D)) [.slice (some ⟨g,0,none⟩) n c] [g]/\TB [g] w w'/\SM g w w')
   ·exact ⟨k,[],R,Nat.le_refl _,rfl,rfl,pA6 ⟨bp.out,rfl,bm.out⟩,by simpa using hv,hO,hK⟩
   ·clear hv hO hK;obtain ⟨j,p,r,hjk,rfl,rfl,HI,hv,hO,hK⟩:=hrel;by_cases hj:0<j
    ·obtain ⟨q,rfl⟩:∃q,j=q+1:=⟨j-1,by omega⟩;obtain ⟨y,r',hr⟩:∃y r',r=y::r':=by
      cases r with
      | nil=>have:=HI.out.1;simp at this
      | cons y r'=>exact ⟨y,r',rfl⟩
     subst hr;have bj:r'.length=q:=by have:=HI.out.1;simpa using this
     have bk:r'.reverse.length=q:=by rw [List.length_reverse];exact bj
     have bb:(y::r').reverse++x::(p.reverse++D)=r'.reverse++y::x::(p.reverse++D):=by simp
     rw [bb] at hv;obtain ⟨t1,t2⟩:=oAc r'.reverse y x (p.reverse++D);rw [bk] at t1 t2;obtain ⟨_,_,e1,_,cy⟩:=KB (xA hv) t1;injection e1 with e1;injection e1 with e1 e2;subst e1 e2;obtain ⟨_,_,e1,_,cx⟩:=KB (xA hv) t2;injection e1 with e1;injection e1 with e1 e2;subst e1 e2;have ff:=fun o=>TF hv o
     rw [Nat.zero_add] at cy cx;have cq:=hE.only hO hg;have bd:=fun (s:eC wr)=>jAl s.1 x y B p1 p2 vl ve l e (cq.bw s.bw)
     rw [<-cc.out] at bd;have ej:((q+1:Nat):Int)=(q:Int)+1:=by omega
     have s1:=pA cy;have s2:=pA cx;have g1:(0:Int)<(q:Int)+1:=by omega
     have g2:(0:Int)<=(q:Int)+1:=by omega
     have g3:(q:Int)+1<(n:Int):=by omega
     have g4:(0:Int)<=(q:Int):=by omega
     have g5:(q:Int)<(n:Int):=by omega
     have bf:∀s:eC wr,Calls prog 120 #[.int .i64 x,.int .i64 y,.pointer (some ⟨p1,0,none⟩),.pointer (some ⟨p2,0,none⟩)] s.1 (Ret s.1 (.int .i64 ((cn y:Int)-(cn x:Int)))):=bd;have bx:=pA6 bb;have cd:=pA6 bk;have bq:=pA6 bj;rw [ej];by_cases hc:cn y<cn x
     ·have i1:(cn y:Int)-(cn x:Int)<0:=by omega
      have HJ:=pA6 (show MJ cn x R=(p++[y])++MJ cn x r' by rw [HI.out.2.1,MJ,if_pos hc,List.append_assoc];rfl);clear bd hc bb t1 t2 hj bj bk ej;go_wp2;refine IA (by kernel_rfl) ?_
      repeat (first | go_big_quiet_skip | (go_big_quiet_want;go_big_quiet_op;first | go_big_quiet_on | (apply Exists.intro;refine ⟨fun _=>?_,?_⟩;(· (((go_at_call 120;exact DA (bf _)))));go_big_quiet_on)))
      refine JA fun wq hbq=>?_
      try dsimp only at *
      have bv:=nA (hbq.then (Bw.refl wq).drew) aA hv;have cj:=(hbq.then (Bw.refl wq).drew).cell cy;have cf:=(hbq.then (Bw.refl wq).drew).cell cx;have cm:=fun o=>TF bv o
      have bz:=wZ (k:=q+1) (y:=y) bv (by rw [<-bx.out,HI.out.2.2];omega);have cb:=wZ (k:=q) (y:=x) bz (by rw [List.length_set,<-bx.out,HI.out.2.2];omega);have bt:=nAe r'.reverse y x (p.reverse++D);rw [cd.out] at bt;rw [bt,show r'.reverse++x::y::(p.reverse++D)=r'.reverse++x::((p++[y]).reverse++D) by simp] at cb;have bn:=pA6 (show (r'.reverse++x::((p++[y]).reverse++D)).length=n by
       have:=HI.out.2.2;simp only [List.length_append,List.length_reverse,List.length_cons,List.length_nil] at this ⊢;omega)
      have ct:=((hO.bwNext (hbq.then (Bw.refl wq).drew)).two (GA g (q+1) wq.drew (.int .i64 y))).two (GA g q (wq.drew.setCell ⟨g,q+1,none⟩ (.int .i64 y)) (.int .i64 x));have cs:=(((hK.bw hbq).bw (Bw.refl wq).drew).set (o:=q+1) (u:=.int .i64 y)).set (o:=q) (u:=.int .i64 x);have ck:=hbq.cell cy;have cg:=hbq.cell cx;have cp:=fun o=>TF (nA hbq aA hv) o
      clear hv bv bz bt bf s1 s2;go_wp2
      go_region
      all_goals
       clear cj cf cm ck cg cp;go_wp2
       go_roundg (q+1)
       ·exact ⟨q,p++[y],r',by omega,rfl,by go_num,pA6 ⟨bq.out,HJ.out,bn.out⟩,cb,ct,cs⟩
       ·omega
     ·have i1:¬(cn y:Int)-(cn x:Int)<0:=by omega
      have bg:WA wr ((jL cn (xs.take (k+1))).reverse++xs.drop (k+1)) [.slice (some ⟨g,0,none⟩) n c] [g]:=by
       rw [HS.out,HI.out.2.1,MJ,if_neg hc,<-HD.out]
       simpa using hv
      clear bd hc bb t1 t2 hj bj bk ej;go_wp2;refine IA (by kernel_rfl) ?_
      repeat (first | go_big_quiet_skip | (go_big_quiet_want;go_big_quiet_op;first | go_big_quiet_on | (apply Exists.intro;refine ⟨fun _=>?_,?_⟩;(· (((go_at_call 120;exact DA (bf _)))));go_big_quiet_on)))
      refine JA fun wq hbq=>?_
      try dsimp only at *
      have bc:=nA hbq aA bg;go_wp2
      go_roundg (n-(k+1)+1)
      ·exact ⟨k+1,by omega,by omega,rfl,by go_num,bc,hO.bwNext hbq,hK.bw hbq⟩
      ·omega
    ·obtain rfl:j=0:=by omega
     have cv:r=[]:=List.eq_nil_of_length_eq_zero HI.out.1;subst cv;have bg:WA wr ((jL cn (xs.take (k+1))).reverse++xs.drop (k+1)) [.slice (some ⟨g,0,none⟩) n c] [g]:=by
      rw [HS.out,HI.out.2.1,<-HD.out]
      simpa [MJ] using hv
     clear hj;go_wp2;refine IA (by kernel_rfl) ?_
     repeat (first | go_big_quiet_skip | (go_big_quiet_want;go_big_quiet_op;first | go_big_quiet_on | (apply Exists.intro;refine ⟨fun _=>?_,?_⟩;(· (((fail))));go_big_quiet_on)))
     refine JA fun wq hbq=>?_
     try dsimp only at *
     have bc:=nA hbq aA bg;go_wp2
     go_roundg (n-(k+1)+1)
     ·exact ⟨k+1,by omega,by omega,rfl,by go_num,bc,hO.bwNext hbq,hK.bw hbq⟩
     ·omega
  ·obtain rfl:k=n:=by omega
   go_wp2;refine bodyPost_end (results_none rfl _ _ _) rfl ?_;have ek:xs.take k=xs:=List.take_of_length_le (by rw [hn.out];exact Nat.le_refl _);have ed:xs.drop k=[]:=List.drop_of_length_le (by rw [hn.out];exact Nat.le_refl _);rw [ek,ed,List.append_nil] at hv;exact ⟨rfl,hv,hO,hK⟩
theorem aAz (w:World) (v f:Value):Calls prog 234 #[v,.int .i64 0,.int .i64 0,f] w (fun e' w'=>e'=.returned (.tuple #[])/\w'=w):=by
 go_enter func234,ntmps234;go_wp2
 go_loopg [8] 0 (fun gg i w'=>gg=0/\i=.int .i64 1/\w'=w)
 ·exact ⟨rfl,rfl,rfl⟩
 ·obtain ⟨rfl,rfl,rfl⟩:=hrel;go_wp2;refine bodyPost_end (results_none rfl _ _ _) rfl ?_;exact ⟨rfl,rfl⟩
theorem lAp (w:World) (sv fv:Value) (n:Nat) (R:Ending->World->Prop) (hc:Calls prog 234 #[sv,.int .i64 0,.int .i64 n,fv] w R) (hn:n<=16) (hR:∀e' w',R e' w'->e'=.returned (.tuple #[])) :
  Calls prog 179 #[sv,.int .i64 n,fv] w R:=by
 have i1:¬(20:Int)<=(n:Int):=by omega
 have i2:¬(20:Int)<(n:Int):=by omega
 have HR:=pA6 hR;clear hR;go_enter func179,ntmps179;go_wp2
 go_loopg [7,8] 0 (fun gg x y w'=>gg=0/\x=.int .i64 0/\y=.int .i64 20/\w'=w)
 ·exact ⟨rfl,rfl,rfl,rfl⟩
 ·obtain ⟨rfl,rfl,rfl,rfl⟩:=hrel;go_wp2_with fail;refine hc.mono ?_;rintro e' w2 hr;obtain rfl:=HR.out _ _ hr;clear hc;go_wp2
  go_loopg [6,7,8,9] 0 (fun gg b x y z w'=>gg=0/\b=.int .i64 20/\w'=w2)
  ·exact ⟨rfl,rfl,rfl⟩
  ·obtain ⟨rfl,rfl,rfl⟩:=hrel;go_wp2;refine bodyPost_end (results_none rfl _ _ _) rfl ?_;exact hr
theorem AR (w:World) (A:Option Addr) (c:Nat) (fv:Value) (n:Nat) (R:Ending->World->Prop) (hc:Calls prog 234 #[.slice A n c,.int .i64 0,.int .i64 n,fv] w R) (hn:n<=16) (hR:∀e' w',R e' w'->e'=.returned (.tuple #[])) :
  Calls prog 119 #[.slice A n c,fv] w R:=by
 have bb:=lAp w _ fv n R hc hn hR;have HR:=pA6 hR;clear hR hc;go_enter func119,ntmps119;go_wp2_with fail;refine bb.mono ?_;rintro e' w2 hr;obtain rfl:=HR.out _ _ hr;go_wp2;refine bodyPost_end (results_none rfl _ _ _) rfl ?_;exact hr
def NJ (l:List iA) (e:List mA):List Int:=(jL (VO l e) (eB l e)).reverse
theorem BR (w:World) (l:List iA) (e:List mA) (v u:Value) (h:Rd LA w l [v]) (h':Rd OA w e [u]) :
  Calls prog 36 #[v,u] w (WB w (nE WA w.heap.size (NJ l e))):=by
 obtain ⟨Al,nl,cl,rfl,ll,_⟩:=qA h;obtain ⟨Ae,ne,ce,rfl,le,_⟩:=qA h';have LL:=pA6 ll;have LE:=pA6 le;have A1:Bw w (w.alloc (.cells #[.slice Al nl cl] 24)):=(Bw.refl w).alloc _;have A2:=(Bw.refl (w.alloc (.cells #[.slice Al nl cl] 24))).alloc (.cells #[.slice Ae ne ce] 25);have c1:=A2.cell (show (w.alloc (.cells #[.slice Al nl cl] 24)).cell? ⟨w.heap.size,0,none⟩=some (.slice Al nl cl) by go_simp);have c2:((w.alloc (.cells #[.slice Al nl cl] 24)).alloc (.cells #[.slice Ae ne ce] 25)).cell? ⟨w.heap.size+1,0,none⟩=some (.slice Ae ne ce):=by
  have:=Box.new (w.alloc (.cells #[.slice Al nl cl] 24)) #[.slice Ae ne ce] 25;rw [show (w.alloc (.cells #[.slice Al nl cl] 24)).heap.size=w.heap.size+1 by simp] at this;exact this.c 0 _ rfl
 have A0:=A1.then A2;have hE:Env (w.heap.size+2) w.heap.size (w.heap.size+1) (.slice Al nl cl) (.slice Ae ne ce) l e ((w.alloc (.cells #[.slice Al nl cl] 24)).alloc (.cells #[.slice Ae ne ce] 25)):=
  ⟨c1,c2,by omega,by omega,gA.step ⟨fun b hb=>by have:b<w.heap.size:=hb;omega,fun q hq=>Below.cell A0 hq⟩ h,jA.step ⟨fun b hb=>by have:b<w.heap.size:=hb;omega,fun q hq=>Below.cell A0 hq⟩ h',by simp⟩
 have bb:=fI _ l e _ _ (h.bw gA A0) (h'.bw jA A0);have bf:(eB l e).length<=16:=vM l e;have HP:=pA6 (show NJ l e=(jL (VO l e) (eB l e)).reverse from rfl);obtain ⟨Y,hY⟩:=pA7 (NJ l e);rw [<-hY] at HP ⊢;obtain ⟨xs,bk⟩:=pA7 (eB l e);rw [<-bk] at bb bf HP;have hz:((w.alloc (.cells #[.slice Al nl cl] 24)).alloc (.cells #[.slice Ae ne ce] 25)).heap.size=w.heap.size+2:=by simp
 clear hY bk ll le h h' A1 A2;go_enter func36,ntmps36;go_wp2_with fail;refine bb.mono ?_;rintro e1 w1 ⟨v1,rfl,⟨F1,o1,f1⟩,bj⟩;have bm:=hE.bw bj;have B1:=A0.then bj;rw [hz] at f1;clear bb c1 c2 hE hz;by_cases hx:xs=[]
 ·subst hx;obtain ⟨A,n,c,rfl,hn,_⟩:=qA (xA o1);obtain rfl:n=0:=by simpa using hn
  have bd:=AR w1 A c (.func (.func 120) #[] #[.pointer (some ⟨w.heap.size,0,none⟩),.pointer (some ⟨w.heap.size+1,0,none⟩)]) 0 _ (aAz w1 _ _) (by omega) (fun _ _ h=>h.1);clear hn;go_wp2_with fail;refine bd.mono ?_;rintro e2 w2 ⟨rfl,rfl⟩;go_wp2;go_ret;exact ⟨_,rfl,⟨F1,by rw [HP.out];exact o1,f1.mono (by omega)⟩,B1⟩
 ·obtain ⟨g,n,c,rfl,hn,hnc,hcm,_⟩:=vK o1 (List.length_pos_iff.2 hx);have bn:F1=[g]:=by rw [iA4 o1];rfl
  subst bn;have hg:=f1.ge g (by simp);have bq:1<=n:=by rw [<-hn.out];exact List.length_pos_iff.2 hx
  have bg:n<=16:=by rw [<-hn.out];exact bf
  have bc:=dAy w1 xs g n c _ _ _ _ _ l e o1 bm hg hn bq (by omega);have bd:=AR w1 _ c _ n _ bc bg (fun _ _ h=>h.1);clear hx bf bc;go_wp2_with fail;refine bd.mono ?_;rintro e2 w2 ⟨rfl,o2,hO2,bp⟩;clear bd;go_wp2;go_ret;exact ⟨_,rfl,⟨[g],by rw [HP.out];exact o2,⟨by simp,fun b hb=>by rw [List.mem_singleton.1 hb];omega⟩⟩,bp w B1 (by omega)⟩
end Go.Proofs.YtpihighajaeabaaGreat
