/- The items that compare with an item in a way, in both programs. -/
import Derived.Test.YtpihighajaeabaaGreatQChangeM
import Derived.Test.YtpihighajaeabaaGreatQBestS
import Derived.Test.YtpihighajaeabaaGreatQCompI
namespace Go.Proofs.YtpihighajaeabaaGreat
open Go.RowKit
set_option linter.unusedVariables false
set_option linter.unusedSimpArgs false
def aI (e:List kA) (p:gA) (code:Int) (x:gA):Bool:=decide (CC e x p=code)
def jG (f:gA→Bool) (l:List gA):List Int:=(l.filter f).map (·.id)
def UF (f:gA→Bool) (l:List gA) (k:Nat):List Int:=((l.take k).filter f).map (·.id)
theorem WL {f:gA→Bool} {l:List gA} {k:Nat} {x:gA} (hx:l[k]? = some x) (h:f x=true):UF f l (k+1)=UF f l k++[x.id]:=by
 unfold UF;rw [List.take_add_one,hx,List.filter_append];simp only [Option.toList_some,List.filter_cons,List.filter_nil,h,if_true,List.map_append,List.map_cons,List.map_nil]
theorem UN {f:gA→Bool} {l:List gA} {k:Nat} {x:gA} (hx:l[k]? = some x) (h:f x=false):UF f l (k+1)=UF f l k:=by
 unfold UF;rw [List.take_add_one,hx,List.filter_append];simp only [Option.toList_some,List.filter_cons,List.filter_nil,h,List.append_nil,Bool.false_eq_true,if_false]
theorem XL {f:gA→Bool} {l:List gA} {k:Nat} (h:l.length≤k):UF f l k=jG f l:=by unfold UF jG;rw [List.take_of_length_le h]
theorem YL {f:gA→Bool} {l:List gA} {k:Nat}:(UF f l k).length≤k:=by
 unfold UF;rw [List.length_map];exact Nat.le_trans (List.length_filter_le _ _) (by rw [List.length_take];omega)
theorem YO (f:gA→Bool) (l:List gA):(jG f l).length≤l.length:=by unfold jG;rw [List.length_map];exact List.length_filter_le _ _
def tD (l:List gA) (e:List kA) (id code:Int):List Int:=if qB l e id then jG (aI e (nD l id) code) l else []
theorem kG (l:List gA) (e:List kA) (id code:Int):(tD l e id code).length≤l.length:=by
 unfold tD;split
 ·exact YO _ _
 ·exact Nat.zero_le _
theorem rR {l:List gA} {e:List kA} {id code:Int} {j:Nat} {p:gA} (hB:dB l e=true) (hf:UA l id=(j:Int)) (hp:l[j]? = some p):tD l e id code=jG (aI e p code) l:=by
 have:qB l e id=true:=by unfold qB;rw [hB,hf];simp
 rw [tD,if_pos this,KE hf hp]
theorem bAl {l:List gA} {e:List kA} {id code:Int} (h:qB l e id=false):tD l e id code=[]:=by unfold tD;rw [h];rfl
theorem eH (l:List gA) (e:List kA) (id:Int):(qB l e id=false)∨(dB l e=true∧∃(j:Nat) (p:gA),UA l id=(j:Int)∧l[j]? = some p∧p.id=id):=by
 rcases Bool.eq_false_or_eq_true (qB l e id) with hc | hc
 ·have h1:=hc;unfold qB at h1;rw [Bool.and_eq_true,decide_eq_true_eq] at h1;rcases PB l id with ⟨hK,_⟩ | ⟨j,x,hK,hx,hid⟩
  ·have:=h1.2;omega
  ·exact .inr ⟨h1.1,j,x,hK,hx,hid⟩
 ·exact .inl hc
theorem sR {l:List gA} {e:List kA} {id:Int} (h:qB l e id=false) (hB:dB l e=true):UA l id<0:=by
 unfold qB at h;rw [hB,Bool.true_and,decide_eq_false_iff_not] at h;omega
theorem VN:∀ {l:List gA} {p:Int},IA (some p) l=true→∀x∈l,p<x.id
 | [],_,_,x,hx=>by simp at hx
 | y::l,p,h,x,hx=>by
  simp only [IA,Bool.and_eq_true,decide_eq_true_eq] at h;rcases List.mem_cons.1 hx with rfl | hx
  ·exact h.1.2
  ·have:=VN h.2 x hx;omega
theorem iU:∀ {l:List gA} {o:Option Int},IA o l=true→∀x∈l,∀y∈l,x.id=y.id→x=y
 | [],_,_,x,hx,_,_,_=>by simp at hx
 | z::l,o,h,x,hx,y,hy,e=>by
  have h2:IA (some z.id) l=true:=by
   cases o<;>simp only [IA,Bool.and_eq_true] at h<;>exact h.2
  rcases List.mem_cons.1 hx with h3 | h3
  ·rcases List.mem_cons.1 hy with h4 | h4
   ·rw [h3,h4]
   ·have:=VN h2 y h4;rw [← e,h3] at this;omega
  ·rcases List.mem_cons.1 hy with h4 | h4
   ·have:=VN h2 x h3;rw [e,h4] at this;omega
   ·exact iU h2 x h3 y h4 e
theorem yM {l:List gA} (h:WA l=true) {x y:gA} (hx:x∈l) (hy:y∈l) (e:x.id=y.id):x=y:=by
 unfold WA at h;rw [Bool.and_eq_true] at h;exact iU h.1 x hx y hy e
set_option maxRecDepth 100000 in
set_option maxHeartbeats 3200000 in
theorem lT (w:World) (l:List gA) (e:List kA) (id code:Int) (v u:Value) (h:Rd MA w l [v]) (h':Rd RA w e [u]) (hB:dB l e=true) (j:Nat) (p:gA) (hf:UA l id=(j:Int)) (hp:l[j]? = some p) :
  Calls Tryz.prog 169 #[v,u,.int .i64 id,.int .i64 code] w (BC w (pF ZA w.heap.size (jG (aI e p code) l))):=by
 obtain ⟨i0,hi,hz0,hz1,hz2⟩:=info_parts PC;obtain ⟨A,n,c,rfl,L0,Lc,Lm⟩:=iA h;unfold maxLen at Lm;have L:=Lib.hid L0;clear L0;have HB:=Lib.hid hB;have HP:=Lib.hid (NA (sA hB) (List.mem_of_getElem? hp));have n16:n≤16:=by rw [L.out];exact VA (sA hB)
 have hjn:j<n:=by rw [L.out];exact (List.getElem?_eq_some_iff.1 hp).1
 obtain ⟨ba,oa,Ap,cp,rfl,_,hc0,hc1,hin⟩:=mB h hp;rw [YA HP.out] at hc1 hin;have j1:(0:Int)≤(j:Int):=by omega
 have j2:(j:Int)<(n:Int):=by omega
 have j3:¬((j:Int)<0):=by omega
 have hv0:=PA (e:=3) (sz:=1) (R:=RG) w;have A0:Bw w (w.alloc (.cells #[] 3)):=(Bw.refl w).alloc _;have hcall:=fun W (B:Bw w W)=>QC W l id _ (h.bw jA B)
 rw [hf] at hcall;have HH:=Lib.hid h;clear hB hp hf h;go_enter Tryz.func169,Tryz.ntmps169;go_wp2_with fail;refine (hcall _ A0).mono ?_;rintro e w1 ⟨rfl,hb1⟩;have B1:=A0.then hb1;go_wp2_with fail;refine (JD _ l e _ _ (HH.out.bw jA B1) (h'.bw lA B1)).mono ?_;rintro e w2 ⟨rfl,hb2⟩;rw [HB.out];have B2:=B1.then hb2;have hv2:=(aA (B:=w.heap.size)).bw (hb1.then hb2) A0.size hv0;clear hcall hv0 hb1 hb2 A0 B1;go_wp2
 go_loopg [9,28] n (fun g s i w'=>∃(k:Nat) (F:List Nat),k≤n∧g=n-k∧i=.int .i64 k∧ZA w' (UF (aI e p code) l k) [s] F∧pA w.heap.size F∧Bw w w')
 case atStart=>exact ⟨0,_,by omega,rfl,rfl,hv2,⟨by simp,by simp⟩,B2⟩
 case round=>
  clear hv2 B2;obtain ⟨k,F,hk,rfl,rfl,hv,hF,hb⟩:=hrel;by_cases hlt:k<n
  ·obtain ⟨x,hx⟩:=rA (xs:=l) (k:=k) (by have:=L.out;omega);obtain ⟨b2,o2,Ax,cx,eA,_,hd0,hd1,hin2⟩:=mB HH.out hx;injection eA with eA;injection eA with eA1 eA2;subst eA1 eA2;have HPx:=Lib.hid (NA (sA HB.out) (List.mem_of_getElem? hx));have hlen:=YA HPx.out;rw [hlen] at hd1 hin2;have i1:(0:Int)≤(k:Int):=by omega
   have i2:(k:Int)<(n:Int):=by omega
   replace hd0:=hb.cell hd0;replace hd1:=hb.cell hd1;have hbx:=World.block_lt_of_cell? _ _ hd0;have HYES:=Lib.hid (fun hf=>WL (f:=aI e p code) hx hf);have HNO:=Lib.hid (fun hf=>UN (f:=aI e p code) hx hf);have A1:Bw wr (wr.alloc (.cells #[.int .i64 x.id,.slice Ax 3 cx] 30)):=(Bw.refl wr).alloc _;have hFm0:=(aA (B:=0)).lt hv;have kx0:(wr.alloc (.cells #[.int .i64 x.id,.slice Ax 3 cx] 30)).cell? ⟨wr.heap.size,0,none⟩=some (.int .i64 x.id):=by go_simp
   have kx1:(wr.alloc (.cells #[.int .i64 x.id,.slice Ax 3 cx] 30)).cell? ⟨wr.heap.size,1,none⟩=some (.slice Ax 3 cx):=by go_simp
   obtain ⟨W,hW⟩:∃W,W=wr.alloc (.cells #[.int .i64 x.id,.slice Ax 3 cx] 30):=⟨_,rfl⟩;rw [← hW] at kx0 kx1 A1;have HW:=Lib.hid hW;have hbA:=hb.then A1;have hd2:=A1.cell (hb.cell hc0);have hd3:=A1.cell (hb.cell hc1);have s0:=qA kx0;have s1:=qA kx1;have s2:=qA hd2;have s3:=qA hd3;have hcc:∀s:GC W,Calls Tryz.prog 78 #[u,.agg #[.int .i64 x.id,.slice Ax 3 cx],.agg #[.int .i64 p.id,.slice Ap 3 cp]] s.1 (Ret s.1 (.int .i64 (CC e x p))):=fun s=>FG _ e x p _ _ _ (h'.bw lA (hbA.then s.bw)) (Rd.bw dA hin2 (hbA.then s.bw)) (Rd.bw dA hin (hbA.then s.bw)) (iC HB.out) HPx.out HP.out
   have hvA:=(aA (B:=w.heap.size)).bw A1 hb.size hv;obtain ⟨r,hr⟩:∃r,r=CC e x p:=⟨_,rfl⟩;have HR:=Lib.hid (show aI e p code x=decide (r=code) by rw [hr];rfl);rw [← hr] at hcc;clear hx hlen hW hv hr hd2 hd3;by_cases hr1:r=code
   ·have e1:(r==code)=true:=by simpa using hr1
    have HB2:=Lib.hid (HYES.out (by rw [HR.out];simpa using hr1));clear hr1 HYES HNO HR;go_wp2;rw [← HW.out];refine mA (by kernel_rfl) (by kernel_rfl) ?_
    repeat (first | go_big_quiet_skip | (go_big_quiet_want;go_big_quiet_op;first | go_big_quiet_on | (apply Exists.intro;refine ⟨fun _=>?_,?_⟩;(· (((first | (go_at_call 78;exact GA (hcc _))))));go_big_quiet_on)))
    refine wpQuiet_nil ?_;rintro ⟨wq,hbq⟩;dsimp only at *;have hbw:=hbA.then hbq;replace kx0:=hbq.cell kx0;have HBL:=Lib.hid (YL (f:=aI e p code) (l:=l) (k:=k));have hv1:=(aA (B:=w.heap.size)).bw hbq hbA.size hvA;have hFm:=(aA (B:=0)).lt hv1;have hvW:=(aA (B:=w.heap.size)).bw ((Bw.refl wq).alloc (.cells #[.int .i64 x.id] 3)) hbw.size hv1;have hbW:=hbw.alloc (.cells #[.int .i64 x.id] 3);have hcl:=cell_one_new wq (.int .i64 x.id) 3;have hb0:=hbw.size;clear hv1 hvA hcc s0 s1 s2 s3 kx1;go_wp2_with (at_builtin;refine rB _ rfl (.tmp 41) (.tmp 44) 26 rfl w 3 i0 _ 1 8 Tryz.underlying26 hi hz0 hz1 hz2 rfl (by omega) nB _ (UF (aI e p code) l k) F rfl hvW hF ⟨wq.heap.size,0,none⟩ 1 rfl x.id [.int .i64 x.id] [] hcl ⟨rfl,rfl⟩ rfl _ hFm pA.nil hb0 (by have:=HBL.out;omega) (by have:=HBL.out;omega) hbW ?_;intro v' w' F' hv' hF' hb')
    go_roundg (n-(k+1))
    case measure=>omega
    case rel=>exact ⟨k+1,F',by omega,rfl,by go_num,by rw [HB2.out];exact hv',hF',hb'⟩
   ·have e1:(r==code)=false:=by simpa using hr1
    have HB2:=Lib.hid (HNO.out (by rw [HR.out];simpa using hr1));clear hr1 HYES HNO HR;go_wp2;rw [← HW.out];refine mA (by kernel_rfl) (by kernel_rfl) ?_
    repeat (first | go_big_quiet_skip | (go_big_quiet_want;go_big_quiet_op;first | go_big_quiet_on | (apply Exists.intro;refine ⟨fun _=>?_,?_⟩;(· (((first | (go_at_call 78;exact GA (hcc _))))));go_big_quiet_on)))
    refine wpQuiet_nil ?_;rintro ⟨wq,hbq⟩;dsimp only at *;have hbw:=hbA.then hbq;have hv1:=(aA (B:=w.heap.size)).bw hbq hbA.size hvA;clear hvA hcc s0 s1 s2 s3 kx1 kx0;go_wp2
    go_roundg (n-(k+1))
    case measure=>omega
    case rel=>exact ⟨k+1,F,by omega,rfl,by go_num,by rw [HB2.out];exact hv1,hF,hbw⟩
  ·obtain rfl:k=n:=by omega
   rw [XL (by rw [← L.out];exact Nat.le_refl _)] at hv;go_wp2;go_ret;exact ⟨_,rfl,⟨F,hv,hF⟩,hb⟩
set_option maxRecDepth 100000 in
set_option maxHeartbeats 1600000 in
theorem rV (w:World) (l:List gA) (e:List kA) (id code:Int) (v u:Value) (h:Rd MA w l [v]) (h':Rd RA w e [u]) (hno:qB l e id=false) :
  Calls Tryz.prog 169 #[v,u,.int .i64 id,.int .i64 code] w (BC w (pF ZA w.heap.size [])):=by
 have hv0:=PA (e:=3) (sz:=1) (R:=RG) w;have A0:Bw w (w.alloc (.cells #[] 3)):=(Bw.refl w).alloc _;have hcall:=fun W (B:Bw w W)=>QC W l id _ (h.bw jA B)
 have HNO:=Lib.hid (sR hno);obtain ⟨K,hK⟩:∃K,K=UA l id:=⟨_,rfl⟩;rw [← hK] at hcall HNO;clear hno hK;go_enter Tryz.func169,Tryz.ntmps169;go_wp2_with fail;refine (hcall _ A0).mono ?_;rintro e w1 ⟨rfl,hb1⟩;have B1:=A0.then hb1;go_wp2_with fail;refine (JD _ l e _ _ (h.bw jA B1) (h'.bw lA B1)).mono ?_;rintro e w2 ⟨rfl,hb2⟩;have B2:=B1.then hb2;have hv2:=(aA (B:=w.heap.size)).bw (hb1.then hb2) A0.size hv0;clear hcall hv0;rcases Bool.eq_false_or_eq_true (dB l e) with e1 | e1
 ·have k1:=HNO.out e1;rw [e1];clear e1;go_wp2;go_ret;exact ⟨_,rfl,⟨_,hv2,⟨by simp,by simp⟩⟩,B2⟩
 ·rw [e1];clear e1 HNO;go_wp2;go_ret;exact ⟨_,rfl,⟨_,hv2,⟨by simp,by simp⟩⟩,B2⟩
theorem jU (w:World) (l:List gA) (e:List kA) (id code:Int) (v u:Value) (h:Rd MA w l [v]) (h':Rd RA w e [u]) :
  Calls Tryz.prog 169 #[v,u,.int .i64 id,.int .i64 code] w (BC w (pF ZA w.heap.size (tD l e id code))):=by
 rcases eH l e id with hc | ⟨hB,j,p,hf,hp,_⟩
 ·rw [bAl hc];exact rV w l e id code v u h h' hc
 ·rw [rR hB hf hp];exact lT w l e id code v u h h' hB j p hf hp
set_option maxHeartbeats 400000 in
theorem fH (w:World) (l:List gA) (e:List kA) (id:Int) (v u:Value) (h:Rd MA w l [v]) (h':Rd RA w e [u]) :
  Calls Tryz.prog 105 #[v,u,.int .i64 id] w (BC w (pF ZA w.heap.size (tD l e id 1))):=by
 go_enter Tryz.func105,Tryz.ntmps105;go_wp2_with fail;refine (jU _ l e id 1 _ _ h h').mono ?_;rintro e w1 ⟨v1,rfl,⟨F1,o1,f1⟩,hb1⟩;go_wp2;go_ret;exact ⟨_,rfl,⟨F1,o1,f1⟩,hb1⟩
set_option maxHeartbeats 400000 in
theorem nX (w:World) (l:List gA) (e:List kA) (id:Int) (v u:Value) (h:Rd MA w l [v]) (h':Rd RA w e [u]) :
  Calls Tryz.prog 241 #[v,u,.int .i64 id] w (Ret w (.bool ((BA l e).contains id))):=by
 go_enter Tryz.func241,Tryz.ntmps241;go_wp2_with fail;refine (IG _ l e _ _ h h').mono ?_;rintro e w1 ⟨v1,rfl,⟨F1,o1,f1⟩,hb1⟩;go_wp2_with fail;refine (CD _ (BA l e) id _ (AA o1)).mono ?_;rintro e w2 ⟨rfl,hb2⟩;go_wp2;go_ret;exact Ret.bool (by simp) (hb1.then hb2)
set_option maxRecDepth 100000 in
set_option maxHeartbeats 3200000 in
theorem WM (w:World) (l:List gA) (e:List kA) (id:Int) (v u:Value) (h:Rd MA w l [v]) (h':Rd RA w e [u]) (hB:dB l e=true) (j:Nat) (p:gA) (hf:UA l id=(j:Int)) (hp:l[j]? = some p) :
  Calls Tryz.prog 243 #[v,u,.int .i64 id] w (BC w (pF ZA w.heap.size (jG (aI e p 1) l))):=by
 obtain ⟨i0,hi,hz0,hz1,hz2⟩:=info_parts PC;obtain ⟨A,n,c,rfl,L0,Lc,Lm⟩:=iA h;unfold maxLen at Lm;have L:=Lib.hid L0;clear L0;have HB:=Lib.hid hB;have HP:=Lib.hid (NA (sA hB) (List.mem_of_getElem? hp));have n16:n≤16:=by rw [L.out];exact VA (sA hB)
 have hjn:j<n:=by rw [L.out];exact (List.getElem?_eq_some_iff.1 hp).1
 obtain ⟨ba,oa,Ap,cp,rfl,_,hc0,hc1,hin⟩:=mB h hp;rw [YA HP.out] at hc1 hin;have j1:(0:Int)≤(j:Int):=by omega
 have j2:(j:Int)<(n:Int):=by omega
 have j3:¬((j:Int)<0):=by omega
 have hv0:=PA (e:=3) (sz:=1) (R:=RG) w;have A0:Bw w (w.alloc (.cells #[] 3)):=(Bw.refl w).alloc _;have hcall:=fun W (B:Bw w W)=>vG W l id _ (h.bw jA B)
 rw [hf] at hcall;have HH:=Lib.hid h;clear hB hp hf h;go_enter Tryz.func243,Tryz.ntmps243;go_wp2_with fail;refine (hcall _ A0).mono ?_;rintro e w1 ⟨rfl,hb1⟩;have B1:=A0.then hb1;have hv2:=(aA (B:=w.heap.size)).bw hb1 A0.size hv0;clear hcall hv0 hb1 A0;go_wp2
 go_loopg [7,9] n (fun g s i w'=>∃(k:Nat) (F:List Nat),k≤n∧g=n-k∧i=.int .i64 k∧ZA w' (UF (aI e p 1) l k) [s] F∧pA w.heap.size F∧Bw w w')
 case atStart=>exact ⟨0,_,by omega,rfl,rfl,hv2,⟨by simp,by simp⟩,B1⟩
 case round=>
  clear hv2 B1;obtain ⟨k,F,hk,rfl,rfl,hv,hF,hb0⟩:=hrel;by_cases hlt:k<n
  ·go_wp2_with fail;refine (NJ _ l e _ _ (HH.out.bw jA hb0) (h'.bw lA hb0)).mono ?_;rintro e wo ⟨rfl,hbo⟩;rw [HB.out];have hb:=hb0.then hbo;obtain ⟨x,hx⟩:=rA (xs:=l) (k:=k) (by have:=L.out;omega);obtain ⟨b2,o2,Ax,cx,eA,_,hd0,hd1,hin2⟩:=mB HH.out hx;injection eA with eA;injection eA with eA1 eA2;subst eA1 eA2;have HPx:=Lib.hid (NA (sA HB.out) (List.mem_of_getElem? hx));have hlen:=YA HPx.out;rw [hlen] at hd1 hin2;have i1:(0:Int)≤(k:Int):=by omega
   have i2:(k:Int)<(n:Int):=by omega
   replace hd0:=hb.cell hd0;replace hd1:=hb.cell hd1;have HYES:=Lib.hid (fun hf=>WL (f:=aI e p 1) hx hf);have HNO:=Lib.hid (fun hf=>UN (f:=aI e p 1) hx hf);have hd2:=hb.cell hc0;have hd3:=hb.cell hc1;have s0:=qA hd0;have s1:=qA hd1;have s2:=qA hd2;have s3:=qA hd3;have hcc:∀s:GC wo,Calls Tryz.prog 85 #[u,.agg #[.int .i64 x.id,.slice Ax 3 cx],.agg #[.int .i64 p.id,.slice Ap 3 cp]] s.1 (Ret s.1 (.int .i64 (CC e x p))):=fun s=>cL _ e x p _ _ _ (h'.bw lA (hb.then s.bw)) (Rd.bw dA hin2 (hb.then s.bw)) (Rd.bw dA hin (hb.then s.bw)) (iC HB.out) HPx.out HP.out
   have hvA:=(aA (B:=w.heap.size)).bw hbo hb0.size hv;obtain ⟨r,hr⟩:∃r,r=CC e x p:=⟨_,rfl⟩;have HR:=Lib.hid (show aI e p 1 x=decide (r=1) by rw [hr];rfl);rw [← hr] at hcc;clear hx hlen hv hr hd2 hd3;by_cases hr1:r=1
   ·have e1:(r==1)=true:=by simpa using hr1
    have HB2:=Lib.hid (HYES.out (by rw [HR.out];simpa using hr1));clear hr1 HYES HNO HR;go_wp2;refine mA (by kernel_rfl) (by kernel_rfl) ?_
    repeat (first | go_big_quiet_skip | (go_big_quiet_want;go_big_quiet_op;first | go_big_quiet_on | (apply Exists.intro;refine ⟨fun _=>?_,?_⟩;(· (((first | (go_at_call 85;exact GA (hcc _))))));go_big_quiet_on)))
    refine wpQuiet_nil ?_;rintro ⟨wq,hbq⟩;dsimp only at *;have hbw:=hb.then hbq;replace hd0:=hbq.cell hd0;have HBL:=Lib.hid (YL (f:=aI e p 1) (l:=l) (k:=k));have hv1:=(aA (B:=w.heap.size)).bw hbq hb.size hvA;have hFm:=(aA (B:=0)).lt hv1;have hvW:=(aA (B:=w.heap.size)).bw ((Bw.refl wq).alloc (.cells #[.int .i64 x.id] 3)) hbw.size hv1;have hbW:=hbw.alloc (.cells #[.int .i64 x.id] 3);have hcl:=cell_one_new wq (.int .i64 x.id) 3;have hbs:=hbw.size;clear hv1 hvA hcc s0 s1 s2 s3 hd1;go_wp2_with (at_builtin;refine rB _ rfl (.tmp 40) (.tmp 46) 26 rfl w 3 i0 _ 1 8 Tryz.underlying26 hi hz0 hz1 hz2 rfl (by omega) nB _ (UF (aI e p 1) l k) F rfl hvW hF ⟨wq.heap.size,0,none⟩ 1 rfl x.id [.int .i64 x.id] [] hcl ⟨rfl,rfl⟩ rfl _ hFm pA.nil hbs (by have:=HBL.out;omega) (by have:=HBL.out;omega) hbW ?_;intro v' w' F' hv' hF' hb')
    go_roundg (n-(k+1))
    case measure=>omega
    case rel=>exact ⟨k+1,F',by omega,rfl,by go_num,by rw [HB2.out];exact hv',hF',hb'⟩
   ·have e1:(r==1)=false:=by simpa using hr1
    have HB2:=Lib.hid (HNO.out (by rw [HR.out];simpa using hr1));clear hr1 HYES HNO HR;go_wp2;refine mA (by kernel_rfl) (by kernel_rfl) ?_
    repeat (first | go_big_quiet_skip | (go_big_quiet_want;go_big_quiet_op;first | go_big_quiet_on | (apply Exists.intro;refine ⟨fun _=>?_,?_⟩;(· (((first | (go_at_call 85;exact GA (hcc _))))));go_big_quiet_on)))
    refine wpQuiet_nil ?_;rintro ⟨wq,hbq⟩;dsimp only at *;have hbw:=hb.then hbq;have hv1:=(aA (B:=w.heap.size)).bw hbq hb.size hvA;clear hvA hcc s0 s1 s2 s3 hd1 hd0;go_wp2
    go_roundg (n-(k+1))
    case measure=>omega
    case rel=>exact ⟨k+1,F,by omega,rfl,by go_num,by rw [HB2.out];exact hv1,hF,hbw⟩
  ·obtain rfl:k=n:=by omega
   rw [XL (by rw [← L.out];exact Nat.le_refl _)] at hv;go_wp2;go_ret;exact ⟨_,rfl,⟨F,hv,hF⟩,hb0⟩
set_option maxRecDepth 100000 in
set_option maxHeartbeats 1600000 in
theorem WN (w:World) (l:List gA) (e:List kA) (id:Int) (v u:Value) (h:Rd MA w l [v]) (h':Rd RA w e [u]) (hno:qB l e id=false) :
  Calls Tryz.prog 243 #[v,u,.int .i64 id] w (BC w (pF ZA w.heap.size [])):=by
 obtain ⟨A,n,c,rfl,L0,Lc,Lm⟩:=iA h;unfold maxLen at Lm;have L:=Lib.hid L0;clear L0;have hv0:=PA (e:=3) (sz:=1) (R:=RG) w;have A0:Bw w (w.alloc (.cells #[] 3)):=(Bw.refl w).alloc _;have hcall:=fun W (B:Bw w W)=>vG W l id _ (h.bw jA B)
 have HNO:=Lib.hid (sR hno);obtain ⟨K,hK⟩:∃K,K=UA l id:=⟨_,rfl⟩;rw [← hK] at hcall HNO;clear hno hK;go_enter Tryz.func243,Tryz.ntmps243;go_wp2_with fail;refine (hcall _ A0).mono ?_;rintro e w1 ⟨rfl,hb1⟩;have B1:=A0.then hb1;have hv2:=(aA (B:=w.heap.size)).bw hb1 A0.size hv0;clear hcall hv0;have HH:=Lib.hid h;go_wp2
 go_loopg [7,9] 0 (fun g s i w'=>g=0∧i=.int .i64 0∧ZA w' [] [s] [w.heap.size]∧Bw w w')
 case atStart=>exact ⟨rfl,rfl,hv2,B1⟩
 case round=>
  clear hv2 B1 h;obtain ⟨rfl,rfl,hv,hb⟩:=hrel;have h:=HH.out;by_cases h0:0<n
  ·have k0:(0:Int)<(n:Int):=by omega
   by_cases hK:K<0
   ·have k1:¬(0≤K):=by omega
    clear hK;go_wp2;go_ret;exact ⟨_,rfl,⟨_,hv,⟨by simp,by simp⟩⟩,hb⟩
   ·have k1:0≤K:=by omega
    clear hK;have hE:Hid (dB l e=false):=by
     rcases Bool.eq_false_or_eq_true (dB l e) with h1 | h1
     ·have:=HNO.out h1;omega
     ·exact Lib.hid h1
    go_wp2_with fail;refine (NJ _ l e _ _ (HH.out.bw jA hb) (h'.bw lA hb)).mono ?_;rintro e w2 ⟨rfl,hb2⟩;rw [hE.out];have hv1:=(aA (B:=w.heap.size)).bw hb2 hb.size hv;have B2:=hb.then hb2;go_wp2;go_ret;exact ⟨_,rfl,⟨_,hv1,⟨by simp,by simp⟩⟩,B2⟩
  ·obtain rfl:n=0:=by omega
   go_wp2;go_ret;exact ⟨_,rfl,⟨_,hv,⟨by simp,by simp⟩⟩,hb⟩
theorem tR (w:World) (l:List gA) (e:List kA) (id:Int) (v u:Value) (h:Rd MA w l [v]) (h':Rd RA w e [u]) :
  Calls Tryz.prog 243 #[v,u,.int .i64 id] w (BC w (pF ZA w.heap.size (tD l e id 1))):=by
 rcases eH l e id with hc | ⟨hB,j,p,hf,hp,_⟩
 ·rw [bAl hc];exact WN w l e id v u h h' hc
 ·rw [rR hB hf hp];exact WM w l e id v u h h' hB j p hf hp
end Go.Proofs.YtpihighajaeabaaGreat
