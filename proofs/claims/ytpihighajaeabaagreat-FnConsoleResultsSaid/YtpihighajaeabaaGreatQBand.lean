/- RankOf and SkybandOf in both programs. -/
import Derived.Test.YtpihighajaeabaaGreatQVoteA
import Derived.Test.YtpihighajaeabaaGreatQLines2
namespace Go.Proofs.YtpihighajaeabaaGreat
open Go.RowKit
set_option linter.unusedVariables false
set_option linter.unusedSimpArgs false
theorem QV {α:Type} {f:α→Bool} {l:List α} {k:Nat} {x:α} (hx:l[k]? = some x):(l.take (k+1)).all f=((l.take k).all f && f x):=by
 rw [List.take_add_one,hx,List.all_append];simp
theorem dA0 {l:List gA} {g:List (List kA)} {x:gA} (hP:sC l g=true) (h:l.find? (fun x=>l.all (OE l g x))=some x):pG l g=x.id:=by rw [pG,if_pos hP,h]
theorem aAe {l:List gA} {g:List (List kA)} (hP:sC l g=true) (h:l.find? (fun x=>l.all (OE l g x))=none):pG l g = -1:=by rw [pG,if_pos hP,h]
set_option maxRecDepth 100000 in
set_option maxHeartbeats 6400000 in
theorem lO (w:World) (l:List gA) (g:List (List kA)) (v u:Value) (h:Rd MA w l [v]) (h':Rd dD w g [u]) (hP:sC l g=true):Calls Tryz.prog 189 #[v,u] w (Ret w (.int .i64 (pG l g))):=by
 have hcall0:=qE w l g _ _ h h';rw [hP] at hcall0;have HV:=Lib.hid (fun W (B:Bw w W) (a b:Int)=>aAd W l g a b _ _ (h.bw jA B) (h'.bw dC B));obtain ⟨A,n,c,rfl,L0,Lc,Lm⟩:=iA h;unfold maxLen at Lm;have L:=Lib.hid L0;clear L0;obtain ⟨A2,n2,c2,rfl,L20,L2c,L2m⟩:=iA h';unfold maxLen at L2m;have L2:=Lib.hid L20;clear L20;obtain ⟨Y,hY⟩:∃Y,Y=pG l g:=⟨_,rfl⟩;rw [← hY];have HY:=Lib.hid hY;have HP:=Lib.hid hP;clear hY hP h';go_enter Tryz.func189,Tryz.ntmps189;go_wp2_with fail;refine (hcall0).mono ?_;rintro e w1 ⟨rfl,hb1⟩;clear hcall0;go_wp2
 go_loopg [16] n (fun gh i w'=>∃k:Nat,k≤n∧gh=n-k∧i=.int .i64 k∧Hid ((l.take k).find? (fun x=>l.all (OE l g x))=none)∧Bw w w')
 case atStart=>exact ⟨0,by omega,rfl,rfl,Lib.hid rfl,hb1⟩
 case round=>
  obtain ⟨k,hk,rfl,rfl,HE,hb⟩:=hrel;by_cases hlt:k<n
  ·obtain ⟨x,hx⟩:=rA (xs:=l) (k:=k) (by have:=L.out;omega);obtain ⟨ba,oa,Ax,cx,rfl,_,c0,c1,hix⟩:=mB h hx;replace c0:=hb.cell c0;replace c1:=hb.cell c1;have i1:(0:Int)≤(k:Int):=by omega
   have i2:(k:Int)<(n:Int):=by omega
   have HXX:=Lib.hid hx;have HH:=Lib.hid h;obtain ⟨M,hM⟩:∃M,M=x.vals.length:=⟨_,rfl⟩;rw [← hM] at c1;have A1:=(Bw.refl wr).alloc (.cells #[.int .i64 x.id,.slice Ax M cx] 30);have p0:(wr.alloc (.cells #[.int .i64 x.id,.slice Ax M cx] 30)).cell? ⟨wr.heap.size,0,none⟩=some (.int .i64 x.id):=by go_simp
   obtain ⟨W1,hW1⟩:∃W1,W1=wr.alloc (.cells #[.int .i64 x.id,.slice Ax M cx] 30):=⟨_,rfl⟩;rw [← hW1] at A1 p0;have HW1:=Lib.hid hW1;clear hx hix hM hW1 h;go_wp2;rw [← HW1.out]
   go_loopg [7,22] n (fun gh s i w'=>∃(j:Nat) (q:Bool),j≤n∧gh=n-j∧i=.int .i64 j∧s=.bool q∧Hid (q=(l.take j).all (OE l g x))∧Bw W1 w')
   case atStart=>exact ⟨0,true,by omega,rfl,rfl,rfl,Lib.hid rfl,Bw.refl _⟩
   case round=>
    obtain ⟨j,q,hj,rfl,rfl,rfl,HQ,hbj⟩:=hrel;have hbw:=hb.then (A1.then hbj);replace p0:=hbj.cell p0;by_cases hlt2:j<n
    ·have h:=HH.out;obtain ⟨y,hy⟩:=rA (xs:=l) (k:=j) (by have:=L.out;omega);obtain ⟨b2,o2,Ay,cy,e,_,d0,d1,hiy⟩:=mB h hy;injection e with e;injection e with e1 e2;subst e1 e2;replace d0:=hbw.cell d0;replace d1:=hbw.cell d1;have i3:(0:Int)≤(j:Int):=by omega
     have i4:(j:Int)<(n:Int):=by omega
     have HS:=Lib.hid (QV (f:=OE l g x) hy);have HW:=Lib.hid (show OE l g x y=(decide (x.id=y.id) || decide (NE l g y.id x.id<NE l g x.id y.id)) from rfl);obtain ⟨M2,hM2⟩:∃M2,M2=y.vals.length:=⟨_,rfl⟩;rw [← hM2] at d1;have A2':=(Bw.refl wr).alloc (.cells #[.int .i64 y.id,.slice Ay M2 cy] 30);have r0:(wr.alloc (.cells #[.int .i64 y.id,.slice Ay M2 cy] 30)).cell? ⟨wr.heap.size,0,none⟩=some (.int .i64 y.id):=by go_simp
     have r1:=A2'.cell p0;have s0:=qA r0;have s1:=qA r1;have hbz:=hbw.then A2';have hbj2:=hbj.then A2';clear hy hiy hM2 h r0 r1
     cases q with
     | false=>
      have HX:=Lib.hid (show false=(l.take (j+1)).all (OE l g x) by rw [HS.out,← HQ.out];rfl);clear HQ HS HW;go_wp2_with fail;refine mA (by kernel_rfl) (by kernel_rfl) ?_
      repeat (first | go_big_quiet_skip | (go_big_quiet_want;go_big_quiet_op;first | go_big_quiet_on | (apply Exists.intro;refine ⟨fun _=>?_,?_⟩;(· ((fail)));go_big_quiet_on)))
      refine wpQuiet_nil ?_;rintro ⟨wq,hbq⟩;dsimp only at *;have hb2:=hbj2.then hbq;clear s0 s1;go_wp2
      go_roundg (n-(j+1))
      case measure=>omega
      case rel=>exact ⟨j+1,false,by omega,rfl,by go_num,rfl,HX,hb2⟩
     | true=>
      by_cases hid:x.id=y.id
      ·have e1:(x.id==y.id)=true:=by simpa using hid
       have HX:=Lib.hid (show true=(l.take (j+1)).all (OE l g x) by rw [HS.out,← HQ.out,HW.out,decide_eq_true hid];rfl);clear HQ HS HW hid;go_wp2_with fail;refine mA (by kernel_rfl) (by kernel_rfl) ?_
       repeat (first | go_big_quiet_skip | (go_big_quiet_want;go_big_quiet_op;first | go_big_quiet_on | (apply Exists.intro;refine ⟨fun _=>?_,?_⟩;(· ((fail)));go_big_quiet_on)))
       refine wpQuiet_nil ?_;rintro ⟨wq,hbq⟩;dsimp only at *;have hb2:=hbj2.then hbq;clear s0 s1;go_wp2
       go_roundg (n-(j+1))
       case measure=>omega
       case rel=>exact ⟨j+1,true,by omega,rfl,by go_num,rfl,HX,hb2⟩
      ·have e1:(x.id==y.id)=false:=by simpa using hid
       obtain ⟨ix,hix⟩:∃ix,ix=x.id:=⟨_,rfl⟩;obtain ⟨iy,hiy⟩:∃iy,iy=y.id:=⟨_,rfl⟩;have k1:∀s:GC (wr.alloc (.cells #[.int .i64 y.id,.slice Ay M2 cy] 30)),Calls Tryz.prog 240 _ s.1 (Ret s.1 (.int .i64 (NE l g x.id y.id))):=fun s=>HV.out s.1 (hbz.then s.bw) x.id y.id
       have k2:∀s:GC (wr.alloc (.cells #[.int .i64 y.id,.slice Ay M2 cy] 30)),Calls Tryz.prog 240 _ s.1 (Ret s.1 (.int .i64 (NE l g y.id x.id))):=fun s=>HV.out s.1 (hbz.then s.bw) y.id x.id
       obtain ⟨a1,ha1⟩:∃a1,a1=NE l g x.id y.id:=⟨_,rfl⟩;obtain ⟨a2,ha2⟩:∃a2,a2=NE l g y.id x.id:=⟨_,rfl⟩;rw [← ha1] at k1;rw [← ha2] at k2;have HX:=Lib.hid (show decide (a2<a1)=(l.take (j+1)).all (OE l g x) by rw [HS.out,← HQ.out,HW.out,decide_eq_false hid,ha1,ha2];simp);clear HQ HS HW hid ha1 ha2 hix hiy;go_wp2_with fail;refine mA (by kernel_rfl) (by kernel_rfl) ?_
       repeat (first | go_big_quiet_skip | (go_big_quiet_want;go_big_quiet_op;first | go_big_quiet_on | (apply Exists.intro;refine ⟨fun _=>?_,?_⟩;(· (((first | (go_at_call 240;first | with_reducible exact GA (k1 _) | with_reducible exact GA (k2 _))))));go_big_quiet_on)))
       refine wpQuiet_nil ?_;rintro ⟨wq,hbq⟩;dsimp only at *;have hb2:=hbj2.then hbq;clear s0 s1 k1 k2;go_wp2
       go_roundg (n-(j+1))
       case measure=>omega
       case rel=>exact ⟨j+1,decide (a2<a1),by omega,rfl,by go_num,by first | rfl | simp,HX,hb2⟩
    ·obtain rfl:j=n:=by omega
     have HA:=Lib.hid (show q=l.all (OE l g x) by have:=HQ.out;rwa [List.take_of_length_le (by rw [← L.out];exact Nat.le_refl _)] at this);have h:=HH.out
     cases q with
     | true=>
      have HF:=Lib.hid (show Y=x.id by rw [HY.out];exact dA0 HP.out (FT HXX.out HA.out.symm HE.out));clear HQ HE;go_wp2;go_ret;exact Ret.int (HF.out.symm) (hbw)
     | false=>
      have HF:=Lib.hid ((PV (f:=fun x=>l.all (OE l g x)) HXX.out HA.out.symm).trans HE.out);clear HQ HE;go_wp2
      go_roundg (j-(k+1))
      case measure=>omega
      case rel=>exact ⟨k+1,by omega,rfl,by go_num,HF,hbw⟩
  ·obtain rfl:k=n:=by omega
   have HF:=Lib.hid (show Y = -1 by rw [HY.out];exact aAe HP.out (by have:=HE.out;rwa [List.take_of_length_le (by rw [← L.out];exact Nat.le_refl _)] at this));clear HE;go_wp2;go_ret;exact Ret.int (HF.out.symm) (hb)
set_option maxHeartbeats 400000 in
theorem IT (w:World) (l:List gA) (g:List (List kA)) (v u:Value) (h:Rd MA w l [v]) (h':Rd dD w g [u]):Calls Tryz.prog 189 #[v,u] w (Ret w (.int .i64 (pG l g))):=by
 rcases Bool.eq_false_or_eq_true (sC l g) with hP | hP
 ·exact lO w l g v u h h' hP
 ·have hcall0:=qE w l g _ _ h h';rw [hP] at hcall0;rw [show pG l g = -1 by rw [pG,hP];rfl];clear hP h h';go_enter Tryz.func189,Tryz.ntmps189;go_wp2_with fail;refine (hcall0).mono ?_;rintro e w1 ⟨rfl,hb1⟩;go_wp2;go_ret;exact Ret.int (rfl) (hb1)
end Go.Proofs.YtpihighajaeabaaGreat
namespace Go.Proofs.YtpihighajaeabaaGreat
open Go.RowKit
set_option linter.unusedVariables false
set_option linter.unusedSimpArgs false
set_option maxHeartbeats 400000 in
theorem IM (w:World) (l:List gA) (e:List kA) (id:Int) (v u:Value) (h:Rd MA w l [v]) (h':Rd RA w e [u]) :
  Calls Tryz.prog 121 #[v,u,.int .i64 id] w (BC w (pF ZA w.heap.size (tD l e id (-1)))):=by
 go_enter Tryz.func121,Tryz.ntmps121;go_wp2_with fail;refine (jU _ l e id (-1) _ _ h h').mono ?_;rintro e w1 ⟨v1,rfl,⟨F1,o1,f1⟩,hb1⟩;go_wp2;go_ret;exact ⟨_,rfl,⟨F1,o1,f1⟩,hb1⟩
theorem yU {x:Int} (h : -1000000≤x∧x≤1000000):IntKind.i64.wrap x=x:=by
 simp [IntKind.wrap,IntKind.bits,IntKind.signed];omega
theorem aAf (l:List gA) (x:gA) (hl:l.length≤16) (e:List kA) : -16≤((tD l e x.id (-1)).length:Int)-((tD l e x.id 1).length:Int)∧((tD l e x.id (-1)).length:Int)-((tD l e x.id 1).length:Int)≤16:=by
 have h1:=kG l e x.id (-1);have h2:=kG l e x.id 1;omega
set_option maxRecDepth 100000 in
set_option maxHeartbeats 6400000 in
theorem mO (w:World) (l:List gA) (g:List (List kA)) (v u:Value) (h:Rd MA w l [v]) (h':Rd dD w g [u]) (hP:sC l g=true):Calls Tryz.prog 190 #[v,u] w (BC w (pF ZA w.heap.size (l.map (rJ l g)))):=by
 obtain ⟨i0,hi,hz0,hz1,hz2⟩:=info_parts PC;have A0:Bw w (w.alloc (.cells #[] 3)):=(Bw.refl w).alloc _;have hv0:=PA (e:=3) (sz:=1) (R:=RG) w;have hcall0:=qE _ l g _ _ (h.bw jA A0) (h'.bw dC A0);rw [hP] at hcall0;obtain ⟨A,n,c,rfl,L0,Lc,Lm⟩:=iA h;unfold maxLen at Lm;have L:=Lib.hid L0;clear L0;obtain ⟨A2,n2,c2,rfl,L20,L2c,L2m⟩:=iA h';unfold maxLen at L2m;have L2:=Lib.hid L20;clear L20;have n16:n≤16:=by rw [L.out];exact VA (UD hP)
 have n5:n2≤5:=by rw [L2.out];exact (GJ (LH hP)).2
 have hl16:Hid (l.length≤16):=Lib.hid (by rw [← L.out];exact n16);have HIT:=Lib.hid (fun W (B:Bw w W)=>h.bw jA B);have HH:=Lib.hid h;have HH':=Lib.hid h';clear hP h h';go_enter Tryz.func190,Tryz.ntmps190;go_wp2_with fail;refine (hcall0).mono ?_;rintro e w1 ⟨rfl,hb1⟩;have B1:=A0.then hb1;have hv1:=(aA (B:=w.heap.size)).bw hb1 A0.size hv0;clear hcall0 hv0 hb1;go_wp2
 go_loopg [5,19] n (fun gh s i w'=>∃(k:Nat) (F:List Nat),k≤n∧gh=n-k∧i=.int .i64 k∧ZA w' (qL (rJ l g) l k) [s] F∧pA w.heap.size F∧Bw w w')
 case atStart=>exact ⟨0,_,by omega,rfl,rfl,hv1,⟨by simp,by simp⟩,B1⟩
 case round=>
  clear hv1 B1;obtain ⟨k,F,hk,rfl,rfl,hv,hF,hb⟩:=hrel
  rename World=>wo
  by_cases hlt:k<n
  ·have h:=HH.out;obtain ⟨x,hx⟩:=rA (xs:=l) (k:=k) (by have:=L.out;omega);obtain ⟨ba,oa,Ax,cx,rfl,_,c0,c1,hix⟩:=mB h hx;replace c0:=hb.cell c0;replace c1:=hb.cell c1;have i1:(0:Int)≤(k:Int):=by omega
   have i2:(k:Int)<(n:Int):=by omega
   have HMS:=Lib.hid (kS (f:=rJ l g) hx);obtain ⟨M,hM⟩:∃M,M=x.vals.length:=⟨_,rfl⟩;rw [← hM] at c1;have A1:=(Bw.refl wo).alloc (.cells #[.int .i64 x.id,.slice Ax M cx] 30);have p0:(wo.alloc (.cells #[.int .i64 x.id,.slice Ax M cx] 30)).cell? ⟨wo.heap.size,0,none⟩=some (.int .i64 x.id):=by go_simp
   obtain ⟨W1,hW1⟩:∃W1,W1=wo.alloc (.cells #[.int .i64 x.id,.slice Ax M cx] 30):=⟨_,rfl⟩;rw [← hW1] at A1 p0;have HW1:=Lib.hid hW1;have HE:=Lib.hid (VP (g:=g) (aAf l x hl16.out));have HBO:=Lib.hid (show rJ l g x=KK (fun e=>((tD l e x.id (-1)).length:Int)-((tD l e x.id 1).length:Int)) g g.length from rfl);have hv2:=(aA (B:=w.heap.size)).bw A1 hb.size hv;have HL:=Lib.hid (wU (rJ l g) l k);clear hx hix hM hW1 h hv;go_wp2;rw [← HW1.out]
   go_loopg [8,25] n2 (fun gh s i w'=>∃(j:Nat) (q:Int),j≤n2∧gh=n2-j∧i=.int .i64 j∧s=.int .i64 q∧Hid (q=KK (fun e=>((tD l e x.id (-1)).length:Int)-((tD l e x.id 1).length:Int)) g j)∧Bw W1 w')
   case atStart=>exact ⟨0,0,by omega,rfl,rfl,rfl,Lib.hid rfl,Bw.refl _⟩
   case round=>
    obtain ⟨j,q,hj,rfl,rfl,rfl,HQ,hbj⟩:=hrel;have hbw:=hb.then (A1.then hbj);replace p0:=hbj.cell p0;by_cases hlt2:j<n2
    ·have h':=HH'.out;obtain ⟨e,he⟩:=rA (xs:=g) (k:=j) (by have:=L2.out;omega);obtain ⟨b2,o2,Ae,ce,rfl,_,d0,hie⟩:=lK h' he;replace d0:=hbw.cell d0;have i3:(0:Int)≤(j:Int):=by omega
     have i4:(j:Int)<(n2:Int):=by omega
     have hq1:=HE.out j;rw [← HQ.out] at hq1;have hq2:=HE.out (j+1);have HS:=Lib.hid (aAa (f:=fun e=>((tD l e x.id (-1)).length:Int)-((tD l e x.id 1).length:Int)) he);have hr1:=kG l e x.id (-1);have hr2:=kG l e x.id 1;rw [← L.out] at hr1 hr2;have D1:Bw wr wr.drew:=(Bw.refl wr).drew;have t0:=D1.cell p0;have BD:=hbw.then D1;have K1:=Lib.hid (fun W (B:Bw wr.drew W)=>IM W l e x.id _ _ (HIT.out W (BD.then B)) (Rd.bw lA hie (BD.then B)));have K2:=Lib.hid (fun W (B:Bw wr.drew W)=>fH W l e x.id _ _ (HIT.out W (BD.then B)) (Rd.bw lA hie (BD.then B)));have hQ:=Bw.refl wr.drew;obtain ⟨ME,hME⟩:∃ME,ME=e.length:=⟨_,rfl⟩;rw [← hME] at d0 K1 K2;have HSS:=Lib.hid (show q+(((tD l e x.id (-1)).length:Int)-((tD l e x.id 1).length:Int))=KK (fun e=>((tD l e x.id (-1)).length:Int)-((tD l e x.id 1).length:Int)) g (j+1) by rw [HS.out,HQ.out]);clear he hie hME h' hq2;go_wp2_with fail
     go_region_held3 (fun w'=>w'.cell? ⟨wo.heap.size,0,none⟩=some (.int .i64 x.id)) (first | exact hQ.cell t0)
      (first
       | (go_at_call 121;refine (K1.out _ hQ).mono ?_;rintro e' w5 ⟨v5,rfl,⟨F5,o5,f5⟩,hb5⟩;obtain ⟨A5,c5,rfl,_⟩:=aB (AA o5);replace hQ:=hQ.then hb5;clear o5 f5 hb5)
       | (go_at_call 105;refine (K2.out _ hQ).mono ?_;rintro e' w6 ⟨v6,rfl,⟨F6,o6,f6⟩,hb6⟩;obtain ⟨A6,c6,rfl,_⟩:=aB (AA o6);replace hQ:=hQ.then hb6;clear o6 f6 hb6)
       | fail)
     all_goals
      have hb2:=hbj.then (D1.then hQ);have h':=HH'.out;obtain ⟨m1,hm1⟩:∃m1,m1=(tD l e x.id (-1)).length:=⟨_,rfl⟩;obtain ⟨m2,hm2⟩:∃m2,m2=(tD l e x.id 1).length:=⟨_,rfl⟩;have HS3:=HSS.out;rw [← hm1] at hr1 ⊢;rw [← hm2] at hr2 ⊢;rw [← hm1,← hm2] at HS3;have HS4:=Lib.hid HS3;clear hm1 hm2 HS3 hQ;go_wp2
      go_roundg (n2-(j+1))
      case measure=>omega
      case rel=>exact ⟨j+1,q+((m1:Int)-(m2:Int)),by omega,rfl,by go_num,by rw [yU (x:=q+(m1:Int)) (by omega),yU (by omega),Int.add_sub_assoc],HS4,hb2⟩
    ·obtain rfl:j=n2:=by omega
     have HF:=Lib.hid (show q=rJ l g x by rw [HBO.out,HQ.out,← L2.out]);clear HQ;have hv3:=(aA (B:=w.heap.size)).bw hbj (hb.then A1).size hv2;have hAl:=(Bw.refl wr).alloc (.cells #[.int .i64 q] 3);have hvW:=(aA (B:=w.heap.size)).bw hAl hbw.size hv3;have hFm:=(aA (B:=0)).lt hv3;have hbW:=hbw.then hAl;have hcl:=cell_one_new wr (.int .i64 q) 3;have hbs:=hbw.size;have h:=HH.out;clear hv2 hv3;go_wp2_with (at_builtin;refine rB _ rfl (.tmp 45) (.tmp 47) 26 rfl w 3 i0 _ 1 8 Tryz.underlying26 hi hz0 hz1 hz2 rfl (by omega) nB _ (qL (rJ l g) l k) F rfl hvW hF ⟨wr.heap.size,0,none⟩ 1 rfl q [.int .i64 q] [] hcl ⟨rfl,rfl⟩ rfl _ hFm pA.nil hbs (by have:=HL.out;omega) (by have:=HL.out;omega) hbW ?_;intro v' w' F' hv' hF' hb')
     go_roundg (n-(k+1))
     case measure=>omega
     case rel=>exact ⟨k+1,F',by omega,rfl,by go_num,by rw [HMS.out,← HF.out];exact hv',hF',hb'⟩
  ·obtain rfl:k=n:=by omega
   rw [xU (by rw [← L.out];exact Nat.le_refl _)] at hv;go_wp2;go_ret;exact ⟨_,rfl,⟨F,hv,hF⟩,hb⟩
end Go.Proofs.YtpihighajaeabaaGreat
namespace Go.Proofs.YtpihighajaeabaaGreat
open Go.RowKit
set_option linter.unusedVariables false
set_option linter.unusedSimpArgs false
def mY (l:List gA) (e:List kA) (id:Int):Int:=if qB l e id then ((tD l e id 1).length:Int) else -1
def CH (l:List gA) (e:List kA) (m:Int) (x:gA):Bool:=decide (mY l e x.id<m)
def UJ (l:List gA) (e:List kA) (m:Int):List Int:=if dB l e then jG (CH l e m) l else []
theorem zU (l:List gA) (e:List kA) (m:Int):(UJ l e m).length≤16:=by
 unfold UJ;split
 ·rename_i h;exact Nat.le_trans (YO _ _) (VA (sA h))
 ·simp
set_option maxHeartbeats 800000 in
theorem fAo (w:World) (l:List gA) (e:List kA) (id:Int) (v u:Value) (h:Rd MA w l [v]) (h':Rd RA w e [u]) :
  Calls Tryz.prog 122 #[v,u,.int .i64 id] w (Ret w (.int .i64 (mY l e id))):=by
 have k1:=JD w l e _ _ h h';have k2:=fun W (B:Bw w W)=>QC W l id _ (h.bw jA B)
 have k3:=fun W (B:Bw w W)=>fH W l e id _ _ (h.bw jA B) (h'.bw lA B)
 obtain ⟨Y,hY⟩:∃Y,Y=mY l e id:=⟨_,rfl⟩;rw [← hY];unfold mY qB at hY;by_cases hB:dB l e=true
 ·rw [hB] at k1 hY;obtain ⟨f,hf⟩:∃f,f=UA l id:=⟨_,rfl⟩;simp only [← hf] at k2 hY;by_cases h0:f<0
  ·have HY:=Lib.hid (show Y = -1 by rw [hY];simp;omega);clear hY hf hB k3;go_enter Tryz.func122,Tryz.ntmps122;go_wp2_with fail;refine k1.mono ?_;rintro e w1 ⟨rfl,hb1⟩;have hc:=k2 w1 hb1;go_wp2_with fail;refine hc.mono ?_;rintro e w2 ⟨rfl,hb2⟩;clear hc k1 k2;go_wp2;go_ret;exact Ret.int HY.out.symm (hb1.then hb2)
  ·have HY:=Lib.hid (show Y=((tD l e id 1).length:Int) by rw [hY];simp;omega);have i0:¬f<0:=h0;clear hY hf hB h0;go_enter Tryz.func122,Tryz.ntmps122;go_wp2_with fail;refine k1.mono ?_;rintro e w1 ⟨rfl,hb1⟩;have hc:=k2 w1 hb1;go_wp2_with fail;refine hc.mono ?_;rintro e w2 ⟨rfl,hb2⟩;have B2:=hb1.then hb2;have hd:=k3 w2 B2;clear hc k1 k2 k3;go_wp2_with fail;refine hd.mono ?_;rintro e w3 ⟨v3,rfl,⟨F3,o3,f3⟩,hb3⟩;have r3:=AA o3;obtain ⟨A,n,c,rfl,ln,_⟩:=iA r3;have LN:=Lib.hid ln;clear hd o3 f3 r3 ln;go_wp2;go_ret;exact Ret.int (by rw [HY.out,LN.out]) (B2.then hb3)
 ·have hB2:dB l e=false:=by simpa using hB
  rw [hB2] at k1 hY;have HY:=Lib.hid (show Y = -1 from hY);clear hY hB hB2 k2 k3;go_enter Tryz.func122,Tryz.ntmps122;go_wp2_with fail;refine k1.mono ?_;rintro e w1 ⟨rfl,hb1⟩;clear k1;go_wp2;go_ret;exact Ret.int HY.out.symm hb1
set_option maxRecDepth 100000 in
set_option maxHeartbeats 3200000 in
theorem nY (w:World) (l:List gA) (e:List kA) (m:Int) (v u:Value) (h:Rd MA w l [v]) (h':Rd RA w e [u]) :
  Calls Tryz.prog 39 #[v,u,.int .i64 m] w (BC w (pF ZA w.heap.size (UJ l e m))):=by
 obtain ⟨i0,hi,hz0,hz1,hz2⟩:=info_parts PC;have hv0:=PA (e:=3) (sz:=1) (R:=RG) w;have A0:Bw w (w.alloc (.cells #[] 3)):=(Bw.refl w).alloc _;have HH:=Lib.hid h;have k1:=JD _ l e _ _ (h.bw jA A0) (h'.bw lA A0);obtain ⟨Y,hY⟩:∃Y,Y=UJ l e m:=⟨_,rfl⟩;rw [← hY];unfold UJ at hY;obtain ⟨A,n,c,rfl,L0,Lc,Lm⟩:=iA h;unfold maxLen at Lm;have L:=Lib.hid L0;clear L0;by_cases hB:dB l e=true
 ·rw [hB] at k1;have HB:=Lib.hid hB;have HY:=Lib.hid (show Y=jG (CH l e m) l by rw [hY,if_pos hB]);have n16:n≤16:=by rw [L.out];exact VA (sA hB)
  clear hB hY h;go_enter Tryz.func39,Tryz.ntmps39;go_wp2_with fail;refine k1.mono ?_;rintro e w2 ⟨rfl,hb2⟩;have B2:=A0.then hb2;have hv2:=xA hb2 aA hv0;clear k1 hv0 hb2 A0;go_wp2
  go_loopg [7,18] n (fun g s i w'=>∃(k:Nat) (F:List Nat),k≤n∧g=n-k∧i=.int .i64 k∧ZA w' (UF (CH l e m) l k) [s] F∧pA w.heap.size F∧Bw w w')
  case atStart=>exact ⟨0,_,by omega,rfl,rfl,hv2,⟨by simp,by simp⟩,B2⟩
  case round=>
   clear hv2 B2;obtain ⟨k,F,hk,rfl,rfl,hv,hF,hb⟩:=hrel;by_cases hlt:k<n
   ·obtain ⟨x,hx⟩:=rA (xs:=l) (k:=k) (by have:=L.out;omega);obtain ⟨b2,o2,Ax,cx,rfl,_,hd0,hd1,hin2⟩:=mB HH.out hx;have HPx:=Lib.hid (NA (sA HB.out) (List.mem_of_getElem? hx));have hlen:=YA HPx.out;rw [hlen] at hd1 hin2;have i1:(0:Int)≤(k:Int):=by omega
    have i2:(k:Int)<(n:Int):=by omega
    replace hd0:=hb.cell hd0;replace hd1:=hb.cell hd1;have HYES:=Lib.hid (fun hf=>WL (f:=CH l e m) hx hf);have HNO:=Lib.hid (fun hf=>UN (f:=CH l e m) hx hf);have hA:=(Bw.refl wr).alloc (.cells #[.int .i64 x.id,.slice Ax 3 cx] 30);have bX:=Box.new wr #[.int .i64 x.id,.slice Ax 3 cx] 30;have hbA:=hb.then hA;have hc:=fAo (wr.alloc (.cells #[.int .i64 x.id,.slice Ax 3 cx] 30)) l e x.id _ _ (HH.out.bw jA hbA) (h'.bw lA hbA);obtain ⟨R,hR⟩:∃R,R=mY l e x.id:=⟨_,rfl⟩;rw [← hR] at hc;have HR:=Lib.hid hR;have hFm:=(aA (B:=0)).lt hv;have HID:=Lib.hid (YL (f:=CH l e m) (l:=l) (k:=k));have hbs:=hb.size;clear hR hx hin2;go_wp2_with fail;refine hc.mono ?_;rintro e w4 ⟨rfl,hb4⟩;have bX4:=bX.bw hb4;have hv4:=xA (hA.then hb4) aA hv;have hb04:=hbA.then hb4;clear hc bX hA hbA hv;by_cases hlm:R<m
    ·have HS:=Lib.hid (show UF (CH l e m) l (k+1)=UF (CH l e m) l k++[x.id] from HYES.out (by unfold CH;rw [← HR.out];exact decide_eq_true hlm));have hA4:=(Bw.refl w4).alloc (.cells #[.int .i64 x.id] 3);have hvW:=xA hA4 aA hv4;have hbW:=hb04.then hA4;have hcl:=cell_one_new w4 (.int .i64 x.id) 3;have b0:=bX4.c 0 _ rfl;have b1:=bX4.c 1 _ rfl;have bf:=bX4.fr;clear hv4 hA4 hb4;go_wp2_with (at_builtin;refine mC _ rfl (.tmp 29) (.tmp 32) 26 rfl w 3 i0 _ 1 8 Tryz.underlying26 hi hz0 hz1 hz2 rfl (by omega) nB _ (UF (CH l e m) l k) F rfl hvW hF ⟨w4.heap.size,0,none⟩ 1 rfl x.id [.int .i64 x.id] [] hcl ⟨rfl,rfl⟩ rfl wr.heap.size hFm pA.nil hbs (by have:=HID.out;omega) (by have:=HID.out;omega) hbW ?_;intro v' w' F' hv' hF' hb' hO' hs')
     go_roundg (n-(k+1))
     case measure=>omega
     case rel=>exact ⟨k+1,F',by omega,rfl,by go_num,by rw [HS.out];exact hv',hF',hb'⟩
    ·have HS:=Lib.hid (show UF (CH l e m) l (k+1)=UF (CH l e m) l k from HNO.out (by unfold CH;rw [← HR.out];exact decide_eq_false hlm));clear bX4;go_wp2
     go_roundg (n-(k+1))
     case measure=>omega
     case rel=>exact ⟨k+1,F,by omega,rfl,by go_num,by rw [HS.out];exact hv4,hF,hb04⟩
   ·obtain rfl:k=n:=by omega
    rw [XL (by rw [← L.out];exact Nat.le_refl _)] at hv;go_wp2;go_ret;exact ⟨_,rfl,⟨F,by rw [HY.out];exact hv,hF⟩,hb⟩
 ·have hB2:dB l e=false:=by simpa using hB
  rw [hB2] at k1;have HY:=Lib.hid (show Y=[] by rw [hY,if_neg hB]);clear hB hB2 hY h;go_enter Tryz.func39,Tryz.ntmps39;go_wp2_with fail;refine k1.mono ?_;rintro e w2 ⟨rfl,hb2⟩;have hv2:=xA hb2 aA hv0;clear k1;go_wp2;go_ret;exact ⟨_,rfl,⟨_,by rw [HY.out];exact hv2,⟨by simp,by simp⟩⟩,A0.then hb2⟩
end Go.Proofs.YtpihighajaeabaaGreat
