/- VoteLine: its walks. -/
import Derived.Test.YtpihighajaeabaaGreatXVoteC
import Derived.Test.YtpihighajaeabaaGreatXArePairsS
import Derived.Test.YtpihighajaeabaaGreatXLines3
import Derived.Test.YtpihighajaeabaaGreatXCodes
import Derived.Test.YtpihighajaeabaaGreatXIntss
namespace Go.Proofs.YtpihighajaeabaaGreat
open Go.RowKit Go.Proofs.Tryz
set_option linter.all false
set_option maxRecDepth 100000
set_option maxHeartbeats 16000000
theorem aU (w:World) (l:List iA) (e:List mA) (v u:Value) (h:Rd LA w l [v]) (h':Rd OA w e [u]):Calls prog 42 #[v,u] w (WB w (nE WA w.heap.size (eB l e))):=by
 go_enter func42,ntmps42;go_wp2_with fail;refine (EE _ l e _ _ h h').mono ?_;rintro e w2 ⟨rfl,bb⟩;rcases pA8 (kB l e) with e1 | e1
 ·have E:=pA6 e1;rw [e1];clear e1;go_wp2_with fail;refine (AK _ l e _ _ (h.bw gA bb) (h'.bw jA bb) (AA E.out) (yB E.out)).mono ?_;rintro e w3 ⟨v3,rfl,⟨F,o,f⟩,bd⟩;rw [show wD l e=eB l e by rw [eB,if_pos E.out]] at o;go_wp2;go_ret;exact ⟨_,rfl,⟨F,o,f.mono bb.size⟩,bb.then bd⟩
 ·have E:=pA6 e1;rw [e1];clear e1;have bc:=MA (e:=3) (sz:=1) (R:=IF) w2;rw [show ([]:List Int)=eB l e by rw [eB,E.out];rfl] at bc;have hz:=bb.size;go_wp2;go_ret;exact ⟨_,rfl,⟨_,bc,⟨by simp,by simpa using hz⟩⟩,bb.alloc _⟩
theorem lAq (w:World) (l:List iA) (e:List mA) (id:Int) (v u:Value) (h:Rd LA w l [v]) (h':Rd OA w e [u]) :
  Calls prog 244 #[v,u,.int .i64 id] w (Ret w (.bool ((eB l e).contains id))):=by
 go_enter func244,ntmps244;go_wp2_with fail;refine (aU _ l e _ _ h h').mono ?_;rintro e w1 ⟨v1,rfl,⟨F1,o1,f1⟩,bb⟩;go_wp2_with fail;refine (eM _ (eB l e) id _ (xA o1)).mono ?_;rintro e w2 ⟨rfl,bc⟩;go_wp2;go_ret;exact Ret.bool (by simp) (bb.then bc)
theorem GN (w:World) (l:List iA) (g:List (List mA)) (v u:Value) (h:Rd LA w l [v]) (h':Rd kC w g [u]) (hP:OB l g=true):Calls prog 191 #[v,u] w (WB w (nE WA w.heap.size (l.map (tF l g)))):=by
 obtain ⟨i0,hi,db,dc,dd⟩:=info_parts xC;have A0:Bw w (w.alloc (.cells #[] 3)):=(Bw.refl w).alloc _;have bx:=MA (e:=3) (sz:=1) (R:=IF) w;have bb:=PF _ l g _ _ (h.bw gA A0) (h'.bw xB A0);rw [hP] at bb;obtain ⟨A,n,c,rfl,L,Lc,Lm⟩:=yA h;obtain ⟨A2,n2,c2,rfl,L2,L2c,L2m⟩:=yA h';have df:n<=16:=by rw [L.out];exact VA (NC hP)
 have n5:n2<=5:=by rw [L2.out];exact (JG (kF hP)).2
 have hl16:Hid (l.length<=16):=pA6 (by rw [<-L.out];exact df);have cd:=pA6 (fun W (B:Bw w W)=>h.bw gA B);have HH:=pA6 h;have bp:=pA6 h';clear hP h h';go_enter func191,ntmps191;go_wp2_with fail;refine (bb).mono ?_;rintro e w1 ⟨rfl,bm⟩;have B1:=A0.then bm;have bz:=(aA (B:=w.heap.size)).bw bm A0.size bx;clear bb bx bm;go_wp2
 go_loopg [5,19] n (fun gh s i w'=>∃(k:Nat) (F:List Nat),k<=n/\gh=n-k/\i=.int .i64 k/\WA w' (NK (tF l g) l k) [s] F/\sA w.heap.size F/\Bw w w')
 ·exact ⟨0,_,by omega,rfl,rfl,bz,⟨by simp,by simp⟩,B1⟩
 ·clear bz B1;obtain ⟨k,F,hk,rfl,rfl,hv,hF,hb⟩:=hrel
  rename World=>wo
  by_cases hlt:k<n
  ·have h:=HH.out;obtain ⟨x,hx⟩:=tA (xs:=l) (k:=k) (by have:=L.out;omega);obtain ⟨ba,oa,Ax,cx,rfl,_,c0,c1,ct⟩:=qB h hx;replace c0:=hb.cell c0;replace c1:=hb.cell c1;have i1:(0:Int)<=(k:Int):=by omega
   have i2:(k:Int)<(n:Int):=by omega
   have cf:=pA6 (sM (f:=tF l g) hx);obtain ⟨M,hM⟩:=pA7 x.vals.length;rw [<-hM] at c1;have A1:=(Bw.refl wo).alloc (.cells #[.int .i64 x.id,.slice Ax M cx] 30);have p0:(wo.alloc (.cells #[.int .i64 x.id,.slice Ax M cx] 30)).cell? ⟨wo.heap.size,0,none⟩=some (.int .i64 x.id):=by go_simp
   obtain ⟨W1,bk⟩:=pA7 (wo.alloc (.cells #[.int .i64 x.id,.slice Ax M cx] 30));rw [<-bk] at A1 p0;have cg:=pA6 bk;have cc:=pA6 (show tF l g x=BH (fun e=>(eB l e).contains x.id) g g.length from rfl);have cb:=(aA (B:=w.heap.size)).bw A1 hb.size hv;have HL:=pA6 (sO (tF l g) l k);clear hx ct hM bk h hv;go_wp2;rw [<-cg.out]
   go_loopg [8,25] n2 (fun gh s i w'=>∃(j:Nat) (q:Int),j<=n2/\gh=n2-j/\i=.int .i64 j/\s=.int .i64 q/\0<=q/\q<=j/\Hid (q=BH (fun e=>(eB l e).contains x.id) g j)/\Bw W1 w')
   ·exact ⟨0,0,by omega,rfl,rfl,rfl,by omega,by omega,pA6 rfl,Bw.refl _⟩
   ·obtain ⟨j,q,hj,rfl,rfl,rfl,q0,q1,HQ,bg⟩:=hrel;have bf:=hb.then (A1.then bg);replace p0:=bg.cell p0;by_cases hlt2:j<n2
    ·have h':=bp.out;obtain ⟨e,he⟩:=tA (xs:=g) (k:=j) (by have:=L2.out;omega);obtain ⟨b2,o2,Ae,ce,rfl,_,d0,bv⟩:=YG h' he;replace d0:=bf.cell d0;have i3:(0:Int)<=(j:Int):=by omega
     have i4:(j:Int)<(n2:Int):=by omega
     have bd:=pA6 (fun hc=>rO (f:=fun e=>(eB l e).contains x.id) he hc);have bj:=pA6 (fun hc=>qR (f:=fun e=>(eB l e).contains x.id) he hc);have bc:=cAi wr l e x.id _ _ (cd.out wr bf) (Rd.bw jA bv bf);obtain ⟨ME,bs⟩:=pA7 e.length;rw [<-bs] at d0 bc;obtain ⟨r,hr⟩:=pA7 ((eB l e).contains x.id);rw [<-hr] at bc;have HR:=pA6 hr;clear he bv bs h' hr;go_wp2_with fail;refine (bc).mono ?_;rintro e w5 ⟨rfl,cn⟩;have bt:=bg.then cn;have h':=bp.out;clear bc
     cases r with
     | true=>
      have HX:=pA6 (show q+1=BH (fun e=>(eB l e).contains x.id) g (j+1) by rw [bd.out HR.out.symm,HQ.out]);clear HQ bd bj;go_wp2
      go_roundg (n2-(j+1))
      ·exact ⟨j+1,q+1,by omega,rfl,by go_num,by go_num,by omega,by omega,HX,bt⟩
      ·omega
     | false=>
      have HX:=pA6 (show q=BH (fun e=>(eB l e).contains x.id) g (j+1) by rw [bj.out HR.out.symm,HQ.out]);clear HQ bd bj;go_wp2
      go_roundg (n2-(j+1))
      ·exact ⟨j+1,q,by omega,rfl,by go_num,rfl,by omega,by omega,HX,bt⟩
      ·omega
    ·obtain rfl:j=n2:=by omega
     have HF:=pA6 (show q=tF l g x by rw [cc.out,HQ.out,<-L2.out]);clear HQ;have bn:=(aA (B:=w.heap.size)).bw bg (hb.then A1).size cb;have bq:=(Bw.refl wr).alloc (.cells #[.int .i64 q] 3);have cz:=(aA (B:=w.heap.size)).bw bq bf.size bn;have ck:=(aA (B:=0)).lt bn;have cp:=bf.then bq;have cs:=cell_one_new wr (.int .i64 q) 3;have cq:=bf.size;have h:=HH.out;clear cb bn;go_wp2_with (at_builtin;refine lB _ rfl (.tmp 37) (.tmp 39) 26 rfl w 3 i0 _ 1 8 underlying26 hi db dc dd rfl (by omega) YA _ (NK (tF l g) l k) F rfl cz hF ⟨wr.heap.size,0,none⟩ 1 rfl q [.int .i64 q] [] cs ⟨rfl,rfl⟩ rfl _ ck sA.nil cq (by have:=HL.out;omega) (by have:=HL.out;omega) cp ?_;intro v' w' F' cv cj cm)
     go_roundg (n-(k+1))
     ·exact ⟨k+1,F',by omega,rfl,by go_num,by rw [cf.out,<-HF.out];exact cv,cj,cm⟩
     ·omega
  ·obtain rfl:k=n:=by omega
   rw [tO (by rw [<-L.out];exact Nat.le_refl _)] at hv;go_wp2;go_ret;exact ⟨_,rfl,⟨F,hv,hF⟩,hb⟩
theorem CR (w:World) (l:List iA) (g:List (List mA)) (v u:Value) (h:Rd LA w l [v]) (h':Rd kC w g [u]) (hP:OB l g=true):Calls prog 194 #[v,u] w (WB w (nE WA w.heap.size (l.map (wG l g)))):=by
 obtain ⟨i0,hi,dn,dp,dq⟩:=info_parts xC;have A0:Bw w (w.alloc (.cells #[] 3)):=(Bw.refl w).alloc _;have cf:=MA (e:=3) (sz:=1) (R:=IF) w;have bb:=fun W (B:Bw w W)=>oF W l g _ _ (h.bw gA B) (h'.bw xB B)
 rw [hP] at bb;have HC:=pA6 bb;obtain ⟨A,n,c,rfl,L,Lc,Lm⟩:=yA h;obtain ⟨A2,n2,c2,rfl,L2,L2c,L2m⟩:=yA h';have ds:n<=16:=by rw [L.out];exact VA (NC hP)
 have n5:n2<=5:=by rw [L2.out];exact (JG (kF hP)).2
 have bm:Hid (l.length<=16):=pA6 (by rw [<-L.out];exact ds);have bt:=pA6 (fun W (B:Bw w W)=>h.bw gA B);have HH:=pA6 h;have bs:=pA6 h';clear hP h h';go_enter func194,ntmps194;have cg:=cf;have B1:=A0;clear bb cf;go_wp2
 go_loopg [5,6] n (fun gh s i w'=>∃(k:Nat) (F:List Nat),k<=n/\gh=n-k/\i=.int .i64 k/\WA w' (NK (wG l g) l k) [s] F/\sA w.heap.size F/\Bw w w')
 ·exact ⟨0,_,by omega,rfl,rfl,cg,⟨by simp,by simp⟩,B1⟩
 ·clear cg B1;obtain ⟨k,F,hk,rfl,rfl,hv,hF,hb⟩:=hrel
  rename World=>wo
  by_cases hlt:k<n
  ·have h:=HH.out;obtain ⟨x,hx⟩:=tA (xs:=l) (k:=k) (by have:=L.out;omega);obtain ⟨ba,oa,Ax,cx,rfl,_,c0,c1,dd⟩:=qB h hx;have i1:(0:Int)<=(k:Int):=by omega
   have i2:(k:Int)<(n:Int):=by omega
   have cm:=pA6 (sM (f:=wG l g) hx);have HE:=pA6 (EN (g:=g) (OW l x bm.out));have ck:=pA6 (show wG l g x=MK (fun e=>((xD l e x.id (-1)).length:Int)-((xD l e x.id 1).length:Int)) g g.length from rfl);have HL:=pA6 (sO (wG l g) l k);have bc:=HC.out wo hb;clear hx dd h c1;go_wp2_with fail;refine (bc).mono ?_;rintro e W1 ⟨rfl,bj⟩;clear bc;have cj:=(aA (B:=w.heap.size)).bw bj hb.size hv;replace hb:=hb.then bj;have p0:=hb.cell c0;clear hv bj;go_wp2
   go_loopg [7,8] n2 (fun gh s i w'=>∃(j:Nat) (q:Int),j<=n2/\gh=n2-j/\i=.int .i64 j/\s=.int .i64 q/\Hid (q=MK (fun e=>((xD l e x.id (-1)).length:Int)-((xD l e x.id 1).length:Int)) g j)/\Bw W1 w')
   ·exact ⟨0,0,by omega,rfl,rfl,rfl,pA6 rfl,Bw.refl _⟩
   ·obtain ⟨j,q,hj,rfl,rfl,rfl,HQ,bf⟩:=hrel;have bd:=hb.then bf;replace p0:=bf.cell p0;by_cases hlt2:j<n2
    ·have h':=bs.out;obtain ⟨e,he⟩:=tA (xs:=g) (k:=j) (by have:=L2.out;omega);obtain ⟨b2,o2,Ae,ce,rfl,_,d0,bk⟩:=YG h' he;replace d0:=bd.cell d0;have i3:(0:Int)<=(j:Int):=by omega
     have i4:(j:Int)<(n2:Int):=by omega
     have df:=HE.out j;rw [<-HQ.out] at df;have dj:=HE.out (j+1);have HS:=pA6 (KW (f:=fun e=>((xD l e x.id (-1)).length:Int)-((xD l e x.id 1).length:Int)) he);have cc:=fG l e x.id (-1);have cd:=fG l e x.id 1;rw [<-L.out] at cc cd;have D1:Bw wr wr.drew:=(Bw.refl wr).drew;have t0:=D1.cell p0;have t1:=D1.cell d0;have BD:=bd.then D1;have K1:=pA6 (fun W (B:Bw wr.drew W)=>BP W l e x.id _ _ (bt.out W (BD.then B)) (Rd.bw jA bk (BD.then B)));have K2:=pA6 (fun W (B:Bw wr.drew W)=>CK W l e x.id _ _ (bt.out W (BD.then B)) (Rd.bw jA bk (BD.then B)));have hQ:=Bw.refl wr.drew;obtain ⟨ME,bx⟩:=pA7 e.length;rw [<-bx] at d0 t1 K1 K2;have cp:=pA6 (show q+(((xD l e x.id (-1)).length:Int)-((xD l e x.id 1).length:Int))=MK (fun e=>((xD l e x.id (-1)).length:Int)-((xD l e x.id 1).length:Int)) g (j+1) by rw [HS.out,HQ.out]);clear he bk bx h' dj;go_wp2_with fail
     go_region_held3 (fun w'=>w'.cell? ⟨ba,oa+k*2,none⟩=some (.int .i64 x.id)/\w'.cell? ⟨b2,o2+j,none⟩=some (.slice Ae ME ce)) (first | exact ⟨hQ.cell t0,hQ.cell t1⟩)
      (first
       | (go_at_call 242;refine (K1.out _ hQ).mono ?_;rintro e' w5 ⟨v5,rfl,⟨F5,o5,f5⟩,bz⟩;obtain ⟨A5,c5,rfl,_⟩:=XA (xA o5);replace hQ:=hQ.then bz;clear o5 f5 bz)
       | (go_at_call 243;refine (K2.out _ hQ).mono ?_;rintro e' w6 ⟨v6,rfl,⟨F6,o6,f6⟩,cb⟩;obtain ⟨A6,c6,rfl,_⟩:=XA (xA o6);replace hQ:=hQ.then cb;clear o6 f6 cb)
       | fail)
     all_goals
      have cv:=bf.then (D1.then hQ);have h':=bs.out;obtain ⟨m1,bn⟩:=pA7 ((xD l e x.id (-1)).length);obtain ⟨m2,bp⟩:=pA7 ((xD l e x.id 1).length);have bg:=cp.out;rw [<-bn] at cc ⊢;rw [<-bp] at cd ⊢;rw [<-bn,<-bp] at bg;have cn:=pA6 bg;clear bn bp bg hQ;go_wp2
      go_roundg (n2-(j+1))
      ·exact ⟨j+1,q+((m1:Int)-(m2:Int)),by omega,rfl,by go_num,by rw [xO (x:=q+(m1:Int)) (by omega),xO (by omega),Int.add_sub_assoc],cn,cv⟩
      ·omega
    ·obtain rfl:j=n2:=by omega
     have HF:=pA6 (show q=wG l g x by rw [ck.out,HQ.out,<-L2.out]);clear HQ;have bq:=(aA (B:=w.heap.size)).bw bf hb.size cj;have bv:=(Bw.refl wr).alloc (.cells #[.int .i64 q] 3);have dm:=(aA (B:=w.heap.size)).bw bv bd.size bq;have cs:=(aA (B:=0)).lt bq;have cz:=bd.then bv;have dc:=cell_one_new wr (.int .i64 q) 3;have db:=bd.size;have h:=HH.out;clear cj bq;go_wp2_with (at_builtin;refine lB _ rfl (.tmp 54) (.tmp 56) 26 rfl w 3 i0 _ 1 8 underlying26 hi dn dp dq rfl (by omega) YA _ (NK (wG l g) l k) F rfl dm hF ⟨wr.heap.size,0,none⟩ 1 rfl q [.int .i64 q] [] dc ⟨rfl,rfl⟩ rfl _ cs sA.nil db (by have:=HL.out;omega) (by have:=HL.out;omega) cz ?_;intro v' w' F' dk cq ct)
     go_roundg (n-(k+1))
     ·exact ⟨k+1,F',by omega,rfl,by go_num,by rw [cm.out,<-HF.out];exact dk,cq,ct⟩
     ·omega
  ·obtain rfl:k=n:=by omega
   rw [tO (by rw [<-L.out];exact Nat.le_refl _)] at hv;go_wp2;go_ret;exact ⟨_,rfl,⟨F,hv,hF⟩,hb⟩
theorem IN (w:World) (l:List iA) (g:List (List mA)) (v u:Value) (h:Rd LA w l [v]) (h':Rd kC w g [u]) (hP:OB l g=true):Calls prog 195 #[v,u] w (WB w (nE WA w.heap.size (l.map (tF l g)))):=by
 obtain ⟨i0,hi,cv,cz,db⟩:=info_parts xC;have A0:Bw w (w.alloc (.cells #[] 3)):=(Bw.refl w).alloc _;have bx:=MA (e:=3) (sz:=1) (R:=IF) w;have bc:=fun W (B:Bw w W)=>oF W l g _ _ (h.bw gA B) (h'.bw xB B)
 rw [hP] at bc;have HC:=pA6 bc;obtain ⟨A,n,c,rfl,L,Lc,Lm⟩:=yA h;obtain ⟨A2,n2,c2,rfl,L2,L2c,L2m⟩:=yA h';have dc:n<=16:=by rw [L.out];exact VA (NC hP)
 have n5:n2<=5:=by rw [L2.out];exact (JG (kF hP)).2
 have hl16:Hid (l.length<=16):=pA6 (by rw [<-L.out];exact dc);have cd:=pA6 (fun W (B:Bw w W)=>h.bw gA B);have HH:=pA6 h;have bk:=pA6 h';clear hP h h';go_enter func195,ntmps195;have bz:=bx;have B1:=A0;clear bc bx;go_wp2
 go_loopg [5,6] n (fun gh s i w'=>∃(k:Nat) (F:List Nat),k<=n/\gh=n-k/\i=.int .i64 k/\WA w' (NK (tF l g) l k) [s] F/\sA w.heap.size F/\Bw w w')
 ·exact ⟨0,_,by omega,rfl,rfl,bz,⟨by simp,by simp⟩,B1⟩
 ·clear bz B1;obtain ⟨k,F,hk,rfl,rfl,hv,hF,hb⟩:=hrel
  rename World=>wo
  by_cases hlt:k<n
  ·have h:=HH.out;obtain ⟨x,hx⟩:=tA (xs:=l) (k:=k) (by have:=L.out;omega);obtain ⟨ba,oa,Ax,cx,rfl,_,c0,c1,cq⟩:=qB h hx;have i1:(0:Int)<=(k:Int):=by omega
   have i2:(k:Int)<(n:Int):=by omega
   have cf:=pA6 (sM (f:=tF l g) hx);have cc:=pA6 (show tF l g x=BH (fun e=>(eB l e).contains x.id) g g.length from rfl);have HL:=pA6 (sO (tF l g) l k);have bd:=HC.out wo hb;clear hx cq h c1;go_wp2_with fail;refine (bd).mono ?_;rintro e W1 ⟨rfl,bp⟩;clear bd;have cb:=(aA (B:=w.heap.size)).bw bp hb.size hv;replace hb:=hb.then bp;have p0:=hb.cell c0;clear hv bp;go_wp2
   go_loopg [7,8] n2 (fun gh s i w'=>∃(j:Nat) (q:Int),j<=n2/\gh=n2-j/\i=.int .i64 j/\s=.int .i64 q/\0<=q/\q<=j/\Hid (q=BH (fun e=>(eB l e).contains x.id) g j)/\Bw W1 w')
   ·exact ⟨0,0,by omega,rfl,rfl,rfl,by omega,by omega,pA6 rfl,Bw.refl _⟩
   ·obtain ⟨j,q,hj,rfl,rfl,rfl,q0,q1,HQ,bj⟩:=hrel;have bg:=hb.then bj;replace p0:=bj.cell p0;by_cases hlt2:j<n2
    ·have h':=bk.out;obtain ⟨e,he⟩:=tA (xs:=g) (k:=j) (by have:=L2.out;omega);obtain ⟨b2,o2,Ae,ce,rfl,_,d0,bv⟩:=YG h' he;replace d0:=bg.cell d0;have i3:(0:Int)<=(j:Int):=by omega
     have i4:(j:Int)<(n2:Int):=by omega
     have bf:=pA6 (fun hc=>rO (f:=fun e=>(eB l e).contains x.id) he hc);have bm:=pA6 (fun hc=>qR (f:=fun e=>(eB l e).contains x.id) he hc);have s0:=pA p0;have bb:∀s:eC wr,Calls prog 244 _ s.1 (Ret s.1 (.bool ((eB l e).contains x.id))):=fun s=>lAq s.1 l e x.id _ _ (cd.out s.1 (bg.then s.bw)) (Rd.bw jA bv (bg.then s.bw))
     obtain ⟨ME,bt⟩:=pA7 e.length;rw [<-bt] at d0 bb;have s1:=pA d0;obtain ⟨r,hr⟩:=pA7 ((eB l e).contains x.id);rw [<-hr] at bb;have HR:=pA6 hr;clear he bv bt h' hr
     cases r with
     | true=>
      have HX:=pA6 (show q+1=BH (fun e=>(eB l e).contains x.id) g (j+1) by rw [bf.out HR.out.symm,HQ.out]);clear HQ bf bm;go_wp2_with fail;refine IA (by kernel_rfl) ?_
      repeat (first | go_big_quiet_skip | (go_big_quiet_want;go_big_quiet_op;first | go_big_quiet_on | (apply Exists.intro;refine ⟨fun _=>?_,?_⟩;(· (((first | (go_at_call 244;exact DA (bb _))))));go_big_quiet_on)))
      refine JA fun wq hbq=>?_
      try dsimp only at *
      have bn:=bj.then hbq;have h':=bk.out;clear bb s0 s1;go_wp2
      go_roundg (n2-(j+1))
      ·exact ⟨j+1,q+1,by omega,rfl,by go_num,by go_num,by omega,by omega,HX,bn⟩
      ·omega
     | false=>
      have HX:=pA6 (show q=BH (fun e=>(eB l e).contains x.id) g (j+1) by rw [bm.out HR.out.symm,HQ.out]);clear HQ bf bm;go_wp2_with fail;refine IA (by kernel_rfl) ?_
      repeat (first | go_big_quiet_skip | (go_big_quiet_want;go_big_quiet_op;first | go_big_quiet_on | (apply Exists.intro;refine ⟨fun _=>?_,?_⟩;(· (((first | (go_at_call 244;exact DA (bb _))))));go_big_quiet_on)))
      refine JA fun wq hbq=>?_
      try dsimp only at *
      have bn:=bj.then hbq;have h':=bk.out;clear bb s0 s1;go_wp2
      go_roundg (n2-(j+1))
      ·exact ⟨j+1,q,by omega,rfl,by go_num,rfl,by omega,by omega,HX,bn⟩
      ·omega
    ·obtain rfl:j=n2:=by omega
     have HF:=pA6 (show q=tF l g x by rw [cc.out,HQ.out,<-L2.out]);clear HQ;have bq:=(aA (B:=w.heap.size)).bw bj hb.size cb;have bs:=(Bw.refl wr).alloc (.cells #[.int .i64 q] 3);have ct:=(aA (B:=w.heap.size)).bw bs bg.size bq;have cj:=(aA (B:=0)).lt bq;have cm:=bg.then bs;have cp:=cell_one_new wr (.int .i64 q) 3;have cn:=bg.size;have h:=HH.out;clear cb bq;go_wp2_with (at_builtin;refine lB _ rfl (.tmp 40) (.tmp 42) 26 rfl w 3 i0 _ 1 8 underlying26 hi cv cz db rfl (by omega) YA _ (NK (tF l g) l k) F rfl ct hF ⟨wr.heap.size,0,none⟩ 1 rfl q [.int .i64 q] [] cp ⟨rfl,rfl⟩ rfl _ cj sA.nil cn (by have:=HL.out;omega) (by have:=HL.out;omega) cm ?_;intro v' w' F' cs cg ck)
     go_roundg (n-(k+1))
     ·exact ⟨k+1,F',by omega,rfl,by go_num,by rw [cf.out,<-HF.out];exact cs,cg,ck⟩
     ·omega
  ·obtain rfl:k=n:=by omega
   rw [tO (by rw [<-L.out];exact Nat.le_refl _)] at hv;go_wp2;go_ret;exact ⟨_,rfl,⟨F,hv,hF⟩,hb⟩
theorem iT (w:World) (l:List iA) (g:List (List mA)) (v u:Value) (h:Rd LA w l [v]) (h':Rd kC w g [u]) (hP:OB l g=false):Calls prog 190 #[v,u] w (WB w (nE WA w.heap.size [])):=by
 have A0:Bw w (w.alloc (.cells #[] 3)):=(Bw.refl w).alloc _;have bd:=MA (e:=3) (sz:=1) (R:=IF) w;have bb:=PF _ l g _ _ (h.bw gA A0) (h'.bw xB A0);rw [hP] at bb;clear hP h h';go_enter func190,ntmps190;go_wp2_with fail;refine (bb).mono ?_;rintro e w1 ⟨rfl,bc⟩;have bf:=(aA (B:=w.heap.size)).bw bc A0.size bd;clear bb bd;go_wp2;go_ret;exact ⟨_,rfl,⟨_,bf,⟨by simp,by simp⟩⟩,A0.then bc⟩
theorem WO (w:World) (l:List iA) (g:List (List mA)) (v u:Value) (h:Rd LA w l [v]) (h':Rd kC w g [u]) (hP:OB l g=false):Calls prog 191 #[v,u] w (WB w (nE WA w.heap.size [])):=by
 have A0:Bw w (w.alloc (.cells #[] 3)):=(Bw.refl w).alloc _;have bd:=MA (e:=3) (sz:=1) (R:=IF) w;have bb:=PF _ l g _ _ (h.bw gA A0) (h'.bw xB A0);rw [hP] at bb;clear hP h h';go_enter func191,ntmps191;go_wp2_with fail;refine (bb).mono ?_;rintro e w1 ⟨rfl,bc⟩;have bf:=(aA (B:=w.heap.size)).bw bc A0.size bd;clear bb bd;go_wp2;go_ret;exact ⟨_,rfl,⟨_,bf,⟨by simp,by simp⟩⟩,A0.then bc⟩
theorem jT (w:World) (l:List iA) (g:List (List mA)) (v u:Value) (h:Rd LA w l [v]) (h':Rd kC w g [u]) (hP:OB l g=false):Calls prog 194 #[v,u] w (WB w (nE WA w.heap.size [])):=by
 have A0:Bw w (w.alloc (.cells #[] 3)):=(Bw.refl w).alloc _;have bc:=MA (e:=3) (sz:=1) (R:=IF) w;have bb:=fun W (B:Bw w W)=>oF W l g _ _ (h.bw gA B) (h'.bw xB B)
 rw [hP] at bb;have HC:=pA6 bb;obtain ⟨A,n,c,rfl,L,Lc,Lm⟩:=yA h;clear hP h h' bb;by_cases hn:n=0
 ·subst hn;go_enter func194,ntmps194;go_wp2
  go_loopg [5,6] 0 (fun gh s i w'=>gh=0/\i=.int .i64 0/\WA w' [] [s] [w.heap.size]/\Bw w w')
  ·exact ⟨rfl,rfl,bc,A0⟩
  ·clear bc A0;obtain ⟨rfl,rfl,hv,hb⟩:=hrel;go_wp2;go_ret;exact ⟨_,rfl,⟨_,hv,⟨by simp,by simp⟩⟩,hb⟩
 ·have i2:(0:Int)<(n:Int):=by omega
  clear hn;go_enter func194,ntmps194;go_wp2
  go_loopg [5,6] 0 (fun gh s i w'=>gh=0/\i=.int .i64 0/\WA w' [] [s] [w.heap.size]/\Bw w w')
  ·exact ⟨rfl,rfl,bc,A0⟩
  ·clear bc A0;obtain ⟨rfl,rfl,hv,hb⟩:=hrel;have bb:=HC.out wr hb;go_wp2_with fail;refine (bb).mono ?_;rintro e w1 ⟨rfl,bd⟩;have bg:=(aA (B:=w.heap.size)).bw bd hb.size hv;have bf:=hb.then bd;clear bb hv;go_wp2;go_ret;exact ⟨_,rfl,⟨_,bg,⟨by simp,by simp⟩⟩,bf⟩
theorem XO (w:World) (l:List iA) (g:List (List mA)) (v u:Value) (h:Rd LA w l [v]) (h':Rd kC w g [u]) (hP:OB l g=false):Calls prog 195 #[v,u] w (WB w (nE WA w.heap.size [])):=by
 have A0:Bw w (w.alloc (.cells #[] 3)):=(Bw.refl w).alloc _;have bc:=MA (e:=3) (sz:=1) (R:=IF) w;have bb:=fun W (B:Bw w W)=>oF W l g _ _ (h.bw gA B) (h'.bw xB B)
 rw [hP] at bb;have HC:=pA6 bb;obtain ⟨A,n,c,rfl,L,Lc,Lm⟩:=yA h;clear hP h h' bb;by_cases hn:n=0
 ·subst hn;go_enter func195,ntmps195;go_wp2
  go_loopg [5,6] 0 (fun gh s i w'=>gh=0/\i=.int .i64 0/\WA w' [] [s] [w.heap.size]/\Bw w w')
  ·exact ⟨rfl,rfl,bc,A0⟩
  ·clear bc A0;obtain ⟨rfl,rfl,hv,hb⟩:=hrel;go_wp2;go_ret;exact ⟨_,rfl,⟨_,hv,⟨by simp,by simp⟩⟩,hb⟩
 ·have i2:(0:Int)<(n:Int):=by omega
  clear hn;go_enter func195,ntmps195;go_wp2
  go_loopg [5,6] 0 (fun gh s i w'=>gh=0/\i=.int .i64 0/\WA w' [] [s] [w.heap.size]/\Bw w w')
  ·exact ⟨rfl,rfl,bc,A0⟩
  ·clear bc A0;obtain ⟨rfl,rfl,hv,hb⟩:=hrel;have bb:=HC.out wr hb;go_wp2_with fail;refine (bb).mono ?_;rintro e w1 ⟨rfl,bd⟩;have bg:=(aA (B:=w.heap.size)).bw bd hb.size hv;have bf:=hb.then bd;clear bb hv;go_wp2;go_ret;exact ⟨_,rfl,⟨_,bg,⟨by simp,by simp⟩⟩,bf⟩
theorem nY (w:World) (l:List iA) (g:List (List mA)) (v u:Value) (h:Rd LA w l [v]) (h':Rd kC w g [u]):Calls prog 190 #[v,u] w (WB w (nE WA w.heap.size (vF l g))):=by
 rcases pA8 (OB l g) with hP | hP
 ·have:=xR w l g v u h h' hP;unfold vF;rw [if_pos hP];exact this
 ·have:=iT w l g v u h h' hP;unfold vF;rw [hP];exact this
theorem oY (w:World) (l:List iA) (g:List (List mA)) (v u:Value) (h:Rd LA w l [v]) (h':Rd kC w g [u]):Calls prog 194 #[v,u] w (WB w (nE WA w.heap.size (vF l g))):=by
 rcases pA8 (OB l g) with hP | hP
 ·have:=CR w l g v u h h' hP;unfold vF;rw [if_pos hP];exact this
 ·have:=jT w l g v u h h' hP;unfold vF;rw [hP];exact this
theorem kT (w:World) (l:List iA) (g:List (List mA)) (v u:Value) (h:Rd LA w l [v]) (h':Rd kC w g [u]):Calls prog 191 #[v,u] w (WB w (nE WA w.heap.size (dE l g))):=by
 rcases pA8 (OB l g) with hP | hP
 ·have:=GN w l g v u h h' hP;unfold dE;rw [if_pos hP];exact this
 ·have:=WO w l g v u h h' hP;unfold dE;rw [hP];exact this
theorem lT (w:World) (l:List iA) (g:List (List mA)) (v u:Value) (h:Rd LA w l [v]) (h':Rd kC w g [u]):Calls prog 195 #[v,u] w (WB w (nE WA w.heap.size (dE l g))):=by
 rcases pA8 (OB l g) with hP | hP
 ·have:=IN w l g v u h h' hP;unfold dE;rw [if_pos hP];exact this
 ·have:=XO w l g v u h h' hP;unfold dE;rw [hP];exact this
theorem IM {l:List iA} {g:List (List mA)} {s:List Int} (hP:OB l g=true) (hl:0<l.length):LD l g s=gAg l (NH s s.length):=by unfold LD;rw [hP,decide_eq_true hl];rfl
theorem aV {l:List iA} {k:Nat} {x:iA} (h:l[k]? = some x):gAg l k=x.id:=by unfold gAg;rw [h]
theorem bAl (w:World) (l:List iA) (g:List (List mA)) (v u:Value) (h:Rd LA w l [v]) (h':Rd kC w g [u]) (hP:OB l g=true) (hl:0<l.length):Calls prog 139 #[v,u,.int .i64 1] w (Ret w (.int .i64 (LD l g (vF l g)))):=by
 have bb:=PF w l g _ _ h h';rw [hP] at bb;have bc:=fun W (B:Bw w W)=>nY W l g _ _ (h.bw gA B) (h'.bw xB B)
 obtain ⟨S,hS⟩:=pA7 (vF l g);have bg:S.length=l.length:=by rw [hS];unfold vF;rw [if_pos hP,List.length_map]
 have bk:=IM (s:=S) hP hl;rw [<-hS];rw [<-hS] at bc;obtain ⟨Y,hY⟩:=pA7 (LD l g S);rw [<-hY];have HY:=pA6 (hY.trans bk);have bv:=VA (NC hP);obtain ⟨A,n,c,rfl,L,Lc,Lm⟩:=yA h;rw [<-L.out] at hl bv bg;have bq:=pA6 bg;have n0:((n:Int)==0)=false:=by rw [beq_eq_false_iff_ne];omega
 have HC:=pA6 bc;have HH:=pA6 h;clear hS bg bk hY hP h' bc h;go_enter func139,ntmps139;go_wp2_with fail;refine (bb).mono ?_;rintro e w1 ⟨rfl,bd⟩;clear bb;go_wp2_with fail;refine (HC.out _ (bd.alloc _)).mono ?_;rintro e w2 ⟨v2,rfl,⟨F2,o2,f2⟩,bj⟩;have B2:=(bd.alloc _).then bj;have bf:=xA o2;clear o2 f2 bd bj;obtain ⟨A2,n2,c2,rfl,L2,L2c,L2m⟩:=yA bf;have bm:n2=n:=by have:=bq.out;have:=L2.out;omega
 have bn:=pA6 bm;have n17:n2<=16:=by omega
 have bt:0<n2:=by omega
 have bp:=pA6 bf;clear bm bf;go_wp2
 go_loopg [8,39] n2 (fun gh p i w'=>∃(k q:Nat),k<=n2/\gh=n2-k/\i=.int .i64 k/\p=.int .i64 q/\q<n2/\Hid (q=NH S k)/\Bw w2 w')
 ·exact ⟨0,0,by omega,rfl,rfl,rfl,bt,pA6 rfl,Bw.refl _⟩
 ·obtain ⟨k,q,hk,rfl,rfl,rfl,hq,HQ,hb⟩:=hrel;by_cases hlt:k<n2
  ·have bf:=bp.out;obtain ⟨a,ha⟩:=tA (xs:=S) (k:=k) (by have:=L2.out;omega);obtain ⟨b,bd⟩:=tA (xs:=S) (k:=q) (by have:=L2.out;omega);obtain ⟨ba,oa,rfl,_,c0⟩:=KB bf ha;obtain ⟨b2,o2,e,_,c1⟩:=KB bf bd;injection e with e;injection e with e1 e2;subst e1 e2;replace c0:=hb.cell c0;replace c1:=hb.cell c1;have s0:=pA c0;have s1:=pA c1;have i1:(0:Int)<=(k:Int):=by omega
   have i2:(k:Int)<(n2:Int):=by omega
   have i3:(0:Int)<=(q:Int):=by omega
   have i4:(q:Int)<(n2:Int):=by omega
   have HP:=pA6 (tM ha (by rw [<-HQ.out];exact bd));clear ha bd bf;by_cases hba:b<a
   ·have HX:=pA6 (show k=NH S (k+1) by rw [HP.out,if_pos hba]);clear HP
    skip
    go_wp2
    go_roundg (n2-(k+1))
    ·exact ⟨k+1,k,by omega,rfl,by go_num,by go_num,hlt,HX,hb⟩
    ·omega
   ·have HX:=pA6 (show q=NH S (k+1) by rw [HP.out,if_neg hba,HQ.out]);clear HP
    skip
    go_wp2
    go_roundg (n2-(k+1))
    ·exact ⟨k+1,q,by omega,rfl,by go_num,rfl,hq,HX,hb⟩
    ·omega
  ·obtain rfl:k=n2:=by omega
   have h:=HH.out;have hqn:q<n:=by have:=bn.out;omega
   obtain ⟨x,hx⟩:=tA (xs:=l) (k:=q) (by have:=L.out;omega);obtain ⟨bi,oi,Ax,cx,rfl,_,c0,c1,bs⟩:=qB h hx;have BB:=B2.then hb;replace c0:=BB.cell c0;have i3:(0:Int)<=(q:Int):=by omega
   have i4:(q:Int)<(n:Int):=by omega
   have HF:=pA6 (show Y=x.id by rw [HY.out,<-L2.out,<-HQ.out,aV hx]);clear hx bs c1 h HQ;go_wp2;go_ret;exact Ret.int (HF.out.symm) (BB)
theorem eAo (w:World) (l:List iA) (g:List (List mA)) (v u:Value) (h:Rd LA w l [v]) (h':Rd kC w g [u]) (hno:(OB l g && decide (0<l.length))=false):Calls prog 139 #[v,u,.int .i64 1] w (Ret w (.int .i64 (-1))):=by
 have bb:=PF w l g _ _ h h';obtain ⟨A,n,c,rfl,L,Lc,Lm⟩:=yA h;rcases pA8 (OB l g) with hP | hP;rotate_left
 focus
  rw [hP] at bb
 rotate_right
 focus
  rw [hP] at hno bb;have hn:n=0:=by rw [Bool.true_and,decide_eq_false_iff_not] at hno;rw [L.out];omega
  subst hn
 all_goals
  clear hno hP h h';go_enter func139,ntmps139;go_wp2_with fail;refine (bb).mono ?_;rintro e w1 ⟨rfl,bc⟩;go_wp2;go_ret;exact Ret.int (rfl) (bc)
theorem mA4 (w:World) (l:List iA) (g:List (List mA)) (v u:Value) (h:Rd LA w l [v]) (h':Rd kC w g [u]):Calls prog 139 #[v,u,.int .i64 1] w (Ret w (.int .i64 (LD l g (vF l g)))):=by
 rcases pA8 (OB l g && decide (0<l.length)) with hc | hc
 ·have h1:=hc;rw [Bool.and_eq_true,decide_eq_true_eq] at h1;exact bAl w l g v u h h' h1.1 h1.2
 ·have:=eAo w l g v u h h' hc;rw [show LD l g (vF l g) = -1 by unfold LD;rw [hc];rfl];exact this
theorem bAm (w:World) (l:List iA) (g:List (List mA)) (v u:Value) (h:Rd LA w l [v]) (h':Rd kC w g [u]) (hP:OB l g=true) (hl:0<l.length):Calls prog 139 #[v,u,.int .i64 2] w (Ret w (.int .i64 (LD l g (dE l g)))):=by
 have bb:=PF w l g _ _ h h';rw [hP] at bb;have bc:=fun W (B:Bw w W)=>kT W l g _ _ (h.bw gA B) (h'.bw xB B)
 obtain ⟨S,hS⟩:=pA7 (dE l g);have bg:S.length=l.length:=by rw [hS];unfold dE;rw [if_pos hP,List.length_map]
 have bk:=IM (s:=S) hP hl;rw [<-hS];rw [<-hS] at bc;obtain ⟨Y,hY⟩:=pA7 (LD l g S);rw [<-hY];have HY:=pA6 (hY.trans bk);have bv:=VA (NC hP);obtain ⟨A,n,c,rfl,L,Lc,Lm⟩:=yA h;rw [<-L.out] at hl bv bg;have bq:=pA6 bg;have n0:((n:Int)==0)=false:=by rw [beq_eq_false_iff_ne];omega
 have HC:=pA6 bc;have HH:=pA6 h;clear hS bg bk hY hP h' bc h;go_enter func139,ntmps139;go_wp2_with fail;refine (bb).mono ?_;rintro e w1 ⟨rfl,bd⟩;clear bb;go_wp2_with fail;refine (HC.out _ (bd.alloc _)).mono ?_;rintro e w2 ⟨v2,rfl,⟨F2,o2,f2⟩,bj⟩;have B2:=(bd.alloc _).then bj;have bf:=xA o2;clear o2 f2 bd bj;obtain ⟨A2,n2,c2,rfl,L2,L2c,L2m⟩:=yA bf;have bm:n2=n:=by have:=bq.out;have:=L2.out;omega
 have bn:=pA6 bm;have n17:n2<=16:=by omega
 have bt:0<n2:=by omega
 have bp:=pA6 bf;clear bm bf;go_wp2
 go_loopg [8,39] n2 (fun gh p i w'=>∃(k q:Nat),k<=n2/\gh=n2-k/\i=.int .i64 k/\p=.int .i64 q/\q<n2/\Hid (q=NH S k)/\Bw w2 w')
 ·exact ⟨0,0,by omega,rfl,rfl,rfl,bt,pA6 rfl,Bw.refl _⟩
 ·obtain ⟨k,q,hk,rfl,rfl,rfl,hq,HQ,hb⟩:=hrel;by_cases hlt:k<n2
  ·have bf:=bp.out;obtain ⟨a,ha⟩:=tA (xs:=S) (k:=k) (by have:=L2.out;omega);obtain ⟨b,bd⟩:=tA (xs:=S) (k:=q) (by have:=L2.out;omega);obtain ⟨ba,oa,rfl,_,c0⟩:=KB bf ha;obtain ⟨b2,o2,e,_,c1⟩:=KB bf bd;injection e with e;injection e with e1 e2;subst e1 e2;replace c0:=hb.cell c0;replace c1:=hb.cell c1;have s0:=pA c0;have s1:=pA c1;have i1:(0:Int)<=(k:Int):=by omega
   have i2:(k:Int)<(n2:Int):=by omega
   have i3:(0:Int)<=(q:Int):=by omega
   have i4:(q:Int)<(n2:Int):=by omega
   have HP:=pA6 (tM ha (by rw [<-HQ.out];exact bd));clear ha bd bf;by_cases hba:b<a
   ·have HX:=pA6 (show k=NH S (k+1) by rw [HP.out,if_pos hba]);clear HP
    skip
    go_wp2
    go_roundg (n2-(k+1))
    ·exact ⟨k+1,k,by omega,rfl,by go_num,by go_num,hlt,HX,hb⟩
    ·omega
   ·have HX:=pA6 (show q=NH S (k+1) by rw [HP.out,if_neg hba,HQ.out]);clear HP
    skip
    go_wp2
    go_roundg (n2-(k+1))
    ·exact ⟨k+1,q,by omega,rfl,by go_num,rfl,hq,HX,hb⟩
    ·omega
  ·obtain rfl:k=n2:=by omega
   have h:=HH.out;have hqn:q<n:=by have:=bn.out;omega
   obtain ⟨x,hx⟩:=tA (xs:=l) (k:=q) (by have:=L.out;omega);obtain ⟨bi,oi,Ax,cx,rfl,_,c0,c1,bs⟩:=qB h hx;have BB:=B2.then hb;replace c0:=BB.cell c0;have i3:(0:Int)<=(q:Int):=by omega
   have i4:(q:Int)<(n:Int):=by omega
   have HF:=pA6 (show Y=x.id by rw [HY.out,<-L2.out,<-HQ.out,aV hx]);clear hx bs c1 h HQ;go_wp2;go_ret;exact Ret.int (HF.out.symm) (BB)
theorem eAp (w:World) (l:List iA) (g:List (List mA)) (v u:Value) (h:Rd LA w l [v]) (h':Rd kC w g [u]) (hno:(OB l g && decide (0<l.length))=false):Calls prog 139 #[v,u,.int .i64 2] w (Ret w (.int .i64 (-1))):=by
 have bb:=PF w l g _ _ h h';obtain ⟨A,n,c,rfl,L,Lc,Lm⟩:=yA h;rcases pA8 (OB l g) with hP | hP;rotate_left
 focus
  rw [hP] at bb
 rotate_right
 focus
  rw [hP] at hno bb;have hn:n=0:=by rw [Bool.true_and,decide_eq_false_iff_not] at hno;rw [L.out];omega
  subst hn
 all_goals
  clear hno hP h h';go_enter func139,ntmps139;go_wp2_with fail;refine (bb).mono ?_;rintro e w1 ⟨rfl,bc⟩;go_wp2;go_ret;exact Ret.int (rfl) (bc)
theorem mA5 (w:World) (l:List iA) (g:List (List mA)) (v u:Value) (h:Rd LA w l [v]) (h':Rd kC w g [u]):Calls prog 139 #[v,u,.int .i64 2] w (Ret w (.int .i64 (LD l g (dE l g)))):=by
 rcases pA8 (OB l g && decide (0<l.length)) with hc | hc
 ·have h1:=hc;rw [Bool.and_eq_true,decide_eq_true_eq] at h1;exact bAm w l g v u h h' h1.1 h1.2
 ·have:=eAp w l g v u h h' hc;rw [show LD l g (dE l g) = -1 by unfold LD;rw [hc];rfl];exact this
theorem bAn (w:World) (l:List iA) (g:List (List mA)) (v u:Value) (h:Rd LA w l [v]) (h':Rd kC w g [u]) (hP:OB l g=true) (hl:0<l.length):Calls prog 142 #[v,u,.int .i64 1] w (Ret w (.int .i64 (LD l g (vF l g)))):=by
 have bb:=oF w l g _ _ h h';rw [hP] at bb;have bc:=fun W (B:Bw w W)=>oY W l g _ _ (h.bw gA B) (h'.bw xB B)
 obtain ⟨S,hS⟩:=pA7 (vF l g);have bg:S.length=l.length:=by rw [hS];unfold vF;rw [if_pos hP,List.length_map]
 have bk:=IM (s:=S) hP hl;rw [<-hS];rw [<-hS] at bc;obtain ⟨Y,hY⟩:=pA7 (LD l g S);rw [<-hY];have HY:=pA6 (hY.trans bk);have bv:=VA (NC hP);obtain ⟨A,n,c,rfl,L,Lc,Lm⟩:=yA h;rw [<-L.out] at hl bv bg;have bq:=pA6 bg;have n0:((n:Int)==0)=false:=by rw [beq_eq_false_iff_ne];omega
 have HC:=pA6 bc;have HH:=pA6 h;clear hS bg bk hY hP h' bc h;go_enter func142,ntmps142;go_wp2_with fail;refine (bb).mono ?_;rintro e w1 ⟨rfl,bd⟩;clear bb;go_wp2_with fail;refine (HC.out _ (bd.alloc _)).mono ?_;rintro e w2 ⟨v2,rfl,⟨F2,o2,f2⟩,bj⟩;have B2:=(bd.alloc _).then bj;have bf:=xA o2;clear o2 f2 bd bj;obtain ⟨A2,n2,c2,rfl,L2,L2c,L2m⟩:=yA bf;have bm:n2=n:=by have:=bq.out;have:=L2.out;omega
 have bn:=pA6 bm;have n17:n2<=16:=by omega
 have bt:0<n2:=by omega
 have bp:=pA6 bf;clear bm bf;go_wp2
 go_loopg [8,9] n2 (fun gh p i w'=>∃(k q:Nat),k<=n2/\gh=n2-k/\i=.int .i64 k/\p=.int .i64 q/\q<n2/\Hid (q=NH S k)/\Bw w2 w')
 ·exact ⟨0,0,by omega,rfl,rfl,rfl,bt,pA6 rfl,Bw.refl _⟩
 ·obtain ⟨k,q,hk,rfl,rfl,rfl,hq,HQ,hb⟩:=hrel;by_cases hlt:k<n2
  ·have bf:=bp.out;obtain ⟨a,ha⟩:=tA (xs:=S) (k:=k) (by have:=L2.out;omega);obtain ⟨b,bd⟩:=tA (xs:=S) (k:=q) (by have:=L2.out;omega);obtain ⟨ba,oa,rfl,_,c0⟩:=KB bf ha;obtain ⟨b2,o2,e,_,c1⟩:=KB bf bd;injection e with e;injection e with e1 e2;subst e1 e2;replace c0:=hb.cell c0;replace c1:=hb.cell c1;have s0:=pA c0;have s1:=pA c1;have i1:(0:Int)<=(k:Int):=by omega
   have i2:(k:Int)<(n2:Int):=by omega
   have i3:(0:Int)<=(q:Int):=by omega
   have i4:(q:Int)<(n2:Int):=by omega
   have HP:=pA6 (tM ha (by rw [<-HQ.out];exact bd));clear ha bd bf;by_cases hba:b<a
   ·have HX:=pA6 (show k=NH S (k+1) by rw [HP.out,if_pos hba]);clear HP;go_wp2_with fail;refine IA (by kernel_rfl) ?_
    repeat (first | go_big_quiet_skip | (go_big_quiet_want;go_big_quiet_op;go_big_quiet_on))
    refine JA fun wq hbq=>?_
    try dsimp only at *
    go_wp2
    go_roundg (n2-(k+1))
    ·exact ⟨k+1,k,by omega,rfl,by go_num,by go_num,hlt,HX,hb.then hbq⟩
    ·omega
   ·have HX:=pA6 (show q=NH S (k+1) by rw [HP.out,if_neg hba,HQ.out]);clear HP;go_wp2_with fail;refine IA (by kernel_rfl) ?_
    repeat (first | go_big_quiet_skip | (go_big_quiet_want;go_big_quiet_op;go_big_quiet_on))
    refine JA fun wq hbq=>?_
    try dsimp only at *
    go_wp2
    go_roundg (n2-(k+1))
    ·exact ⟨k+1,q,by omega,rfl,by go_num,rfl,hq,HX,hb.then hbq⟩
    ·omega
  ·obtain rfl:k=n2:=by omega
   have h:=HH.out;have hqn:q<n:=by have:=bn.out;omega
   obtain ⟨x,hx⟩:=tA (xs:=l) (k:=q) (by have:=L.out;omega);obtain ⟨bi,oi,Ax,cx,rfl,_,c0,c1,bs⟩:=qB h hx;have BB:=B2.then hb;replace c0:=BB.cell c0;have i3:(0:Int)<=(q:Int):=by omega
   have i4:(q:Int)<(n:Int):=by omega
   have HF:=pA6 (show Y=x.id by rw [HY.out,<-L2.out,<-HQ.out,aV hx]);clear hx bs c1 h HQ;go_wp2;go_ret;exact Ret.int (HF.out.symm) (BB)
theorem eAq (w:World) (l:List iA) (g:List (List mA)) (v u:Value) (h:Rd LA w l [v]) (h':Rd kC w g [u]) (hno:(OB l g && decide (0<l.length))=false):Calls prog 142 #[v,u,.int .i64 1] w (Ret w (.int .i64 (-1))):=by
 have bb:=oF w l g _ _ h h';obtain ⟨A,n,c,rfl,L,Lc,Lm⟩:=yA h;rcases pA8 (OB l g) with hP | hP;rotate_left
 focus
  rw [hP] at bb
 rotate_right
 focus
  rw [hP] at hno bb;have hn:n=0:=by rw [Bool.true_and,decide_eq_false_iff_not] at hno;rw [L.out];omega
  subst hn
 all_goals
  clear hno hP h h';go_enter func142,ntmps142;go_wp2_with fail;refine (bb).mono ?_;rintro e w1 ⟨rfl,bc⟩;go_wp2;go_ret;exact Ret.int (rfl) (bc)
theorem mA6 (w:World) (l:List iA) (g:List (List mA)) (v u:Value) (h:Rd LA w l [v]) (h':Rd kC w g [u]):Calls prog 142 #[v,u,.int .i64 1] w (Ret w (.int .i64 (LD l g (vF l g)))):=by
 rcases pA8 (OB l g && decide (0<l.length)) with hc | hc
 ·have h1:=hc;rw [Bool.and_eq_true,decide_eq_true_eq] at h1;exact bAn w l g v u h h' h1.1 h1.2
 ·have:=eAq w l g v u h h' hc;rw [show LD l g (vF l g) = -1 by unfold LD;rw [hc];rfl];exact this
theorem bAo (w:World) (l:List iA) (g:List (List mA)) (v u:Value) (h:Rd LA w l [v]) (h':Rd kC w g [u]) (hP:OB l g=true) (hl:0<l.length):Calls prog 142 #[v,u,.int .i64 2] w (Ret w (.int .i64 (LD l g (dE l g)))):=by
 have bb:=oF w l g _ _ h h';rw [hP] at bb;have bc:=fun W (B:Bw w W)=>lT W l g _ _ (h.bw gA B) (h'.bw xB B)
 obtain ⟨S,hS⟩:=pA7 (dE l g);have bg:S.length=l.length:=by rw [hS];unfold dE;rw [if_pos hP,List.length_map]
 have bk:=IM (s:=S) hP hl;rw [<-hS];rw [<-hS] at bc;obtain ⟨Y,hY⟩:=pA7 (LD l g S);rw [<-hY];have HY:=pA6 (hY.trans bk);have bv:=VA (NC hP);obtain ⟨A,n,c,rfl,L,Lc,Lm⟩:=yA h;rw [<-L.out] at hl bv bg;have bq:=pA6 bg;have n0:((n:Int)==0)=false:=by rw [beq_eq_false_iff_ne];omega
 have HC:=pA6 bc;have HH:=pA6 h;clear hS bg bk hY hP h' bc h;go_enter func142,ntmps142;go_wp2_with fail;refine (bb).mono ?_;rintro e w1 ⟨rfl,bd⟩;clear bb;go_wp2_with fail;refine (HC.out _ (bd.alloc _)).mono ?_;rintro e w2 ⟨v2,rfl,⟨F2,o2,f2⟩,bj⟩;have B2:=(bd.alloc _).then bj;have bf:=xA o2;clear o2 f2 bd bj;obtain ⟨A2,n2,c2,rfl,L2,L2c,L2m⟩:=yA bf;have bm:n2=n:=by have:=bq.out;have:=L2.out;omega
 have bn:=pA6 bm;have n17:n2<=16:=by omega
 have bt:0<n2:=by omega
 have bp:=pA6 bf;clear bm bf;go_wp2
 go_loopg [8,9] n2 (fun gh p i w'=>∃(k q:Nat),k<=n2/\gh=n2-k/\i=.int .i64 k/\p=.int .i64 q/\q<n2/\Hid (q=NH S k)/\Bw w2 w')
 ·exact ⟨0,0,by omega,rfl,rfl,rfl,bt,pA6 rfl,Bw.refl _⟩
 ·obtain ⟨k,q,hk,rfl,rfl,rfl,hq,HQ,hb⟩:=hrel;by_cases hlt:k<n2
  ·have bf:=bp.out;obtain ⟨a,ha⟩:=tA (xs:=S) (k:=k) (by have:=L2.out;omega);obtain ⟨b,bd⟩:=tA (xs:=S) (k:=q) (by have:=L2.out;omega);obtain ⟨ba,oa,rfl,_,c0⟩:=KB bf ha;obtain ⟨b2,o2,e,_,c1⟩:=KB bf bd;injection e with e;injection e with e1 e2;subst e1 e2;replace c0:=hb.cell c0;replace c1:=hb.cell c1;have s0:=pA c0;have s1:=pA c1;have i1:(0:Int)<=(k:Int):=by omega
   have i2:(k:Int)<(n2:Int):=by omega
   have i3:(0:Int)<=(q:Int):=by omega
   have i4:(q:Int)<(n2:Int):=by omega
   have HP:=pA6 (tM ha (by rw [<-HQ.out];exact bd));clear ha bd bf;by_cases hba:b<a
   ·have HX:=pA6 (show k=NH S (k+1) by rw [HP.out,if_pos hba]);clear HP;go_wp2_with fail;refine IA (by kernel_rfl) ?_
    repeat (first | go_big_quiet_skip | (go_big_quiet_want;go_big_quiet_op;go_big_quiet_on))
    refine JA fun wq hbq=>?_
    try dsimp only at *
    go_wp2
    go_roundg (n2-(k+1))
    ·exact ⟨k+1,k,by omega,rfl,by go_num,by go_num,hlt,HX,hb.then hbq⟩
    ·omega
   ·have HX:=pA6 (show q=NH S (k+1) by rw [HP.out,if_neg hba,HQ.out]);clear HP;go_wp2_with fail;refine IA (by kernel_rfl) ?_
    repeat (first | go_big_quiet_skip | (go_big_quiet_want;go_big_quiet_op;go_big_quiet_on))
    refine JA fun wq hbq=>?_
    try dsimp only at *
    go_wp2
    go_roundg (n2-(k+1))
    ·exact ⟨k+1,q,by omega,rfl,by go_num,rfl,hq,HX,hb.then hbq⟩
    ·omega
  ·obtain rfl:k=n2:=by omega
   have h:=HH.out;have hqn:q<n:=by have:=bn.out;omega
   obtain ⟨x,hx⟩:=tA (xs:=l) (k:=q) (by have:=L.out;omega);obtain ⟨bi,oi,Ax,cx,rfl,_,c0,c1,bs⟩:=qB h hx;have BB:=B2.then hb;replace c0:=BB.cell c0;have i3:(0:Int)<=(q:Int):=by omega
   have i4:(q:Int)<(n:Int):=by omega
   have HF:=pA6 (show Y=x.id by rw [HY.out,<-L2.out,<-HQ.out,aV hx]);clear hx bs c1 h HQ;go_wp2;go_ret;exact Ret.int (HF.out.symm) (BB)
theorem eAr (w:World) (l:List iA) (g:List (List mA)) (v u:Value) (h:Rd LA w l [v]) (h':Rd kC w g [u]) (hno:(OB l g && decide (0<l.length))=false):Calls prog 142 #[v,u,.int .i64 2] w (Ret w (.int .i64 (-1))):=by
 have bb:=oF w l g _ _ h h';obtain ⟨A,n,c,rfl,L,Lc,Lm⟩:=yA h;rcases pA8 (OB l g) with hP | hP;rotate_left
 focus
  rw [hP] at bb
 rotate_right
 focus
  rw [hP] at hno bb;have hn:n=0:=by rw [Bool.true_and,decide_eq_false_iff_not] at hno;rw [L.out];omega
  subst hn
 all_goals
  clear hno hP h h';go_enter func142,ntmps142;go_wp2_with fail;refine (bb).mono ?_;rintro e w1 ⟨rfl,bc⟩;go_wp2;go_ret;exact Ret.int (rfl) (bc)
theorem mA7 (w:World) (l:List iA) (g:List (List mA)) (v u:Value) (h:Rd LA w l [v]) (h':Rd kC w g [u]):Calls prog 142 #[v,u,.int .i64 2] w (Ret w (.int .i64 (LD l g (dE l g)))):=by
 rcases pA8 (OB l g && decide (0<l.length)) with hc | hc
 ·have h1:=hc;rw [Bool.and_eq_true,decide_eq_true_eq] at h1;exact bAo w l g v u h h' h1.1 h1.2
 ·have:=eAr w l g v u h h' hc;rw [show LD l g (dE l g) = -1 by unfold LD;rw [hc];rfl];exact this
theorem mA8 (w:World) (l:List iA) (g:List (List mA)) (v u:Value) (h:Rd LA w l [v]) (h':Rd kC w g [u]):Calls prog 139 #[v,u,.int .i64 0] w (Ret w (.int .i64 (iG l g))):=by
 have bb:=PF w l g _ _ h h';have bc:=fun W (B:Bw w W)=>lY W l g _ _ (h.bw gA B) (h'.bw xB B)
 have bf:Hid (l.length=0->iG l g = -1):=pA6 (fun hl=>by
  have:l=[]:=List.eq_nil_of_length_eq_zero hl;subst this;unfold iG;split<;>rfl)
 have bg:Hid (OB l g=false->iG l g = -1):=pA6 (fun hp=>by rw [iG,hp];rfl);obtain ⟨Y,hY⟩:=pA7 (iG l g);rw [<-hY] at bc bf bg ⊢;obtain ⟨A,n,c,rfl,L,Lc,Lm⟩:=yA h;have HC:=pA6 bc;clear hY h h' bc;rcases pA8 (OB l g) with hP | hP
 ·rw [hP] at bb;clear hP;by_cases hn:n=0
  ·have HX:=pA6 (bf.out (by rw [<-L.out];exact hn));subst hn;go_enter func139,ntmps139;go_wp2_with fail;refine (bb).mono ?_;rintro e w1 ⟨rfl,bd⟩;go_wp2;go_ret;exact Ret.int (HX.out.symm) (bd)
  ·have n0:((n:Int)==0)=false:=by rw [beq_eq_false_iff_ne];omega
   clear hn;go_enter func139,ntmps139;go_wp2_with fail;refine (bb).mono ?_;rintro e w1 ⟨rfl,bd⟩;go_wp2_with fail;refine (HC.out _ (bd.alloc _)).mono ?_;rintro e w2 ⟨rfl,bj⟩;go_wp2;go_ret;exact Ret.int (rfl) ((bd.alloc _).then bj)
 ·have HX:=pA6 (bg.out hP);rw [hP] at bb;clear hP;go_enter func139,ntmps139;go_wp2_with fail;refine (bb).mono ?_;rintro e w1 ⟨rfl,bd⟩;go_wp2;go_ret;exact Ret.int (HX.out.symm) (bd)
def vE (l:List iA) (g:List (List mA)):ByteArray:=if OB l g then ⟨#[99,111,110,100,111,114,99,101,116,32]⟩++QA (iG l g)++⟨#[32,98,111,114,100,97,32]⟩++QA (LD l g (vF l g))++⟨#[32,97,112,112,114,111,118,97,108,32]⟩++QA (LD l g (dE l g)) else ⟨#[]⟩
theorem VR {l:List iA} {g:List (List mA)} (h:OB l g=true):vE l g=⟨#[99,111,110,100,111,114,99,101,116,32]⟩++QA (iG l g)++⟨#[32,98,111,114,100,97,32]⟩++QA (LD l g (vF l g))++⟨#[32,97,112,112,114,111,118,97,108,32]⟩++QA (LD l g (dE l g)):=by rw [vE,if_pos h]
theorem fK {n:Int} (h : -1<=n/\n<=99):(Lit.int .i64 n).wf=true:=by
 simp [Lit.wf,IntKind.min,IntKind.max,IntKind.signed,IntKind.bits];omega
theorem OH {a b:ByteArray} (h:a.size+b.size<=100000):∀W,(Op.stringOp .add a b).run prog W=.ok (.string (a++b)) W:=fun W=>run_string_add_sum W _ _ (by omega)
theorem hAc (w:World) (l:List iA) (g:List (List mA)) (v u:Value) (h:Rd LA w l [v]) (h':Rd kC w g [u]):Calls prog 57 #[v,u] w (Ret w (.string (vE l g))):=by
 have bb:=PF w l g _ _ h h';rcases pA8 (OB l g) with hP | hP
 ·rw [hP] at bb;have k0:=fun W (B:Bw w W)=>mA8 W l g _ _ (h.bw gA B) (h'.bw xB B)
  have k1:=fun W (B:Bw w W)=>mA4 W l g _ _ (h.bw gA B) (h'.bw xB B)
  have k2:=fun W (B:Bw w W)=>mA5 W l g _ _ (h.bw gA B) (h'.bw xB B)
  have w0:=fK (FN l g);have w1:=fK (vH l g (vF l g));have w2:=fK (vH l g (dE l g));have HF:=VR hP;obtain ⟨Y,hY⟩:=pA7 (vE l g);rw [<-hY] at HF ⊢;obtain ⟨n0,bq⟩:=pA7 (iG l g);obtain ⟨n1,bs⟩:=pA7 (LD l g (vF l g));obtain ⟨n2,bt⟩:=pA7 (LD l g (dE l g));rw [<-bq] at k0 w0 HF;rw [<-bs] at k1 w1 HF;rw [<-bt] at k2 w2 HF;have s0:=(mB w0).2;have s1:=(mB w1).2;have s2:=(mB w2).2;have f0:=fun W=>dD W n0 w0
  have f1:=fun W=>dD W n1 w1
  have f2:=fun W=>dD W n2 w2
  obtain ⟨P0,bd⟩:=pA7 (QA n0);obtain ⟨P1,bf⟩:=pA7 (QA n1);obtain ⟨P2,bg⟩:=pA7 (QA n2);rw [<-bd] at HF s0;rw [<-bf] at HF s1;rw [<-bg] at HF s2;simp only [<-bd] at f0;simp only [<-bf] at f1;simp only [<-bg] at f2;have z1:(⟨#[99,111,110,100,111,114,99,101,116,32]⟩:ByteArray).size=10:=rfl;have z2:(⟨#[32,98,111,114,100,97,32]⟩:ByteArray).size=7:=rfl;have z3:(⟨#[32,97,112,112,114,111,118,97,108,32]⟩:ByteArray).size=10:=rfl;have a1:=OH (a:=⟨#[99,111,110,100,111,114,99,101,116,32]⟩) (b:=P0) (by omega);have y1:=lA ⟨#[99,111,110,100,111,114,99,101,116,32]⟩ P0;obtain ⟨T1,bj⟩:=pA7 ((⟨#[99,111,110,100,111,114,99,101,116,32]⟩:ByteArray)++P0);rw [<-bj] at HF y1;simp only [<-bj] at a1;have a2:=OH (a:=T1) (b:=⟨#[32,98,111,114,100,97,32]⟩) (by omega);have y2:=lA T1 ⟨#[32,98,111,114,100,97,32]⟩;obtain ⟨T2,bk⟩:=pA7 (T1++⟨#[32,98,111,114,100,97,32]⟩);rw [<-bk] at HF y2;simp only [<-bk] at a2;have a3:=OH (a:=T2) (b:=P1) (by omega);have y3:=lA T2 P1;obtain ⟨T3,bm⟩:=pA7 (T2++P1);rw [<-bm] at HF y3;simp only [<-bm] at a3;have a4:=OH (a:=T3) (b:=⟨#[32,97,112,112,114,111,118,97,108,32]⟩) (by omega);have y4:=lA T3 ⟨#[32,97,112,112,114,111,118,97,108,32]⟩;obtain ⟨T4,bn⟩:=pA7 (T3++⟨#[32,97,112,112,114,111,118,97,108,32]⟩);rw [<-bn] at HF y4;simp only [<-bn] at a4;have a5:=OH (a:=T4) (b:=P2) (by omega);obtain ⟨T5,bp⟩:=pA7 (T4++P2);rw [<-bp] at HF;simp only [<-bp] at a5;have HX:=pA6 HF;have K1:=pA6 k1
  have K2:=pA6 k2;have F1:=pA6 f1;have F2:=pA6 f2;clear hP hY HF bq bs bt w0 w1 w2 s0 s1 s2 bd bf bg z1 z2 z3 y1 y2 y3 y4 bj bk bm bn bp k1 k2 f1 f2;go_enter func57,ntmps57;go_wp2_with fail;refine (bb).mono ?_;rintro e w1 ⟨rfl,bc⟩;go_wp2_with fail;refine (k0 _ bc).mono ?_;rintro e w2 ⟨rfl,bv⟩;have B2:=bc.then bv;go_wp2_with fail;refine (f0 _).mono ?_;rintro e w3 ⟨rfl,bx⟩;have B3:=B2.then bx;clear k0 f0 bb;go_wp2_with fail;refine (K1.out _ B3).mono ?_;rintro e w4 ⟨rfl,bz⟩;have B4:=B3.then bz;go_wp2_with fail;refine (F1.out _).mono ?_;rintro e w5 ⟨rfl,cb⟩;have B5:=B4.then cb;go_wp2_with fail;refine (K2.out _ B5).mono ?_;rintro e w6 ⟨rfl,cc⟩;have B6:=B5.then cc;go_wp2_with fail;refine (F2.out _).mono ?_;rintro e w7 ⟨rfl,cd⟩;go_wp2;go_ret;exact Ret.str (HX.out.symm) (B6.then cd)
 ·rw [hP] at bb;have HX:=pA6 (show vE l g=⟨#[]⟩ by rw [vE,hP];rfl);obtain ⟨Y,hY⟩:=pA7 (vE l g);rw [<-hY] at HX ⊢;clear hP hY h h';go_enter func57,ntmps57;go_wp2_with fail;refine (bb).mono ?_;rintro e w1 ⟨rfl,bc⟩;go_wp2;go_ret;exact Ret.str (HX.out.symm) (bc)
theorem hAd (w:World) (l:List iA) (g:List (List mA)) (v u:Value) (h:Rd LA w l [v]) (h':Rd kC w g [u]):Calls prog 58 #[v,u] w (Ret w (.string (vE l g))):=by
 have bb:=oF w l g _ _ h h';rcases pA8 (OB l g) with hP | hP
 ·rw [hP] at bb;have k0:=fun W (B:Bw w W)=>mY W l g _ _ (h.bw gA B) (h'.bw xB B)
  have k1:=fun W (B:Bw w W)=>mA6 W l g _ _ (h.bw gA B) (h'.bw xB B)
  have k2:=fun W (B:Bw w W)=>mA7 W l g _ _ (h.bw gA B) (h'.bw xB B)
  have w0:=fK (FN l g);have w1:=fK (vH l g (vF l g));have w2:=fK (vH l g (dE l g));have HF:=VR hP;obtain ⟨Y,hY⟩:=pA7 (vE l g);rw [<-hY] at HF ⊢;obtain ⟨n0,bq⟩:=pA7 (iG l g);obtain ⟨n1,bs⟩:=pA7 (LD l g (vF l g));obtain ⟨n2,bt⟩:=pA7 (LD l g (dE l g));rw [<-bq] at k0 w0 HF;rw [<-bs] at k1 w1 HF;rw [<-bt] at k2 w2 HF;have s0:=(mB w0).2;have s1:=(mB w1).2;have s2:=(mB w2).2;have f0:=fun W=>yC W n0 w0
  have f1:=fun W=>yC W n1 w1
  have f2:=fun W=>yC W n2 w2
  obtain ⟨P0,bd⟩:=pA7 (QA n0);obtain ⟨P1,bf⟩:=pA7 (QA n1);obtain ⟨P2,bg⟩:=pA7 (QA n2);rw [<-bd] at HF s0;rw [<-bf] at HF s1;rw [<-bg] at HF s2;simp only [<-bd] at f0;simp only [<-bf] at f1;simp only [<-bg] at f2;have z1:(⟨#[99,111,110,100,111,114,99,101,116,32]⟩:ByteArray).size=10:=rfl;have z2:(⟨#[32,98,111,114,100,97,32]⟩:ByteArray).size=7:=rfl;have z3:(⟨#[32,97,112,112,114,111,118,97,108,32]⟩:ByteArray).size=10:=rfl;have a1:=OH (a:=⟨#[99,111,110,100,111,114,99,101,116,32]⟩) (b:=P0) (by omega);have y1:=lA ⟨#[99,111,110,100,111,114,99,101,116,32]⟩ P0;obtain ⟨T1,bj⟩:=pA7 ((⟨#[99,111,110,100,111,114,99,101,116,32]⟩:ByteArray)++P0);rw [<-bj] at HF y1;simp only [<-bj] at a1;have a2:=OH (a:=T1) (b:=⟨#[32,98,111,114,100,97,32]⟩) (by omega);have y2:=lA T1 ⟨#[32,98,111,114,100,97,32]⟩;obtain ⟨T2,bk⟩:=pA7 (T1++⟨#[32,98,111,114,100,97,32]⟩);rw [<-bk] at HF y2;simp only [<-bk] at a2;have a3:=OH (a:=T2) (b:=P1) (by omega);have y3:=lA T2 P1;obtain ⟨T3,bm⟩:=pA7 (T2++P1);rw [<-bm] at HF y3;simp only [<-bm] at a3;have a4:=OH (a:=T3) (b:=⟨#[32,97,112,112,114,111,118,97,108,32]⟩) (by omega);have y4:=lA T3 ⟨#[32,97,112,112,114,111,118,97,108,32]⟩;obtain ⟨T4,bn⟩:=pA7 (T3++⟨#[32,97,112,112,114,111,118,97,108,32]⟩);rw [<-bn] at HF y4;simp only [<-bn] at a4;have a5:=OH (a:=T4) (b:=P2) (by omega);obtain ⟨T5,bp⟩:=pA7 (T4++P2);rw [<-bp] at HF;simp only [<-bp] at a5;have HX:=pA6 HF;have K1:=pA6 k1
  have K2:=pA6 k2;have F1:=pA6 f1;have F2:=pA6 f2;clear hP hY HF bq bs bt w0 w1 w2 s0 s1 s2 bd bf bg z1 z2 z3 y1 y2 y3 y4 bj bk bm bn bp k1 k2 f1 f2;go_enter func58,ntmps58;go_wp2_with fail;refine (bb).mono ?_;rintro e w1 ⟨rfl,bc⟩;go_wp2_with fail;refine (k0 _ bc).mono ?_;rintro e w2 ⟨rfl,bv⟩;have B2:=bc.then bv;go_wp2_with fail;refine (f0 _).mono ?_;rintro e w3 ⟨rfl,bx⟩;have B3:=B2.then bx;clear k0 f0 bb;go_wp2_with fail;refine (K1.out _ B3).mono ?_;rintro e w4 ⟨rfl,bz⟩;have B4:=B3.then bz;go_wp2_with fail;refine (F1.out _).mono ?_;rintro e w5 ⟨rfl,cb⟩;have B5:=B4.then cb;go_wp2_with fail;refine (K2.out _ B5).mono ?_;rintro e w6 ⟨rfl,cc⟩;have B6:=B5.then cc;go_wp2_with fail;refine (F2.out _).mono ?_;rintro e w7 ⟨rfl,cd⟩;go_wp2;go_ret;exact Ret.str (HX.out.symm) (B6.then cd)
 ·rw [hP] at bb;have HX:=pA6 (show vE l g=⟨#[]⟩ by rw [vE,hP];rfl);obtain ⟨Y,hY⟩:=pA7 (vE l g);rw [<-hY] at HX ⊢;clear hP hY h h';go_enter func58,ntmps58;go_wp2_with fail;refine (bb).mono ?_;rintro e w1 ⟨rfl,bc⟩;go_wp2;go_ret;exact Ret.str (HX.out.symm) (bc)
end Go.Proofs.YtpihighajaeabaaGreat
