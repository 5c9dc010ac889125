/- The items that one best item alone keeps off, in the program. -/
import Derived.Test.YtpihighajaeabaaGreatXStandM
import Derived.Test.YtpihighajaeabaaGreatXCodes
import Derived.Test.YtpihighajaeabaaGreatXIntss
namespace Go.Proofs.YtpihighajaeabaaGreat
open Go.RowKit Go.Proofs.Tryz
set_option linter.all false
set_option maxRecDepth 100000
set_option maxHeartbeats 16000000
theorem mA0 (w:World) (l:List iA) (x:iA) (v u:Value) (h:Rd LA w l [v]) (hxr:Rd aB w x.vals [u]) (hn:l.length<=1048576) (hnn:∀y∈l,y.vals.length<=1048576) (hxn:x.vals.length<=1048576) :
  Calls prog 87 #[v,.agg #[.int .i64 x.id,u]] w (WB w (nE tD w.heap.size (oG l x))):=by
 obtain ⟨i0,hi,dq,ds,dt⟩:=info_parts IG;obtain ⟨A,n,c,rfl,L,Lc,Lm⟩:=yA h;rw [<-L.out] at hn;obtain ⟨W1,cp⟩:=pA7 (w.alloc (.cells #[.int .i64 x.id,u] 30));have A1:Bw w W1:=by rw [cp];exact (Bw.refl w).alloc _
 have p0:W1.cell? ⟨w.heap.size,0,none⟩=some (.int .i64 x.id):=by rw [cp];go_simp
 have p1:W1.cell? ⟨w.heap.size,1,none⟩=some u:=by rw [cp];go_simp
 have z1:W1.heap.size=w.heap.size+1:=by rw [cp];simp
 have fj:=MA (e:=30) (sz:=2) (R:=zH) W1;rw [z1] at fj;have B0:Bw W1 (W1.alloc (.cells #[] 30)):=(Bw.refl _).alloc _;have HW:=pA6 cp;have ft:=pA6 hnn;have HH:=pA6 (h.bw gA A1);have fp:=pA6 (hxr.bw dA A1);obtain ⟨M,hM⟩:=pA7 x.vals.length;clear cp hnn h hxr hM;go_enter func87,ntmps87;go_wp2;rw [<-HW.out]
 go_loopg [5,6,7] n (fun g s q i w'=>∃(k:Nat) (F:List Nat),k<=n/\g=n-k/\i=.int .i64 k/\q=.bool (TI l x k)/\tD w' (kH l x k) [s] F/\sA W1.heap.size F/\Bw W1 w')
 ·exact ⟨0,_,by omega,rfl,rfl,rfl,fj,⟨by simp,by simp [z1]⟩,B0⟩
 ·clear fj B0;obtain ⟨k,F,hk,rfl,rfl,rfl,hv,hF,hb⟩:=hrel;replace p0:=hb.cell p0;replace p1:=hb.cell p1;have bc:=pA6 (jAz l x k);have fs:=hxn;obtain ⟨Q,hQ⟩:=pA7 (TI l x k);rw [<-hQ];have HQ:=pA6 hQ;clear hQ;by_cases hlt:k<n
  ·have h:=HH.out;obtain ⟨y,hy⟩:=tA (xs:=l) (k:=k) (by have:=L.out;omega);have fn:=ft.out y (List.mem_of_getElem? hy);obtain ⟨ba,oa,A',c',rfl,_,ff,fg,fq⟩:=qB h hy;have dv:=hb.cell ff;have cj:=hb.cell fg;have i1:(0:Int)<=(k:Int):=by omega
   have i2:(k:Int)<(n:Int):=by omega
   have HY:=pA6 hy;have fb:=pA6 fq;have cm:=pA6 ff;have cn:=pA6 fg;have fc:=pA6 (mL (x:=x) hy);have s0:=pA dv;have s1:=pA p0;clear hy h fq ff fg;have H3:Q=true\/(Q=false/\x.id<y.id)\/(Q=false/\¬x.id<y.id):=by
    cases Q with
    | true=>exact .inl rfl
    | false=>exact .inr ((Classical.em (x.id<y.id)).imp (fun h=>⟨rfl,h⟩) (fun h=>⟨rfl,h⟩))
   rcases H3 with rfl | ⟨rfl,bv⟩ | ⟨rfl,bv⟩
   ·have HB:=pA6 (jAx HY.out HQ.out.symm);have HS:=pA6 (show true=TI l x (k+1) by rw [fc.out,<-HQ.out];rfl);go_wp2_with fail;refine IA (by kernel_rfl) ?_
    repeat (first | go_big_quiet_skip | (go_big_quiet_want;go_big_quiet_op;go_big_quiet_on))
    refine JA fun wq hbq=>?_
    try dsimp only at *
    have bm:=hb.then hbq;have ck:=(rA (B:=W1.heap.size)).bw hbq hb.size hv;clear hv hbq;have bk:=bm.cell cm.out;have bb:=bm.cell cn.out;have bt:Rd aB wq.drew y.vals [.slice A' y.vals.length c']:=Rd.bw dA fb.out bm.drew;have D1:Bw wq wq.drew:=(Bw.refl _).drew;have db:=(rA (B:=0)).lt ck;have dj:=bm.size;clear dv cj s0 s1;go_wp2_with fail
    go_region_held3 (fun w'=>w'.cell? ⟨ba,oa+k*2,none⟩=some (.int .i64 y.id)/\w'.cell? ⟨ba,oa+k*2+1,none⟩=some (.slice A' y.vals.length c')) (first | go_keep | exact ⟨bk,bb⟩ | exact ⟨bd.cell bk,bd.cell bb⟩ | exact ⟨bn.cell cm.out,bn.cell cn.out⟩ | fail)
     (first
      | (go_at_call 146;refine (qM _ y _ bt fn).mono ?_;rintro e w1 ⟨v1,rfl,⟨F1,o1,f1⟩,bp⟩;obtain ⟨Av,cv,rfl,_⟩:=XA (xA o1);replace bk:=bp.cell bk;replace bb:=bp.cell bb;have bf:=D1.then bp;have bq:=bm.then bf;have fm:=(rA (B:=W1.heap.size)).bw bf bm.size ck;have bd:=(Bw.refl w1).alloc (.cells #[.int .i64 y.id,.slice Av y.vals.length cv] 30);have dp:=(rA (B:=W1.heap.size)).bw bd bq.size fm;have oW:=(aA (B:=W1.heap.size)).bw bd bq.size o1;have df:=bq.then bd;have ct:sA wq.heap.size F1:=f1.mono (by simp);have dk:∀j t,[Value.int .i64 y.id,.slice Av y.vals.length cv][j]? = some t->(w1.alloc (.cells #[.int .i64 y.id,.slice Av y.vals.length cv] 30)).cell? ((⟨w1.heap.size,0,none⟩:Addr).add j)=some t:=World.news_of_block (cs:=#[.int .i64 y.id,.slice Av y.vals.length cv]) (t:=30) (fr:=(0,0)) (heap_alloc_new w1 _))
      | (refine eJ _ (by rfl) (.tmp 35) (.tmp 47) 24 (by rfl) W1 30 i0 _ 2 32 underlying24 hi dq ds dt rfl (by omega) sD _ (kH l x k) F (by rfl) dp hF ⟨w1.heap.size,0,none⟩ 1 (by rfl) y [.int .i64 y.id,.slice Av y.vals.length cv] F1 dk ⟨_,rfl,oW⟩ rfl wq.heap.size db ct dj (by have:=bc.out;omega) (by have:=bc.out;omega) df ?_;intro v' w' F' dm cz bn)
      | fail)
    go_wp2
    go_roundg (n-(k+1))
    ·exact ⟨k+1,F',by omega,rfl,by go_num,by rw [<-HS.out],by rw [HB.out];exact dm,cz,bn⟩
    ·omega
   ·have HB:=pA6 (gAp HY.out HQ.out.symm bv);have HS:=pA6 (show true=TI l x (k+1) by rw [fc.out,decide_eq_true bv,Bool.or_true]);go_wp2_with fail;refine IA (by kernel_rfl) ?_
    repeat (first | go_big_quiet_skip | (go_big_quiet_want;go_big_quiet_op;go_big_quiet_on))
    refine JA fun wq hbq=>?_
    try dsimp only at *
    have bx:=hb.then hbq;have fk:=(rA (B:=W1.heap.size)).bw hbq hb.size hv;have r0:=hbq.cell p0;have r1:=hbq.cell p1;have bg:=qM wq x u (fp.out.bw dA bx) fs;clear hv hbq;go_wp2_with fail;refine bg.mono ?_;rintro e w2 ⟨v2,rfl,⟨F2,o2,f2⟩,dd⟩;obtain ⟨Ax,cx,rfl,_⟩:=XA (xA o2);obtain ⟨MX,dc⟩:=pA7 x.vals.length;rw [<-dc] at o2 ⊢;have bs:=bx.then dd;have cd:=(rA (B:=0)).lt fk;have bj:=(Bw.refl w2).alloc (.cells #[.int .i64 x.id,.slice Ax MX cx] 30);have cb:=(rA (B:=W1.heap.size)).bw (dd.then bj) bx.size fk;have dx:=(aA (B:=W1.heap.size)).bw bj bs.size o2;have cf:=bs.then bj;have bz:∀j t,[Value.int .i64 x.id,.slice Ax MX cx][j]? = some t->(w2.alloc (.cells #[.int .i64 x.id,.slice Ax MX cx] 30)).cell? ((⟨w2.heap.size,0,none⟩:Addr).add j)=some t:=World.news_of_block (cs:=#[.int .i64 x.id,.slice Ax MX cx]) (t:=30) (fr:=(0,0)) (heap_alloc_new w2 _);have cg:=bx.size;clear fk o2 bg dc;go_wp2_with (at_builtin;refine lB _ rfl (.tmp 27) (.tmp 33) 24 rfl W1 30 i0 _ 2 32 underlying24 hi dq ds dt rfl (by omega) sD _ (kH l x k) F rfl cb hF ⟨w2.heap.size,0,none⟩ 1 rfl x [.int .i64 x.id,.slice Ax MX cx] F2 bz ⟨_,rfl,dx⟩ rfl wq.heap.size cd f2 cg (by have:=bc.out;omega) (by have:=bc.out;omega) cf ?_;intro v3 w3 F3 dn fd cc);have cq:=pA6 (show (kH l x k++[x]).length<=k+2 by have:=bc.out;simp;omega);clear cb dx bz r0 r1;have bk:=cc.cell cm.out
    have bb:=cc.cell cn.out;have bt:Rd aB w3.drew y.vals [.slice A' y.vals.length c']:=Rd.bw dA fb.out cc.drew;have D1:Bw w3 w3.drew:=(Bw.refl _).drew;have db:=(rA (B:=0)).lt dn;have dj:=cc.size;clear dv cj s0 s1;go_wp2_with fail
    go_region_held3 (fun w'=>w'.cell? ⟨ba,oa+k*2,none⟩=some (.int .i64 y.id)/\w'.cell? ⟨ba,oa+k*2+1,none⟩=some (.slice A' y.vals.length c')) (first | go_keep | exact ⟨bk,bb⟩ | exact ⟨bd.cell bk,bd.cell bb⟩ | exact ⟨bn.cell cm.out,bn.cell cn.out⟩ | fail)
     (first
      | (go_at_call 146;refine (qM _ y _ bt fn).mono ?_;rintro e w1 ⟨v1,rfl,⟨F1,o1,f1⟩,bp⟩;obtain ⟨Av,cv,rfl,_⟩:=XA (xA o1);replace bk:=bp.cell bk;replace bb:=bp.cell bb;have bf:=D1.then bp;have bq:=cc.then bf;have ck:=(rA (B:=W1.heap.size)).bw bf cc.size dn;have bd:=(Bw.refl w1).alloc (.cells #[.int .i64 y.id,.slice Av y.vals.length cv] 30);have dp:=(rA (B:=W1.heap.size)).bw bd bq.size ck;have oW:=(aA (B:=W1.heap.size)).bw bd bq.size o1;have df:=bq.then bd;have ct:sA w3.heap.size F1:=f1.mono (by simp);have dk:∀j t,[Value.int .i64 y.id,.slice Av y.vals.length cv][j]? = some t->(w1.alloc (.cells #[.int .i64 y.id,.slice Av y.vals.length cv] 30)).cell? ((⟨w1.heap.size,0,none⟩:Addr).add j)=some t:=World.news_of_block (cs:=#[.int .i64 y.id,.slice Av y.vals.length cv]) (t:=30) (fr:=(0,0)) (heap_alloc_new w1 _))
      | (refine eJ _ (by rfl) (.tmp 35) (.tmp 47) 24 (by rfl) W1 30 i0 _ 2 32 underlying24 hi dq ds dt rfl (by omega) sD _ (kH l x k++[x]) F3 (by rfl) dp fd ⟨w1.heap.size,0,none⟩ 1 (by rfl) y [.int .i64 y.id,.slice Av y.vals.length cv] F1 dk ⟨_,rfl,oW⟩ rfl w3.heap.size db ct dj (by have:=cq.out;omega) (by have:=cq.out;omega) df ?_;intro v' w' F' dm cz bn)
      | fail)
    go_wp2
    go_roundg (n-(k+1))
    ·exact ⟨k+1,F',by omega,rfl,by go_num,by rw [<-HS.out],by rw [HB.out];exact dm,cz,bn⟩
    ·omega
   ·have HB:=pA6 (lAz HY.out HQ.out.symm bv);have HS:=pA6 (show false=TI l x (k+1) by rw [fc.out,<-HQ.out,decide_eq_false bv];rfl);go_wp2_with fail;refine IA (by kernel_rfl) ?_
    repeat (first | go_big_quiet_skip | (go_big_quiet_want;go_big_quiet_op;go_big_quiet_on))
    refine JA fun wq hbq=>?_
    try dsimp only at *
    have bm:=hb.then hbq;have ck:=(rA (B:=W1.heap.size)).bw hbq hb.size hv;clear hv hbq;have bk:=bm.cell cm.out;have bb:=bm.cell cn.out;have bt:Rd aB wq.drew y.vals [.slice A' y.vals.length c']:=Rd.bw dA fb.out bm.drew;have D1:Bw wq wq.drew:=(Bw.refl _).drew;have db:=(rA (B:=0)).lt ck;have dj:=bm.size;clear dv cj s0 s1;go_wp2_with fail
    go_region_held3 (fun w'=>w'.cell? ⟨ba,oa+k*2,none⟩=some (.int .i64 y.id)/\w'.cell? ⟨ba,oa+k*2+1,none⟩=some (.slice A' y.vals.length c')) (first | go_keep | exact ⟨bk,bb⟩ | exact ⟨bd.cell bk,bd.cell bb⟩ | exact ⟨bn.cell cm.out,bn.cell cn.out⟩ | fail)
     (first
      | (go_at_call 146;refine (qM _ y _ bt fn).mono ?_;rintro e w1 ⟨v1,rfl,⟨F1,o1,f1⟩,bp⟩;obtain ⟨Av,cv,rfl,_⟩:=XA (xA o1);replace bk:=bp.cell bk;replace bb:=bp.cell bb;have bf:=D1.then bp;have bq:=bm.then bf;have fm:=(rA (B:=W1.heap.size)).bw bf bm.size ck;have bd:=(Bw.refl w1).alloc (.cells #[.int .i64 y.id,.slice Av y.vals.length cv] 30);have dp:=(rA (B:=W1.heap.size)).bw bd bq.size fm;have oW:=(aA (B:=W1.heap.size)).bw bd bq.size o1;have df:=bq.then bd;have ct:sA wq.heap.size F1:=f1.mono (by simp);have dk:∀j t,[Value.int .i64 y.id,.slice Av y.vals.length cv][j]? = some t->(w1.alloc (.cells #[.int .i64 y.id,.slice Av y.vals.length cv] 30)).cell? ((⟨w1.heap.size,0,none⟩:Addr).add j)=some t:=World.news_of_block (cs:=#[.int .i64 y.id,.slice Av y.vals.length cv]) (t:=30) (fr:=(0,0)) (heap_alloc_new w1 _))
      | (refine eJ _ (by rfl) (.tmp 35) (.tmp 47) 24 (by rfl) W1 30 i0 _ 2 32 underlying24 hi dq ds dt rfl (by omega) sD _ (kH l x k) F (by rfl) dp hF ⟨w1.heap.size,0,none⟩ 1 (by rfl) y [.int .i64 y.id,.slice Av y.vals.length cv] F1 dk ⟨_,rfl,oW⟩ rfl wq.heap.size db ct dj (by have:=bc.out;omega) (by have:=bc.out;omega) df ?_;intro v' w' F' dm cz bn)
      | fail)
    go_wp2
    go_roundg (n-(k+1))
    ·exact ⟨k+1,F',by omega,rfl,by go_num,by rw [<-HS.out],by rw [HB.out];exact dm,cz,bn⟩
    ·omega
  ·obtain rfl:k=n:=by omega
   have HE:=pA6 (jAy (l:=l) (x:=x) (k:=k) (by rw [<-L.out];exact Nat.le_refl _));rw [<-HQ.out] at HE
   cases Q with
   | true=>
    have dz:=pA6 (show kH l x k=oG l x by rw [HE.out];rfl);rw [dz.out] at hv;clear HE;go_wp2;go_ret;exact ⟨_,rfl,⟨F,hv,hF.mono A1.size⟩,A1.then hb⟩
   | false=>
    have dz:=pA6 (show kH l x k++[x]=oG l x by rw [HE.out];rfl);have bg:=qM wr x u (fp.out.bw dA hb) fs;clear HE;go_wp2_with fail;refine bg.mono ?_;rintro e w2 ⟨v2,rfl,⟨F2,o2,f2⟩,dd⟩;obtain ⟨Ax,cx,rfl,_⟩:=XA (xA o2);obtain ⟨MX,dc⟩:=pA7 x.vals.length;rw [<-dc] at o2 ⊢;have bs:=hb.then dd;have cd:=(rA (B:=0)).lt hv;have bj:=(Bw.refl w2).alloc (.cells #[.int .i64 x.id,.slice Ax MX cx] 30);have cb:=(rA (B:=W1.heap.size)).bw (dd.then bj) hb.size hv;have dx:=(aA (B:=W1.heap.size)).bw bj bs.size o2;have cf:=bs.then bj;have bz:∀j t,[Value.int .i64 x.id,.slice Ax MX cx][j]? = some t->(w2.alloc (.cells #[.int .i64 x.id,.slice Ax MX cx] 30)).cell? ((⟨w2.heap.size,0,none⟩:Addr).add j)=some t:=World.news_of_block (cs:=#[.int .i64 x.id,.slice Ax MX cx]) (t:=30) (fr:=(0,0)) (heap_alloc_new w2 _);have cg:=hb.size;clear hv o2 bg dc;go_wp2_with (at_builtin;refine lB _ rfl (.tmp 51) (.tmp 57) 24 rfl W1 30 i0 _ 2 32 underlying24 hi dq ds dt rfl (by omega) sD _ (kH l x k) F rfl cb hF ⟨w2.heap.size,0,none⟩ 1 rfl x [.int .i64 x.id,.slice Ax MX cx] F2 bz ⟨_,rfl,dx⟩ rfl wr.heap.size cd f2 cg (by have:=bc.out;omega) (by have:=bc.out;omega) cf ?_;intro v3 w3 F3 dn fd cc);rw [dz.out] at dn;go_ret;exact ⟨_,rfl,⟨F3,dn,fd.mono A1.size⟩,A1.then cc⟩
theorem zY (w:World) (s:zA) (id:Int) (va vb vc:Value) (ha:Rd LA w s.items [va]) (hb:Rd OA w s.wanted [vb]) (hc:Rd aB w s.best [vc]) :
  Calls prog 22 #[.agg #[va,vb,vc,.int .i64 s.tests],.int .i64 id] w (WB w (nE WA w.heap.size (XC s id))):=by
 obtain ⟨i0,hi,gd,gf,gg⟩:=info_parts xC;obtain ⟨A,n,c,rfl,L,Lc,Lm⟩:=yA ha;obtain ⟨B,m,c2,rfl,M,Mc,Mm⟩:=yA hc;obtain ⟨W0,bm⟩:=pA7 (w.alloc (.cells #[.slice A n c,vb,.slice B m c2,.int .i64 s.tests] 28));have B0:Bw w W0:=by rw [bm];exact (Bw.refl w).alloc _
 have z0:W0.cell? ⟨w.heap.size,0,none⟩=some (.slice A n c):=by rw [bm];go_simp
 have z1:W0.cell? ⟨w.heap.size,1,none⟩=some vb:=by rw [bm];go_simp
 have z2:W0.cell? ⟨w.heap.size,2,none⟩=some (.slice B m c2):=by rw [bm];go_simp
 have z3:W0.cell? ⟨w.heap.size,3,none⟩=some (.int .i64 s.tests):=by rw [bm];go_simp
 have fk:W0.heap.size=w.heap.size+1:=by rw [bm];simp
 have fq:=pA6 fk;obtain ⟨Y,hY⟩:=pA7 (XC s id);rw [<-hY];have HY:=pA6 hY;clear hY;have gz:=pA6 bm;have dk:=MA (e:=3) (sz:=1) (R:=IF) W0;have A0:Bw W0 (W0.alloc (.cells #[] 3)):=(Bw.refl W0).alloc _;have y0:=A0.cell z0;have y1:=A0.cell z1;have y2:=A0.cell z2;have y3:=A0.cell z3;have gc:=fun W (b:Bw w W)=>rG W s _ _ _ (ha.bw gA b) (hb.bw jA b) (hc.bw dA b)
 have HC:=pA6 hc;have HA:=pA6 ha;have gx:=pA6 gc;have jk:(W0.alloc (.cells #[] 3)).heap.size=W0.heap.size+1:=by simp
 rw [fk] at dk;clear bm gc ha hc fk;obtain ⟨Y0,dx⟩:=pA7 (W0.alloc (.cells #[] 3));rw [<-dx] at y0 y1 y2 y3 A0 dk;have jd:=pA6 dx;clear dx jk;go_enter func22,ntmps22;go_wp2_with fail;rw [<-gz.out,<-jd.out];refine (gx.out _ (B0.then A0)).mono ?_;rintro e w1 ⟨rfl,cg⟩;replace y0:=cg.cell y0;replace y1:=cg.cell y1;replace y2:=cg.cell y2;have C1:=A0.then cg;have bd:=(aA (B:=W0.heap.size)).bw cg A0.size dk;rcases pA8 (JB s) with e1 | e1
 ·have E1:=pA6 e1;rw [e1];clear e1;go_wp2_with fail;refine (CE _ s.best id _ (HC.out.bw dA (B0.then C1))).mono ?_;rintro e w2 ⟨rfl,cj⟩;replace y0:=cj.cell y0;replace y1:=cj.cell y1;replace y2:=cj.cell y2;have C2:=C1.then cj;have dm:=(aA (B:=W0.heap.size)).bw cj C1.size bd;rcases pA8 (s.best.contains id) with e2 | e2
  ·have E2:=pA6 e2;rw [e2];clear e2;have HB:=pA6 (wC E1.out).1;have HI:=pA6 (AA HB.out);have n16:n<=16:=by rw [L.out];exact VA HI.out
   have cp:id∈s.best:=by simpa using E2.out
   have dp:=pA6 cp;clear cp bd dk C1 z0 z1 z2 z3 y3;obtain ⟨f,hf⟩:=pA7 (gAn s id);have HF:=pA6 hf;clear hf;go_wp2
   go_loopg [5,26] n (fun g t i w'=>∃(k:Nat) (F:List Nat),k<=n/\g=n-k/\i=.int .i64 k/\WA w' (eF f s.items k) [t] F/\sA W0.heap.size F/\w'.cell? ⟨w.heap.size,0,none⟩=some (.slice A n c)/\w'.cell? ⟨w.heap.size,1,none⟩=some vb/\w'.cell? ⟨w.heap.size,2,none⟩=some (.slice B m c2)/\Bw W0 w')
   ·exact ⟨0,_,by omega,rfl,rfl,dm,⟨by simp,fun b hb=>by have:=fq.out;simp at hb;omega⟩,y0,y1,y2,C2⟩
   ·clear dm C2 y0 y1 y2;obtain ⟨k,F,hk,rfl,rfl,hv,hF,y0,y1,y2,ff⟩:=hrel;obtain ⟨wo,jn⟩:=pA7 wr;subst jn;have db:=B0.then ff;have ha:=HA.out.bw gA db;by_cases hlt:k<n
    ·obtain ⟨x,hx⟩:=tA (xs:=s.items) (k:=k) (by have:=L.out;omega);obtain ⟨bx,ox,Ax,cx,rfl,_,bq,fz,cq⟩:=qB ha hx;have gv:=pA6 (TA HI.out (List.mem_of_getElem? hx));have cs:=jB gv.out;rw [cs] at fz cq;have i1:(0:Int)<=(k:Int):=by omega
     have i2:(k:Int)<(n:Int):=by omega
     have cc:=pA6 (fun hf=>kJ (f:=f) hx hf);have dq:=pA6 (fun hf=>BK (f:=f) hx hf);have cz:=pA6 (show f x=decide (byL s x=[id]) by rw [HF.out,oAd E1.out dp.out (List.mem_of_getElem? hx)]);have hwz:w.heap.size<wo.heap.size:=World.block_lt_of_cell? _ _ y0;have D0:Bw wo (wo.alloc (.cells #[.int .i64 x.id,.slice Ax 3 cx] 30)):=(Bw.refl wo).alloc _;obtain ⟨W1,cd⟩:=pA7 (wo.alloc (.cells #[.int .i64 x.id,.slice Ax 3 cx] 30));have cv:W1.cell? ⟨wo.heap.size,0,none⟩=some (.int .i64 x.id):=by rw [cd];go_simp
     have bp:W1.heap.size=wo.heap.size+1:=by rw [cd];simp
     rw [<-cd] at D0;have D1:Bw W1 (W1.alloc (.cells #[] 3)):=(Bw.refl W1).alloc _;have bk:=MA (e:=3) (sz:=1) (R:=IF) W1;rw [bp] at bk;obtain ⟨W2,dd⟩:=pA7 (W1.alloc (.cells #[] 3));have cf:W2.heap.size=wo.heap.size+2:=by rw [dd];simp [bp]
     rw [<-dd] at D1 bk;have D2:=D0.then D1;replace cv:=D1.cell cv;have cn:=GI W2 s.items s.wanted x.id _ _ (ha.bw gA D2) (hb.bw jA (db.then D2));have k0:=D2.cell y0;have k1:=D2.cell y1;have k2:=D2.cell y2;have jb:=pA6 cd;have jc:=pA6 dd;have cb:=pA6 cf;have HAA:=pA6 ha;have dz:=D2;clear hx cs cd dd ha cq bp cf k0 k1 k2;go_wp2_with fail;rw [<-jb.out,<-jc.out];refine cn.mono ?_;rintro e w5 ⟨vd,rfl,⟨FD,od,fd⟩,dj⟩;have D5:=D2.then dj;have cm:=(aA (B:=0)).bw dj (Nat.zero_le _) bk;replace cv:=dj.cell cv;have zD:∀z∈FD,z∉[wo.heap.size+1]:=fun z hz=>by have:=fd.ge z hz;have:=cb.out;simp only [List.mem_singleton];omega
     have fp:wo.heap.size+2<=w5.heap.size:=by have:=dj.size;have:=cb.out;omega
     obtain ⟨D,hD⟩:=pA7 (xD s.items s.wanted x.id 1);have gm:=pA6 (show ∀k,D.length<=k->mT s D k=byL s x from fun k h=>by rw [hD];exact lAu (by rw [<-hD];exact h));rw [<-hD] at od;have gb:D.length<=s.items.length:=by rw [hD];exact fG _ _ _ _
     rw [<-L.out] at gb;have ct:=xA od;obtain ⟨A3,n3,c3,rfl,L3,L3c,L3m⟩:=yA ct;rw [<-L3.out] at gb;have OD:=pA6 od;have ZD:=pA6 zD;have HW5:=pA6 fp;have gs:=pA6 cv;clear hD ct od zD cn bk D0 D1 dz fd bq fz;go_wp2
     go_loopg [8,39] n3 (fun g t i2 w'=>∃(j:Nat) (FB:List Nat),j<=n3/\g=n3-j/\i2=.int .i64 j/\WA w' (mT s D j) [t] FB/\sA wo.heap.size FB/\Bw wo w'/\TB [wo.heap.size+1] w5 w'/\Hid (∀z∈FB,z=wo.heap.size+1\/w5.heap.size<=z))
     ·exact ⟨0,_,by omega,rfl,rfl,cm,⟨by simp,by simp⟩,D5,TB.refl _ _,pA6 (fun z hz=>.inl (by simpa using hz))⟩
     ·clear cm;obtain ⟨j,FB,hj,rfl,rfl,bv,ft,bn,dc,dn⟩:=hrel;have t0:=bn.cell y0;have t1:=bn.cell y1;have t2:=bn.cell y2;have jf:=db.then bn;by_cases hlt2:j<n3
      ·obtain ⟨d,hd⟩:=tA (xs:=D) (k:=j) (by have:=L3.out;omega);obtain ⟨bb,ob,rfl,_,fx⟩:=KB (xA (dc.keeps aA OD.out ZD.out)) hd;have i3:(0:Int)<=(j:Int):=by omega
       have i4:(j:Int)<(n3:Int):=by omega
       have gp:=pA6 (fun h=>lAt (s:=s) hd h);have gn:=pA6 (fun h=>nAi (s:=s) hd h);clear hd;go_wp2_with fail;refine (CE _ s.best d _ (HC.out.bw dA jf)).mono ?_;rintro e w6 ⟨rfl,fb⟩;have bg:=bn.then fb;have bj:=(aA (B:=wo.heap.size)).bw fb bn.size bv;have dv:=dc.then (fb.only []) (by simp);rcases pA8 (s.best.contains d) with e3 | e3
       ·have bf:=pA6 (gp.out e3);rw [e3];clear e3;have bz:=pA6 (lAv (s:=s) (D:=D) (k:=j));have dt:=(aA (B:=0)).lt bj;have bs:Bw w6 (w6.alloc (.cells #[.int .i64 d] 3)):=(Bw.refl w6).alloc _;have fn:=(aA (B:=wo.heap.size)).bw bs bg.size bj;have fc:=bg.then bs;have fv:=pA6 (dv.then (bs.only []) (by simp));have fj:=cell_one_new w6 (.int .i64 d) 3;have fg:=bg.size;clear bj bv dc dv;go_wp2_with (at_builtin;refine iC _ rfl (.tmp 47) (.tmp 49) 26 rfl wo 3 i0 _ 1 8 underlying26 hi gd gf gg rfl (by omega) YA _ (mT s D j) FB rfl fn ft ⟨w6.heap.size,0,none⟩ 1 rfl d [.int .i64 d] [] fj ⟨rfl,rfl⟩ rfl _ dt sA.nil fg (by have:=bz.out;omega) (by have:=bz.out;omega) fc ?_;intro v' w' F' fm ds df jg jm);have jj:=TB.push fv.out jg dn.out;have gq:=pA6 (show ∀z∈F',z=wo.heap.size+1\/w5.heap.size<=z from fun z hz=>(jm z hz).elim (fun h=>dn.out z h) (fun h=>h.elim (fun h=>by simp at h) (fun h=>.inr (Nat.le_trans fv.out.1 h))))
        go_roundg (n3-(j+1))
        ·exact ⟨j+1,F',by omega,rfl,by go_num,by rw [bf.out];exact fm,ds,df,jj,gq⟩
        ·omega
       ·have bf:=pA6 (gn.out e3);rw [e3];clear e3;go_wp2
        go_roundg (n3-(j+1))
        ·exact ⟨j+1,FB,by omega,rfl,by go_num,by rw [bf.out];exact bj,ft,bg,dv,dn⟩
        ·omega
      ·obtain rfl:j=n3:=by omega
       rw [gm.out _ (by rw [<-L3.out];exact Nat.le_refl _)] at bv;have kk0:=dc.cell gs.out (by simp);have bt:=ff.then bn;have bd:=(aA (B:=W0.heap.size)).bw bn ff.size hv;obtain ⟨BY,fs⟩:=pA7 (byL s x);rw [<-fs] at bv cz;have ck:=xA bv;obtain ⟨A5,n5,c5,rfl,L5,L5c,L5m⟩:=yA ck;clear fs hv bv hlt2;by_cases h1:n5=1
       ·subst h1;obtain ⟨d0,bq⟩:∃d0,BY=[d0]:=by
         have:=L5.out
         match BY,this with
         | [d0],_=>exact ⟨d0,rfl⟩
        obtain ⟨bb,ob,rfl,_,fx⟩:=KB (k:=0) ck (x:=d0) (by rw [bq];rfl);rw [Nat.add_zero] at fx;by_cases hdd:d0=id
        ·have e0:(d0==id)=true:=by simpa using hdd
         have bf:=pA6 (cc.out (by rw [cz.out,bq,hdd];simp));have bz:=pA6 (mJ (f:=f) (l:=s.items) (k:=k));have dt:=(aA (B:=0)).lt bd;have bs:Bw wr (wr.alloc (.cells #[.int .i64 x.id] 3)):=(Bw.refl wr).alloc _;have fn:=(aA (B:=W0.heap.size)).bw bs bt.size bd;have fc:=bt.then bs;have fj:=cell_one_new wr (.int .i64 x.id) 3;have fg:=bt.size;have gj:w.heap.size<W0.heap.size:=by have:=fq.out;omega
         clear bd bq hdd ck cc dq;go_wp2_with (at_builtin;refine lB _ rfl (.tmp 62) (.tmp 65) 26 rfl W0 3 i0 _ 1 8 underlying26 hi gd gf gg rfl (by omega) YA _ (eF f s.items k) F rfl fn hF ⟨wr.heap.size,0,none⟩ 1 rfl x.id [.int .i64 x.id] [] fj ⟨rfl,rfl⟩ rfl _ dt sA.nil fg (by have:=bz.out;omega) (by have:=bz.out;omega) fc ?_;intro v' w' F' fm ds df;have bc:∀o u,wr.cell? ⟨w.heap.size,o,none⟩=some u->w'.cell? ⟨w.heap.size,o,none⟩=some u:=(fun o u h=>(Below.cell df (p:=⟨w.heap.size,o,none⟩) gj).trans ((Below.cell bt (p:=⟨w.heap.size,o,none⟩) gj).symm.trans h));replace t0:=bc _ _ t0;replace t1:=bc _ _ t1;replace t2:=bc _ _ t2;clear bc)
         go_roundg (n-(k+1))
         ·exact ⟨k+1,F',by omega,rfl,by go_num,by rw [bf.out];exact fm,ds,t0,t1,t2,df⟩
         ·omega
        ·have e0:(d0==id)=false:=by simpa using hdd
         have bf:=pA6 (dq.out (by rw [cz.out,bq];simpa using hdd));clear hdd bq ck;go_wp2
         go_roundg (n-(k+1))
         ·exact ⟨k+1,F,by omega,rfl,by go_num,by rw [bf.out];exact bd,hF,t0,t1,t2,bt⟩
         ·omega
       ·have e0:((n5:Int)==1)=false:=by
         rw [beq_eq_false_iff_ne];omega
        have bf:=pA6 (dq.out (by
         rw [cz.out,decide_eq_false_iff_not];intro h;have:=L5.out;rw [h] at this;simp at this;omega))
        clear h1 ck;go_wp2
        go_roundg (n-(k+1))
        ·exact ⟨k+1,F,by omega,rfl,by go_num,by rw [bf.out];exact bd,hF,t0,t1,t2,bt⟩
        ·omega
    ·obtain rfl:k=n:=by omega
     rw [lJ (by rw [<-L.out];exact Nat.le_refl _),HF.out,<-gX E1.out E2.out,<-HY.out] at hv;go_wp2;go_ret;exact ⟨_,rfl,⟨F,hv,hF.mono B0.size⟩,db⟩
  ·have E2:=pA6 (JR (s:=s) (id:=id) (by rw [E1.out,e2];rfl));rw [e2];rw [<-E2.out,<-HY.out] at dm;clear e2;go_wp2;go_ret;exact ⟨_,rfl,⟨_,dm,⟨by simp,by simp⟩⟩,B0.then C2⟩
 ·have E2:=pA6 (JR (s:=s) (id:=id) (by rw [e1];rfl));rw [e1];rw [<-E2.out,<-HY.out] at bd;clear e1;go_wp2;go_ret;exact ⟨_,rfl,⟨_,bd,⟨by simp,by simp⟩⟩,B0.then C1⟩
end Go.Proofs.YtpihighajaeabaaGreat
