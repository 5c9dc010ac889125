/- The items that compare with an item in a way, in both programs. -/
import Derived.Test.YtpihighajaeabaaGreatXCostOf
import Derived.Test.YtpihighajaeabaaGreatXBestS
namespace Go.Proofs.YtpihighajaeabaaGreat
open Go.RowKit Go.Proofs.Tryz
set_option linter.all false
set_option maxRecDepth 100000
set_option maxHeartbeats 16000000
def DG (e:List mA) (p:iA) (code:Int) (x:iA):Bool:=decide (zC e x p=code)
def eG (f:iA->Bool) (l:List iA):List Int:=(l.filter f).map (·.id)
def eF (f:iA->Bool) (l:List iA) (k:Nat):List Int:=((l.take k).filter f).map (·.id)
theorem kJ {f:iA->Bool} {l:List iA} {k:Nat} {x:iA} (hx:l[k]? = some x) (h:f x=true):eF f l (k+1)=eF f l k++[x.id]:=by
 unfold eF;rw [List.take_add_one,hx,List.filter_append];simp only [Option.toList_some,List.filter_cons,List.filter_nil,h,if_true,List.map_append,List.map_cons,List.map_nil]
theorem BK {f:iA->Bool} {l:List iA} {k:Nat} {x:iA} (hx:l[k]? = some x) (h:f x=false):eF f l (k+1)=eF f l k:=by
 unfold eF;rw [List.take_add_one,hx,List.filter_append];simp only [Option.toList_some,List.filter_cons,List.filter_nil,h,List.append_nil,Bool.false_eq_true,if_false]
theorem lJ {f:iA->Bool} {l:List iA} {k:Nat} (h:l.length<=k):eF f l k=eG f l:=by unfold eF eG;rw [List.take_of_length_le h]
theorem mJ {f:iA->Bool} {l:List iA} {k:Nat}:(eF f l k).length<=k:=by
 unfold eF;rw [List.length_map];exact Nat.le_trans (List.length_filter_le _ _) (by rw [List.length_take];omega)
theorem KS (f:iA->Bool) (l:List iA):(eG f l).length<=l.length:=by unfold eG;rw [List.length_map];exact List.length_filter_le _ _
def xD (l:List iA) (e:List mA) (id code:Int):List Int:=if MB l e id then eG (DG e (VB l id) code) l else []
theorem fG (l:List iA) (e:List mA) (id code:Int):(xD l e id code).length<=l.length:=by
 unfold xD;split
 ·exact KS _ _
 ·exact Nat.zero_le _
theorem UQ {l:List iA} {e:List mA} {id code:Int} {j:Nat} {p:iA} (hB:kB l e=true) (hf:rB l id=(j:Int)) (hp:l[j]? = some p):xD l e id code=eG (DG e p code) l:=by
 have:MB l e id=true:=by unfold MB;rw [hB,hf];simp
 rw [xD,if_pos this,lF hf hp]
theorem aAg {l:List iA} {e:List mA} {id code:Int} (h:MB l e id=false):xD l e id code=[]:=by unfold xD;rw [h];rfl
theorem pH (l:List iA) (e:List mA) (id:Int):(MB l e id=false)\/(kB l e=true/\∃(j:Nat) (p:iA),rB l id=(j:Int)/\l[j]? = some p/\p.id=id):=by
 rcases pA8 (MB l e id) with hc | hc
 ·have h1:=hc;unfold MB at h1;rw [Bool.and_eq_true,decide_eq_true_eq] at h1;rcases OC l id with ⟨hK,_⟩ | ⟨j,x,hK,hx,hid⟩
  ·have:=h1.2;omega
  ·exact .inr ⟨h1.1,j,x,hK,hx,hid⟩
 ·exact .inl hc
theorem TP {l:List iA} {e:List mA} {id:Int} (h:MB l e id=false) (hB:kB l e=true):rB l id<0:=by
 unfold MB at h;rw [hB,Bool.true_and,decide_eq_false_iff_not] at h;omega
theorem iM:∀ {l:List iA} {p:Int},pAl (some p) l=true->∀x∈l,p<x.id
 | [],_,_,x,hx=>by simp at hx
 | y::l,p,h,x,hx=>by
  simp only [pAl,Bool.and_eq_true,decide_eq_true_eq] at h;rcases List.mem_cons.1 hx with rfl | hx
  ·exact h.1.2
  ·have:=iM h.2 x hx;omega
theorem bZ:∀ {l:List iA} {o:Option Int},pAl o l=true->∀x∈l,∀y∈l,x.id=y.id->x=y
 | [],_,_,x,hx,_,_,_=>by simp at hx
 | z::l,o,h,x,hx,y,hy,e=>by
  have h2:pAl (some z.id) l=true:=by
   cases o<;>simp only [pAl,Bool.and_eq_true] at h<;>exact h.2
  rcases List.mem_cons.1 hx with h3 | h3
  ·rcases List.mem_cons.1 hy with h4 | h4
   ·rw [h3,h4]
   ·have:=iM h2 y h4;rw [<-e,h3] at this;omega
  ·rcases List.mem_cons.1 hy with h4 | h4
   ·have:=iM h2 x h3;rw [e,h4] at this;omega
   ·exact bZ h2 x h3 y h4 e
theorem dP {l:List iA} (h:dB l=true) {x y:iA} (hx:x∈l) (hy:y∈l) (e:x.id=y.id):x=y:=by
 unfold dB at h;rw [Bool.and_eq_true] at h;exact bZ h.1 x hx y hy e
theorem XX (w:World) (l:List iA) (e:List mA) (id code:Int) (v u:Value) (h:Rd LA w l [v]) (h':Rd OA w e [u]) (hB:kB l e=true) (j:Nat) (p:iA) (hf:rB l id=(j:Int)) (hp:l[j]? = some p) :
  Calls prog 169 #[v,u,.int .i64 id,.int .i64 code] w (WB w (nE WA w.heap.size (eG (DG e p code) l))):=by
 obtain ⟨i0,hi,dj,dk,dm⟩:=info_parts xC;obtain ⟨A,n,c,rfl,L,Lc,Lm⟩:=yA h;have HB:=pA6 hB;have HP:=pA6 (TA (AA hB) (List.mem_of_getElem? hp));have n16:n<=16:=by rw [L.out];exact VA (AA hB)
 have hjn:j<n:=by rw [L.out];exact (List.getElem?_eq_some_iff.1 hp).1
 obtain ⟨ba,oa,Ap,cp,rfl,_,db,cf,ck⟩:=qB h hp;rw [jB HP.out] at cf ck;have j1:(0:Int)<=(j:Int):=by omega
 have j2:(j:Int)<(n:Int):=by omega
 have j3:¬((j:Int)<0):=by omega
 have cm:=MA (e:=3) (sz:=1) (R:=IF) w;have A0:Bw w (w.alloc (.cells #[] 3)):=(Bw.refl w).alloc _;have bb:=fun W (B:Bw w W)=>GD W l id _ (h.bw gA B)
 rw [hf] at bb;have HH:=pA6 h;clear hB hp hf h;go_enter func169,ntmps169;go_wp2_with fail;refine (bb _ A0).mono ?_;rintro e w1 ⟨rfl,bv⟩;have B1:=A0.then bv;go_wp2_with fail;refine (KE _ l e _ _ (HH.out.bw gA B1) (h'.bw jA B1)).mono ?_;rintro e w2 ⟨rfl,bx⟩;rw [HB.out];have B2:=B1.then bx;have cn:=(aA (B:=w.heap.size)).bw (bv.then bx) A0.size cm;clear bb cm bv bx A0 B1;go_wp2
 go_loopg [9,28] n (fun g s i w'=>∃(k:Nat) (F:List Nat),k<=n/\g=n-k/\i=.int .i64 k/\WA w' (eF (DG e p code) l k) [s] F/\sA w.heap.size F/\Bw w w')
 ·exact ⟨0,_,by omega,rfl,rfl,cn,⟨by simp,by simp⟩,B2⟩
 ·clear cn B2;obtain ⟨k,F,hk,rfl,rfl,hv,hF,hb⟩:=hrel;by_cases hlt:k<n
  ·obtain ⟨x,hx⟩:=tA (xs:=l) (k:=k) (by have:=L.out;omega);obtain ⟨b2,o2,Ax,cx,eA,_,bz,cb,bj⟩:=qB HH.out hx;injection eA with eA;injection eA with eA1 eA2;subst eA1 eA2;have cd:=pA6 (TA (AA HB.out) (List.mem_of_getElem? hx));have bk:=jB cd.out;rw [bk] at cb bj;have i1:(0:Int)<=(k:Int):=by omega
   have i2:(k:Int)<(n:Int):=by omega
   replace bz:=hb.cell bz;replace cb:=hb.cell cb;have hbx:=World.block_lt_of_cell? _ _ bz;have bc:=pA6 (fun hf=>kJ (f:=DG e p code) hx hf);have bt:=pA6 (fun hf=>BK (f:=DG e p code) hx hf);have A1:Bw wr (wr.alloc (.cells #[.int .i64 x.id,.slice Ax 3 cx] 30)):=(Bw.refl wr).alloc _;have hFm0:=(aA (B:=0)).lt hv;have bn:(wr.alloc (.cells #[.int .i64 x.id,.slice Ax 3 cx] 30)).cell? ⟨wr.heap.size,0,none⟩=some (.int .i64 x.id):=by go_simp
   have bq:(wr.alloc (.cells #[.int .i64 x.id,.slice Ax 3 cx] 30)).cell? ⟨wr.heap.size,1,none⟩=some (.slice Ax 3 cx):=by go_simp
   obtain ⟨W,hW⟩:=pA7 (wr.alloc (.cells #[.int .i64 x.id,.slice Ax 3 cx] 30));rw [<-hW] at bn bq A1;have HW:=pA6 hW;have bd:=hb.then A1;have cg:=A1.cell (hb.cell db);have cj:=A1.cell (hb.cell cf);have s0:=pA bn;have s1:=pA bq;have s2:=pA cg;have s3:=pA cj;have bg:∀s:eC W,Calls prog 78 #[u,.agg #[.int .i64 x.id,.slice Ax 3 cx],.agg #[.int .i64 p.id,.slice Ap 3 cp]] s.1 (Ret s.1 (.int .i64 (zC e x p))):=fun s=>eI _ e x p _ _ _ (h'.bw jA (bd.then s.bw)) (Rd.bw dA bj (bd.then s.bw)) (Rd.bw dA ck (bd.then s.bw)) (yB HB.out) cd.out HP.out
   have bp:=(aA (B:=w.heap.size)).bw A1 hb.size hv;obtain ⟨r,hr⟩:=pA7 (zC e x p);have HR:=pA6 (show DG e p code x=decide (r=code) by rw [hr];rfl);rw [<-hr] at bg;clear hx bk hW hv hr cg cj;by_cases hr1:r=code
   ·have e1:(r==code)=true:=by simpa using hr1
    have bs:=pA6 (bc.out (by rw [HR.out];simpa using hr1));clear hr1 bc bt HR;go_wp2;rw [<-HW.out];refine IA (by kernel_rfl) ?_
    repeat (first | go_big_quiet_skip | (go_big_quiet_want;go_big_quiet_op;first | go_big_quiet_on | (apply Exists.intro;refine ⟨fun _=>?_,?_⟩;(· (((first | (go_at_call 78;exact DA (bg _))))));go_big_quiet_on)))
    refine JA fun wq hbq=>?_
    try dsimp only at *
    have bf:=bd.then hbq;replace bn:=hbq.cell bn;have cc:=pA6 (mJ (f:=DG e p code) (l:=l) (k:=k));have bm:=(aA (B:=w.heap.size)).bw hbq bd.size bp;have cs:=(aA (B:=0)).lt bm;have df:=(aA (B:=w.heap.size)).bw ((Bw.refl wq).alloc (.cells #[.int .i64 x.id] 3)) bf.size bm;have cz:=bf.alloc (.cells #[.int .i64 x.id] 3);have dc:=cell_one_new wq (.int .i64 x.id) 3;have cv:=bf.size;clear bm bp bg s0 s1 s2 s3 bq;go_wp2_with (at_builtin;refine lB _ rfl (.tmp 41) (.tmp 44) 26 rfl w 3 i0 _ 1 8 underlying26 hi dj dk dm rfl (by omega) YA _ (eF (DG e p code) l k) F rfl df hF ⟨wq.heap.size,0,none⟩ 1 rfl x.id [.int .i64 x.id] [] dc ⟨rfl,rfl⟩ rfl _ cs sA.nil cv (by have:=cc.out;omega) (by have:=cc.out;omega) cz ?_;intro v' w' F' dd cq ct)
    go_roundg (n-(k+1))
    ·exact ⟨k+1,F',by omega,rfl,by go_num,by rw [bs.out];exact dd,cq,ct⟩
    ·omega
   ·have e1:(r==code)=false:=by simpa using hr1
    have bs:=pA6 (bt.out (by rw [HR.out];simpa using hr1));clear hr1 bc bt HR;go_wp2;rw [<-HW.out];refine IA (by kernel_rfl) ?_
    repeat (first | go_big_quiet_skip | (go_big_quiet_want;go_big_quiet_op;first | go_big_quiet_on | (apply Exists.intro;refine ⟨fun _=>?_,?_⟩;(· (((first | (go_at_call 78;exact DA (bg _))))));go_big_quiet_on)))
    refine JA fun wq hbq=>?_
    try dsimp only at *
    have bf:=bd.then hbq;have bm:=(aA (B:=w.heap.size)).bw hbq bd.size bp;clear bp bg s0 s1 s2 s3 bq bn;go_wp2
    go_roundg (n-(k+1))
    ·exact ⟨k+1,F,by omega,rfl,by go_num,by rw [bs.out];exact bm,hF,bf⟩
    ·omega
  ·obtain rfl:k=n:=by omega
   rw [lJ (by rw [<-L.out];exact Nat.le_refl _)] at hv;go_wp2;go_ret;exact ⟨_,rfl,⟨F,hv,hF⟩,hb⟩
theorem aAh (w:World) (l:List iA) (e:List mA) (id code:Int) (v u:Value) (h:Rd LA w l [v]) (h':Rd OA w e [u]) (hno:MB l e id=false) :
  Calls prog 169 #[v,u,.int .i64 id,.int .i64 code] w (WB w (nE WA w.heap.size [])):=by
 have bg:=MA (e:=3) (sz:=1) (R:=IF) w;have A0:Bw w (w.alloc (.cells #[] 3)):=(Bw.refl w).alloc _;have bb:=fun W (B:Bw w W)=>GD W l id _ (h.bw gA B)
 have bc:=pA6 (TP hno);obtain ⟨K,hK⟩:=pA7 (rB l id);rw [<-hK] at bb bc;clear hno hK;go_enter func169,ntmps169;go_wp2_with fail;refine (bb _ A0).mono ?_;rintro e w1 ⟨rfl,bd⟩;have B1:=A0.then bd;go_wp2_with fail;refine (KE _ l e _ _ (h.bw gA B1) (h'.bw jA B1)).mono ?_;rintro e w2 ⟨rfl,bf⟩;have B2:=B1.then bf;have bj:=(aA (B:=w.heap.size)).bw (bd.then bf) A0.size bg;clear bb bg;rcases pA8 (kB l e) with e1 | e1
 ·have k1:=bc.out e1;rw [e1];clear e1;go_wp2;go_ret;exact ⟨_,rfl,⟨_,bj,⟨by simp,by simp⟩⟩,B2⟩
 ·rw [e1];clear e1 bc;go_wp2;go_ret;exact ⟨_,rfl,⟨_,bj,⟨by simp,by simp⟩⟩,B2⟩
theorem cZ (w:World) (l:List iA) (e:List mA) (id code:Int) (v u:Value) (h:Rd LA w l [v]) (h':Rd OA w e [u]) :
  Calls prog 169 #[v,u,.int .i64 id,.int .i64 code] w (WB w (nE WA w.heap.size (xD l e id code))):=by
 rcases pH l e id with hc | ⟨hB,j,p,hf,hp,_⟩
 ·rw [aAg hc];exact aAh w l e id code v u h h' hc
 ·rw [UQ hB hf hp];exact XX w l e id code v u h h' hB j p hf hp
theorem GI (w:World) (l:List iA) (e:List mA) (id:Int) (v u:Value) (h:Rd LA w l [v]) (h':Rd OA w e [u]) :
  Calls prog 105 #[v,u,.int .i64 id] w (WB w (nE WA w.heap.size (xD l e id 1))):=by
 go_enter func105,ntmps105;go_wp2_with fail;refine (cZ _ l e id 1 _ _ h h').mono ?_;rintro e w1 ⟨v1,rfl,⟨F1,o1,f1⟩,hb1⟩;go_wp2;go_ret;exact ⟨_,rfl,⟨F1,o1,f1⟩,hb1⟩
theorem cAi (w:World) (l:List iA) (e:List mA) (id:Int) (v u:Value) (h:Rd LA w l [v]) (h':Rd OA w e [u]) :
  Calls prog 241 #[v,u,.int .i64 id] w (Ret w (.bool ((eB l e).contains id))):=by
 go_enter func241,ntmps241;go_wp2_with fail;refine (fI _ l e _ _ h h').mono ?_;rintro e w1 ⟨v1,rfl,⟨F1,o1,f1⟩,bb⟩;go_wp2_with fail;refine (CE _ (eB l e) id _ (xA o1)).mono ?_;rintro e w2 ⟨rfl,bc⟩;go_wp2;go_ret;exact Ret.bool (by simp) (bb.then bc)
theorem UP (w:World) (l:List iA) (e:List mA) (id:Int) (v u:Value) (h:Rd LA w l [v]) (h':Rd OA w e [u]) (hB:kB l e=true) (j:Nat) (p:iA) (hf:rB l id=(j:Int)) (hp:l[j]? = some p) :
  Calls prog 243 #[v,u,.int .i64 id] w (WB w (nE WA w.heap.size (eG (DG e p 1) l))):=by
 obtain ⟨i0,hi,dd,df,dj⟩:=info_parts xC;obtain ⟨A,n,c,rfl,L,Lc,Lm⟩:=yA h;have HB:=pA6 hB;have HP:=pA6 (TA (AA hB) (List.mem_of_getElem? hp));have n16:n<=16:=by rw [L.out];exact VA (AA hB)
 have hjn:j<n:=by rw [L.out];exact (List.getElem?_eq_some_iff.1 hp).1
 obtain ⟨ba,oa,Ap,cp,rfl,_,cv,cc,cg⟩:=qB h hp;rw [jB HP.out] at cc cg;have j1:(0:Int)<=(j:Int):=by omega
 have j2:(j:Int)<(n:Int):=by omega
 have j3:¬((j:Int)<0):=by omega
 have cj:=MA (e:=3) (sz:=1) (R:=IF) w;have A0:Bw w (w.alloc (.cells #[] 3)):=(Bw.refl w).alloc _;have bb:=fun W (B:Bw w W)=>gD W l id _ (h.bw gA B)
 rw [hf] at bb;have HH:=pA6 h;clear hB hp hf h;go_enter func243,ntmps243;go_wp2_with fail;refine (bb _ A0).mono ?_;rintro e w1 ⟨rfl,bv⟩;have B1:=A0.then bv;have ck:=(aA (B:=w.heap.size)).bw bv A0.size cj;clear bb cj bv A0;go_wp2
 go_loopg [7,9] n (fun g s i w'=>∃(k:Nat) (F:List Nat),k<=n/\g=n-k/\i=.int .i64 k/\WA w' (eF (DG e p 1) l k) [s] F/\sA w.heap.size F/\Bw w w')
 ·exact ⟨0,_,by omega,rfl,rfl,ck,⟨by simp,by simp⟩,B1⟩
 ·clear ck B1;obtain ⟨k,F,hk,rfl,rfl,hv,hF,bg⟩:=hrel;by_cases hlt:k<n
  ·go_wp2_with fail;refine (EE _ l e _ _ (HH.out.bw gA bg) (h'.bw jA bg)).mono ?_;rintro e wo ⟨rfl,cb⟩;rw [HB.out];have hb:=bg.then cb;obtain ⟨x,hx⟩:=tA (xs:=l) (k:=k) (by have:=L.out;omega);obtain ⟨b2,o2,Ax,cx,eA,_,bd,bf,bm⟩:=qB HH.out hx;injection eA with eA;injection eA with eA1 eA2;subst eA1 eA2;have bz:=pA6 (TA (AA HB.out) (List.mem_of_getElem? hx));have bn:=jB bz.out;rw [bn] at bf bm;have i1:(0:Int)<=(k:Int):=by omega
   have i2:(k:Int)<(n:Int):=by omega
   replace bd:=hb.cell bd;replace bf:=hb.cell bf;have bc:=pA6 (fun hf=>kJ (f:=DG e p 1) hx hf);have bt:=pA6 (fun hf=>BK (f:=DG e p 1) hx hf);have cd:=hb.cell cv;have cf:=hb.cell cc;have s0:=pA bd;have s1:=pA bf;have s2:=pA cd;have s3:=pA cf;have bk:∀s:eC wo,Calls prog 85 #[u,.agg #[.int .i64 x.id,.slice Ax 3 cx],.agg #[.int .i64 p.id,.slice Ap 3 cp]] s.1 (Ret s.1 (.int .i64 (zC e x p))):=fun s=>pG _ e x p _ _ _ (h'.bw jA (hb.then s.bw)) (Rd.bw dA bm (hb.then s.bw)) (Rd.bw dA cg (hb.then s.bw)) (yB HB.out) bz.out HP.out
   have bq:=(aA (B:=w.heap.size)).bw cb bg.size hv;obtain ⟨r,hr⟩:=pA7 (zC e x p);have HR:=pA6 (show DG e p 1 x=decide (r=1) by rw [hr];rfl);rw [<-hr] at bk;clear hx bn hv hr cd cf;by_cases hr1:r=1
   ·have e1:(r==1)=true:=by simpa using hr1
    have bs:=pA6 (bc.out (by rw [HR.out];simpa using hr1));clear hr1 bc bt HR;go_wp2;refine IA (by kernel_rfl) ?_
    repeat (first | go_big_quiet_skip | (go_big_quiet_want;go_big_quiet_op;first | go_big_quiet_on | (apply Exists.intro;refine ⟨fun _=>?_,?_⟩;(· (((first | (go_at_call 85;exact DA (bk _))))));go_big_quiet_on)))
    refine JA fun wq hbq=>?_
    try dsimp only at *
    have bj:=hb.then hbq;replace bd:=hbq.cell bd;have bx:=pA6 (mJ (f:=DG e p 1) (l:=l) (k:=k));have bp:=(aA (B:=w.heap.size)).bw hbq hb.size bq;have cn:=(aA (B:=0)).lt bp;have dc:=(aA (B:=w.heap.size)).bw ((Bw.refl wq).alloc (.cells #[.int .i64 x.id] 3)) bj.size bp;have cs:=bj.alloc (.cells #[.int .i64 x.id] 3);have cz:=cell_one_new wq (.int .i64 x.id) 3;have ct:=bj.size;clear bp bq bk s0 s1 s2 s3 bf;go_wp2_with (at_builtin;refine lB _ rfl (.tmp 40) (.tmp 46) 26 rfl w 3 i0 _ 1 8 underlying26 hi dd df dj rfl (by omega) YA _ (eF (DG e p 1) l k) F rfl dc hF ⟨wq.heap.size,0,none⟩ 1 rfl x.id [.int .i64 x.id] [] cz ⟨rfl,rfl⟩ rfl _ cn sA.nil ct (by have:=bx.out;omega) (by have:=bx.out;omega) cs ?_;intro v' w' F' db cm cq)
    go_roundg (n-(k+1))
    ·exact ⟨k+1,F',by omega,rfl,by go_num,by rw [bs.out];exact db,cm,cq⟩
    ·omega
   ·have e1:(r==1)=false:=by simpa using hr1
    have bs:=pA6 (bt.out (by rw [HR.out];simpa using hr1));clear hr1 bc bt HR;go_wp2;refine IA (by kernel_rfl) ?_
    repeat (first | go_big_quiet_skip | (go_big_quiet_want;go_big_quiet_op;first | go_big_quiet_on | (apply Exists.intro;refine ⟨fun _=>?_,?_⟩;(· (((first | (go_at_call 85;exact DA (bk _))))));go_big_quiet_on)))
    refine JA fun wq hbq=>?_
    try dsimp only at *
    have bj:=hb.then hbq;have bp:=(aA (B:=w.heap.size)).bw hbq hb.size bq;clear bq bk s0 s1 s2 s3 bf bd;go_wp2
    go_roundg (n-(k+1))
    ·exact ⟨k+1,F,by omega,rfl,by go_num,by rw [bs.out];exact bp,hF,bj⟩
    ·omega
  ·obtain rfl:k=n:=by omega
   rw [lJ (by rw [<-L.out];exact Nat.le_refl _)] at hv;go_wp2;go_ret;exact ⟨_,rfl,⟨F,hv,hF⟩,bg⟩
theorem VQ (w:World) (l:List iA) (e:List mA) (id:Int) (v u:Value) (h:Rd LA w l [v]) (h':Rd OA w e [u]) (hno:MB l e id=false) :
  Calls prog 243 #[v,u,.int .i64 id] w (WB w (nE WA w.heap.size [])):=by
 obtain ⟨A,n,c,rfl,L,Lc,Lm⟩:=yA h;have bg:=MA (e:=3) (sz:=1) (R:=IF) w;have A0:Bw w (w.alloc (.cells #[] 3)):=(Bw.refl w).alloc _;have bb:=fun W (B:Bw w W)=>gD W l id _ (h.bw gA B)
 have bc:=pA6 (TP hno);obtain ⟨K,hK⟩:=pA7 (rB l id);rw [<-hK] at bb bc;clear hno hK;go_enter func243,ntmps243;go_wp2_with fail;refine (bb _ A0).mono ?_;rintro e w1 ⟨rfl,bd⟩;have B1:=A0.then bd;have bj:=(aA (B:=w.heap.size)).bw bd A0.size bg;clear bb bg;have HH:=pA6 h;go_wp2
 go_loopg [7,9] 0 (fun g s i w'=>g=0/\i=.int .i64 0/\WA w' [] [s] [w.heap.size]/\Bw w w')
 ·exact ⟨rfl,rfl,bj,B1⟩
 ·clear bj B1 h;obtain ⟨rfl,rfl,hv,hb⟩:=hrel;have h:=HH.out;by_cases h0:0<n
  ·have k0:(0:Int)<(n:Int):=by omega
   by_cases hK:K<0
   ·have k1:¬(0<=K):=by omega
    clear hK;go_wp2;go_ret;exact ⟨_,rfl,⟨_,hv,⟨by simp,by simp⟩⟩,hb⟩
   ·have k1:0<=K:=by omega
    clear hK;have hE:Hid (kB l e=false):=by
     rcases pA8 (kB l e) with h1 | h1
     ·have:=bc.out h1;omega
     ·exact pA6 h1
    go_wp2_with fail;refine (EE _ l e _ _ (HH.out.bw gA hb) (h'.bw jA hb)).mono ?_;rintro e w2 ⟨rfl,bf⟩;rw [hE.out];have bk:=(aA (B:=w.heap.size)).bw bf hb.size hv;have B2:=hb.then bf;go_wp2;go_ret;exact ⟨_,rfl,⟨_,bk,⟨by simp,by simp⟩⟩,B2⟩
  ·obtain rfl:n=0:=by omega
   go_wp2;go_ret;exact ⟨_,rfl,⟨_,hv,⟨by simp,by simp⟩⟩,hb⟩
theorem CK (w:World) (l:List iA) (e:List mA) (id:Int) (v u:Value) (h:Rd LA w l [v]) (h':Rd OA w e [u]) :
  Calls prog 243 #[v,u,.int .i64 id] w (WB w (nE WA w.heap.size (xD l e id 1))):=by
 rcases pH l e id with hc | ⟨hB,j,p,hf,hp,_⟩
 ·rw [aAg hc];exact VQ w l e id v u h h' hc
 ·rw [UQ hB hf hp];exact UP w l e id v u h h' hB j p hf hp
end Go.Proofs.YtpihighajaeabaaGreat
