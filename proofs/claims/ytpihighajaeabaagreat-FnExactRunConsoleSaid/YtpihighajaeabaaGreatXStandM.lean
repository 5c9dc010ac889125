/- Standing answers that change: plain model. No program in sight. -/
import Derived.Test.YtpihighajaeabaaGreatXDom
import Derived.Test.YtpihighajaeabaaGreatXLines3
import Derived.Test.YtpihighajaeabaaGreatXDelW
import Derived.Test.YtpihighajaeabaaGreatXSortU
namespace Go.Proofs.YtpihighajaeabaaGreat
open Go.RowKit Go.Proofs.Tryz
set_option linter.all false
set_option maxRecDepth 100000
set_option maxHeartbeats 16000000
def gAn (s:zA) (id:Int) (x:iA):Bool:=EC s.wanted (VB s.items id) x && s.best.all fun b=>b==id || !(EC s.wanted (VB s.items b) x)
def XC (s:zA) (id:Int):List Int:=if JB s && s.best.contains id then eG (gAn s id) s.items else []
def byL (s:zA) (x:iA):List Int:=(xD s.items s.wanted x.id 1).filter fun d=>s.best.contains d
def mT (s:zA) (D:List Int) (k:Nat):List Int:=(D.take k).filter fun d=>s.best.contains d
theorem lAt {s:zA} {D:List Int} {k:Nat} {d:Int} (hx:D[k]? = some d) (h:s.best.contains d=true):mT s D (k+1)=mT s D k++[d]:=by
 unfold mT;rw [List.take_add_one,hx,List.filter_append];simp only [Option.toList_some,List.filter_cons,List.filter_nil,h,if_true]
theorem nAi {s:zA} {D:List Int} {k:Nat} {d:Int} (hx:D[k]? = some d) (h:s.best.contains d=false):mT s D (k+1)=mT s D k:=by
 unfold mT;rw [List.take_add_one,hx,List.filter_append];simp only [Option.toList_some,List.filter_cons,List.filter_nil,h,List.append_nil,Bool.false_eq_true,if_false]
theorem lAu {s:zA} {x:iA} {k:Nat} (h:(xD s.items s.wanted x.id 1).length<=k):mT s (xD s.items s.wanted x.id 1) k=byL s x:=by unfold mT byL;rw [List.take_of_length_le h]
theorem lAv {s:zA} {D:List Int} {k:Nat}:(mT s D k).length<=k:=by
 unfold mT;exact Nat.le_trans (List.length_filter_le _ _) (by rw [List.length_take];omega)
theorem wC {s:zA} (h:JB s=true):kB s.items s.wanted=true/\s.best=wD s.items s.wanted:=by
 unfold JB at h;simp only [Bool.and_eq_true,decide_eq_true_iff] at h;exact ⟨h.1,h.2.1⟩
theorem gE {l:List iA} (h:dB l=true) {y:iA} (hy:y∈l):VB l y.id=y:=by
 rcases OC l y.id with ⟨_,hn⟩ | ⟨j,x,hf,hx,hid⟩
 ·exact absurd rfl (hn y hy)
 ·rw [lF hf hx];exact dP h (List.mem_of_getElem? hx) hy hid
theorem eX:∀ {l:List iA} {o:Option Int},pAl o l=true->(l.map (·.id)).Nodup
 | [],_,_=>List.nodup_nil
 | z::l,o,h=>by
  have h2:pAl (some z.id) l=true:=by
   cases o<;>simp only [pAl,Bool.and_eq_true] at h<;>exact h.2
  rw [List.map_cons,List.nodup_cons];refine ⟨fun hm=>?_,eX h2⟩;obtain ⟨y,hy,e⟩:=List.mem_map.1 hm;have:=iM h2 y hy;omega
theorem lAw {L:List Int} {id:Int} (hn:L.Nodup) (hm:id∈L) (ha:∀d∈L,d=id):L=[id]:=by
 match L,hn,hm,ha with
 | [a],_,_,ha=>rw [ha a (by simp)]
 | a::b::T,hn,_,ha=>
  have h1:=ha a (by simp);have h2:=ha b (by simp);rw [h1,h2] at hn;simp at hn
theorem lI {s:zA} (h:JB s=true) {b:Int} (hb:b∈s.best):∃y∈s.items,y.id=b:=by
 obtain ⟨h1,h2⟩:=wC h;rw [h2] at hb;unfold wD at hb;obtain ⟨y,hy,e⟩:=List.mem_map.1 hb;exact ⟨y,(List.mem_filter.1 hy).1,e⟩
theorem bA8 {s:zA} (h:JB s=true) {x:iA} (hx:x∈s.items) {d:Int}:d∈byL s x↔∃y∈s.items,y.id=d/\EC s.wanted y x=true/\d∈s.best:=by
 obtain ⟨h1,_⟩:=wC h;have hI:=AA h1;have bb:MB s.items s.wanted x.id=true:=by
  unfold MB;rcases OC s.items x.id with ⟨_,hn⟩ | ⟨j,y,hf,_,_⟩
  ·exact absurd rfl (hn x hx)
  ·rw [h1,hf];simp
 unfold byL xD;rw [if_pos bb,gE hI hx,List.mem_filter];unfold eG;rw [List.mem_map];constructor
 ·rintro ⟨⟨y,hy,e⟩,hb⟩;exact ⟨y,(List.mem_filter.1 hy).1,e,(List.mem_filter.1 hy).2,by simpa using hb⟩
 ·rintro ⟨y,hy,e,hb,hd⟩;exact ⟨⟨y,List.mem_filter.2 ⟨hy,hb⟩,e⟩,by simpa using hd⟩
theorem oAd {s:zA} (h:JB s=true) {id:Int} (hid:id∈s.best) {x:iA} (hx:x∈s.items):decide (byL s x=[id])=gAn s id x:=by
 obtain ⟨h1,_⟩:=wC h;have hI:=AA h1;rw [Bool.eq_iff_iff,decide_eq_true_eq];unfold gAn;rw [Bool.and_eq_true,List.all_eq_true];constructor
 ·intro hL;refine ⟨?_,fun b hb=>?_⟩
  ·obtain ⟨y,hy,e,bb,_⟩:=(bA8 h hx).1 (show id∈byL s x by rw [hL];simp);rw [<-e,gE hI hy];exact bb
  ·by_cases hbi:b=id
   ·simp [hbi]
   ·rcases pA8 (EC s.wanted (VB s.items b) x) with hq | hq
    ·obtain ⟨y,hy,e⟩:=lI h hb;rw [<-e,gE hI hy] at hq;have:b∈byL s x:=(bA8 h hx).2 ⟨y,hy,e,hq,hb⟩;rw [hL] at this;exact absurd (by simpa using this) hbi
    ·rw [hq];simp
 ·rintro ⟨hb,ha⟩;refine lAw ?_ ?_ ?_
  ·unfold byL;refine List.Nodup.sublist (List.filter_sublist) ?_;unfold xD
   split
   ·unfold eG;refine List.Nodup.sublist (List.Sublist.map _ List.filter_sublist) ?_;unfold dB at hI;rw [Bool.and_eq_true] at hI;exact eX hI.1
   ·exact List.nodup_nil
  ·obtain ⟨y,hy,e⟩:=lI h hid;rw [<-e,gE hI hy] at hb;exact (bA8 h hx).2 ⟨y,hy,e,hb,hid⟩
  ·intro d hd;obtain ⟨y,hy,e,bb,bc⟩:=(bA8 h hx).1 hd;have:=ha d bc;rw [<-e,gE hI hy,bb] at this;simp at this;rw [<-e];exact this
theorem gX {s:zA} {id:Int} (h:JB s=true) (hc:s.best.contains id=true):XC s id=eG (gAn s id) s.items:=by unfold XC;rw [h,hc];rfl
theorem JR {s:zA} {id:Int} (h:(JB s && s.best.contains id)=false):XC s id=[]:=by unfold XC;rw [h];rfl
theorem jAu (s:zA) (id:Int) (h:True):(XC s id).length<=s.items.length:=by
 unfold XC;split
 ·exact KS _ _
 ·exact Nat.zero_le _
theorem BM {w:World} {l:List iA} {b o n c:Nat} (h:Rd LA w l [.slice (some ⟨b,o,none⟩) n c]) (hn:n=l.length) (hI:dB l=true) {id:Int} (hid:∃y∈l,y.id=id) :
  ∃(k:Nat) (A:Option Addr) (cc:Nat),rB l id=(k:Int)/\k<n/\gB (VB l id)=true/\w.cell? ⟨b,o+k*2,none⟩=some (.int .i64 (VB l id).id)/\w.cell? ⟨b,o+k*2+1,none⟩=some (.slice A 3 cc)/\Rd aB w (VB l id).vals [.slice A 3 cc]:=by
 obtain ⟨y,hy,e⟩:=hid;rcases OC l id with ⟨_,bb⟩ | ⟨k,x,hf,hx,hxi⟩
 ·exact absurd e (bb y hy)
 ·have hP:=TA hI (List.mem_of_getElem? hx);obtain ⟨b',o',A,cc,eA,_,h0,h1,h2⟩:=qB h hx;injection eA with eA;injection eA with e1 e2;subst e1 e2;rw [jB hP] at h1 h2;refine ⟨k,A,cc,hf,?_,?_,?_,h1,?_⟩
  ·rw [hn];exact (List.getElem?_eq_some_iff.1 hx).1
  ·rw [lF hf hx];exact hP
  ·rw [lF hf hx];exact h0
  ·rw [lF hf hx];exact h2
theorem rY (w:World) (s:zA) (id:Int) (va vb vc:Value) (ha:Rd LA w s.items [va]) (hb:Rd OA w s.wanted [vb]) (hc:Rd aB w s.best [vc]) :
  Calls prog 28 #[.agg #[va,vb,vc,.int .i64 s.tests],.int .i64 id] w (WB w (nE WA w.heap.size (XC s id))):=by
 obtain ⟨i0,hi,gv,gx,gz⟩:=info_parts xC;obtain ⟨A,n,c,rfl,L,Lc,Lm⟩:=yA ha;obtain ⟨B,m,c2,rfl,M,Mc,Mm⟩:=yA hc;obtain ⟨W0,bk⟩:=pA7 (w.alloc (.cells #[.slice A n c,vb,.slice B m c2,.int .i64 s.tests] 28));have B0:Bw w W0:=by rw [bk];exact (Bw.refl w).alloc _
 have z0:W0.cell? ⟨w.heap.size,0,none⟩=some (.slice A n c):=by rw [bk];go_simp
 have z1:W0.cell? ⟨w.heap.size,1,none⟩=some vb:=by rw [bk];go_simp
 have z2:W0.cell? ⟨w.heap.size,2,none⟩=some (.slice B m c2):=by rw [bk];go_simp
 have z3:W0.cell? ⟨w.heap.size,3,none⟩=some (.int .i64 s.tests):=by rw [bk];go_simp
 have dm:W0.heap.size=w.heap.size+1:=by rw [bk];simp
 have ft:=pA6 dm;obtain ⟨Y,hY⟩:=pA7 (XC s id);rw [<-hY];have HY:=pA6 hY;clear hY;have ds:=pA6 bk;have cs:=MA (e:=3) (sz:=1) (R:=IF) W0;have A0:Bw W0 (W0.alloc (.cells #[] 3)):=(Bw.refl W0).alloc _;have y0:=A0.cell z0;have y1:=A0.cell z1;have y2:=A0.cell z2;have y3:=A0.cell z3;have fj:=fun W (b:Bw w W)=>sG W s _ _ _ (ha.bw gA b) (hb.bw jA b) (hc.bw dA b)
 have HC:=pA6 hc;have HA:=pA6 ha;have fv:=pA6 fj;have gd:(W0.alloc (.cells #[] 3)).heap.size=W0.heap.size+1:=by simp
 rw [dm] at cs;clear bk fj ha hc dm;obtain ⟨Y0,dd⟩:=pA7 (W0.alloc (.cells #[] 3));rw [<-dd] at y0 y1 y2 y3 A0 cs;have fx:=pA6 dd;clear dd gd;go_enter func28,ntmps28;go_wp2_with fail;rw [<-ds.out,<-fx.out];refine (fv.out _ (B0.then A0)).mono ?_;rintro e w1 ⟨rfl,bv⟩;replace y0:=bv.cell y0;replace y1:=bv.cell y1;replace y2:=bv.cell y2;have C1:=A0.then bv;have bj:=(aA (B:=W0.heap.size)).bw bv A0.size cs;rcases pA8 (JB s) with e1 | e1
 ·have E1:=pA6 e1;rw [e1];clear e1;go_wp2_with fail;refine (eM _ s.best id _ (HC.out.bw dA (B0.then C1))).mono ?_;rintro e w2 ⟨rfl,bz⟩;replace y0:=bz.cell y0;replace y1:=bz.cell y1;replace y2:=bz.cell y2;have C2:=C1.then bz;have ct:=(aA (B:=W0.heap.size)).bw bz C1.size bj;rcases pA8 (s.best.contains id) with e2 | e2
  ·have E2:=pA6 e2;rw [e2];clear e2;have HB:=pA6 (wC E1.out).1;have HI:=pA6 (AA HB.out);have n16:n<=16:=by rw [L.out];exact VA HI.out
   have bq:id∈s.best:=by simpa using E2.out
   obtain ⟨bA,oA,rfl⟩:∃b o,A=some ⟨b,o,none⟩:=by
    obtain ⟨y,hy,_⟩:=lI E1.out bq;obtain ⟨k,hk⟩:=List.mem_iff_getElem?.1 hy;obtain ⟨b,o,A2,c2,e,_⟩:=qB HA.out hk;exact ⟨b,o,e⟩
   have bc:=fun id' (h:id'∈s.best)=>BM HA.out L.out HI.out (lI E1.out h)
   obtain ⟨kp,Ap,cp,ff,gp,fg,fc,gn,fd⟩:=bc id bq;have fn:=pA6 bc;clear bc bj cs C1 z0 z1 z2 z3 y3;have dq:=pA6 fg;have fs:=pA6 ff;clear fg ff bq;obtain ⟨p,hp⟩:=pA7 (VB s.items id);rw [<-hp] at fc fd dq;have HP:=pA6 hp;clear hp;obtain ⟨f,hf⟩:=pA7 (gAn s id);have HF:=pA6 hf;clear hf;go_wp2
   go_loopg [5,6] n (fun g t i w'=>∃(k:Nat) (F:List Nat),k<=n/\g=n-k/\i=.int .i64 k/\WA w' (eF f s.items k) [t] F/\sA W0.heap.size F/\w'.cell? ⟨w.heap.size,0,none⟩=some (.slice (some ⟨bA,oA,none⟩) n c)/\w'.cell? ⟨w.heap.size,1,none⟩=some vb/\w'.cell? ⟨w.heap.size,2,none⟩=some (.slice B m c2)/\Bw W0 w')
   ·exact ⟨0,_,by omega,rfl,rfl,ct,⟨by simp,fun b hb=>by have:=ft.out;simp at hb;omega⟩,y0,y1,y2,C2⟩
   ·clear ct C2 y0 y1 y2;obtain ⟨k,F,hk,rfl,rfl,hv,hF,y0,y1,y2,df⟩:=hrel;have bn:=B0.then df;have ha:=HA.out.bw gA bn;by_cases hlt:k<n
    ·obtain ⟨x,hx⟩:=tA (xs:=s.items) (k:=k) (by have:=L.out;omega);obtain ⟨bx,ox,Ax,cx,eA,_,cq,cc,bg⟩:=qB ha hx;injection eA with eA;injection eA with eA1 eA2;subst eA1 eA2;have cz:=pA6 (TA HI.out (List.mem_of_getElem? hx));have ck:=jB cz.out;rw [ck] at cc bg;have i1:(0:Int)<=(k:Int):=by omega
     have i2:(k:Int)<(n:Int):=by omega
     have dc:=pA6 (fun hf=>kJ (f:=f) hx hf);have fq:=pA6 (fun hf=>BK (f:=f) hx hf);have fp:=pA6 (show f x=(EC s.wanted p x && s.best.all fun b=>b==id || !(EC s.wanted (VB s.items b) x)) by rw [HF.out,HP.out];rfl);have s0:=pA y0;have s1:=pA y1;have s2:=pA cq;have s3:=pA cc;have c8:∀q:eC wr,Calls prog 86 #[.slice (some ⟨bA,oA,none⟩) n c,.int .i64 id] q.1 (Ret q.1 (.agg #[.int .i64 p.id,.slice Ap 3 cp])):=fun q=>IR q.1 s.items id bA oA n c kp p Ap 3 cp (ha.bw gA q.bw) fs.out gp ((bn.then q.bw).cell fc) ((bn.then q.bw).cell gn)
     have c5:∀q:eC wr,Calls prog 85 #[vb,.agg #[.int .i64 p.id,.slice Ap 3 cp],.agg #[.int .i64 x.id,.slice Ax 3 cx]] q.1 (Ret q.1 (.int .i64 (zC s.wanted p x))):=fun q=>pG q.1 s.wanted p x _ _ _ (hb.bw jA (bn.then q.bw)) (fd.bw dA (bn.then q.bw)) (Rd.bw dA bg q.bw) (yB HB.out) dq.out cz.out
     obtain ⟨r,hr⟩:=pA7 (zC s.wanted p x);have HR:=pA6 (show EC s.wanted p x=(r==1) by rw [hr];unfold EC;rw [Bool.eq_iff_iff];simp);rw [<-hr] at c5;have HAA:=pA6 ha;clear hx ck hr ha;go_wp2;refine IA (by kernel_rfl) ?_
     repeat (first | go_big_quiet_skip | (go_big_quiet_want;go_big_quiet_op;first | go_big_quiet_on | (apply Exists.intro;refine ⟨fun _=>?_,?_⟩;(· (((first | (go_at_call 86;exact DA (c8 _)) | (go_at_call 85;exact DA (c5 _))))));go_big_quiet_on)))
     refine JA fun wq hbq=>?_
     try dsimp only at *
     replace y0:=hbq.cell y0;replace y1:=hbq.cell y1;replace y2:=hbq.cell y2;replace cq:=hbq.cell cq;replace cc:=hbq.cell cc;have dt:=df.then hbq;have fz:=bn.then hbq;have fk:=(aA (B:=W0.heap.size)).bw hbq df.size hv;have dj:=Rd.bw dA bg hbq;clear s0 s1 s2 s3 c8 c5 hv bg;go_wp2
     go_loopg [7,8] m (fun g t i2 w'=>∃(j:Nat) (q:Bool),j<=m/\g=m-j/\i2=.int .i64 j/\t=.bool q/\Hid (q=((r==1) && (s.best.take j).all fun b=>b==id || !(EC s.wanted (VB s.items b) x)))/\Bw wq w')
     ·exact ⟨0,r==1,by omega,rfl,rfl,rfl,pA6 (by simp),Bw.refl _⟩
     ·obtain ⟨j,q,hj,rfl,rfl,rfl,HQ,bf⟩:=hrel;have t0:=bf.cell y0;have t1:=bf.cell y1;have t2:=bf.cell y2;have t3:=bf.cell cq;have t4:=bf.cell cc;have bs:=fz.then bf;have cb:=HC.out.bw dA bs;by_cases hlt2:j<m
      ·obtain ⟨d,hd⟩:=tA (xs:=s.best) (k:=j) (by have:=M.out;omega);obtain ⟨bb,ob,rfl,_,gj⟩:=KB cb hd;have dz:=List.mem_of_getElem? hd;have i3:(0:Int)<=(j:Int):=by omega
       have i4:(j:Int)<(m:Int):=by omega
       have HS:=pA6 (show ((s.best.take (j+1)).all fun b=>b==id || !(EC s.wanted (VB s.items b) x))=(((s.best.take j).all fun b=>b==id || !(EC s.wanted (VB s.items b) x)) && (d==id || !(EC s.wanted (VB s.items d) x))) by
        rw [List.take_add_one,hd,List.all_append];simp)
       have s0:=pA t0;have s1:=pA t1;have s2:=pA t2;have s3:=pA t3;have s4:=pA t4;have s5:=pA gj;obtain ⟨kd,Ad,cd,dx,fb,bp,cf,cg,cj⟩:=fn.out d dz;have c8:∀q:eC wr,Calls prog 86 #[.slice (some ⟨bA,oA,none⟩) n c,.int .i64 d] q.1 (Ret q.1 (.agg #[.int .i64 (VB s.items d).id,.slice Ad 3 cd])):=fun q=>IR q.1 s.items d bA oA n c kd (VB s.items d) Ad 3 cd (HA.out.bw gA (bs.then q.bw)) dx fb ((bs.then q.bw).cell cf) ((bs.then q.bw).cell cg)
       have c5:∀q:eC wr,Calls prog 85 #[vb,.agg #[.int .i64 (VB s.items d).id,.slice Ad 3 cd],.agg #[.int .i64 x.id,.slice Ax 3 cx]] q.1 (Ret q.1 (.int .i64 (zC s.wanted (VB s.items d) x))):=fun q=>pG q.1 s.wanted (VB s.items d) x _ _ _ (hb.bw jA (bs.then q.bw)) (cj.bw dA (bs.then q.bw)) (Rd.bw dA dj (bf.then q.bw)) (yB HB.out) bp cz.out
       obtain ⟨y,hy⟩:=pA7 (VB s.items d);rw [<-hy] at c8 c5;obtain ⟨r2,dk⟩:=pA7 (zC s.wanted y x);have db:=pA6 (show EC s.wanted (VB s.items d) x=(r2==1) by rw [dk,hy];unfold EC;rw [Bool.eq_iff_iff];simp);rw [<-dk] at c5;have HCJ:=pA6 cb;clear hd dz dx fb bp cf cg cj hy dk cb
       cases q with
       | false=>
        have bm:=pA6 (show false=((r==1) && (s.best.take (j+1)).all fun b=>b==id || !(EC s.wanted (VB s.items b) x)) by rw [HS.out,<-Bool.and_assoc,<-HQ.out];rfl);clear HQ HS c8 c5;go_wp2;refine IA (by kernel_rfl) ?_
        repeat (first | go_big_quiet_skip | (go_big_quiet_want;go_big_quiet_op;go_big_quiet_on))
        refine JA fun wq hbq=>?_
        try dsimp only at *
        go_wp2
        go_roundg (m-(j+1))
        ·exact ⟨j+1,false,by omega,rfl,by go_num,rfl,bm,bf.then hbq⟩
        ·omega
       | true=>
        have cm:=pA6 (show (d==id || !(r2==1))=((r==1) && (s.best.take (j+1)).all fun b=>b==id || !(EC s.wanted (VB s.items b) x)) by rw [HS.out,<-Bool.and_assoc,<-HQ.out,db.out,Bool.true_and]);clear HQ HS;by_cases bp:d=id
        ·have e0:(d==id)=true:=by simpa using bp
         have bm:=pA6 (show true=((r==1) && (s.best.take (j+1)).all fun b=>b==id || !(EC s.wanted (VB s.items b) x)) by rw [<-cm.out,e0];rfl);clear bp cm c8 c5;go_wp2;refine IA (by kernel_rfl) ?_
         repeat (first | go_big_quiet_skip | (go_big_quiet_want;go_big_quiet_op;go_big_quiet_on))
         refine JA fun wq hbq=>?_
         try dsimp only at *
         go_wp2
         go_roundg (m-(j+1))
         ·exact ⟨j+1,true,by omega,rfl,by go_num,rfl,bm,bf.then hbq⟩
         ·omega
        ·have e0:(d==id)=false:=by simpa using bp
         have cn:=pA6 (show (!(r2==1))=((r==1) && (s.best.take (j+1)).all fun b=>b==id || !(EC s.wanted (VB s.items b) x)) by rw [<-cm.out,e0];rfl);clear bp cm;by_cases hr1:r2=1
         ·have e1:(r2 != 1)=false:=by simpa using hr1
          have bm:=pA6 (show false=((r==1) && (s.best.take (j+1)).all fun b=>b==id || !(EC s.wanted (VB s.items b) x)) by rw [<-cn.out,hr1];rfl);clear hr1 cn db;go_wp2;refine IA (by kernel_rfl) ?_
          repeat (first | go_big_quiet_skip | (go_big_quiet_want;go_big_quiet_op;first | go_big_quiet_on | (apply Exists.intro;refine ⟨fun _=>?_,?_⟩;(· (((first | (go_at_call 86;exact DA (c8 _)) | (go_at_call 85;exact DA (c5 _))))));go_big_quiet_on)))
          refine JA fun wq hbq=>?_
          try dsimp only at *
          go_wp2
          go_roundg (m-(j+1))
          ·exact ⟨j+1,false,by omega,rfl,by go_num,rfl,bm,bf.then hbq⟩
          ·omega
         ·have e1:(r2 != 1)=true:=by simpa using hr1
          have bm:=pA6 (show true=((r==1) && (s.best.take (j+1)).all fun b=>b==id || !(EC s.wanted (VB s.items b) x)) by rw [<-cn.out];simpa using hr1);clear hr1 cn db;go_wp2;refine IA (by kernel_rfl) ?_
          repeat (first | go_big_quiet_skip | (go_big_quiet_want;go_big_quiet_op;first | go_big_quiet_on | (apply Exists.intro;refine ⟨fun _=>?_,?_⟩;(· (((first | (go_at_call 86;exact DA (c8 _)) | (go_at_call 85;exact DA (c5 _))))));go_big_quiet_on)))
          refine JA fun wq hbq=>?_
          try dsimp only at *
          go_wp2
          go_roundg (m-(j+1))
          ·exact ⟨j+1,true,by omega,rfl,by go_num,rfl,bm,bf.then hbq⟩
          ·omega
      ·obtain rfl:j=m:=by omega
       have dp:=pA6 (show f x=q by rw [fp.out,HR.out,HQ.out,List.take_of_length_le (by rw [<-M.out];exact Nat.le_refl _)]);have bj:=(aA (B:=W0.heap.size)).bw bf dt.size fk;have bt:=dt.then bf;have cb:=HC.out;clear HQ hlt2 fk cb
       cases q with
       | false=>
        have cv:=pA6 (fq.out dp.out);go_wp2
        go_roundg (n-(k+1))
        ·exact ⟨k+1,F,by omega,rfl,by go_num,by rw [cv.out];exact bj,hF,t0,t1,t2,bt⟩
        ·omega
       | true=>
        have cv:=pA6 (dc.out dp.out);have dn:=pA6 (mJ (f:=f) (l:=s.items) (k:=k));have gc:=(aA (B:=0)).lt bj;have A3:Bw wr (wr.alloc (.cells #[.int .i64 x.id] 3)):=(Bw.refl wr).alloc _;have gs:=(aA (B:=W0.heap.size)).bw A3 bt.size bj;have gf:=bt.then A3;have gm:=cell_one_new wr (.int .i64 x.id) 3;have gg:=bt.size;have fm:w.heap.size<W0.heap.size:=by rw [ds.out];simp
        clear bj;go_wp2_with (at_builtin;refine lB _ rfl (.tmp 78) (.tmp 85) 26 rfl W0 3 i0 _ 1 8 underlying26 hi gv gx gz rfl (by omega) YA _ (eF f s.items k) F rfl gs hF ⟨wr.heap.size,0,none⟩ 1 rfl x.id [.int .i64 x.id] [] gm ⟨rfl,rfl⟩ rfl _ gc sA.nil gg (by have:=dn.out;omega) (by have:=dn.out;omega) gf ?_;intro v' w' F' gq gb dv;have bd:∀o u,wr.cell? ⟨w.heap.size,o,none⟩=some u->w'.cell? ⟨w.heap.size,o,none⟩=some u:=(fun o u h=>(Below.cell dv (p:=⟨w.heap.size,o,none⟩) fm).trans ((Below.cell bt (p:=⟨w.heap.size,o,none⟩) fm).symm.trans h));replace t0:=bd _ _ t0;replace t1:=bd _ _ t1;replace t2:=bd _ _ t2;clear bd)
        go_roundg (n-(k+1))
        ·exact ⟨k+1,F',by omega,rfl,by go_num,by rw [cv.out];exact gq,gb,t0,t1,t2,dv⟩
        ·omega
    ·obtain rfl:k=n:=by omega
     rw [lJ (by rw [<-L.out];exact Nat.le_refl _),HF.out,<-gX E1.out E2.out,<-HY.out] at hv;go_wp2;go_ret;exact ⟨_,rfl,⟨F,hv,hF.mono B0.size⟩,bn⟩
  ·have E2:=pA6 (JR (s:=s) (id:=id) (by rw [E1.out,e2];rfl));rw [e2];rw [<-E2.out,<-HY.out] at ct;clear e2;go_wp2;go_ret;exact ⟨_,rfl,⟨_,ct,⟨by simp,by simp⟩⟩,B0.then C2⟩
 ·have E2:=pA6 (JR (s:=s) (id:=id) (by rw [e1];rfl));rw [e1];rw [<-E2.out,<-HY.out] at bj;clear e1;go_wp2;go_ret;exact ⟨_,rfl,⟨_,bj,⟨by simp,by simp⟩⟩,B0.then C1⟩
def oG:List iA->iA->List iA
 | [],x=>[x]
 | y::l,x=>if x.id<y.id then x::y::l else y::oG l x
theorem MR:∀(l:List iA) (x:iA),(oG l x).length=l.length+1
 | [],x=>rfl
 | y::l,x=>by
  rw [oG];split
  ·simp
  ·rw [List.length_cons,MR l x,List.length_cons]
theorem sJ:∀(l:List iA) (x:iA),(oG l x).Perm (l++[x])
 | [],x=>List.Perm.refl _
 | y::l,x=>by
  rw [oG];split
  ·exact (List.perm_append_comm (l₁:=[x]) (l₂:=y::l))
  ·exact (sJ l x).cons y
theorem eAd {l:List iA} {x z:iA} (h:z∈oG l x):z∈l\/z=x:=by
 have:=(sJ l x).mem_iff.1 h
 simpa using this
theorem nAl {l:List iA} {o:Option Int} (h:pAl o l=true):l.Pairwise (fun a b=>a.id<b.id):=by
 induction l generalizing o with
 | nil=>exact List.Pairwise.nil
 | cons z l ih=>
  have h2:pAl (some z.id) l=true:=by
   cases o<;>simp only [pAl,Bool.and_eq_true] at h<;>exact h.2
  exact List.Pairwise.cons (fun y hy=>iM h2 y hy) (ih h2)
theorem yG {l:List iA} (h:dB l=true):l.Pairwise (fun a b=>a.id<b.id):=by
 unfold dB at h;rw [Bool.and_eq_true] at h;exact nAl h.1
theorem iA9:∀ {l:List iA} (o:Option Int),(∀x∈l,gB x=true)->l.Pairwise (fun a b=>a.id<b.id)->(∀n,o=some n->∀x∈l,n<x.id)->pAl o l=true
 | [],o,_,_,_=>by cases o<;>rfl
 | z::l,o,h1,h2,h3=>by
  have ih:=iA9 (l:=l) (some z.id) (fun x hx=>h1 x (by simp [hx])) (List.pairwise_cons.1 h2).2 (fun n hn x hx=>by injection hn with hn;rw [<-hn];exact (List.pairwise_cons.1 h2).1 x hx)
  cases o with
  | none=>rw [pAl,h1 z (by simp),ih];rfl
  | some n=>rw [pAl,h1 z (by simp),ih,decide_eq_true (h3 n rfl z (by simp))];rfl
theorem kU {l:List iA} (h1:∀x∈l,gB x=true) (h2:l.Pairwise (fun a b=>a.id<b.id)) (h3:l.length<=16):dB l=true:=by
 unfold dB;rw [iA9 none h1 h2 (fun n hn=>by cases hn)];simpa using h3
theorem QN {x:iA}:∀ {l:List iA},l.Pairwise (fun a b=>a.id<b.id)->(∀y∈l,y.id≠x.id)->(oG l x).Pairwise (fun a b=>a.id<b.id)
 | [],_,_=>List.pairwise_singleton _ _
 | y::l,h,hn=>by
  rw [List.pairwise_cons] at h;rw [oG];split
  ·rename_i hlt
   refine List.Pairwise.cons (fun z hz=>?_) (List.Pairwise.cons h.1 h.2);rcases List.mem_cons.1 hz with rfl | hz
   ·exact hlt
   ·have:=h.1 z hz;omega
  ·rename_i hlt
   refine List.Pairwise.cons (fun z hz=>?_) (QN h.2 (fun z hz=>hn z (by simp [hz])));rcases eAd hz with hz | rfl
   ·exact h.1 z hz
   ·have:=hn y (by simp);omega
theorem EO {l:List iA} {id:Int} (h:rB l id<0):∀y∈l,y.id≠id:=by
 rcases OC l id with ⟨_,hn⟩ | ⟨j,y,hf,_,_⟩
 ·exact hn
 ·omega
theorem eAe {l ys:List iA} {x:iA} (hp:ys.Perm (l++[x])) (hs:ys.Pairwise (fun a b=>a.id<=b.id)) (hl:l.Pairwise (fun a b=>a.id<b.id)) (hn:∀y∈l,y.id≠x.id):ys=oG l x:=by
 have bb:=QN hl hn;refine List.Perm.eq_of_pairwise (le:=fun a b:iA=>a.id<=b.id) (fun a b ha hb h1 h2=>?_) hs (bb.imp (fun h=>Int.le_of_lt h)) (hp.trans (sJ l x).symm);have bc:=hp.mem_iff.1 ha;have bd:=(sJ l x).mem_iff.1 hb;have e:a.id=b.id:=by omega
 have bf:∀ {l:List iA},l.Pairwise (fun a b=>a.id<b.id)->∀a∈l,∀b∈l,a.id=b.id->a=b:=by
  intro l hl
  induction hl with
  | nil=>intro a ha;simp at ha
  | cons h1 _ ih=>
   intro a ha b hb e;rcases List.mem_cons.1 ha with ea | ka
   ·rcases List.mem_cons.1 hb with eb | kb
    ·rw [ea,eb]
    ·have:=h1 b kb;rw [ea] at e;omega
   ·rcases List.mem_cons.1 hb with eb | kb
    ·have:=h1 a ka;rw [eb] at e;omega
    ·exact ih a ka b kb e
 exact bf bb a ((sJ l x).mem_iff.2 bc) b ((sJ l x).mem_iff.2 bd) e
theorem eAf {x y:iA}:∀ {a:List iA},a.any (fun z=>decide (x.id<z.id))=true->oG (a++[y]) x=oG a x++[y]
 | [],h=>by simp at h
 | z::a,h=>by
  rw [List.cons_append,oG,oG]
  split
  ·rfl
  ·rename_i hlt
   rw [List.any_cons,decide_eq_false hlt,Bool.false_or] at h;rw [eAf h];rfl
theorem JZ {x y:iA} (hy:x.id<y.id):∀ {a:List iA},a.any (fun z=>decide (x.id<z.id))=false->oG (a++[y]) x=a++[x,y]
 | [],_=>by rw [List.nil_append,oG,if_pos hy];rfl
 | z::a,h=>by
  rw [List.any_cons,Bool.or_eq_false_iff,decide_eq_false_iff_not] at h;rw [List.cons_append,oG,if_neg h.1,JZ hy h.2];rfl
theorem KZ {x:iA}:∀ {a:List iA},a.any (fun z=>decide (x.id<z.id))=false->oG a x=a++[x]
 | [],_=>rfl
 | z::a,h=>by
  rw [List.any_cons,Bool.or_eq_false_iff,decide_eq_false_iff_not] at h;rw [oG,if_neg h.1,KZ h.2];rfl
def TI (l:List iA) (x:iA) (k:Nat):Bool:=(l.take k).any fun z=>decide (x.id<z.id)
def kH (l:List iA) (x:iA) (k:Nat):List iA:=if TI l x k then oG (l.take k) x else l.take k
theorem mL {l:List iA} {x y:iA} {k:Nat} (hy:l[k]? = some y):TI l x (k+1)=(TI l x k || decide (x.id<y.id)):=by
 unfold TI;rw [List.take_add_one,hy,List.any_append];simp
theorem jAx {l:List iA} {x y:iA} {k:Nat} (hy:l[k]? = some y) (h:TI l x k=true):kH l x (k+1)=kH l x k++[y]:=by
 unfold kH;rw [mL hy,h,Bool.true_or,if_pos rfl,if_pos rfl,List.take_add_one,hy];exact eAf h
theorem gAp {l:List iA} {x y:iA} {k:Nat} (hy:l[k]? = some y) (h:TI l x k=false) (hlt:x.id<y.id):kH l x (k+1)=kH l x k++[x]++[y]:=by
 unfold kH;rw [mL hy,h,decide_eq_true hlt,Bool.false_or,if_pos rfl,if_neg (by simp),List.take_add_one,hy,List.append_assoc];exact JZ hlt h
theorem lAz {l:List iA} {x y:iA} {k:Nat} (hy:l[k]? = some y) (h:TI l x k=false) (hlt:¬x.id<y.id):kH l x (k+1)=kH l x k++[y]:=by
 unfold kH;rw [mL hy,h,decide_eq_false hlt,Bool.false_or,if_neg (by simp),if_neg (by simp),List.take_add_one,hy];rfl
theorem jAy {l:List iA} {x:iA} {k:Nat} (hk:l.length<=k):oG l x=if TI l x k then kH l x k else kH l x k++[x]:=by
 unfold kH TI;rw [List.take_of_length_le hk]
 cases h:l.any (fun z=>decide (x.id<z.id)) with
 | true=>rfl
 | false=>exact KZ h
theorem jAz (l:List iA) (x:iA) (k:Nat):(kH l x k).length<=k+1:=by
 unfold kH;split
 ·rw [MR,List.length_take];omega
 ·rw [List.length_take];omega
def XE (s:zA) (x:iA):Bool:=JB s && (gB x && (decide (rB s.items x.id<0) && (decide (s.items.length<16) && decide (s.tests<=999900))))
def lG (s:zA) (x:iA) (k:Nat):Bool:=(s.best.take k).any fun id=>decide (zC s.wanted (VB s.items id) x=1)
def nD (s:zA) (x:iA) (k:Nat):List Int:=(s.best.take k).filter fun id=>!decide (zC s.wanted (VB s.items id) x = -1)
def zG (s:zA) (x:iA):zA:=⟨oG s.items x,s.wanted,if lG s x s.best.length then s.best else kG (nD s x s.best.length++[x.id]),s.tests+s.best.length⟩
def AG (s:zA) (x:iA):zA:=if XE s x then zG s x else s
theorem lU {s:zA} {x:iA} {k:Nat} {id:Int} (h:s.best[k]? = some id):lG s x (k+1)=(lG s x k || decide (zC s.wanted (VB s.items id) x=1)):=by
 unfold lG;rw [List.take_add_one,h,List.any_append];simp
theorem jX {s:zA} {x:iA} {k:Nat} {id:Int} (h:s.best[k]? = some id) (hc:¬zC s.wanted (VB s.items id) x = -1):nD s x (k+1)=nD s x k++[id]:=by
 unfold nD;rw [List.take_add_one,h,List.filter_append];simp [hc]
theorem LZ {s:zA} {x:iA} {k:Nat} {id:Int} (h:s.best[k]? = some id) (hc:zC s.wanted (VB s.items id) x = -1):nD s x (k+1)=nD s x k:=by
 unfold nD;rw [List.take_add_one,h,List.filter_append];simp [hc]
theorem rQ (s:zA) (x:iA) (k:Nat):(nD s x k).length<=s.best.length:=by
 unfold nD;exact Nat.le_trans (List.length_filter_le _ _) (by rw [List.length_take];omega)
theorem iE {s:zA} (h:JB s=true):s.best.length<=16:=by
 obtain ⟨h1,h2⟩:=wC h;rw [h2];exact Nat.le_trans (jJ _ _) (VA (AA h1))
theorem mI {s:zA} (h:JB s=true):0<=s.tests/\s.tests<=1000000:=by
 unfold JB at h;simp only [Bool.and_eq_true,decide_eq_true_iff,inB] at h;exact h.2.2
theorem qI {s:zA} {x:iA} (h:XE s x=true):JB s=true/\gB x=true/\rB s.items x.id<0/\s.items.length<16/\s.tests<=999900:=by
 unfold XE at h;simp only [Bool.and_eq_true,decide_eq_true_iff] at h;exact ⟨h.1,h.2.1,h.2.2.1,h.2.2.2.1,h.2.2.2.2⟩
end Go.Proofs.YtpihighajaeabaaGreat
