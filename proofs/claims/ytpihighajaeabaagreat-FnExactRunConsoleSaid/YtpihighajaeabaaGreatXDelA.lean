/- Appending a whole list in a region that draws its order: what was not nil is not nil behind it. -/
import Derived.Test.YtpihighajaeabaaGreatXStandM
import Derived.Test.YtpihighajaeabaaGreatXCostOf
import Derived.Test.YtpihighajaeabaaGreatXDelW
import Derived.Test.YtpihighajaeabaaGreatXOnly
import Derived.Test.YtpihighajaeabaaGreatXIntss
import Derived.Test.YtpihighajaeabaaGreatXCodes
import Derived.Test.YtpihighajaeabaaGreatXArePairsS
import Derived.Test.YtpihighajaeabaaGreatXWishes
namespace Go.Proofs.YtpihighajaeabaaGreat
open Go.RowKit Go.Proofs.Tryz
set_option linter.all false
set_option maxRecDepth 100000
set_option maxHeartbeats 16000000
def YE (s:zA) (id:Int):Bool:=JB s && (decide (0<=rB s.items id) && decide (s.tests<=999900))
def WD (s:zA) (id:Int):List Int:=s.best.filter fun b=>!decide (b=id)
def GF (s:zA) (id:Int) (k:Nat):List Int:=(s.best.take k).filter fun b=>!decide (b=id)
def yF (s:zA) (id:Int):List Int:=wD (QB s.items (XC s id) true) s.wanted
def SL (s:zA) (id:Int):zA:=if s.best.contains id then ⟨QB s.items [id] false,s.wanted,kG (WD s id++yF s id),s.tests+((XC s id).length:Int)⟩ else ⟨QB s.items [id] false,s.wanted,s.best,s.tests⟩
def FH (s:zA) (id:Int):zA:=if YE s id then SL s id else s
theorem sI {s:zA} {id:Int} (h:YE s id=true):JB s=true/\0<=rB s.items id/\s.tests<=999900:=by
 unfold YE at h;simp only [Bool.and_eq_true,decide_eq_true_iff] at h;exact h
theorem sY {s:zA} {id b:Int} {k:Nat} (h:s.best[k]? = some b) (hb:b≠id):GF s id (k+1)=GF s id k++[b]:=by
 unfold GF;rw [List.take_add_one,h,List.filter_append];simp [hb]
theorem bAc {s:zA} {id b:Int} {k:Nat} (h:s.best[k]? = some b) (hb:b=id):GF s id (k+1)=GF s id k:=by
 unfold GF;rw [List.take_add_one,h,List.filter_append];simp [hb]
theorem tY {s:zA} {id:Int} {k:Nat} (h:s.best.length<=k):GF s id k=WD s id:=by unfold GF WD;rw [List.take_of_length_le h]
theorem xY (s:zA) (id:Int) (k:Nat):(GF s id k).length<=s.best.length:=Nat.le_trans (List.length_filter_le _ _) (by rw [List.length_take];exact Nat.min_le_right _ _)
theorem SN (s:zA) (id:Int):(WD s id).length<=s.best.length:=List.length_filter_le _ _
def DM (l:List iA) (X:List Int) (k:Nat):List iA:=(X.take k).map (VB l)
theorem eAh {l:List iA} {X:List Int} {k:Nat} {d:Int} (h:X[k]? = some d):DM l X (k+1)=DM l X k++[VB l d]:=by
 unfold DM;rw [List.take_add_one,h,List.map_append];rfl
theorem gAt (l:List iA) (X:List Int) (k:Nat):(DM l X k).length<=X.length:=by unfold DM;rw [List.length_map,List.length_take];omega
theorem gAu {l:List iA} (h:dB l=true):(l.map (·.id)).Pairwise (· < ·):=List.pairwise_map.2 (yG h)
theorem YU {l:List iA} (h:dB l=true) {x y:iA} (hx:x∈l) (hy:y∈l) (e:x.id=y.id):x=y:=by rw [<-gE h hx,<-gE h hy,e]
theorem gAv {l:List iA} (h:dB l=true) (f:iA->Bool):(eG f l).map (VB l)=l.filter f:=by
 unfold eG;rw [List.map_map];exact (List.map_congr_left (fun x hx=>gE h (List.mem_filter.1 hx).1)).trans (List.map_id _)
theorem gAw {l:List iA} (h:dB l=true) (f:iA->Bool):QB l (eG f l) true=l.filter f:=by
 unfold QB;refine List.filter_congr (fun x hx=>?_);unfold eG
 cases hf:f x with
 | true=>
  have h1:((l.filter f).map (·.id)).contains x.id=true:=List.contains_iff_mem.2 (List.mem_map.2 ⟨x,List.mem_filter.2 ⟨hx,hf⟩,rfl⟩);rw [h1];rfl
 | false=>
  have h1:((l.filter f).map (·.id)).contains x.id=false:=by
   rw [<-Bool.not_eq_true];intro hc;obtain ⟨y,hy,e⟩:=List.mem_map.1 (List.contains_iff_mem.1 hc);obtain ⟨bc,bb⟩:=List.mem_filter.1 hy;rw [YU h bc hx e] at bb;rw [hf] at bb;cases bb
  rw [h1];rfl
theorem kA2 {s:zA} (h:dB s.items=true) (id:Int):(XC s id).map (VB s.items)=QB s.items (XC s id) true:=by
 unfold XC
 split
 ·rw [gAv h,gAw h]
 ·unfold QB;symm;rw [List.map_nil,List.filter_eq_nil_iff];intro x hx;simp
theorem gAx {s:zA} (h:dB s.items=true) {id:Int} {k:Nat} (hk:(XC s id).length<=k):DM s.items (XC s id) k=QB s.items (XC s id) true:=by
 unfold DM;rw [List.take_of_length_le hk,kA2 h]
theorem eAi {α:Type} {l:List α} {k:Nat} {x:α} (h:l[k]? = some x):l=l.take k++x::l.drop (k+1):=by
 have h1:=List.take_append_drop k l;rw [nC h] at h1;exact h1.symm
theorem AJ {l:List iA} (h:dB l=true) {id:Int} {k:Nat} (hk:rB l id=(k:Int)):QB l [id] false=l.take k++l.drop (k+1):=by
 rcases OC l id with ⟨h1,_⟩ | ⟨j,x,h1,h2,h3⟩
 ·omega
 ·obtain rfl:j=k:=by omega
  have hs:=eAi h2;have hp:=yG h;rw [hs,List.pairwise_append,List.pairwise_cons] at hp;unfold QB
  conv=>lhs;rw [hs]
  rw [List.filter_append,List.filter_cons];have e0:([id].contains x.id==false)=false:=by simp [h3]
  rw [e0];have e1:(l.take j).filter (fun x=>[id].contains x.id==false)=l.take j:=List.filter_eq_self.2 (fun y hy=>by
   have:=hp.2.2 y hy x (by simp);have h4:y.id≠id:=by omega
   simp [h4])
  have e2:(l.drop (j+1)).filter (fun x=>[id].contains x.id==false)=l.drop (j+1):=List.filter_eq_self.2 (fun y hy=>by
   have:=hp.2.1.1 y hy;have h4:y.id≠id:=by omega
   simp [h4])
  rw [e1,e2];rfl
theorem iAa {x:Int}:∀ {l:List Int} {i:Nat} {k:Int},nL x l i=k->0<=k->∃j:Nat,k=((i+j:Nat):Int)/\l[j]? = some x
 | [],i,k,h,h0=>by unfold nL at h;omega
 | y::l,i,k,h,h0=>by
  unfold nL at h
  split at h
  ·rename_i e;exact ⟨0,by omega,by simp [e]⟩
  ·obtain ⟨j,e1,e2⟩:=iAa h h0;exact ⟨j+1,by omega,by simpa using e2⟩
theorem eAj {l:List Int} (h:l.Nodup) {x:Int} {k:Nat} (hk:l[k]? = some x):l.filter (fun b=>!decide (b=x))=l.take k++l.drop (k+1):=by
 have hs:=eAi hk;rw [hs,List.nodup_append,List.nodup_cons] at h
 conv=>lhs;rw [hs]
 rw [List.filter_append,List.filter_cons];have e0:(!decide (x=x))=false:=by simp
 rw [e0];have e1:(l.take k).filter (fun b=>!decide (b=x))=l.take k:=List.filter_eq_self.2 (fun y hy=>by
  have:=h.2.2 y hy x (by simp);simp [this])
 have e2:(l.drop (k+1)).filter (fun b=>!decide (b=x))=l.drop (k+1):=List.filter_eq_self.2 (fun y hy=>by
  have h4:y≠x:=fun e=>h.2.1.1 (e▸hy)
  simp [h4])
 rw [e1,e2];rfl
theorem tQ {s:zA} (h:JB s=true):s.best.Nodup:=by
 obtain ⟨h1,h2⟩:=wC h;rw [h2];unfold wD;have h3:=gAu (AA h1);have h4:((s.items.filter (DH s.items s.wanted)).map (·.id)).Pairwise (· < ·):=h3.sublist ((List.filter_sublist).map _);exact h4.imp (fun h=>by omega)
theorem bAd {s:zA} (h:JB s=true) {id:Int} {k:Nat} (hk:s.best[k]? = some id):WD s id=s.best.take k++s.best.drop (k+1):=eAj (tQ h) hk
theorem NZ {l:List iA} (ids:List Int) (b:Bool):(QB l ids b).Sublist l:=List.filter_sublist
theorem OJ {l:List iA} (h:dB l=true) (ids:List Int) (b:Bool):dB (QB l ids b)=true:=
 kU (fun x hx=>TA h ((NZ ids b).subset hx)) ((yG h).sublist (NZ ids b)) (Nat.le_trans (XY l ids b) (VA h))
theorem EM {s:zA} (h:dB s.items=true) (id:Int):(yF s id).length<=16:=by
 unfold yF;exact Nat.le_trans (jJ _ _) (Nat.le_trans (XY _ _ _) (VA h))
theorem eAl:(prog.info? 26).map (fun i=>(i.zero,i.size,i.bytes))=some (some (.slice none 0 0),1,24):=by kernel_rfl
theorem vI {w w':World} {S:JC} {xs:List iA} {cs:List Value} (h:LA w S xs cs) (hk:∀b,S b->w'.heap[b]? = w.heap[b]?):LA w' S xs cs:=
 gA.step ⟨fun _ h=>h,fun p hp=>World.cell?_of_block (hk _ hp)⟩ h
theorem rT {w:World} {S:JC} {xs:List iA} {cs:List Value} (h:LA w S xs cs) (hS:∀b,S b->b<w.heap.size):Rd LA w xs cs:=
 gA.step ⟨hS,fun _ _=>rfl⟩ h
theorem FM (w:World) (l:List iA) (ids:List Int) (v u:Value) (h:Rd LA w l [v]) (h':Rd aB w ids [u]) (hn:l.length<=1048576) (hnn:∀x∈l,x.vals.length<=1048576) :
  Calls prog 99 #[v,u] w (WB w (nE tD w.heap.size (QB l ids false))):=by
 obtain ⟨i0,hi,dd,df,dj⟩:=info_parts IG;obtain ⟨A,n,c,rfl,L,Lc,Lm⟩:=yA h;rw [<-L.out] at hn;have cc:=MA (e:=30) (sz:=2) (R:=zH) w;have cj:=pA6 hnn;clear hnn;go_enter func99,ntmps99;go_wp2
 go_loopw [5,6] (fun s i w'=>∃(k:Nat) (F:List Nat),k<=n/\i=.int .i64 k/\tD w' (FI l ids false k) [s] F/\sA w.heap.size F/\Bw w w') (fun s i _=>n-(intOf i).toNat)
 case atStart=>exact ⟨0,_,by omega,rfl,cc,⟨by simp,by simp⟩,(Bw.refl _).alloc _⟩
 case round=>
  clear cc;obtain ⟨k,F,hk,rfl,hv,hF,hb⟩:=hrel;by_cases hlt:k<n
  ·obtain ⟨x,hx⟩:=tA (xs:=l) (k:=k) (by have:=L.out;omega);have dc:=cj.out x (List.mem_of_getElem? hx);obtain ⟨ba,oa,A',c',rfl,_,bt,bv,cb⟩:=qB h hx;have bd:=hb.cell bt;have bb:=hb.cell bv;have bm:=pA6 (fun hc=>JV (ids:=ids) (b:=false) hx hc);have ck:=pA6 (fun hc=>WY (ids:=ids) (b:=false) hx hc);have bf:=pA6 (LV (l:=l) (ids:=ids) (b:=false) (k:=k));have i1:(0:Int)<=(k:Int):=by omega
   have i2:(k:Int)<(n:Int):=by omega
   have HH:=pA6 h;have cg:=pA6 cb;have cd:=pA6 bt;have cf:=pA6 bv;clear hx h cb bt bv;go_wp2_with fail;refine (eM _ ids x.id _ (h'.bw dA hb)).mono ?_;rintro e w2 ⟨rfl,bk⟩;have bc:=hb.then bk;replace bd:=bk.cell bd;replace bb:=bk.cell bb;have bz:=(rA (B:=w.heap.size)).bw bk hb.size hv;rcases pA8 (ids.contains x.id) with e1 | e1
   ·have HB:=pA6 (ck.out (by rw [e1];rfl));rw [e1];clear e1 hv;have h:=HH.out;go_wp2
    go_roundw
    case rel=>exact ⟨k+1,F,by omega,by go_num,by rw [HB.out];exact bz,hF,bc⟩
    case measure=>simp [intOf];omega
   ·have HB:=pA6 (bm.out e1);rw [e1];clear e1 hv;have bx:Rd aB w2.drew x.vals [.slice A' x.vals.length c']:=Rd.bw dA cg.out bc.drew;have D1:Bw w2 w2.drew:=(Bw.refl w2).drew;have cp:=(rA (B:=0)).lt bz;have bq:=bc.size;go_wp2_with fail
    go_region_held3 (fun w'=>w'.cell? ⟨ba,oa+k*2,none⟩=some (.int .i64 x.id)/\w'.cell? ⟨ba,oa+k*2+1,none⟩=some (.slice A' x.vals.length c')) (first | go_keep | exact ⟨bd,bb⟩ | exact ⟨bg.cell bd,bg.cell bb⟩ | exact ⟨bn.cell cd.out,bn.cell cf.out⟩ | fail)
     (first
      | (go_at_call 146;refine (qM _ x _ bx dc).mono ?_;rintro e w1 ⟨v1,rfl,⟨F1,o1,f1⟩,bp⟩;obtain ⟨Av,cv,rfl,_⟩:=XA (xA o1);replace bd:=bp.cell bd;replace bb:=bp.cell bb;have bj:=D1.then bp;have bs:=bc.then bj;have cz:=(rA (B:=w.heap.size)).bw bj bc.size bz;have bg:=(Bw.refl w1).alloc (.cells #[.int .i64 x.id,.slice Av x.vals.length cv] 30);have db:=(rA (B:=w.heap.size)).bw bg bs.size cz;have oW:=(aA (B:=w.heap.size)).bw bg bs.size o1;have cq:=bs.then bg;have cm:sA w2.heap.size F1:=f1.mono (by simp);have ct:∀j t,[Value.int .i64 x.id,.slice Av x.vals.length cv][j]? = some t->(w1.alloc (.cells #[.int .i64 x.id,.slice Av x.vals.length cv] 30)).cell? ((⟨w1.heap.size,0,none⟩:Addr).add j)=some t:=World.news_of_block (cs:=#[.int .i64 x.id,.slice Av x.vals.length cv]) (t:=30) (fr:=(0,0)) (heap_alloc_new w1 _))
      | (refine eJ _ (by rfl) (.tmp 22) (.tmp 34) 24 (by rfl) w 30 i0 _ 2 32 underlying24 hi dd df dj rfl (by omega) sD _ (FI l ids false k) F (by rfl) db hF ⟨w1.heap.size,0,none⟩ 1 (by rfl) x [.int .i64 x.id,.slice Av x.vals.length cv] F1 ct ⟨_,rfl,oW⟩ rfl w2.heap.size cp cm bq (by have:=bf.out;omega) (by have:=bf.out;omega) cq ?_;intro v' w' F' cx cn bn)
      | fail)
    have h:=HH.out;go_wp2
    go_roundw
    case rel=>exact ⟨k+1,F',by omega,by go_num,by rw [HB.out];exact cx,cn,bn⟩
    case measure=>simp [intOf];omega
  ·obtain rfl:k=n:=by omega
   rw [KV (by rw [<-L.out];exact Nat.le_refl _)] at hv;go_wp2;go_ret;exact ⟨_,rfl,⟨F,hv,hF⟩,hb⟩
theorem bAf {l:List iA} (h:dB l=true):l.length<=1048576/\∀x∈l,x.vals.length<=1048576:=
 ⟨by have:=VA h;omega,fun x hx=>by rw [jB (TA h hx)];omega⟩
theorem gAy (w:World) (l:List iA) (e:List mA) (v u:Value) (h:Rd LA w l [v]) (h':Rd OA w e [u]) :
  Calls prog 124 #[v,u] w (WB w (nE zL w.heap.size (mD l e))):=by
 obtain ⟨i0,hi,dt,dv,dx⟩:=info_parts eAl;have cp:=MA (e:=26) (sz:=1) (R:=WA) w;have A0:Bw w (w.alloc (.cells #[] 26)):=(Bw.refl w).alloc _;go_enter func124,ntmps124;go_wp2_with fail;refine (KE _ l e _ _ (h.bw gA A0) (h'.bw jA A0)).mono ?_;rintro e w1 ⟨rfl,bq⟩;have B1:=A0.then bq;have bn:=(YC (B:=w.heap.size)).bw bq A0.size cp;rcases pA8 (kB l e) with e1 | e1
 ·have HB:=pA6 e1;rw [e1];clear e1 cp;have HM:=pA6 (show mD l e=jE l e by rw [mD,if_pos HB.out]);have bz:(jE l e).length<=16:=by rw [<-HM.out];exact tI l e
  have cx:=pA6 bz;have ck:LA w1 (lt w) l [v]:=vI h (fun b hb=>Below.block B1 b hb);clear bz h;go_wp2
  go_loopg [5,6] l.length (fun g s r w'=>∃(bd:List (List Int)) (bb:List iA) (F:List Nat) (S:JC),g=bb.length/\zL w' bd [s] F/\sA w.heap.size F/\Bw w w'/\Hid (bd++jE bb e=jE l e)/\Hid (dB bb=true)/\Hid (LA w' S bb [r])/\Hid (∀b,S b->b<w'.heap.size)/\Hid (∀b∈F,¬S b))
  ·exact ⟨[],l,_,lt w,rfl,bn,⟨by simp,by simp⟩,B1,pA6 rfl,pA6 (AA HB.out),pA6 ck,pA6 (fun b hb=>Nat.lt_of_lt_of_le hb B1.size),pA6 (fun b hb=>by simp at hb;subst hb;exact Nat.lt_irrefl _)⟩
  ·clear bn ck B1 A0 bq;obtain ⟨bd,bb,F,S,rfl,hv,hF,hb,HD,HI,HR,HS,bx⟩:=hrel;have hr:=rT HR.out HS.out;obtain ⟨A,n,c,rfl,L0,Lc,Lm⟩:=qA hr;unfold maxLen at Lm;have L:=pA6 L0;clear L0;by_cases hn:n=0
   ·subst hn;have HE:=pA6 (show bd=mD l e by rw [HM.out,<-HD.out,SR L.out.symm,List.append_nil]);rw [HE.out] at hv;clear hr;go_wp2;go_ret;exact ⟨_,rfl,⟨F,hv,hF⟩,hb⟩
   ·have n1:(0:Int)<(n:Int):=by omega
    have bv:¬bb.length=0:=by rw [<-L.out];exact hn
    have HC:=pA6 (FP (yB HB.out) HI.out bv);have df:=pA6 (ZU (yB HB.out) bv (fun x hx=>TA HI.out hx));have hdl:bd.length+1<=16:=by
     have h1:=cx.out;rw [<-HD.out,HC.out,List.length_append,List.length_cons] at h1;omega
    have dq:bb.length<=1048576:=by have:=VA HI.out;omega
    have hE:kB bb e=true:=by unfold kB;rw [HI.out,yB HB.out];rfl
    have bc:=aAe wr bb e _ _ hr (h'.bw jA hb) hE;clear hn bv hr hE;go_wp2_with fail;refine bc.mono ?_;rintro e' w2 ⟨vb,rfl,⟨FB,ob,fb⟩,bm⟩;obtain ⟨Ab,cb,rfl,_⟩:=XA (xA ob);have bt:=hb.then bm;have cq:=(YC (B:=w.heap.size)).bw bm hb.size hv;have cc:=(YC (B:=0)).lt hv;obtain ⟨Y,hY⟩:=pA7 (wD bb e);rw [<-hY] at ob;have HY:=pA6 hY;rw [<-hY];obtain ⟨M,hM⟩:=pA7 Y.length;rw [<-hM] at ob ⊢;clear hY hM bc hv;have bf:=(Bw.refl w2).alloc (.cells #[.slice Ab M cb] 26);have ct:=(YC (B:=w.heap.size)).bw bf bt.size cq;have oW:=(aA (B:=w.heap.size)).bw bf bt.size ob;have cg:=bt.then bf;have cj:=cell_one_new w2 (.slice Ab M cb) 26;have dp:=hb.size;have KR:=pA6 (vI HR.out (fun b hb=>Below.block (bm.then bf) b (HS.out b hb)));have cv:wr.heap.size<=(w2.alloc (.cells #[.slice Ab M cb] 26)).heap.size:=(bm.then bf).size;clear cq ob;go_wp2_with (at_builtin;refine iC _ rfl (.tmp 21) (.tmp 23) 126 rfl w 26 i0 _ 1 24 underlying126 hi dt dv dx rfl (by omega) aA _ bd F rfl ct hF ⟨w2.heap.size,0,none⟩ 1 rfl Y [.slice Ab M cb] FB cj oW rfl wr.heap.size cc fb dp (by omega) (by omega) cg ?_;intro v3 w3 F3 cs dm cf bj cn);have cm:LA w3 S bb [.slice A n c]:=vI KR.out (fun b hb=>bj.2 b (Nat.lt_of_lt_of_le (HS.out b hb) cv) (fun hf=>bx.out b hf hb));have bk:∀b,S b->b<w3.heap.size:=fun b hb=>Nat.lt_of_lt_of_le (HS.out b hb) (Nat.le_trans cv bj.1)
    have o3:=bj.keeps (aA (B:=0)) oW (fun b hb hf=>by have:=fb.ge b hb;have:=cc b hf;omega);have bc:=bAe w3 bb Y false _ _ S bk cm (xA o3) dq;have bg:=(YC (B:=0)).lt cs;clear ct oW cg cj cm o3;go_wp2_with fail;refine bc.mono ?_;rintro e' w4 ⟨v4,rfl,⟨G,o4,f4⟩,bs⟩;have ds:=(YC (B:=w.heap.size)).bw bs cf.size cs;have dj:=pA6 (dK o4);have GG:tC w3.heap.size (XI S):=CC (oK qG bk);have cd:=GG.lt o4;have dk:=pA6 (show ∀b,(b∈G\/S b)->b<w4.heap.size from fun b hb=>hb.elim (cd b) (fun h=>Nat.lt_of_lt_of_le (bk b h) bs.size));have db:=pA6 (show ∀b∈F3,¬(b∈G\/S b) from fun b hb hc=>by
     rcases hc with hc | hc
     ·have:=f4.ge b hc;have:=bg b hb;omega
     ·have hsb:=HS.out b hc;rcases cn b hb with h | h | h
      ·exact bx.out b h hc
      ·have:=fb.ge b h;omega
      ·omega)
    have bp:=pA6 (show QB bb Y false=TN bb e by rw [HY.out];rfl);have cz:=pA6 (show (bd++[Y])++jE (QB bb Y false) e=jE l e by rw [bp.out,<-HD.out,HC.out,HY.out,List.append_assoc];rfl);have dc:=pA6 (show dB (QB bb Y false)=true by rw [bp.out];exact QK HI.out);have dd:=pA6 (show (QB bb Y false).length<bb.length by rw [bp.out];exact df.out);have dn:=cf.then bs;clear bc o4 bj cn bg bk cd;go_wp2
    go_roundg (QB bb Y false).length
    ·exact ⟨bd++[Y],QB bb Y false,F3,_,rfl,ds,dm,dn,cz,dc,dj,dk,db⟩
    ·exact dd.out
 ·have HM:=pA6 (show mD l e=[] by rw [mD,e1];rfl);rw [e1];clear e1;rw [<-HM.out] at bn;go_wp2;go_ret;exact ⟨_,rfl,⟨_,bn,⟨by simp,by simp⟩⟩,B1⟩
theorem lX (w:World) (l:List iA) (e:List mA) (v u:Value) (h:Rd LA w l [v]) (h':Rd OA w e [u]) (hB:kB l e=true) :
  Calls prog 126 #[v,u] w (WB w (nE zL w.heap.size (mD l e))):=by
 obtain ⟨i0,hi,dx,dz,fc⟩:=info_parts eAl;have cn:=MA (e:=26) (sz:=1) (R:=WA) w;have B1:Bw w (w.alloc (.cells #[] 26)):=(Bw.refl w).alloc _;have HB:=pA6 hB;have HM:=pA6 (show mD l e=jE l e by rw [mD,if_pos HB.out]);have bv:(jE l e).length<=16:=by rw [<-HM.out];exact tI l e
 have cv:=pA6 bv;have ck:LA (w.alloc (.cells #[] 26)) (lt w) l [v]:=vI h (fun b hb=>Below.block B1 b hb);have HH:=pA6 h;clear bv h hB;go_enter func126,ntmps126;go_wp2
 go_loopg [5,6] l.length (fun g s r w'=>∃(bd:List (List Int)) (bb:List iA) (F:List Nat) (S:JC),g=bb.length/\zL w' bd [s] F/\sA w.heap.size F/\Bw w w'/\Hid (bd++jE bb e=jE l e)/\Hid (dB bb=true)/\Hid (LA w' S bb [r])/\Hid (∀b,S b->b<w'.heap.size)/\Hid (∀b∈F,¬S b))
 ·exact ⟨[],l,_,lt w,rfl,cn,⟨by simp,by simp⟩,B1,pA6 rfl,pA6 (AA HB.out),pA6 ck,pA6 (fun b hb=>Nat.lt_of_lt_of_le hb B1.size),pA6 (fun b hb=>by simp at hb;subst hb;exact Nat.lt_irrefl _)⟩
 ·clear cn ck B1;obtain ⟨bd,bb,F,S,rfl,hv,hF,hb,HD,HI,HR,HS,db⟩:=hrel;have hr:=rT HR.out HS.out;obtain ⟨A,n,c,rfl,L0,Lc,Lm⟩:=qA hr;unfold maxLen at Lm;have L:=pA6 L0;clear L0;by_cases hn:n=0
  ·subst hn;have HE:=pA6 (show bd=mD l e by rw [HM.out,<-HD.out,SR L.out.symm,List.append_nil]);rw [HE.out] at hv;clear hr;go_wp2;go_ret;exact ⟨_,rfl,⟨F,hv,hF⟩,hb⟩
  ·have n1:(0:Int)<(n:Int):=by omega
   have bs:¬bb.length=0:=by rw [<-L.out];exact hn
   have HC:=pA6 (FP (yB HB.out) HI.out bs);have dj:=pA6 (ZU (yB HB.out) bs (fun x hx=>TA HI.out hx));have hdl:bd.length+1<=16:=by
    have h1:=cv.out;rw [<-HD.out,HC.out,List.length_append,List.length_cons] at h1;omega
   have hn2:bb.length<=1048576:=by have:=VA HI.out;omega
   have hE:kB bb e=true:=by unfold kB;rw [HI.out,yB HB.out];rfl
   have dc:=pA6 hr;clear hn bs hr hE;go_wp2_with fail;refine (EE _ l e _ _ (HH.out.bw gA hb) (h'.bw jA hb)).mono ?_;rintro e wf ⟨rfl,bm⟩;rw [HB.out];have bc:=AK wf bb e _ _ (dc.out.bw gA bm) (h'.bw jA (hb.then bm)) HI.out (yB HB.out);go_wp2_with fail;refine bc.mono ?_;rintro e' w2 ⟨vb,rfl,⟨FB,ob,dn⟩,bp⟩;have bk:=bm.then bp;have fb:=dn.mono bm.size;obtain ⟨Ab,cb,rfl,_⟩:=XA (xA ob);have bq:=hb.then bk;have cp:=(YC (B:=w.heap.size)).bw bk hb.size hv;have bx:=(YC (B:=0)).lt hv;obtain ⟨Y,hY⟩:=pA7 (wD bb e);rw [<-hY] at ob;have HY:=pA6 hY;rw [<-hY];obtain ⟨M,hM⟩:=pA7 Y.length;rw [<-hM] at ob ⊢;clear hY hM bc hv;have bf:=(Bw.refl w2).alloc (.cells #[.slice Ab M cb] 26);have cs:=(YC (B:=w.heap.size)).bw bf bq.size cp;have oW:=(aA (B:=w.heap.size)).bw bf bq.size ob;have cg:=bq.then bf;have cj:=cell_one_new w2 (.slice Ab M cb) 26;have ds:=hb.size;have KR:=pA6 (vI HR.out (fun b hb=>Below.block (bk.then bf) b (HS.out b hb)));have ct:wr.heap.size<=(w2.alloc (.cells #[.slice Ab M cb] 26)).heap.size:=(bk.then bf).size;clear cp ob;go_wp2_with (at_builtin;refine iC _ rfl (.tmp 21) (.tmp 23) 126 rfl w 26 i0 _ 1 24 underlying126 hi dx dz fc rfl (by omega) aA _ bd F rfl cs hF ⟨w2.heap.size,0,none⟩ 1 rfl Y [.slice Ab M cb] FB cj oW rfl wr.heap.size bx fb ds (by omega) (by omega) cg ?_;intro v3 w3 F3 cq dp cd bj dt)
   have cm:LA w3 S bb [.slice A n c]:=vI KR.out (fun b hb=>bj.2 b (Nat.lt_of_lt_of_le (HS.out b hb) ct) (fun hf=>db.out b hf hb));have cc:∀b,S b->b<w3.heap.size:=fun b hb=>Nat.lt_of_lt_of_le (HS.out b hb) (Nat.le_trans ct bj.1)
   have o3:=bj.keeps (aA (B:=0)) oW (fun b hb hf=>by have:=fb.ge b hb;have:=bx b hf;omega);have bt:=bAf HI.out;have bc:=FM w3 bb Y _ _ (rT cm cc) (xA o3) bt.1 bt.2;have bg:=(YC (B:=0)).lt cq;clear cs oW cg cj cm o3;go_wp2_with fail;refine bc.mono ?_;rintro e' w4 ⟨v4,rfl,⟨G,o4,f4⟩,cf⟩;have dv:=(YC (B:=w.heap.size)).bw cf cd.size cq;have dk:=pA6 (vS (B:=0) o4);have bz:=(rA (B:=0)).lt o4;have dm:=pA6 (show ∀b,(b∈G\/b<0)->b<w4.heap.size from fun b hb=>hb.elim (bz b) (fun h=>by omega));have cz:=pA6 (show ∀b∈F3,¬(b∈G\/b<0) from fun b hb hc=>by
    rcases hc with hc | hc
    ·have:=f4.ge b hc;have:=bg b hb;omega
    ·omega)
   have bn:=pA6 (show QB bb Y false=TN bb e by rw [HY.out];rfl);have cx:=pA6 (show (bd++[Y])++jE (QB bb Y false) e=jE l e by rw [bn.out,<-HD.out,HC.out,HY.out,List.append_assoc];rfl);have dd:=pA6 (show dB (QB bb Y false)=true by rw [bn.out];exact QK HI.out);have df:=pA6 (show (QB bb Y false).length<bb.length by rw [bn.out];exact dj.out);have dq:=cd.then cf;clear bc o4 bj dt bg cc bz bt;go_wp2
   go_roundg (QB bb Y false).length
   ·exact ⟨bd++[Y],QB bb Y false,F3,_,rfl,dv,dp,dq,cx,dd,dk,dm,cz⟩
   ·exact df.out
theorem yY (w:World) (l:List iA) (e:List mA) (v u:Value) (h:Rd LA w l [v]) (h':Rd OA w e [u]) (hB:kB l e=false) :
  Calls prog 126 #[v,u] w (WB w (nE zL w.heap.size (mD l e))):=by
 have bb:=MA (e:=26) (sz:=1) (R:=WA) w;have B1:Bw w (w.alloc (.cells #[] 26)):=(Bw.refl w).alloc _;have HB:=pA6 hB;have HM:=pA6 (show []=mD l e by rw [mD,hB];rfl);rw [HM.out] at bb;obtain ⟨A,n,c,rfl,L,Lc,Lm⟩:=yA h;have HH:=pA6 h;clear hB h;go_enter func126,ntmps126;go_wp2
 go_loopg [5,6] 0 (fun g s r w'=>g=0/\zL w' (mD l e) [s] [w.heap.size]/\Bw w w'/\r=.slice A n c)
 ·exact ⟨rfl,bb,B1,rfl⟩
 ·clear bb B1;obtain ⟨rfl,hv,hb,rfl⟩:=hrel;by_cases h0:n=0
  ·subst h0;go_wp2;go_ret;exact ⟨_,rfl,⟨_,hv,⟨by simp,by simp⟩⟩,hb⟩
  ·have n1:(0:Int)<(n:Int):=by omega
   clear h0;go_wp2_with fail;refine (EE _ l e _ _ (HH.out.bw gA hb) (h'.bw jA hb)).mono ?_;rintro e w2 ⟨rfl,bc⟩;rw [HB.out];have bd:=(YC (B:=w.heap.size)).bw bc hb.size hv;have B2:=hb.then bc;go_wp2;go_ret;exact ⟨_,rfl,⟨_,bd,⟨by simp,by simp⟩⟩,B2⟩
theorem gAz (w:World) (l:List iA) (e:List mA) (v u:Value) (h:Rd LA w l [v]) (h':Rd OA w e [u]) :
  Calls prog 126 #[v,u] w (WB w (nE zL w.heap.size (mD l e))):=by
 rcases pA8 (kB l e) with hB | hB
 ·exact lX w l e v u h h' hB
 ·exact yY w l e v u h h' hB
theorem VN {α:Type} {P:Program} {o:Oper} {a:Act} {K:Act->World->Prop} {Q:Exit->Act->World->Prop} (W:World) (s x:Operand) (t:TypeId)
  (ho:o.op=.call { callee:=.builtin .append,args:=#[s,x],argTypes:=#[t,t] })
  (w0:World) (e:TypeId) (i:TypeInfo) (z:Value) (sz bytes:Nat) (ht:P.underlying t=some (.slice e)) (hi:P.info? e=some i) (hz:i.zero=some z)
  (hsize:i.size=sz) (hby:i.bytes=bytes) (hzs:z.cells.size=sz) (hsz:0<sz)
  {R:Fp α} (hR:tC w0.heap.size R) (v:Value) (xs:List α) (F:List Nat) (hs:a.eval s=v) (hv:fSl e sz R W xs [v] F) (hF:sA w0.heap.size F)
  (sv:Value) (hx:a.eval x=sv) {R':Rep α} {S:JC} (ys:List α) (hsrc:rSl sz R' W S ys [sv]) (hRR:∀y u,R' W S y u->R W y u [])
  (hbytes:(xs.length+ys.length)*bytes<=140737488355328) (hlen:xs.length+ys.length<4611686018427387904) (hbw:Bw w0 W)
  (h:∀v' w' F',fSl e sz R w' (xs++ys) [v'] F'->sA w0.heap.size F'->Bw w0 w'->TB F W w'->(∀b∈F',b∈F\/W.heap.size<=b)->(v'=.slice none 0 0->v=.slice none 0 0)->K (a.put o.dst v') w'):o.wp P a W K Q:=
 pAg W s x t ho w0 e i z sz bytes ht hi hz hsize hby hzs hsz hR v xs F hs hv hF sv hx ys hsrc hRR hbytes hlen hbw h
theorem wH {α:Type} {P:Program} {ops:Array Oper} {o:Oper} {a:Act} {K:Act->World->Prop} {Q:Exit->Act->World->Prop} {E:Prop} (W:World) (hgd:o.guard=none) (s x:Operand) (t:TypeId)
  (ho:o.op=.call { callee:=.builtin .append,args:=#[s,x],argTypes:=#[t,t] })
  (w0:World) (e:TypeId) (i:TypeInfo) (z:Value) (sz bytes:Nat) (ht:P.underlying t=some (.slice e)) (hi:P.info? e=some i) (hz:i.zero=some z)
  (hsize:i.size=sz) (hby:i.bytes=bytes) (hzs:z.cells.size=sz) (hsz:0<sz)
  {R:Fp α} (hR:tC w0.heap.size R) (v:Value) (xs:List α) (F:List Nat) (hs:a.eval s=v) (hv:fSl e sz R W xs [v] F) (hF:sA w0.heap.size F)
  (sv:Value) (hx:a.eval x=sv) {R':Rep α} {S:JC} (ys:List α) (hsrc:rSl sz R' W S ys [sv]) (hRR:∀y u,R' W S y u->R W y u [])
  (hbytes:(xs.length+ys.length)*bytes<=140737488355328) (hlen:xs.length+ys.length<4611686018427387904) (hbw:Bw w0 W)
  (h:∀v' w' F',fSl e sz R w' (xs++ys) [v'] F'->sA w0.heap.size F'->Bw w0 w'->TB F W w'->(∀b∈F',b∈F\/W.heap.size<=b)->(v'=.slice none 0 0->v=.slice none 0 0)->K (a.put o.dst v') w'):if Region.wanted o (yielded ops a.tmps)=true then Oper.wp P o a W K Q else E:=by
 have hw:Region.wanted o (yielded ops a.tmps)=true:=by simp [Region.wanted,hgd]
 rw [if_pos hw];exact VN W s x t ho w0 e i z sz bytes ht hi hz hsize hby hzs hsz hR v xs F hs hv hF sv hx ys hsrc hRR hbytes hlen hbw h
theorem vQ {α:Type} {P:Program} {ops:Array Oper} {rest:List Oper} {o:Oper} {a:Act} {Q:Exit->Act->World->Prop} (W:World) (hgd:o.guard=none) (s x:Operand) (t:TypeId)
  (ho:o.op=.call { callee:=.builtin .append,args:=#[s,x],argTypes:=#[t,t] })
  (w0:World) (e:TypeId) (i:TypeInfo) (z:Value) (sz bytes:Nat) (ht:P.underlying t=some (.slice e)) (hi:P.info? e=some i) (hz:i.zero=some z)
  (hsize:i.size=sz) (hby:i.bytes=bytes) (hzs:z.cells.size=sz) (hsz:0<sz)
  {R:Fp α} (hR:tC w0.heap.size R) (v:Value) (xs:List α) (F:List Nat) (hs:a.eval s=v) (hv:fSl e sz R W xs [v] F) (hF:sA w0.heap.size F)
  (sv:Value) (hx:a.eval x=sv) {R':Rep α} {S:JC} (ys:List α) (hsrc:rSl sz R' W S ys [sv]) (hRR:∀y u,R' W S y u->R W y u [])
  (hbytes:(xs.length+ys.length)*bytes<=140737488355328) (hlen:xs.length+ys.length<4611686018427387904) (hbw:Bw w0 W)
  (h:∀v' w' F',fSl e sz R w' (xs++ys) [v'] F'->sA w0.heap.size F'->Bw w0 w'->TB F W w'->(∀b∈F',b∈F\/W.heap.size<=b)->(v'=.slice none 0 0->v=.slice none 0 0)->wpList P ops Q rest (a.put o.dst v') w'):wpList P ops Q (o::rest) a W:=
 wpList_plain hgd fun _ hK=>VN W s x t ho w0 e i z sz bytes ht hi hz hsize hby hzs hsz hR v xs F hs hv hF sv hx ys hsrc hRR hbytes hlen hbw fun v' w' F' h1 h2 h3 h4 h5 h6=>hK _ _ (h v' w' F' h1 h2 h3 h4 h5 h6)
theorem mX {w:World} {xs:List Int} {v:Value} {F:List Nat} (h:WA w xs [v] F) (hn:v≠.slice none 0 0):∃g c,v=.slice (some ⟨g,0,none⟩) xs.length c:=by
 obtain ⟨v0,us,Fs,e,hown,_,_⟩:=h;injection e with e;subst e;rcases hown.2 with ⟨h0,_⟩ | ⟨g,cap,cur,rfl,_⟩
 ·exact absurd h0 hn
 ·exact ⟨g,cap,rfl⟩
theorem pU (w:World) (xs:List Int) (v:Value) (h:Rd aB w xs [v]) (hn:xs.length<=1048576):Calls prog 96 #[v] w (WB w (fun w' v'=>nE WA w.heap.size xs w' v'/\v'≠.slice none 0 0)):=by
 obtain ⟨i0,hi,bm,bn,bp⟩:=info_parts xC;have bk:=MA (e:=3) (sz:=1) (R:=IF) w;have B0:Bw w (w.alloc (.cells #[] 3)):=(Bw.refl w).alloc _;have hs:=h.bw dA B0;have bf:sA w.heap.size [w.heap.size]:=⟨by simp,by simp⟩;go_enter func96,ntmps96;go_wp2_with (at_builtin;refine vQ _ rfl (.tmp 3) (.tmp 4) 26 rfl w 3 i0 _ 1 8 underlying26 hi bm bn bp rfl (by omega) YA _ [] [w.heap.size] rfl bk bf _ rfl xs hs (fun y u h=>⟨h,rfl⟩) (by simp;omega) (by simp;omega) B0 ?_;intro v' w' F' bj bd bg hO' hs' bb;have bc:=pA6 bb;clear bb);go_ret;exact ⟨_,rfl,⟨⟨F',by simpa using bj,bd⟩,fun e=>by have:=bc.out e;cases this⟩,bg⟩
end Go.Proofs.YtpihighajaeabaaGreat
