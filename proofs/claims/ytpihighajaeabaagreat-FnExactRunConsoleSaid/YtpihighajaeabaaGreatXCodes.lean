/- What a comparison by an expression may answer. No program in sight. -/
import Derived.Test.YtpihighajaeabaaGreatXLines
import Derived.Test.YtpihighajaeabaaGreatXWishes
import Derived.Test.YtpihighajaeabaaGreatXIntss
import Derived.Test.YtpihighajaeabaaGreatXItems
import Derived.Test.YtpihighajaeabaaGreatXModel
import Derived.Test.YtpihighajaeabaaGreatXCostOf
namespace Go.Proofs.YtpihighajaeabaaGreat
open Go.RowKit Go.Proofs.Tryz
set_option linter.all false
set_option maxRecDepth 100000
set_option maxHeartbeats 16000000
theorem GA (p o:Nat) (w:World) (u:Value):TB [p] w (w.setCell ⟨p,o,none⟩ u):=⟨by simp,fun b _ hn=>Below.heap_setCell _ _ _ _ (by simpa using hn)⟩
theorem TB.bwNext {F:List Nat} {a b c:World} (h:TB F a b) (k:Bw b c):TB F a c:=h.then (k.only F) (fun _ h=>h)
theorem TB.two {p:Nat} {a b c:World} (h:TB [p] a b) (k:TB [p] b c):TB [p] a c:=h.then k (fun _ h=>h)
theorem TB.frozen {F:List Nat} {w w':World} (h:TB F w w') {b:Nat} (hb:b<w.heap.size) (hd:b∉F) (o:Nat):w'.frozen? ⟨b,o,none⟩=w.frozen? ⟨b,o,none⟩:=World.frozen?_of_block (h.2 _ hb hd)
theorem sA.raise {a B m:Nat} {F f F':List Nat} (h:sA a F') (h5:∀b∈F',b∈F\/b∈f\/m<=b) (hF:∀b∈F,B<=b) (hf:∀b∈f,B<=b) (hm:B<=m):sA B F':=
 ⟨h.nodup,fun b hb=>(h5 b hb).elim (hF b) (fun h=>h.elim (hf b) (fun h=>Nat.le_trans hm h))⟩
structure SO (W:World) (b:Nat) (x y:Value):Prop where
 c0:W.cell? ⟨b,0,none⟩=some x
 c1:W.cell? ⟨b,1,none⟩=some y
 fr:∀o,W.frozen? ⟨b,o,none⟩=false
theorem SO.lt {W:World} {b:Nat} {x y:Value} (h:SO W b x y):b<W.heap.size:=World.block_lt_of_cell? _ _ h.c0
theorem SO.only {F:List Nat} {w w':World} {b:Nat} {x y:Value} (h:SO w b x y) (hO:TB F w w') (hd:b∉F):SO w' b x y:=⟨hO.cell h.c0 hd,hO.cell h.c1 hd,fun o=>(hO.frozen h.lt hd o).trans (h.fr o)⟩
theorem SO.bw {w w':World} {b:Nat} {x y:Value} (h:SO w b x y) (hb:Bw w w'):SO w' b x y:=⟨hb.cell h.c0,hb.cell h.c1,fun o=>(oC hb b o h.lt).trans (h.fr o)⟩
theorem SO.new (w:World) (x y:Value) (t:TypeId):SO (w.alloc (.cells #[x,y] t)) w.heap.size x y:=⟨by go_simp,by go_simp,fun o=>by go_simp⟩
theorem nA {W W':World} (hb:Bw W W') {α:Type} {R:Fp α} (hR:tC 0 R) {x:α} {cs:List Value} {F:List Nat} (hx:R W x cs F):R W' x cs F:=hR.bw hb (Nat.zero_le _) hx
theorem UA {W:World} {b o:Nat} {u:Value} {α:Type} {R:Fp α} (hR:tC 0 R) {x:α} {cs:List Value} {F:List Nat} (hx:R W x cs F) (hF:b∉F):R (W.setCell ⟨b,o,none⟩ u) x cs F:=
 (GA b o W u).keeps hR hx fun c hc e=>by simp at e;exact hF (e▸hc)
structure Box (W:World) (b:Nat) (vs:List Value):Prop where
 lt:b<W.heap.size
 c:∀j v,vs[j]? = some v->W.cell? ⟨b,j,none⟩=some v
 fr:∀o,W.frozen? ⟨b,o,none⟩=false
theorem Box.only {F:List Nat} {w w':World} {b:Nat} {vs:List Value} (h:Box w b vs) (hO:TB F w w') (hd:b∉F):Box w' b vs:=⟨Nat.lt_of_lt_of_le h.lt hO.1,fun j v hv=>hO.cell (h.c j v hv) hd,fun o=>(hO.frozen h.lt hd o).trans (h.fr o)⟩
theorem Box.bw {w w':World} {b:Nat} {vs:List Value} (h:Box w b vs) (hb:Bw w w'):Box w' b vs:=h.only (hb.only []) (by simp)
theorem Box.new (w:World) (cs:Array Value) (t:TypeId):Box (w.alloc (.cells cs t)) w.heap.size cs.toList:=⟨by simp,fun j v hv=>by
 have:=World.news_of_block (cs:=cs) (t:=t) (fr:=(0,0)) (heap_alloc_new w (.cells cs t)) j v hv;have hadd:(⟨w.heap.size,0,none⟩:Addr).add j=⟨w.heap.size,j,none⟩:=by unfold Addr.add;split<;>simp_all
 rwa [hadd] at this,fun o=>by go_simp⟩
theorem eY {W:World} {b o:Nat} {x u:Value} (h:W.cell? ⟨b,o,none⟩=some x):(W.setCell ⟨b,o,none⟩ u).cell? ⟨b,o,none⟩=some u:=by go_simp
theorem kW {W:World} {b o k:Nat} {x u:Value} (h:W.cell? ⟨b,k,none⟩=some x) (hk:k≠o):(W.setCell ⟨b,o,none⟩ u).cell? ⟨b,k,none⟩=some x:=by go_simp
theorem Box.set {W:World} {b j:Nat} {vs:List Value} (h:Box W b vs) (hj:j<vs.length) (u:Value):Box (W.setCell ⟨b,j,none⟩ u) b (vs.set j u):=by
 refine ⟨by have:=h.lt;simpa using this,fun k v hv=>?_,fun o=>?_⟩
 ·rw [List.getElem?_set] at hv;by_cases hk:j=k
  ·rw [if_pos hk,if_pos (by omega)] at hv;injection hv with hv;subst hv hk;exact eY (h.c j _ (List.getElem?_eq_getElem hj))
  ·rw [if_neg hk] at hv;exact kW (h.c k v hv) (fun e=>hk e.symm)
 ·have h0:=h.fr o;go_simp
def nA9 (W:World) (b:Nat) (a0 a1 a2 a3:Value):World:=(((W.setCell ⟨b,0,none⟩ a0).setCell ⟨b,1,none⟩ a1).setCell ⟨b,2,none⟩ a2).setCell ⟨b,3,none⟩ a3
theorem KJ {W:World} {b:Nat} {a0 a1 a2 a3:Value} {α:Type} {R:Fp α} (hR:tC 0 R) {x:α} {cs:List Value} {F:List Nat} (hx:R W x cs F) (hF:b∉F):R (nA9 W b a0 a1 a2 a3) x cs F:=UA hR (UA hR (UA hR (UA hR hx hF) hF) hF) hF
theorem Bw.set4 {w W:World} {b:Nat} {a0 a1 a2 a3:Value} (h:Bw w W) (hb:w.heap.size<=b):Bw w (nA9 W b a0 a1 a2 a3):=(((h.set (p:=⟨b,0,none⟩) hb _).set (p:=⟨b,1,none⟩) hb _).set (p:=⟨b,2,none⟩) hb _).set (p:=⟨b,3,none⟩) hb _
theorem Box.a2 {W:World} {b:Nat} {v0 v1:Value} (h:Box W b [v0,v1]):W.cell? ⟨b,0,none⟩=some v0/\W.cell? ⟨b,1,none⟩=some v1/\∀o,W.frozen? ⟨b,o,none⟩=false:=⟨h.c 0 _ rfl,h.c 1 _ rfl,h.fr⟩
theorem Box.a3 {W:World} {b:Nat} {v0 v1 v2:Value} (h:Box W b [v0,v1,v2]):W.cell? ⟨b,0,none⟩=some v0/\W.cell? ⟨b,1,none⟩=some v1/\W.cell? ⟨b,2,none⟩=some v2/\∀o,W.frozen? ⟨b,o,none⟩=false:=⟨h.c 0 _ rfl,h.c 1 _ rfl,h.c 2 _ rfl,h.fr⟩
theorem Box.a4 {W:World} {b:Nat} {v0 v1 v2 v3:Value} (h:Box W b [v0,v1,v2,v3]):W.cell? ⟨b,0,none⟩=some v0/\W.cell? ⟨b,1,none⟩=some v1/\W.cell? ⟨b,2,none⟩=some v2/\W.cell? ⟨b,3,none⟩=some v3/\∀o,W.frozen? ⟨b,o,none⟩=false:=⟨h.c 0 _ rfl,h.c 1 _ rfl,h.c 2 _ rfl,h.c 3 _ rfl,h.fr⟩
theorem Box.a5 {W:World} {b:Nat} {v0 v1 v2 v3 v4:Value} (h:Box W b [v0,v1,v2,v3,v4]):W.cell? ⟨b,0,none⟩=some v0/\W.cell? ⟨b,1,none⟩=some v1/\W.cell? ⟨b,2,none⟩=some v2/\W.cell? ⟨b,3,none⟩=some v3/\W.cell? ⟨b,4,none⟩=some v4/\∀o,W.frozen? ⟨b,o,none⟩=false:=⟨h.c 0 _ rfl,h.c 1 _ rfl,h.c 2 _ rfl,h.c 3 _ rfl,h.c 4 _ rfl,h.fr⟩
theorem Box.a6 {W:World} {b:Nat} {v0 v1 v2 v3 v4 v5:Value} (h:Box W b [v0,v1,v2,v3,v4,v5]):W.cell? ⟨b,0,none⟩=some v0/\W.cell? ⟨b,1,none⟩=some v1/\W.cell? ⟨b,2,none⟩=some v2/\W.cell? ⟨b,3,none⟩=some v3/\W.cell? ⟨b,4,none⟩=some v4/\W.cell? ⟨b,5,none⟩=some v5/\∀o,W.frozen? ⟨b,o,none⟩=false:=⟨h.c 0 _ rfl,h.c 1 _ rfl,h.c 2 _ rfl,h.c 3 _ rfl,h.c 4 _ rfl,h.c 5 _ rfl,h.fr⟩
def xN:Fp AB:=fun w x cs F=>∃v u G H,cs=[.int .i64 x.kind,.int .i64 x.field,.int .i64 x.value,v,u]/\WA w x.list [v] G/\AE w x.pairs [u] H/\F=G++H
theorem GK {B : Nat} : tC B xN :=
  ⟨fun hw ⟨v, u, G, H, e, h, k, hF⟩ => ⟨v, u, G, H, e, aA.step (fun b hb => hw b (hb.imp (fun hb => by rw [hF]; exact List.mem_append_left _ hb) id)) h, EA.step (fun b hb => hw b (hb.imp (fun hb => by rw [hF]; exact List.mem_append_right _ hb) id)) k, hF⟩,
   fun ⟨v, u, G, H, e, h, k, hF⟩ b hb => by
    rw [hF] at hb
    exact (List.mem_append.1 hb).elim ((aA (B := B)).lt h b) ((EA (B := B)).lt k b),
   fun ⟨v, u, G, H, e, h, k, hF⟩ t ht => by
    rw [e] at ht
    simp at ht
    rcases ht with rfl | rfl | rfl | rfl | rfl
    · rfl
    · rfl
    · rfl
    · exact (aA (B := B)).one h _ (by simp)
    · exact (EA (B := B)).one k _ (by simp)⟩
theorem lAe {B:Nat} {w:World} {x:AB} {cs:List Value} {F:List Nat} (h:xN w x cs F):kAl w (fun b=>b∈F\/b<B) x cs:=by
 obtain ⟨v,u,G,H,e,h,k,hF⟩:=h;refine ⟨v,u,e,dA.step ⟨fun b hb=>?_,fun _ _=>rfl⟩ (ZM (B:=B) h),RA.step ⟨fun b hb=>?_,fun _ _=>rfl⟩ (LY (B:=B) k)⟩
 ·exact hb.imp (fun hb=>by rw [hF];exact List.mem_append_left _ hb) id
 ·exact hb.imp (fun hb=>by rw [hF];exact List.mem_append_right _ hb) id
def LJ:Fp mA:=fun w x cs F=>∃us,cs=.int .i64 x.op::us/\xN w x.wish us F
theorem vC {B:Nat}:tC B LJ:=
 ⟨fun hw ⟨us,e,h⟩=>⟨us,e,GK.step hw h⟩,fun ⟨us,e,h⟩=>(GK (B:=B)).lt h,fun ⟨us,e,h⟩ t ht=>by
  rw [e] at ht;rcases List.mem_cons.1 ht with rfl | ht
  ·rfl
  ·exact (GK (B:=B)).one h _ ht⟩
theorem lAf {B:Nat} {w:World} {x:mA} {cs:List Value} {F:List Nat} (h:LJ w x cs F):OM w (fun b=>b∈F\/b<B) x cs:=by
 obtain ⟨us,e,h⟩:=h;exact ⟨us,e,lAe h⟩
abbrev mC:Fp (List mA):=fSl 111 6 LJ
theorem kA {B:Nat}:tC B mC:=CC vC
theorem QL {B:Nat} {w:World} {xs:List mA} {cs:List Value} {F:List Nat} (h:mC w xs cs F):OA w (fun b=>b∈F\/b<B) xs cs:=sK SD (fun _ _ _ h=>lAf h) h
theorem bB {w:World} {xs:List mA} {cs:List Value} {F:List Nat} (h:mC w xs cs F):Rd OA w xs cs:=Rd.of jA (B:=0) (QL h) ((kA (B:=0)).lt h) (Nat.zero_le _)
theorem tH:(prog.info? 111).map (fun i=>(i.zero,i.size,i.bytes))=some (some (.agg #[.int .i64 0,.int .i64 0,.int .i64 0,.int .i64 0,.slice none 0 0,.slice none 0 0]),6,80):=by kernel_rfl
abbrev pA2:Fp (List AB):=fSl 109 5 xN
abbrev pA3:Fp (List (List mA)):=fSl 25 1 mC
theorem lW:(prog.info? 25).map (fun i=>(i.zero,i.size,i.bytes))=some (some (.slice none 0 0),1,24):=by kernel_rfl
def jA6 {α:Type} (f:Fp α) (w:World) (x:α) (e:Ending) (w':World):Prop:=∃cs F,e=.returned (.agg cs.toArray)/\f w' x cs F/\sA w.heap.size F/\Bw w w'
theorem sA.append {B m:Nat} {F G:List Nat} (h:sA B F) (hlt:∀b∈F,b<m) (k:sA m G) (hm:B<=m):sA B (F++G):=
 ⟨JP h.nodup k hlt,fun b hb=>(List.mem_append.1 hb).elim (h.ge b) (fun hb=>Nat.le_trans hm (k.ge b hb))⟩
theorem sA.left {B:Nat} {F G:List Nat} (h:sA B (F++G)):sA B F:=⟨(List.nodup_append.1 h.nodup).1,fun b hb=>h.ge b (List.mem_append_left _ hb)⟩
theorem pM (w:World) (xs ys:List mA) (v1 v2:Value) (h1:Rd OA w xs [v1]) (h2:Rd OA w ys [v2]) :
  Calls prog 271 #[v1,v2,.func (.func 272) #[] #[]] w (Ret w (.bool (decide (xs=ys)))):=by
 obtain ⟨A1,n1,c1,rfl,a1,a2,a3⟩:=qA h1;obtain ⟨A2,n2,c2,rfl,b1,b2,b3⟩:=qA h2;unfold maxLen at a3 b3;have L1:=pA6 a1;have L2:=pA6 b1;clear a1 b1;by_cases hl:n1=n2
 ·subst hl;go_enter func271,ntmps271;go_wp2
  go_loopw [17] (fun i w'=>∃k:Nat,k<=n1/\i=.int .i64 k/\xs.take k=ys.take k/\Bw w w') (fun i _=>n1-(intOf i).toNat)
  case atStart=>exact ⟨0,by omega,rfl,by simp,Bw.refl _⟩
  case round=>
   obtain ⟨k,hk,rfl,he,hb⟩:=hrel;have HE:=pA6 he;clear he;by_cases hlt:k<n1
   ·obtain ⟨x,hx⟩:=tA (xs:=xs) (k:=k) (by rw [<-L1.out];exact hlt);obtain ⟨y,hy⟩:=tA (xs:=ys) (k:=k) (by rw [<-L2.out];exact hlt);obtain ⟨ba,oa,bd,bm,bg,bp,rfl,_,p0,p1,p2,p3,p4,p5,bt,bx⟩:=mE (h1.bw jA hb) hx;obtain ⟨bb,ob,bf,bn,bj,bq,rfl,_,q0,q1,q2,q3,q4,q5,bv,bz⟩:=mE (h2.bw jA hb) hy;have HX:=pA6 hx;have HY:=pA6 hy;have D:Bw wr ((wr.alloc (.cells #[.int .i64 x.op,.int .i64 x.wish.kind,.int .i64 x.wish.field,.int .i64 x.wish.value,.slice bd x.wish.list.length bm,.slice bg x.wish.pairs.length bp] 111)).alloc (.cells #[.int .i64 y.op,.int .i64 y.wish.kind,.int .i64 y.wish.field,.int .i64 y.wish.value,.slice bf y.wish.list.length bn,.slice bj y.wish.pairs.length bq] 111)):=((Bw.refl wr).alloc _).alloc _;have hbx:=World.block_lt_of_cell? _ _ p0;have hby:=World.block_lt_of_cell? _ _ q0;clear hx hy h1 h2;go_wp2_with fail;refine (iAr _ x y _ _ _ _ (Rd.bw dA bt D) (Rd.bw dA bv D) (Rd.bw RA bx D) (Rd.bw RA bz D)).mono ?_;rintro e w2 ⟨rfl,bs⟩;have bc:Bw w w2:=hb.then (D.then bs);by_cases hxy:x=y
    ·have HD:decide (x=y)=true:=by simpa using hxy
     have bk:=pA6 hxy;clear hxy;go_wp2
     go_roundw
     case rel=>exact ⟨k+1,by omega,by go_num,iK HE.out HX.out HY.out bk.out,bc⟩
     case measure=>simp [intOf];omega
    ·have HD:decide (x=y)=false:=by simpa using hxy
     go_wp2;go_ret;exact Ret.bool (by simpa using tK HX.out HY.out hxy) bc
   ·go_wp2;go_ret;exact Ret.bool (by simpa using fJ HE.out (by rw [<-L1.out];omega) (by rw [<-L2.out];omega)) hb
 ·go_enter func271,ntmps271;go_wp2;go_ret;exact Ret.bool (by simp;intro e;exact hl (by rw [L1.out,L2.out,e])) (Bw.refl _)
theorem ZP (w:World) (xs ys:List mA) (v1 v2:Value) (h1:Rd OA w xs [v1]) (h2:Rd OA w ys [v2]) :
  Calls prog 236 #[v1,v2] w (Ret w (.bool (decide (xs=ys)))):=by
 go_enter func236,ntmps236;go_wp2_with fail;refine (pM _ xs ys _ _ h1 h2).mono ?_;rintro e w2 ⟨rfl,hb2⟩;go_wp2;go_ret;exact Ret.bool (rfl) (hb2)
theorem aQ (w:World) (xs ys:List mA) (v1 v2:Value) (h1:Rd OA w xs [v1]) (h2:Rd OA w ys [v2]) :
  Calls prog 90 #[v1,v2] w (Ret w (.bool (decide (xs=ys)))):=by
 obtain ⟨A1,n1,c1,rfl,a1,a2,a3⟩:=qA h1;obtain ⟨A2,n2,c2,rfl,b1,b2,b3⟩:=qA h2;unfold maxLen at a3 b3;have L1:=pA6 a1;have L2:=pA6 b1;clear a1 b1;by_cases hl:n1=n2
 ·subst hl;go_enter func90,ntmps90;go_wp2
  go_loopw [5] (fun i w'=>∃k:Nat,k<=n1/\i=.int .i64 k/\xs.take k=ys.take k/\Bw w w') (fun i _=>n1-(intOf i).toNat)
  case atStart=>exact ⟨0,by omega,rfl,by simp,Bw.refl _⟩
  case round=>
   obtain ⟨k,hk,rfl,he,hb⟩:=hrel;have HE:=pA6 he;clear he;by_cases hlt:k<n1
   ·obtain ⟨x,hx⟩:=tA (xs:=xs) (k:=k) (by rw [<-L1.out];exact hlt);obtain ⟨y,hy⟩:=tA (xs:=ys) (k:=k) (by rw [<-L2.out];exact hlt);obtain ⟨ba,oa,Alx,clx,Apx,cpx,rfl,_,p0,p1,p2,p3,p4,p5,bm,bp⟩:=mE (h1.bw jA hb) hx;obtain ⟨bb,ob,Aly,cly,Apy,cpy,rfl,_,q0,q1,q2,q3,q4,q5,bn,bq⟩:=mE (h2.bw jA hb) hy;have HX:=pA6 hx;have HY:=pA6 hy;have i1:(0:Int)<=(k:Int):=by omega
    have i2:(k:Int)<(n1:Int):=by omega
    have bk:=hb;have bc:Rd aB wr _ _:=bm;have bd:Rd aB wr _ _:=bn;have bf:Rd MC wr _ _:=bp;have bg:Rd MC wr _ _:=bq;have s0:=pA p0;have s1:=pA p1;have s2:=pA p2;have s3:=pA p3;have s4:=pA p4;have s5:=pA p5;have r0:=pA q0;have r1:=pA q1;have r2:=pA q2;have r3:=pA q3;have r4:=pA q4;have r5:=pA q5;clear p0 p1 p2 p3 p4 p5 q0 q1 q2 q3 q4 q5
    clear hx hy h1 h2;by_cases e1:x.op=y.op
    ·have a1:(x.op==y.op)=true:=by simpa using e1
     have b1:(x.op != y.op)=false:=by simpa using e1
     have E1:=pA6 e1;clear e1;rcases pA8 (decide (x.wish=y.wish)) with hd | hd
     ·have HD:=pA6 hd;have bj:=pA6 (show x=y by have:=E1.out;have h2:=HD.out;cases x;cases y;simp_all);clear HD;go_wp2;refine IA (by kernel_rfl) ?_
      repeat (first | go_big_quiet_skip | (go_big_quiet_want;go_big_quiet_op;first | go_big_quiet_on | (apply Exists.intro;refine ⟨fun _=>?_,?_⟩;(· (((first | (go_at_call 167;exact DA (rC (fM _ x.wish y.wish _ _ _ _ (Rd.bw dA bc (eC.bw _)) (Rd.bw dA bd (eC.bw _)) (Rd.bw RA bf (eC.bw _)) (Rd.bw RA bg (eC.bw _))) (congrArg Value.bool hd)))))));go_big_quiet_on)))
      refine JA fun wq hbq=>?_
      try dsimp only at *
      go_wp2
      go_roundw
      case rel=>exact ⟨k+1,by omega,by go_num,iK HE.out HX.out HY.out bj.out,bk.then hbq⟩
      case measure=>simp [intOf];omega
     ·have HD:=pA6 hd;have bj:=pA6 (show x≠y by rintro rfl;have h2:=HD.out;simp at h2);clear HD;go_wp2;refine IA (by kernel_rfl) ?_
      repeat (first | go_big_quiet_skip | (go_big_quiet_want;go_big_quiet_op;first | go_big_quiet_on | (apply Exists.intro;refine ⟨fun _=>?_,?_⟩;(· (((first | (go_at_call 167;exact DA (rC (fM _ x.wish y.wish _ _ _ _ (Rd.bw dA bc (eC.bw _)) (Rd.bw dA bd (eC.bw _)) (Rd.bw RA bf (eC.bw _)) (Rd.bw RA bg (eC.bw _))) (congrArg Value.bool hd)))))));go_big_quiet_on)))
      refine JA fun wq hbq=>?_
      try dsimp only at *
      go_wp2;go_ret;exact Ret.bool (by simpa using tK HX.out HY.out bj.out) (bk.then hbq)
    ·have a1:(x.op==y.op)=false:=by simpa using e1
     have b1:(x.op != y.op)=true:=by simpa using e1
     have bj:=pA6 (show x≠y by rintro rfl;exact e1 rfl);clear e1;go_wp2;refine IA (by kernel_rfl) ?_
     repeat (first | go_big_quiet_skip | (go_big_quiet_want;go_big_quiet_op;first | go_big_quiet_on | (apply Exists.intro;refine ⟨fun _=>?_,?_⟩;(· (((first | (go_at_call 167;exact DA (fM _ x.wish y.wish _ _ _ _ (Rd.bw dA bc (eC.bw _)) (Rd.bw dA bd (eC.bw _)) (Rd.bw RA bf (eC.bw _)) (Rd.bw RA bg (eC.bw _))))))));go_big_quiet_on)))
     refine JA fun wq hbq=>?_
     try dsimp only at *
     go_wp2;go_ret;exact Ret.bool (by simpa using tK HX.out HY.out bj.out) (bk.then hbq)
   ·go_wp2;go_ret;exact Ret.bool (by simpa using fJ HE.out (by rw [<-L1.out];omega) (by rw [<-L2.out];omega)) hb
 ·go_enter func90,ntmps90;go_wp2;go_ret;exact Ret.bool (by simp;intro e;exact hl (by rw [L1.out,L2.out,e])) (Bw.refl _)
def GB:Fp zA:=fun w x cs F=>∃va vb vc Fa Fb Fc,cs=[va,vb,vc,.int .i64 x.tests]/\tD w x.items [va] Fa/\mC w x.wanted [vb] Fb/\WA w x.best [vc] Fc/\F=Fa++(Fb++Fc)
theorem NB {B : Nat} : tC B GB :=
  ⟨fun hw ⟨v, u, t, G, H, I, e, h, k, l, hF⟩ => ⟨v, u, t, G, H, I, e, rA.step (fun b hb => hw b (hb.imp (fun hb => by rw [hF]; exact List.mem_append_left _ hb) id)) h, kA.step (fun b hb => hw b (hb.imp (fun hb => by rw [hF]; exact List.mem_append_right _ (List.mem_append_left _ hb)) id)) k, aA.step (fun b hb => hw b (hb.imp (fun hb => by rw [hF]; exact List.mem_append_right _ (List.mem_append_right _ hb)) id)) l, hF⟩,
   fun ⟨v, u, t, G, H, I, e, h, k, l, hF⟩ b hb => by
    rw [hF] at hb
    exact (List.mem_append.1 hb).elim ((rA (B := B)).lt h b) fun hb => (List.mem_append.1 hb).elim ((kA (B := B)).lt k b) ((aA (B := B)).lt l b),
   fun ⟨v, u, t, G, H, I, e, h, k, l, hF⟩ s hs => by
    rw [e] at hs
    simp at hs
    rcases hs with rfl | rfl | rfl | rfl
    · exact (rA (B := B)).one h _ (by simp)
    · exact (kA (B := B)).one k _ (by simp)
    · exact (aA (B := B)).one l _ (by simp)
    · rfl⟩
theorem vP {w:World} {x:zA} {a b c d:Value} {F:List Nat} (h:GB w x [a,b,c,d] F):Rd LA w x.items [a]/\Rd OA w x.wanted [b]/\Rd aB w x.best [c]/\d=.int .i64 x.tests:=by
 obtain ⟨v,u,t,G,H,I,e,h,k,l,hF⟩:=h;injection e with e1 e;injection e with e2 e;injection e with e3 e;injection e with e4 e;subst e1 e2 e3 e4;exact ⟨pC h,bB k,xA l,rfl⟩
theorem LB {w:World} {x:zA} {cs:List Value} {F:List Nat} (h:GB w x cs F):∃A1 c1 A2 c2 A3 c3,cs=[.slice A1 x.items.length c1,.slice A2 x.wanted.length c2,.slice A3 x.best.length c3,.int .i64 x.tests]:=by
 obtain ⟨v,u,t,G,H,I,e,h,k,l,hF⟩:=h;obtain ⟨A1,c1,rfl,_⟩:=XA (pC h);obtain ⟨A2,c2,rfl,_⟩:=XA (bB k);obtain ⟨A3,c3,rfl,_⟩:=XA (xA l);exact ⟨A1,c1,A2,c2,A3,c3,e⟩
def ZJ (x:zA):Prop:=jC x.items<=1048576/\sB x.wanted<=1048576/\x.best.length<=1048576
theorem bQ (w:World) (xs:List Int) (v:Value) (h:Rd aB w xs [v]) (hn:xs.length<=1048576):Calls prog 96 #[v] w (WB w (nE WA w.heap.size xs)):=by
 obtain ⟨i0,hi,bj,bk,bm⟩:=info_parts xC;have bg:=MA (e:=3) (sz:=1) (R:=IF) w;have B0:Bw w (w.alloc (.cells #[] 3)):=(Bw.refl w).alloc _;have hs:=h.bw dA B0;have bc:sA w.heap.size [w.heap.size]:=⟨by simp,by simp⟩;go_enter func96,ntmps96;go_wp2_with (at_builtin;refine YB _ rfl (.tmp 3) (.tmp 4) 26 rfl w 3 i0 _ 1 8 underlying26 hi bj bk bm rfl (by omega) YA _ [] [w.heap.size] rfl bg bc _ rfl xs hs (fun y u h=>⟨h,rfl⟩) (by simp;omega) (by simp;omega) B0 ?_;intro v' w' F' bf bb bd);go_ret;exact ⟨_,rfl,⟨F',by simpa using bf,bb⟩,bd⟩
theorem qM (w:World) (x:iA) (v:Value) (h:Rd aB w x.vals [v]) (hn:x.vals.length<=1048576):Calls prog 146 #[.int .i64 x.id,v] w (hAt w x):=by
 obtain ⟨i0,hi,bj,bk,bm⟩:=info_parts xC;have A0:Bw w (w.alloc (.cells #[.int .i64 0,.slice none 0 0] 30)):=(Bw.refl w).alloc _;have B0:Bw (w.alloc (.cells #[.int .i64 0,.slice none 0 0] 30)) ((w.alloc (.cells #[.int .i64 0,.slice none 0 0] 30)).alloc (.cells #[] 3)):=(Bw.refl _).alloc _;have bf:=MA (e:=3) (sz:=1) (R:=IF) (w.alloc (.cells #[.int .i64 0,.slice none 0 0] 30));have bg:sA (w.alloc (.cells #[.int .i64 0,.slice none 0 0] 30)).heap.size [w.heap.size+1]:=⟨by simp,by simp⟩;rw [show (w.alloc (.cells #[.int .i64 0,.slice none 0 0] 30)).heap.size=w.heap.size+1 from by simp] at bf;have hs:=h.bw dA (A0.then B0);go_enter func146,ntmps146;go_wp2_with (at_builtin;refine YB _ rfl (.tmp 6) (.tmp 7) 26 rfl (w.alloc (.cells #[.int .i64 0,.slice none 0 0] 30)) 3 i0 _ 1 8 underlying26 hi bj bk bm rfl (by omega) YA _ [] _ rfl bf bg _ rfl x.vals hs (fun y u h=>⟨h,rfl⟩) (by simp;omega) (by simp;omega) B0 ?_;intro v' w' F' bd bb bc;rw [List.nil_append] at bd;obtain ⟨A',c',rfl,_⟩:=XA (xA bd);have hc:=mH bc;have hf:=oC bc);refine bodyPost_ret (v:=.agg #[.int .i64 x.id,.slice A' x.vals.length c']) (by simp [results,results146,go_sem,hc]) rfl ⟨_,rfl,⟨F',?_,⟨bb.nodup,fun b hb=>by have:=bb.ge b hb;simp at this;omega⟩⟩,?_⟩
 ·refine (aA (B:=0)).step (fun b hb=>?_) bd;rcases hb with hb | hb
  ·have:=bb.ge b hb;simp at this
   repeat rw [Below.heap_setCell _ _ _ _ (by dsimp only;omega)]
  ·omega
 ·repeat (first | exact A0.then bc | refine Bw.set ?_ (by dsimp only;omega) _)
theorem dQ (w:World) (x:iA) (v:Value) (h:Rd aB w x.vals [v]) (hn:x.vals.length<=1048576):Calls prog 80 #[.agg #[.int .i64 x.id,v]] w (hAt w x):=by
 have A0:Bw w ((w.alloc (.cells #[.int .i64 x.id,v] 30)).alloc (.cells #[.int .i64 0,.slice none 0 0] 30)).drew:=(((Bw.refl w).alloc _).alloc _).drew;have hs:=h.bw dA A0;obtain ⟨W,hW⟩:=pA7 (((w.alloc (.cells #[.int .i64 x.id,v] 30)).alloc (.cells #[.int .i64 0,.slice none 0 0] 30)).drew);have k0:W.cell? ⟨w.heap.size,0,none⟩=some (.int .i64 x.id):=by rw [hW];go_simp
 have k1:W.cell? ⟨w.heap.size,1,none⟩=some v:=by rw [hW];go_simp
 have k2:W.cell? ⟨w.heap.size+1,0,none⟩=some (.int .i64 0):=by rw [hW];go_simp
 have k3:W.cell? ⟨w.heap.size+1,1,none⟩=some (.slice none 0 0):=by rw [hW];go_simp
 have bc:W.heap.size=w.heap.size+2:=by rw [hW];simp
 have bf:=pA6 bc;have bj:=fun o (w2:World) (hb:Bw W w2)=>oC hb (w.heap.size+1) o (by rw [bc];omega)
 have bg:∀o,W.frozen? ⟨w.heap.size+1,o,none⟩=false:=fun o=>by rw [hW];go_simp
 rw [<-hW] at A0 hs;have HW:=pA6 hW;clear hW bc;go_enter func80,ntmps80;go_wp2
 go_region_held3 (fun w'=>w'.cell? ⟨w.heap.size,0,none⟩=some (.int .i64 x.id)/\w'.cell? ⟨w.heap.size,1,none⟩=some v) (first | go_keep | exact ⟨k0,k1⟩)
  (first
   | (go_at_call 96;rw [<-HW.out];refine (bQ _ x.vals _ hs hn).mono ?_;rintro e w2 ⟨v2,rfl,⟨F2,o2,f2⟩,bb⟩;obtain ⟨A2,c2,rfl,_⟩:=XA (xA o2);replace k0:=bb.cell k0;replace k1:=bb.cell k1;replace k2:=bb.cell k2;replace k3:=bb.cell k3;have hf2:=fun o=>(bj o w2 bb).trans (bg o)))
 go_wp2;have bd:∀b∈F2,w.heap.size+2<=b:=fun b hb=>by have:=f2.ge b hb;rw [bf.out] at this;exact this
 refine bodyPost_ret (v:=.agg #[.int .i64 x.id,.slice A2 x.vals.length c2]) (by simp [results,results80,go_sem,k2,k3]) rfl ⟨_,rfl,⟨F2,?_,⟨f2.nodup,fun b hb=>by have:=bd b hb;omega⟩⟩,?_⟩
 ·refine (aA (B:=0)).step (fun b hb=>?_) o2;rcases hb with hb | hb
  ·have:=bd b hb
   repeat rw [Below.heap_setCell _ _ _ _ (by dsimp only;omega)]
  ·omega
 ·repeat (first | exact A0.then bb | refine Bw.set ?_ (by dsimp only;omega) _)
theorem aK {α:Type} {l:List α} {k:Nat} {x:α} (h:l[k]? = some x):l.take (k+1)=l.take k++[x]:=by rw [List.take_add_one,h];rfl
theorem TT (w:World) (xs:List iA) (v:Value) (h:Rd LA w xs [v]) (ht:jC xs<=1048576):Calls prog 107 #[v] w (WB w (nE tD w.heap.size xs)):=by
 have hn:xs.length<=1048576:=by unfold jC at ht;omega
 have bj:∀x∈xs,x.vals.length<=1048576:=fun x hx=>by have:=aAa (fun x:iA=>x.vals.length) hx;unfold jC at ht;omega
 clear ht;obtain ⟨i0,hi,cf,cg,cj⟩:=info_parts IG;obtain ⟨A,n,c,rfl,a1,a2,a3⟩:=qA h;rw [<-a1] at hn;have L1:=pA6 a1;clear a1;have bk:=MA (e:=30) (sz:=2) (R:=zH) w;go_enter func107,ntmps107;go_wp2
 go_loopw [3,9] (fun s i w'=>∃(k:Nat) (F:List Nat),k<=n/\i=.int .i64 k/\tD w' (xs.take k) [s] F/\sA w.heap.size F/\Bw w w') (fun s i _=>n-(intOf i).toNat)
 case atStart=>exact ⟨0,_,by omega,rfl,bk,⟨by simp,by simp⟩,(Bw.refl _).alloc _⟩
 case round=>
  obtain ⟨k,F,hk,rfl,hv,hF,hb⟩:=hrel;by_cases hlt:k<n
  ·obtain ⟨x,hx⟩:=tA (xs:=xs) (k:=k) (by rw [<-L1.out];exact hlt);have cd:=bj x (List.mem_of_getElem? hx);obtain ⟨ba,oa,A',c',rfl,_,bz,bd,bf⟩:=qB (h.bw gA hb) hx;have HS:=pA6 (aK hx);have bg:(xs.take k).length=k:=by rw [List.length_take];have:=L1.out;omega
   have HK:=pA6 bg;have A1:Bw wr (wr.alloc (.cells #[.int .i64 x.id,.slice A' x.vals.length c'] 30)):=(Bw.refl wr).alloc _;clear hx h bj bk bg;go_wp2_with fail;refine (dQ _ x _ (Rd.bw dA bf A1) cd).mono ?_;rintro e w1 ⟨v1,rfl,⟨F1,o1,f1⟩,bt⟩;have bb:=A1.then bt;have bm:=(rA (B:=w.heap.size)).bw bb hb.size hv;have bq:=(rA (B:=0)).lt hv;have bc:=hb.then bb;obtain ⟨Av,cv,rfl,_⟩:=XA (xA o1);have cc:=(rA (B:=w.heap.size)).bw ((Bw.refl w1).alloc (.cells #[.int .i64 x.id,.slice Av x.vals.length cv] 30)) bc.size bm;have oW:=(aA (B:=w.heap.size)).bw ((Bw.refl w1).alloc (.cells #[.int .i64 x.id,.slice Av x.vals.length cv] 30)) bc.size o1;have bv:=bc.alloc (.cells #[.int .i64 x.id,.slice Av x.vals.length cv] 30);have bn:sA wr.heap.size F1:=f1.mono A1.size;have bx:∀j t,[Value.int .i64 x.id,.slice Av x.vals.length cv][j]? = some t->(w1.alloc (.cells #[.int .i64 x.id,.slice Av x.vals.length cv] 30)).cell? ((⟨w1.heap.size,0,none⟩:Addr).add j)=some t:=World.news_of_block (cs:=#[.int .i64 x.id,.slice Av x.vals.length cv]) (t:=30) (fr:=(0,0)) (heap_alloc_new w1 _);clear hv bm bz bd bf o1 f1;go_wp2_with (at_builtin;refine lB _ rfl (.tmp 13) (.tmp 16) 24 rfl w 30 i0 _ 2 32 underlying24 hi cf cg cj rfl (by omega) sD _ (xs.take k) F rfl cc hF ⟨w1.heap.size,0,none⟩ 1 rfl x [.int .i64 x.id,.slice Av x.vals.length cv] F1 bx ⟨_,rfl,oW⟩ rfl wr.heap.size bq bn hb.size (by rw [HK.out];omega) (by rw [HK.out];omega) bv ?_;intro v' w' F' cb bp bs)
   go_roundw
   case rel=>exact ⟨k+1,F',by omega,by go_num,by rw [HS.out];exact cb,bp,bs⟩
   case measure=>simp [intOf];omega
  ·obtain rfl:k=n:=by omega
   rw [List.take_of_length_le (by rw [<-L1.out];exact Nat.le_refl _)] at hv;go_wp2;go_ret;exact ⟨_,rfl,⟨F,hv,hF⟩,hb⟩
theorem dA7 (w:World) (xs:List iA) (v:Value) (h:Rd LA w xs [v]) (ht:jC xs<=1048576):Calls prog 109 #[v] w (WB w (nE tD w.heap.size xs)):=by
 have hn:xs.length<=1048576:=by unfold jC at ht;omega
 have bs:∀x∈xs,x.vals.length<=1048576:=fun x hx=>by have:=aAa (fun x:iA=>x.vals.length) hx;unfold jC at ht;omega
 clear ht;obtain ⟨i0,hi,cm,cn,cp⟩:=info_parts IG;obtain ⟨A,n,c,rfl,a1,a2,a3⟩:=qA h;rw [<-a1] at hn;have L1:=pA6 a1;clear a1;have bt:=MA (e:=30) (sz:=2) (R:=zH) w;go_enter func109,ntmps109;go_wp2
 go_loopw [3,4] (fun s i w'=>∃(k:Nat) (F:List Nat),k<=n/\i=.int .i64 k/\tD w' (xs.take k) [s] F/\sA w.heap.size F/\Bw w w') (fun s i _=>n-(intOf i).toNat)
 case atStart=>exact ⟨0,_,by omega,rfl,bt,⟨by simp,by simp⟩,(Bw.refl _).alloc _⟩
 case round=>
  obtain ⟨k,F,hk,rfl,hv,hF,hb⟩:=hrel;by_cases hlt:k<n
  ·obtain ⟨x,hx⟩:=tA (xs:=xs) (k:=k) (by rw [<-L1.out];exact hlt);have ck:=bs x (List.mem_of_getElem? hx);obtain ⟨ba,oa,A',c',rfl,_,bn,bp,cd⟩:=qB h hx;have bf:=hb.cell bn;have bb:=hb.cell bp;have HS:=pA6 (aK hx);have bq:(xs.take k).length=k:=by rw [List.length_take];have:=L1.out;omega
   have HK:=pA6 bq;have i1:(0:Int)<=(k:Int):=by omega
   have i2:(k:Int)<(n:Int):=by omega
   have bm:Rd aB wr.drew x.vals [.slice A' x.vals.length c']:=Rd.bw dA cd hb.drew;have D1:Bw wr wr.drew:=(Bw.refl wr).drew;clear hx h bs bt bq;have bz:=(rA (B:=0)).lt hv;go_wp2_with fail
   go_region_held3 (fun w'=>w'.cell? ⟨ba,oa+k*2,none⟩=some (.int .i64 x.id)/\w'.cell? ⟨ba,oa+k*2+1,none⟩=some (.slice A' x.vals.length c')) (first | go_keep | exact ⟨bf,bb⟩ | exact ⟨bc.cell bf,bc.cell bb⟩ | exact ⟨bg.cell bn,bg.cell bp⟩ | fail)
    (first
     | (go_at_call 146;refine (qM _ x _ bm ck).mono ?_;rintro e w1 ⟨v1,rfl,⟨F1,o1,f1⟩,bj⟩;obtain ⟨Av,cv,rfl,_⟩:=XA (xA o1);replace bf:=bj.cell bf;replace bb:=bj.cell bb;have bd:=D1.then bj;have bk:=hb.then bd;have cg:=(rA (B:=w.heap.size)).bw bd hb.size hv;have bc:=(Bw.refl w1).alloc (.cells #[.int .i64 x.id,.slice Av x.vals.length cv] 30);have cj:=(rA (B:=w.heap.size)).bw bc bk.size cg;have oW:=(aA (B:=w.heap.size)).bw bc bk.size o1;have cb:=bk.then bc;have bv:sA wr.heap.size F1:=f1.mono (by simp);have cc:∀j t,[Value.int .i64 x.id,.slice Av x.vals.length cv][j]? = some t->(w1.alloc (.cells #[.int .i64 x.id,.slice Av x.vals.length cv] 30)).cell? ((⟨w1.heap.size,0,none⟩:Addr).add j)=some t:=World.news_of_block (cs:=#[.int .i64 x.id,.slice Av x.vals.length cv]) (t:=30) (fr:=(0,0)) (heap_alloc_new w1 _))
     | (refine eJ _ (by rfl) (.tmp 12) (.tmp 24) 24 (by rfl) w 30 i0 _ 2 32 underlying24 hi cm cn cp rfl (by omega) sD _ (xs.take k) F (by rfl) cj hF ⟨w1.heap.size,0,none⟩ 1 (by rfl) x [.int .i64 x.id,.slice Av x.vals.length cv] F1 cc ⟨_,rfl,oW⟩ rfl wr.heap.size bz bv hb.size (by rw [HK.out];omega) (by rw [HK.out];omega) cb ?_;intro v' w' F' cf bx bg)
     | fail)
   go_wp2
   go_roundw
   case rel=>exact ⟨k+1,F',by omega,by go_num,by rw [HS.out];exact cf,bx,bg⟩
   case measure=>simp [intOf];omega
  ·obtain rfl:k=n:=by omega
   rw [List.take_of_length_le (by rw [<-L1.out];exact Nat.le_refl _)] at hv;go_wp2;go_ret;exact ⟨_,rfl,⟨F,hv,hF⟩,hb⟩
theorem IK:(prog.info? 214).map (fun i=>(i.zero,i.size,i.bytes))=some (some (.agg #[.int .i64 0,.int .i64 0]),2,16):=by kernel_rfl
theorem fAz (w:World) (x:AB) (v u:Value) (h:Rd aB w x.list [v]) (h':Rd MC w x.pairs [u]) (hn1:x.list.length<=1048576) (hn2:x.pairs.length<=1048576) :
  Calls prog 172 #[.agg #[.int .i64 x.kind,.int .i64 x.field,.int .i64 x.value,v,u]] w (jA6 xN w x):=by
 obtain ⟨i1,hi,bn,bp,bq⟩:=info_parts IK;have A0:Bw w ((w.alloc (.cells #[.int .i64 x.kind,.int .i64 x.field,.int .i64 x.value,v,u] 109)).alloc (.cells #[.int .i64 0,.int .i64 0,.int .i64 0,.slice none 0 0,.slice none 0 0] 109)):=((Bw.refl w).alloc _).alloc _;go_enter func172,ntmps172;go_wp2_with fail;refine (bQ _ x.list _ (h.bw dA A0) hn1).mono ?_;rintro e w2 ⟨v2,rfl,⟨F,o2,f2⟩,bc⟩;have hf1:∀o,w2.frozen? ⟨w.heap.size,o,none⟩=false:=fun o=>by rw [oC bc _ _ (by first | (simp;done) | (simp;omega))];go_simp
 have hf2:∀o,w2.frozen? ⟨w.heap.size+1,o,none⟩=false:=fun o=>by rw [oC bc _ _ (by first | (simp;done) | (simp;omega))];go_simp
 have hz:w.heap.size+2<=w2.heap.size:=by have:=bc.size;simp at this;omega
 obtain ⟨A,c,rfl,_⟩:=XA (xA o2);have B2:Bw w w2:=A0.then bc;have bf:∀b∈F,w.heap.size+2<=b:=fun b hb=>by have:=f2.ge b hb;simpa using this
 obtain ⟨q0,q1,q2,q3,q4⟩:C5 w2 w.heap.size (.int .i64 x.kind) (.int .i64 x.field) (.int .i64 x.value) v u:=bc.c5 (by unfold C5;go_simp);obtain ⟨r0,r1,r2,r3,r4⟩:C5 w2 (w.heap.size+1) (.int .i64 0) (.int .i64 0) (.int .i64 0) (.slice none 0 0) (.slice none 0 0):=bc.c5 (by unfold C5;go_simp);have B3:=B2.set (p:=⟨w.heap.size,3,none⟩) (by dsimp only;omega) (.slice A x.list.length c);have bj:=MA (e:=214) (sz:=2) (R:=ET) (w2.setCell ⟨w.heap.size,3,none⟩ (.slice A x.list.length c));rw [show (w2.setCell ⟨w.heap.size,3,none⟩ (.slice A x.list.length c)).heap.size=w2.heap.size from by simp] at bj;have A3:Bw (w2.setCell ⟨w.heap.size,3,none⟩ (.slice A x.list.length c)) ((w2.setCell ⟨w.heap.size,3,none⟩ (.slice A x.list.length c)).alloc (.cells #[] 214)):=(Bw.refl _).alloc _;have hs:=h'.bw RA (B3.then A3);have z4:=A3.cell (show (w2.setCell ⟨w.heap.size,3,none⟩ (.slice A x.list.length c)).cell? ⟨w.heap.size,4,none⟩=some u by go_simp);have bm:sA (w2.setCell ⟨w.heap.size,3,none⟩ (.slice A x.list.length c)).heap.size [w2.heap.size]:=⟨by simp,by simp⟩;have bg:=(aA (B:=0)).lt o2;go_wp2_with (at_builtin;refine YB _ rfl (.tmp 7) (.tmp 9) 107 rfl (w2.setCell ⟨w.heap.size,3,none⟩ (.slice A x.list.length c)) 214 i1 _ 2 16 underlying107 hi bn bp bq rfl (by omega) SF _ [] _ rfl bj bm _ rfl x.pairs hs (fun y u h=>⟨h,rfl⟩) (by simp;omega) (by simp;omega) A3 ?_;intro v' w3 G bd hG bb;rw [List.nil_append] at bd;obtain ⟨Ap,cp,rfl,_⟩:=XA (aC bd);have hc:=mH bb;have hf3:∀o,w3.frozen? ⟨w.heap.size,o,none⟩=false:=fun o=>(oC bb w.heap.size o (by simp;omega)).trans (by go_simp);have hf4:∀o,w3.frozen? ⟨w.heap.size+1,o,none⟩=false:=fun o=>(oC bb (w.heap.size+1) o (by simp;omega)).trans (by go_simp);have p0:w3.cell? ⟨w.heap.size,0,none⟩=some (.int .i64 x.kind):=bb.cell (show (w2.setCell ⟨w.heap.size,3,none⟩ (.slice A x.list.length c)).cell? ⟨w.heap.size,0,none⟩=some (.int .i64 x.kind) by go_simp);have p1:w3.cell? ⟨w.heap.size,1,none⟩=some (.int .i64 x.field):=bb.cell (show (w2.setCell ⟨w.heap.size,3,none⟩ (.slice A x.list.length c)).cell? ⟨w.heap.size,1,none⟩=some (.int .i64 x.field) by go_simp);have p2:w3.cell? ⟨w.heap.size,2,none⟩=some (.int .i64 x.value):=bb.cell (show (w2.setCell ⟨w.heap.size,3,none⟩ (.slice A x.list.length c)).cell? ⟨w.heap.size,2,none⟩=some (.int .i64 x.value) by go_simp);have p3:w3.cell? ⟨w.heap.size,3,none⟩=some (.slice A x.list.length c):=bb.cell (show (w2.setCell ⟨w.heap.size,3,none⟩ (.slice A x.list.length c)).cell? ⟨w.heap.size,3,none⟩=some (.slice A x.list.length c) by go_simp);have p4:w3.cell? ⟨w.heap.size,4,none⟩=some (u):=bb.cell (show (w2.setCell ⟨w.heap.size,3,none⟩ (.slice A x.list.length c)).cell? ⟨w.heap.size,4,none⟩=some (u) by go_simp);have s0:w3.cell? ⟨w.heap.size+1,0,none⟩=some (.int .i64 0):=bb.cell (show (w2.setCell ⟨w.heap.size,3,none⟩ (.slice A x.list.length c)).cell? ⟨w.heap.size+1,0,none⟩=some (.int .i64 0) by go_simp);have s1:w3.cell? ⟨w.heap.size+1,1,none⟩=some (.int .i64 0):=bb.cell (show (w2.setCell ⟨w.heap.size,3,none⟩ (.slice A x.list.length c)).cell? ⟨w.heap.size+1,1,none⟩=some (.int .i64 0) by go_simp);have s2:w3.cell? ⟨w.heap.size+1,2,none⟩=some (.int .i64 0):=bb.cell (show (w2.setCell ⟨w.heap.size,3,none⟩ (.slice A x.list.length c)).cell? ⟨w.heap.size+1,2,none⟩=some (.int .i64 0) by go_simp);have s3:w3.cell? ⟨w.heap.size+1,3,none⟩=some (.slice none 0 0):=bb.cell (show (w2.setCell ⟨w.heap.size,3,none⟩ (.slice A x.list.length c)).cell? ⟨w.heap.size+1,3,none⟩=some (.slice none 0 0) by go_simp);have s4:w3.cell? ⟨w.heap.size+1,4,none⟩=some (.slice none 0 0):=bb.cell (show (w2.setCell ⟨w.heap.size,3,none⟩ (.slice A x.list.length c)).cell? ⟨w.heap.size+1,4,none⟩=some (.slice none 0 0) by go_simp))
 have B4:=B3.then bb;have bs:WA w3 x.list [.slice A x.list.length c] F:=(aA (B:=0)).step (fun b hb=>by
  rcases hb with hb | hb
  ·have h1:=bf b hb;have h2:=bg b hb;rw [Below.block bb b (by simpa using h2)]
   repeat rw [Below.heap_setCell _ _ _ _ (by dsimp only;omega)]
  ·omega) o2
 have bk:∀b∈G,w.heap.size+2<=b:=fun b hb=>by have:=hG.ge b hb;simp at this;omega
 have FF:sA w.heap.size (F++G):=sA.append (m:=w2.heap.size) (f2.mono (by simp;omega)) bg (hG.mono (by simp)) (by omega);refine bodyPost_ret (v:=.agg #[.int .i64 x.kind,.int .i64 x.field,.int .i64 x.value,.slice A x.list.length c,.slice Ap x.pairs.length cp]) (by simp [results,results172,go_sem,p0,p1,p2,p3,p4,s0,s1,s2,s3,s4]) rfl ⟨_,F++G,rfl,⟨_,_,F,G,rfl,?_,?_,rfl⟩,FF,?_⟩
 ·refine (aA (B:=0)).step (fun b hb=>?_) bs;rcases hb with hb | hb
  ·have:=bf b hb
   repeat rw [Below.heap_setCell _ _ _ _ (by dsimp only;omega)]
  ·omega
 ·refine (EA (B:=0)).step (fun b hb=>?_) bd;rcases hb with hb | hb
  ·have:=bk b hb
   repeat rw [Below.heap_setCell _ _ _ _ (by dsimp only;omega)]
  ·omega
 ·repeat (first | with_reducible exact B4 | with_reducible refine Bw.set ?_ ?_ _)
  all_goals (dsimp only;omega)
def St2 (W X:World) (l:List Int) (v:Value) (F:List Nat) (p:List EB) (u:Value) (G:List Nat):Prop:=
 WA X l [v] F/\AE X p [u] G/\(∀b∈F,b∉G)/\sA W.heap.size F/\sA W.heap.size G/\Bw W X
theorem St2.start (W:World):St2 W W [] (.slice none 0 0) [] [] (.slice none 0 0) []:=
 ⟨⟨_,[],[],rfl,World.ownsRow_nil _ _ _ _,trivial,by simp [Value.ownBlock]⟩,⟨_,[],[],rfl,World.ownsRow_nil _ _ _ _,trivial,by simp [Value.ownBlock]⟩,by simp,⟨by simp,by simp⟩,⟨by simp,by simp⟩,Bw.refl W⟩
theorem St2.row1 {W X:World} {l v F p u G} (h:St2 W X l v F p u G):St2 W (X.alloc (.cells #[] 3)) [] (.slice (some ⟨X.heap.size,0,none⟩) 0 0) [X.heap.size] p u G:=by
 obtain ⟨h1,h2,h3,h4,h5,h6⟩:=h;have A:Bw X (X.alloc (.cells #[] 3)):=(Bw.refl X).alloc _;have hs:=h6.size;refine ⟨MA X,(EA (B:=0)).bw A (Nat.zero_le _) h2,fun b hb hg=>?_,⟨by simp,by simpa using hs⟩,h5,h6.then A⟩;have:=(EA (B:=0)).lt h2 b hg;simp at hb;omega
theorem St2.row2 {W X:World} {l v F p u G} (h:St2 W X l v F p u G):St2 W (X.alloc (.cells #[] 214)) l v F [] (.slice (some ⟨X.heap.size,0,none⟩) 0 0) [X.heap.size]:=by
 obtain ⟨h1,h2,h3,h4,h5,h6⟩:=h;have A:Bw X (X.alloc (.cells #[] 214)):=(Bw.refl X).alloc _;have hs:=h6.size;refine ⟨(aA (B:=0)).bw A (Nat.zero_le _) h1,MA X,fun b hb hg=>?_,h4,⟨by simp,by simpa using hs⟩,h6.then A⟩;have:=(aA (B:=0)).lt h1 b hb;simp at hg;omega
section
variable {ops:Array Oper} {o:Oper} {a:Act} {K:Act->World->Prop} {Q:Exit->Act->World->Prop} {E:Prop} {W X:World} {v:Value} {F:List Nat} {l:List Int} {pp:List EB} {u:Value} {G:List Nat}
theorem St2.app1 (p:St2 W X [] v F pp u G) (s x:Operand) (hgd:o.guard=none) (ho:o.op=.call { callee:=.builtin .append,args:=#[s,x],argTypes:=#[26,26] })
  (hs:a.eval s=v) (sv:Value) (hx:a.eval x=sv) (ys:List Int) (hsrc:Rd aB W ys [sv]) (hn:ys.length<=1048576)
  (h:∀A c w' F',St2 W w' ys (.slice A ys.length c) F' pp u G->K (a.put o.dst (.slice A ys.length c)) w'):if Region.wanted o (yielded ops a.tmps)=true then Oper.wp prog o a X K Q else E:=by
 obtain ⟨i0,bb,bc,bd,bf⟩:=info_parts xC;obtain ⟨h1,h2,h3,h4,h5,h6⟩:=p;refine QD X hgd s x 26 ho W 3 i0 _ 1 8 underlying26 bb bc bd bf rfl (by omega) YA v [] F hs h1 h4 sv hx ys (hsrc.bw dA h6) (fun y u h=>⟨h,rfl⟩) (by simp;omega) (by simp;omega) h6 ?_;intro v' w' F' o1 f1 hb hO hF;rw [List.nil_append] at o1;obtain ⟨A,c,rfl,_⟩:=XA (xA o1);refine h A c w' F' ⟨o1,hO.keeps EA h2 (fun b hb hf=>h3 b hf hb),fun b hb hg=>?_,f1,h5,hb⟩;rcases hF b hb with h | h
 ·exact h3 b h hg
 ·have:=(EA (B:=0)).lt h2 b hg;omega
theorem St2.app2 (p:St2 W X l v F [] u G) (s x:Operand) (hgd:o.guard=none) (ho:o.op=.call { callee:=.builtin .append,args:=#[s,x],argTypes:=#[107,107] })
  (hs:a.eval s=u) (sv:Value) (hx:a.eval x=sv) (ys:List EB) (hsrc:Rd MC W ys [sv]) (hn:ys.length<=1048576)
  (h:∀A c w' G',St2 W w' l v F ys (.slice A ys.length c) G'->K (a.put o.dst (.slice A ys.length c)) w'):if Region.wanted o (yielded ops a.tmps)=true then Oper.wp prog o a X K Q else E:=by
 obtain ⟨i1,hi,bb,bc,bd⟩:=info_parts IK;obtain ⟨h1,h2,h3,h4,h5,h6⟩:=p;refine QD X hgd s x 107 ho W 214 i1 _ 2 16 underlying107 hi bb bc bd rfl (by omega) SF u [] G hs h2 h5 sv hx ys (hsrc.bw RA h6) (fun y u h=>⟨h,rfl⟩) (by simp;omega) (by simp;omega) h6 ?_;intro v' w' F' o1 f1 hb hO hF;rw [List.nil_append] at o1;obtain ⟨A,c,rfl,_⟩:=XA (aC o1);refine h A c w' F' ⟨hO.keeps aA h1 (fun b hb hf=>h3 b hb hf),o1,fun b hb hg=>?_,h4,f1,hb⟩;rcases hF b hg with h | h
 ·exact h3 b hb h
 ·have:=(aA (B:=0)).lt h1 b hb;omega
end
theorem lAg (w:World) (x:AB) (v u:Value) (h:Rd aB w x.list [v]) (h':Rd MC w x.pairs [u]) (hn1:x.list.length<=1048576) (hn2:x.pairs.length<=1048576) :
  Calls prog 173 #[.agg #[.int .i64 x.kind,.int .i64 x.field,.int .i64 x.value,v,u]] w (jA6 xN w x):=by
 obtain ⟨Z,hZ⟩:=pA7 ((w.alloc (.cells #[.int .i64 x.kind,.int .i64 x.field,.int .i64 x.value,v,u] 109)).alloc (.cells #[.int .i64 0,.int .i64 0,.int .i64 0,.slice none 0 0,.slice none 0 0] 109));have A0:Bw w Z.drew:=by rw [hZ];exact (((Bw.refl w).alloc _).alloc _).drew
 have q0:Z.drew.cell? ⟨w.heap.size,0,none⟩=some (.int .i64 x.kind):=by rw [hZ];go_simp
 have q1:Z.drew.cell? ⟨w.heap.size,1,none⟩=some (.int .i64 x.field):=by rw [hZ];go_simp
 have q2:Z.drew.cell? ⟨w.heap.size,2,none⟩=some (.int .i64 x.value):=by rw [hZ];go_simp
 have q3:Z.drew.cell? ⟨w.heap.size,3,none⟩=some (v):=by rw [hZ];go_simp
 have q4:Z.drew.cell? ⟨w.heap.size,4,none⟩=some (u):=by rw [hZ];go_simp
 have r0:Z.drew.cell? ⟨w.heap.size+1,0,none⟩=some (.int .i64 0):=by rw [hZ];go_simp
 have r1:Z.drew.cell? ⟨w.heap.size+1,1,none⟩=some (.int .i64 0):=by rw [hZ];go_simp
 have r2:Z.drew.cell? ⟨w.heap.size+1,2,none⟩=some (.int .i64 0):=by rw [hZ];go_simp
 have r3:Z.drew.cell? ⟨w.heap.size+1,3,none⟩=some (.slice none 0 0):=by rw [hZ];go_simp
 have r4:Z.drew.cell? ⟨w.heap.size+1,4,none⟩=some (.slice none 0 0):=by rw [hZ];go_simp
 have z0:Z.cell? ⟨w.heap.size,0,none⟩=some (.int .i64 x.kind):=by rw [hZ];go_simp
 have z1:Z.cell? ⟨w.heap.size,1,none⟩=some (.int .i64 x.field):=by rw [hZ];go_simp
 have z2:Z.cell? ⟨w.heap.size,2,none⟩=some (.int .i64 x.value):=by rw [hZ];go_simp
 have z3:Z.cell? ⟨w.heap.size,3,none⟩=some (v):=by rw [hZ];go_simp
 have z4:Z.cell? ⟨w.heap.size,4,none⟩=some (u):=by rw [hZ];go_simp
 have bf:Z.drew.heap.size=w.heap.size+2:=by rw [hZ];simp
 have bn:=pA6 bf;have bk:∀o,Z.drew.frozen? ⟨w.heap.size+1,o,none⟩=false:=fun o=>by rw [hZ];go_simp
 have bm:=pA6 (fun o (w2:World) (hb:Bw Z.drew w2)=>(oC hb (w.heap.size+1) o (by rw [bf];omega)).trans (bk o));have HZ:=pA6 hZ;have p:=St2.start Z.drew;have bb:=h.bw dA A0;have bc:=h'.bw RA A0;clear hZ bf bk;go_enter func173,ntmps173;go_wp2;rw [<-HZ.out]
 go_region_held3 (fun w'=>w'.cell? ⟨w.heap.size,0,none⟩=some (.int .i64 x.kind)/\w'.cell? ⟨w.heap.size,1,none⟩=some (.int .i64 x.field)/\w'.cell? ⟨w.heap.size,2,none⟩=some (.int .i64 x.value)/\w'.cell? ⟨w.heap.size,3,none⟩=some (v)/\w'.cell? ⟨w.heap.size,4,none⟩=some (u)) (first | go_keep | exact ⟨q0,q1,q2,q3,q4⟩ | (have HB:=p.2.2.2.2.2;exact ⟨HB.cell q0,HB.cell q1,HB.cell q2,HB.cell q3,HB.cell q4⟩))
  (first
   | ((first
    | refine St2.app1 p (.tmp 9) (.tmp 11) (by rfl) (by rfl) (by first | rfl | (go_simp;done)) _ (by rfl) x.list bb hn1 ?_
    | refine St2.app1 p.row1 (.tmp 9) (.tmp 11) (by rfl) (by rfl) (by first | rfl | (go_simp;done)) _ (by rfl) x.list bb hn1 ?_
    | refine St2.app1 p.row1.row2 (.tmp 9) (.tmp 11) (by rfl) (by rfl) (by first | rfl | (go_simp;done)) _ (by rfl) x.list bb hn1 ?_
    | refine St2.app1 p.row2.row1 (.tmp 9) (.tmp 11) (by rfl) (by rfl) (by first | rfl | (go_simp;done)) _ (by rfl) x.list bb hn1 ?_);clear p;(try clear e0 e1 e2 e3 e4 g0 g1 g2 g3 g4 bd);intro A c w2 F p;have HB:=p.2.2.2.2.2;have e0:=HB.cell q0;have e1:=HB.cell q1;have e2:=HB.cell q2;have e3:=HB.cell q3;have e4:=HB.cell q4;have g0:=HB.cell r0;have g1:=HB.cell r1;have g2:=HB.cell r2;have g3:=HB.cell r3;have g4:=HB.cell r4;have bd:=fun o=>bm.out o w2 HB;clear HB)
   | ((first
    | refine St2.app2 p (.tmp 13) (.tmp 15) (by rfl) (by rfl) (by first | rfl | (go_simp;done)) _ (by rfl) x.pairs bc hn2 ?_
    | refine St2.app2 p.row2 (.tmp 13) (.tmp 15) (by rfl) (by rfl) (by first | rfl | (go_simp;done)) _ (by rfl) x.pairs bc hn2 ?_
    | refine St2.app2 p.row2.row1 (.tmp 13) (.tmp 15) (by rfl) (by rfl) (by first | rfl | (go_simp;done)) _ (by rfl) x.pairs bc hn2 ?_
    | refine St2.app2 p.row1.row2 (.tmp 13) (.tmp 15) (by rfl) (by rfl) (by first | rfl | (go_simp;done)) _ (by rfl) x.pairs bc hn2 ?_);clear p;(try clear e0 e1 e2 e3 e4 g0 g1 g2 g3 g4 bd);intro Ap cp w2 G p;have HB:=p.2.2.2.2.2;have e0:=HB.cell q0;have e1:=HB.cell q1;have e2:=HB.cell q2;have e3:=HB.cell q3;have e4:=HB.cell q4;have g0:=HB.cell r0;have g1:=HB.cell r1;have g2:=HB.cell r2;have g3:=HB.cell r3;have g4:=HB.cell r4;have bd:=fun o=>bm.out o w2 HB;clear HB))
 all_goals
  obtain ⟨o2,o3,hd,f2,f3,hB⟩:=p;have hsz2:=hB.size;have hS:=bn.out;go_wp2;have bg:∀b∈F,w.heap.size+2<=b:=fun b hb=>by have:=f2.ge b hb;omega
  have bj:∀b∈G,w.heap.size+2<=b:=fun b hb=>by have:=f3.ge b hb;omega
  have FF:sA w.heap.size (F++G):=⟨List.nodup_append.2 ⟨f2.nodup,f3.nodup,fun a ha b hb e=>hd a ha (e▸hb)⟩,fun b hb=>(List.mem_append.1 hb).elim (fun h=>by have:=bg b h;omega) (fun h=>by have:=bj b h;omega)⟩;refine bodyPost_ret (v:=.agg #[.int .i64 x.kind,.int .i64 x.field,.int .i64 x.value,.slice A x.list.length c,.slice Ap x.pairs.length cp]) (by simp [results,results173,go_sem,g0,g1,g2,g3,g4]) rfl ⟨_,F++G,rfl,⟨_,_,F,G,rfl,?_,?_,rfl⟩,FF,?_⟩
  ·refine (aA (B:=0)).step (fun b hb=>?_) o2;rcases hb with hb | hb
   ·have:=bg b hb
    repeat rw [Below.heap_setCell _ _ _ _ (by dsimp only;omega)]
   ·omega
  ·refine (EA (B:=0)).step (fun b hb=>?_) o3;rcases hb with hb | hb
   ·have:=bj b hb
    repeat rw [Below.heap_setCell _ _ _ _ (by dsimp only;omega)]
   ·omega
  ·repeat (first | with_reducible exact (A0.then hB) | with_reducible refine Bw.set ?_ ?_ _)
   all_goals (dsimp only;omega)
theorem mZ {xs:List mA} (ht:sB xs<=1048576):xs.length<=1048576/\∀x∈xs,x.wish.list.length<=1048576/\x.wish.pairs.length<=1048576:=by
 unfold sB at ht;refine ⟨by omega,fun x hx=>?_⟩;have h1:=aAa dL hx;have h2:dL x=x.wish.list.length+x.wish.pairs.length:=rfl;omega
theorem gG (w:World) (xs:List mA) (v:Value) (h:Rd OA w xs [v]) (ht:sB xs<=1048576):Calls prog 110 #[v] w (WB w (nE mC w.heap.size xs)):=by
 obtain ⟨hn,bx⟩:=mZ ht;clear ht;obtain ⟨i0,hi,cv,cx,cz⟩:=info_parts tH;obtain ⟨A,n,c,rfl,a1,a2,a3⟩:=qA h;rw [<-a1] at hn;have L1:=pA6 a1;clear a1;have bz:=MA (e:=111) (sz:=6) (R:=LJ) w;go_enter func110,ntmps110;go_wp2
 go_loopw [3,4] (fun s i w'=>∃(k:Nat) (F:List Nat),k<=n/\i=.int .i64 k/\mC w' (xs.take k) [s] F/\sA w.heap.size F/\Bw w w') (fun s i _=>n-(intOf i).toNat)
 case atStart=>exact ⟨0,_,by omega,rfl,bz,⟨by simp,by simp⟩,(Bw.refl _).alloc _⟩
 case round=>
  obtain ⟨k,F,hk,rfl,hv,hF,hb⟩:=hrel;by_cases hlt:k<n
  ·obtain ⟨x,hx⟩:=tA (xs:=xs) (k:=k) (by rw [<-L1.out];exact hlt);have cb:=bx x (List.mem_of_getElem? hx);obtain ⟨ba,oa,Al,cl,Ap,cp,rfl,_,d0,d1,d2,d3,d4,d5,bs,bt⟩:=mE h hx;have c0:=hb.cell d0;have c1:=hb.cell d1;have c2:=hb.cell d2;have c3:=hb.cell d3;have c4:=hb.cell d4;have c5:=hb.cell d5;have HS:=pA6 (aK hx);have bv:(xs.take k).length=k:=by rw [List.length_take];have:=L1.out;omega
   have HK:=pA6 bv;have i1:(0:Int)<=(k:Int):=by omega
   have i2:(k:Int)<(n:Int):=by omega
   have bp:Rd aB wr.drew x.wish.list [.slice Al x.wish.list.length cl]:=Rd.bw dA bs hb.drew;have bq:Rd MC wr.drew x.wish.pairs [.slice Ap x.wish.pairs.length cp]:=Rd.bw RA bt hb.drew;have D1:Bw wr wr.drew:=(Bw.refl wr).drew;clear hx h bx bz bv bs bt;have cj:=(kA (B:=0)).lt hv;go_wp2_with fail
   go_region_held3 (fun w'=>w'.cell? ⟨ba,oa+k*6,none⟩=some (.int .i64 x.op)/\w'.cell? ⟨ba,oa+k*6+1,none⟩=some (.int .i64 x.wish.kind)/\w'.cell? ⟨ba,oa+k*6+2,none⟩=some (.int .i64 x.wish.field)/\w'.cell? ⟨ba,oa+k*6+3,none⟩=some (.int .i64 x.wish.value)/\w'.cell? ⟨ba,oa+k*6+4,none⟩=some (.slice Al x.wish.list.length cl)/\w'.cell? ⟨ba,oa+k*6+5,none⟩=some (.slice Ap x.wish.pairs.length cp)) (first | go_keep | exact ⟨c0,c1,c2,c3,c4,c5⟩ | exact ⟨bb.cell c0,bb.cell c1,bb.cell c2,bb.cell c3,bb.cell c4,bb.cell c5⟩ | exact ⟨bc.cell d0,bc.cell d1,bc.cell d2,bc.cell d3,bc.cell d4,bc.cell d5⟩ | fail)
    (first
     | (go_at_call 173;refine (lAg _ x.wish _ _ bp bq cb.1 cb.2).mono ?_;rintro e w1 ⟨cs,F1,rfl,⟨v2,u2,G2,H2,rfl,cc,cd,rfl⟩,f1,bd⟩;obtain ⟨bf,bj,rfl,_⟩:=XA (xA cc);obtain ⟨bg,bk,rfl,_⟩:=XA (aC cd);have o1:xN w1 x.wish [.int .i64 x.wish.kind,.int .i64 x.wish.field,.int .i64 x.wish.value,.slice bf x.wish.list.length bj,.slice bg x.wish.pairs.length bk] (G2++H2):=⟨_,_,G2,H2,rfl,cc,cd,rfl⟩;replace c0:=bd.cell c0;replace c1:=bd.cell c1;replace c2:=bd.cell c2;replace c3:=bd.cell c3;replace c4:=bd.cell c4;replace c5:=bd.cell c5;have bm:=D1.then bd;have bn:=hb.then bm;have cq:=(kA (B:=w.heap.size)).bw bm hb.size hv;have bb:=(Bw.refl w1).alloc (.cells #[.int .i64 x.op,.int .i64 x.wish.kind,.int .i64 x.wish.field,.int .i64 x.wish.value,.slice bf x.wish.list.length bj,.slice bg x.wish.pairs.length bk] 111);have ct:=(kA (B:=w.heap.size)).bw bb bn.size cq;have oW:=(GK (B:=w.heap.size)).bw bb bn.size o1;have ck:=bn.then bb;have cf:sA wr.heap.size (G2++H2):=f1.mono (by simp);have cm:∀j t,[Value.int .i64 x.op,.int .i64 x.wish.kind,.int .i64 x.wish.field,.int .i64 x.wish.value,.slice bf x.wish.list.length bj,.slice bg x.wish.pairs.length bk][j]? = some t->(w1.alloc (.cells #[.int .i64 x.op,.int .i64 x.wish.kind,.int .i64 x.wish.field,.int .i64 x.wish.value,.slice bf x.wish.list.length bj,.slice bg x.wish.pairs.length bk] 111)).cell? ((⟨w1.heap.size,0,none⟩:Addr).add j)=some t:=World.news_of_block (cs:=#[.int .i64 x.op,.int .i64 x.wish.kind,.int .i64 x.wish.field,.int .i64 x.wish.value,.slice bf x.wish.list.length bj,.slice bg x.wish.pairs.length bk]) (t:=111) (fr:=(0,0)) (heap_alloc_new w1 _))
     | (refine eJ _ (by rfl) (.tmp 12) (.tmp 25) 25 (by rfl) w 111 i0 _ 6 80 underlying25 hi cv cx cz rfl (by omega) vC _ (xs.take k) F (by rfl) ct hF ⟨w1.heap.size,0,none⟩ 1 (by rfl) x [.int .i64 x.op,.int .i64 x.wish.kind,.int .i64 x.wish.field,.int .i64 x.wish.value,.slice bf x.wish.list.length bj,.slice bg x.wish.pairs.length bk] (G2++H2) cm ⟨_,rfl,oW⟩ rfl wr.heap.size cj cf hb.size (by rw [HK.out];omega) (by rw [HK.out];omega) ck ?_;intro v' w' F' cn cg bc)
     | fail)
   go_wp2
   go_roundw
   case rel=>exact ⟨k+1,F',by omega,by go_num,by rw [HS.out];exact cn,cg,bc⟩
   case measure=>simp [intOf];omega
  ·obtain rfl:k=n:=by omega
   rw [List.take_of_length_le (by rw [<-L1.out];exact Nat.le_refl _)] at hv;go_wp2;go_ret;exact ⟨_,rfl,⟨F,hv,hF⟩,hb⟩
theorem iI (w:World) (xs:List mA) (v:Value) (h:Rd OA w xs [v]) (ht:sB xs<=1048576):Calls prog 108 #[v] w (WB w (nE mC w.heap.size xs)):=by
 obtain ⟨hn,cc⟩:=mZ ht;clear ht;obtain ⟨i0,hi,dc,dd,df⟩:=info_parts tH;obtain ⟨A,n,c,rfl,a1,a2,a3⟩:=qA h;rw [<-a1] at hn;have L1:=pA6 a1;clear a1;have cd:=MA (e:=111) (sz:=6) (R:=LJ) w;go_enter func108,ntmps108;go_wp2
 go_loopw [3,9] (fun s i w'=>∃(k:Nat) (F:List Nat),k<=n/\i=.int .i64 k/\mC w' (xs.take k) [s] F/\sA w.heap.size F/\Bw w w') (fun s i _=>n-(intOf i).toNat)
 case atStart=>exact ⟨0,_,by omega,rfl,cd,⟨by simp,by simp⟩,(Bw.refl _).alloc _⟩
 case round=>
  obtain ⟨k,F,hk,rfl,hv,hF,hb⟩:=hrel;by_cases hlt:k<n
  ·obtain ⟨x,hx⟩:=tA (xs:=xs) (k:=k) (by rw [<-L1.out];exact hlt);have cf:=cc x (List.mem_of_getElem? hx);obtain ⟨ba,oa,Al,cl,Ap,cp,rfl,_,d0,d1,d2,d3,d4,d5,bx,bz⟩:=mE h hx;replace d0:=hb.cell d0;replace d1:=hb.cell d1;replace d2:=hb.cell d2;replace d3:=hb.cell d3;replace d4:=hb.cell d4;replace d5:=hb.cell d5;have HS:=pA6 (aK hx);have cb:(xs.take k).length=k:=by rw [List.length_take];have:=L1.out;omega
   have HK:=pA6 cb;have i1:(0:Int)<=(k:Int):=by omega
   have i2:(k:Int)<(n:Int):=by omega
   obtain ⟨Y,hY⟩:=pA7 (wr.alloc (.cells #[.int .i64 x.op,.int .i64 x.wish.kind,.int .i64 x.wish.field,.int .i64 x.wish.value,.slice Al x.wish.list.length cl,.slice Ap x.wish.pairs.length cp] 111));have D1:Bw wr Y.drew:=by rw [hY];exact ((Bw.refl wr).alloc _).drew
   have c0:Y.drew.cell? ⟨wr.heap.size,0,none⟩=some (.int .i64 x.op):=by rw [hY];go_simp
   have c1:Y.drew.cell? ⟨wr.heap.size,1,none⟩=some (.int .i64 x.wish.kind):=by rw [hY];go_simp
   have c2:Y.drew.cell? ⟨wr.heap.size,2,none⟩=some (.int .i64 x.wish.field):=by rw [hY];go_simp
   have c3:Y.drew.cell? ⟨wr.heap.size,3,none⟩=some (.int .i64 x.wish.value):=by rw [hY];go_simp
   have c4:Y.drew.cell? ⟨wr.heap.size,4,none⟩=some (.slice Al x.wish.list.length cl):=by rw [hY];go_simp
   have c5:Y.drew.cell? ⟨wr.heap.size,5,none⟩=some (.slice Ap x.wish.pairs.length cp):=by rw [hY];go_simp
   have HY:=pA6 hY;have bv:Y.drew.heap.size=wr.heap.size+1:=by rw [hY];simp
   have ck:=pA6 bv;have bq:Rd aB Y.drew x.wish.list [.slice Al x.wish.list.length cl]:=Rd.bw dA bx (hb.then D1);have bs:Rd MC Y.drew x.wish.pairs [.slice Ap x.wish.pairs.length cp]:=Rd.bw RA bz (hb.then D1);have bt:=(kA (B:=0)).lt hv;have bk:wr.heap.size∉F:=fun e=>by have:=bt _ e;omega
   clear hx h cc cd cb bx bz hY bv;go_wp2_with fail;rw [<-HY.out]
   go_region_held3 (fun w'=>w'.cell? ⟨wr.heap.size,0,none⟩=some (.int .i64 x.op)/\w'.cell? ⟨wr.heap.size,1,none⟩=some (.int .i64 x.wish.kind)/\w'.cell? ⟨wr.heap.size,2,none⟩=some (.int .i64 x.wish.field)/\w'.cell? ⟨wr.heap.size,3,none⟩=some (.int .i64 x.wish.value)/\w'.cell? ⟨wr.heap.size,4,none⟩=some (.slice Al x.wish.list.length cl)/\w'.cell? ⟨wr.heap.size,5,none⟩=some (.slice Ap x.wish.pairs.length cp)) (first | exact ⟨c0,c1,c2,c3,c4,c5⟩ | exact ⟨bb.cell c0,bb.cell c1,bb.cell c2,bb.cell c3,bb.cell c4,bb.cell c5⟩ | exact ⟨n0,n1,n2,n3,n4,n5⟩ | go_keep)
    (first
     | (go_at_call 172;refine (fAz _ x.wish _ _ bq bs cf.1 cf.2).mono ?_;rintro e w1 ⟨cs,F1,rfl,⟨v2,u2,G2,H2,rfl,cg,cj,rfl⟩,f1,bc⟩;obtain ⟨bd,bg,rfl,_⟩:=XA (xA cg);obtain ⟨bf,bj,rfl,_⟩:=XA (aC cj);have o1:xN w1 x.wish [.int .i64 x.wish.kind,.int .i64 x.wish.field,.int .i64 x.wish.value,.slice bd x.wish.list.length bg,.slice bf x.wish.pairs.length bj] (G2++H2):=⟨_,_,G2,H2,rfl,cg,cj,rfl⟩;replace c0:=bc.cell c0;replace c1:=bc.cell c1;replace c2:=bc.cell c2;replace c3:=bc.cell c3;replace c4:=bc.cell c4;replace c5:=bc.cell c5;have bn:=D1.then bc;have bp:=hb.then bn;have cz:=(kA (B:=w.heap.size)).bw bn hb.size hv;have bb:=(Bw.refl w1).alloc (.cells #[.int .i64 x.op,.int .i64 x.wish.kind,.int .i64 x.wish.field,.int .i64 x.wish.value,.slice bd x.wish.list.length bg,.slice bf x.wish.pairs.length bj] 111);have db:=(kA (B:=w.heap.size)).bw bb bp.size cz;have oW:=(GK (B:=w.heap.size)).bw bb bp.size o1;have ct:=bp.then bb;have cm:sA wr.heap.size (G2++H2):=f1.mono (by have:=ck.out;omega);have cv:∀j t,[Value.int .i64 x.op,.int .i64 x.wish.kind,.int .i64 x.wish.field,.int .i64 x.wish.value,.slice bd x.wish.list.length bg,.slice bf x.wish.pairs.length bj][j]? = some t->(w1.alloc (.cells #[.int .i64 x.op,.int .i64 x.wish.kind,.int .i64 x.wish.field,.int .i64 x.wish.value,.slice bd x.wish.list.length bg,.slice bf x.wish.pairs.length bj] 111)).cell? ((⟨w1.heap.size,0,none⟩:Addr).add j)=some t:=World.news_of_block (cs:=#[.int .i64 x.op,.int .i64 x.wish.kind,.int .i64 x.wish.field,.int .i64 x.wish.value,.slice bd x.wish.list.length bg,.slice bf x.wish.pairs.length bj]) (t:=111) (fr:=(0,0)) (heap_alloc_new w1 _))
     | (refine RE _ (by rfl) (.tmp 13) (.tmp 20) 25 (by rfl) w 111 i0 _ 6 80 underlying25 hi dc dd df rfl (by omega) vC _ (xs.take k) F (by rfl) db hF ⟨w1.heap.size,0,none⟩ 1 (by rfl) x [.int .i64 x.op,.int .i64 x.wish.kind,.int .i64 x.wish.field,.int .i64 x.wish.value,.slice bd x.wish.list.length bg,.slice bf x.wish.pairs.length bj] (G2++H2) cv ⟨_,rfl,oW⟩ rfl wr.heap.size bt cm hb.size (by rw [HK.out];omega) (by rw [HK.out];omega) ct ?_;intro v' w' F' cx cn cq bm _;have n0:=bm.cell (bb.cell c0) bk;have n1:=bm.cell (bb.cell c1) bk;have n2:=bm.cell (bb.cell c2) bk;have n3:=bm.cell (bb.cell c3) bk;have n4:=bm.cell (bb.cell c4) bk;have n5:=bm.cell (bb.cell c5) bk)
     | fail)
   go_wp2
   go_roundw
   case rel=>exact ⟨k+1,F',by omega,by go_num,by rw [HS.out];exact cx,cn,cq⟩
   case measure=>simp [intOf];omega
  ·obtain rfl:k=n:=by omega
   rw [List.take_of_length_le (by rw [<-L1.out];exact Nat.le_refl _)] at hv;go_wp2;go_ret;exact ⟨_,rfl,⟨F,hv,hF⟩,hb⟩
inductive XT where
 | base (w:AB)
 | dual (t:XT)
 | two (op:Int) (a b:XT)
def NA:XT->List mA
 | .base w=>[⟨0,w⟩]
 | .dual t=>NA t++[⟨3,KA⟩]
 | .two op a b=>NA a++(NA b++[⟨op,KA⟩])
def jG (op:Int):Prop:=op=1\/op=2\/op=4
def okT:XT->Prop
 | .base w=>DB w=true
 | .dual t=>okT t
 | .two op a b=>jG op/\okT a/\okT b
def SG (ts:List XT):List mA:=(ts.map NA).flatten
theorem UF (ts:List XT) (t:XT):SG (ts++[t])=SG ts++NA t:=by simp [SG]
theorem CZ:SG []=[]:=rfl
theorem bD:∀t:XT,0<(NA t).length
 | .base w=>by simp [NA]
 | .dual t=>by simp [NA]
 | .two op a b=>by simp [NA];omega
theorem DZ {ts:List XT} (h:0<ts.length):0<(SG ts).length:=by
 cases ts with
 | nil=>simp at h
 | cons t ts=>have:=bD t;simp [SG];omega
theorem nK {op:Int} (h:jG op):aD op=2:=by unfold jG at h;unfold aD;rw [if_neg (by omega),if_neg (by omega)]
theorem iA5 {l:List XT} (h:0<l.length):∃T a,l=T++[a]:=⟨l.dropLast,l.getLast (fun e=>by rw [e] at h;simp at h),(List.dropLast_concat_getLast _).symm⟩
theorem wM {n:mA} {d:Int}:vD n d=true↔(0<=n.op/\n.op<=4)/\aD n.op<=d/\(if n.op=0 then DB n.wish=true else n.wish=KA):=by
 unfold vD;simp only [Bool.and_eq_true,pD,decide_eq_true_iff];by_cases h:n.op=0
 ·rw [if_pos h,if_pos h]
 ·rw [if_neg h,if_neg h,decide_eq_true_iff]
theorem xM:∀ {t:XT},okT t->∀(rest:List mA) (d:Int),0<=d->qC (NA t++rest) d=qC rest (d+1)
 | .base w,h,rest,d,hd=>by
  have hk:vD ⟨0,w⟩ d=true:=wM.2 ⟨by simp,by simp [aD];exact hd,by simpa [okT] using h⟩;simp [NA,qC,hk,aD]
 | .dual t,h,rest,d,hd=>by
  have hk:vD ⟨3,KA⟩ (d+1)=true:=wM.2 ⟨by simp,by simp [aD];omega,by simp⟩;rw [NA,List.append_assoc,xM (t:=t) h _ d hd];simp [qC,hk,aD]
 | .two op a b,h,rest,d,hd=>by
  have h2:=nK h.1;have hk:vD ⟨op,KA⟩ (d+1+1)=true:=wM.2 ⟨by have:=h.1;unfold jG at this;dsimp only;omega,by dsimp only;omega,by rw [if_neg (by have:=h.1;unfold jG at this;dsimp only;omega)]⟩;rw [NA,List.append_assoc,xM (t:=a) h.2.1 _ d hd,List.append_assoc,xM (t:=b) h.2.2 _ (d+1) (by omega)];simp only [List.singleton_append,qC,hk,if_pos,h2]
  congr 1;omega
theorem yM:∀(e:List mA) (ts:List XT),(∀t∈ts,okT t)->qC e ts.length=some 1->∃t,okT t/\SG ts++e=NA t
 | [],ts,hk,h=>by
  simp only [qC] at h;have h1:ts.length=1:=by injection h with h;omega
  match ts,h1 with
  | [t],_=>exact ⟨t,hk t (by simp),by simp [SG]⟩
 | n::e,ts,hk,h=>by
  unfold qC at h
  split at h
  ·rename_i hn
   obtain ⟨ho,hd,hw⟩:=wM.1 hn;by_cases h0:n.op=0
   ·rw [if_pos h0] at hw;have bb:n=⟨0,n.wish⟩:=by cases n;simp_all
    obtain ⟨t,ht,he⟩:=yM e (ts++[.base n.wish]) (by intro t ht;rcases List.mem_append.1 ht with ht | ht;exact hk t ht;simp at ht;rw [ht];exact hw) (by
     rw [<-h];congr 1;simp [h0,aD])
    refine ⟨t,ht,?_⟩;rw [<-he,UF,NA,List.append_assoc,<-bb];rfl
   rw [if_neg h0] at hw;by_cases h3:n.op=3
   ·have bb:n=⟨3,KA⟩:=by cases n;simp_all
    have bf:aD n.op=1:=by rw [h3];rfl
    obtain ⟨T,a,rfl⟩:=iA5 (l:=ts) (by omega);obtain ⟨t,ht,he⟩:=yM e (T++[.dual a]) (by intro t ht;rcases List.mem_append.1 ht with ht | ht;exact hk t (by simp [ht]);simp at ht;rw [ht];exact hk a (by simp)) (by
     rw [<-h];congr 1;simp [bf])
    refine ⟨t,ht,?_⟩;rw [<-he,UF,UF,NA,bb];simp
   ·have bc:jG n.op:=by unfold jG;omega
    have bb:n=⟨n.op,KA⟩:=by cases n;simp_all
    have bd:=nK bc;obtain ⟨T',b,rfl⟩:=iA5 (l:=ts) (by omega);obtain ⟨T,a,rfl⟩:=iA5 (l:=T') (by simp at hd;omega);obtain ⟨t,ht,he⟩:=yM e (T++[.two n.op a b]) (by
      intro t ht;rcases List.mem_append.1 ht with ht | ht
      ·exact hk t (by simp [ht])
      ·simp at ht;rw [ht];exact ⟨bc,hk a (by simp),hk b (by simp)⟩) (by
     rw [<-h];congr 1;simp [bd])
    refine ⟨t,ht,?_⟩;rw [<-he,UF,UF,UF,NA,<-bb];simp
  ·cases h
theorem iA6 {e:List mA} (h:pB e=true):∃t,okT t/\e=NA t:=by
 obtain ⟨t,ht,he⟩:=yM e [] (by simp) (by simpa using VJ h);exact ⟨t,ht,by simpa [SG] using he⟩
theorem dU {t:XT} (h:okT t) (hl:(NA t).length<=9):pB (NA t)=true:=by
 have:=xM h [] 0 (by omega);rw [List.append_nil] at this;unfold pB;rw [this];simp [qC,hl]
theorem EZ {e pre:List mA} {ts:List XT} {i:Nat} (hok:∀t∈ts,okT t) (h0:0<ts.length) (h:e.take (i+1)=pre++SG ts) (hi:i<e.length) :
  ∃n ts2,e[i]? = some n/\(∀t∈ts2,okT t)/\(ts2.length:Int)=(ts.length:Int)-1+aD n.op/\e.take i=pre++SG ts2/\(n.op=0\/n.op=3\/jG n.op):=by
 obtain ⟨T,u,rfl⟩:=iA5 h0;have bb:∀(l:List mA) (n:mA),e.take (i+1)=l++[n]->e[i]? = some n/\e.take i=l:=fun l n hh=>by
  have hl:l.length=i:=by have:=congrArg List.length hh;simp at this;omega
  refine ⟨?_,?_⟩
  ·have:=congrArg (fun l=>l[i]?) hh;simp only [List.getElem?_take] at this;rw [if_pos (by omega)] at this;rw [this,List.getElem?_append_right (by omega),hl];simp
  ·have:=congrArg (List.take i) hh;rw [List.take_take,Nat.min_eq_left (by omega)] at this;rw [this,<-hl];exact List.take_left' rfl
 have hT:∀t∈T,okT t:=fun t ht=>hok t (by simp [ht])
 have hu:=hok u (by simp);rw [UF] at h
 cases u with
 | base w=>
  obtain ⟨h1,h2⟩:=bb (pre++SG T) ⟨0,w⟩ (by rw [h,NA];simp);exact ⟨_,T,h1,hT,by simp [aD],h2,.inl rfl⟩
 | dual t=>
  obtain ⟨h1,h2⟩:=bb (pre++SG (T++[t])) ⟨3,KA⟩ (by rw [h,NA,UF];simp);exact ⟨_,T++[t],h1,by intro s hs;rcases List.mem_append.1 hs with hs | hs;exact hT s hs;simp at hs;rw [hs];exact hu,by simp [aD],h2,.inr (.inl rfl)⟩
 | two op a b=>
  obtain ⟨h1,h2⟩:=bb (pre++SG (T++[a]++[b])) ⟨op,KA⟩ (by rw [h,NA,UF,UF];simp);refine ⟨_,T++[a]++[b],h1,?_,?_,h2,.inr (.inr hu.1)⟩
  ·intro s hs;rcases List.mem_append.1 hs with hs | hs
   ·rcases List.mem_append.1 hs with hs | hs
    ·exact hT s hs
    ·simp at hs;rw [hs];exact hu.2.1
   ·simp at hs;rw [hs];exact hu.2.2
  ·rw [nK hu.1];simp;try omega
end Go.Proofs.YtpihighajaeabaaGreat
