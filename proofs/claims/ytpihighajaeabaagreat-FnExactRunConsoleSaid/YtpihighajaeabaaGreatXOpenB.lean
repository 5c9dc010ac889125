/- A slice of bytes among a law's arguments. -/
import Derived.Test.YtpihighajaeabaaGreatXCodes
import Derived.Deep.Cut
import Derived.Test.YtpihighajaeabaaGreatXDrawB
import Derived.Test.YtpihighajaeabaaGreatXItems
import Derived.Test.YtpihighajaeabaaGreatXIntss
import Derived.Test.YtpihighajaeabaaGreatXOnly
import Derived.Deep.RegionLaw
import Derived.Test.YtpihighajaeabaaGreatXArePairsS
namespace Go.Proofs.YtpihighajaeabaaGreat
open Go.RowKit Go.ChangeShapes Go.WideShapes Go.Deep Go.Proofs.Tryz
set_option linter.all false
set_option maxRecDepth 100000
set_option maxHeartbeats 16000000
theorem mAh {W:World} {b:Nat} {vs:List Value} {F:List Nat} (h:Box W b vs) (f:sA W.heap.size F):b∉F:=fun hm=>by have:=f.ge b hm;have:=h.lt;omega
theorem Box.four {W:World} {b:Nat} {x0 x1 x2 x3:Value} (h:Box W b [x0,x1,x2,x3]) (a0 a1 a2 a3:Value):Box ((((W.setCell ⟨b,0,none⟩ a0).setCell ⟨b,1,none⟩ a1).setCell ⟨b,2,none⟩ a2).setCell ⟨b,3,none⟩ a3) b [a0,a1,a2,a3]:=
 (((h.set (by simp) a0).set (by simp) a1).set (by simp) a2).set (by simp) a3
abbrev aO:Rep (List Int):=rSl 1 rU8
def MM (xs:List Int):Prop:=∀x∈xs,0<=x/\x<=255
theorem iO:rK aO:=TG aN
theorem nAv (w:World) (xs:List Int) (v:Value) (h:Rd aO w xs [v]) (hx:MM xs):Calls prog 69 #[v] w fun e w'=>∃p,e=.returned (.pointer (some ⟨p,0,none⟩))/\At w p w':=by
 have HR:=pA6 h;obtain ⟨A,n,c,rfl,L,Lc,Lm⟩:=yA h;have HX:=pA6 hx;have HH:=pA6 h;clear h;go_enter func69,ntmps69;go_wp2
 go_loopg [3,4] n (fun g hh i w'=>∃(k:Nat) (q:Int),k<=n/\g=n-k/\i=.int .i64 k/\hh=.int .i64 q/\w'=w)
 ·exact ⟨0,_,by omega,rfl,rfl,rfl,rfl⟩
 ·obtain ⟨k,q,hk,rfl,rfl,rfl,rfl⟩:=hrel;by_cases hlt:k<n/\k<4000
  ·have h:=HH.out;obtain ⟨x,hx⟩:=tA (xs:=xs) (k:=k) (by have:=L.out;omega);obtain ⟨b,o,rfl,_,hc⟩:=TJ h hx;have i1:(0:Int)<=(k:Int):=by omega
   have i2:(k:Int)<(n:Int):=by omega
   have i3:(k:Int)<4000:=by omega
   have bc:=hx;clear hx h bc;go_wp2
   go_roundg (n-(k+1))
   ·exact ⟨k+1,_,by omega,rfl,by go_num,rfl,rfl⟩
   ·omega
  ·have bb:∀W q,W=wr.alloc (.cells #[.slice A n c,.int .i64 0,.int .i64 q] 150)->At wr wr.heap.size W:=by
    rintro W q rfl;refine ⟨(Bw.refl wr).alloc _,Nat.le_refl _,xs,A,n,c,0,q,by go_simp,by go_simp,by go_simp,fun o=>by go_simp,by omega,?_,HX.out⟩;exact iO.step ⟨fun _ h=>h,fun p hp=>Below.cell ((Bw.refl wr).alloc _) hp⟩ HH.out
   by_cases h1:k<n
   ·have h2:¬(k:Int)<4000:=by omega
    have i2:(k:Int)<(n:Int):=by omega
    clear hlt h1;go_wp2;go_ret;exact ⟨_,rfl,bb _ _ rfl⟩
   ·have i2:¬(k:Int)<(n:Int):=by omega
    clear hlt h1;go_wp2;go_ret;exact ⟨_,rfl,bb _ _ rfl⟩
def oAw (B:Nat) (Q:iA->Prop) (W:World) (v:Value):Prop:=∃x u F,v=.agg #[.int .i64 x.id,u]/\WA W x.vals [u] F/\sA B F/\Q x
def DL {α:Type} (f:Fp α) (B:Nat) (Q:α->Prop) (W:World) (v:Value):Prop:=∃xs F,f W xs [v] F/\sA B F/\Q xs
theorem qS (w0 w:World) (p:Nat) (hA:At w0 p w) (id wide:Int) (h1:0<wide) (h2:wide<=256):Calls prog 73 #[.pointer (some ⟨p,0,none⟩),.int .i64 id,.int .i64 wide] w
  (WM w0 p w (oAw w.heap.size fun x=>x.id=id/\x.vals.length=3/\∀y∈x.vals,0<=y/\y<wide)):=by
 obtain ⟨i0,hi,cq,cs,ct⟩:=info_parts xC;have hlt:=hA.lt;obtain ⟨W1,bd⟩:=pA7 ((w.alloc (.cells #[.int .i64 0,.slice none 0 0] 30)).alloc (.cells #[.int .i64 id,.slice none 0 0] 30));have b1:SO W1 w.heap.size (.int .i64 0) (.slice none 0 0):=by rw [bd];exact (SO.new _ _ _ _).bw ((Bw.refl _).alloc _)
 have b2:SO W1 (w.heap.size+1) (.int .i64 id) (.slice none 0 0):=by
  have:=SO.new (w.alloc (.cells #[.int .i64 0,.slice none 0 0] 30)) (.int .i64 id) (.slice none 0 0) 30;rw [show (w.alloc (.cells #[.int .i64 0,.slice none 0 0] 30)).heap.size=w.heap.size+1 from by simp] at this;rw [bd];exact this
 have B1:Bw w W1:=by rw [bd];exact ((Bw.refl _).alloc _).alloc _
 have A1:=hA.bwStep B1;have z1:W1.heap.size=w.heap.size+2:=by rw [bd];simp
 have bx:WA W1 [] [.slice none 0 0] []:=XB _;have HW:=pA6 bd;clear bd;go_enter func73,ntmps73;go_wp2;rw [<-HW.out]
 go_loopg [8,9] 3 (fun g s z w'=>∃(k:Nat) (vals:List Int) (v:Value) (F:List Nat),k<=3/\g=3-k/\s=.int .i64 k/\Hid (vals.length=k/\∀y∈vals,0<=y/\y<wide)/\WA w' vals [v] F/\(F.Nodup/\∀b∈F,w.heap.size+2<=b)/\SO w' w.heap.size (.int .i64 0) (.slice none 0 0)/\SO w' (w.heap.size+1) (.int .i64 id) v/\TB [p] w w'/\At w0 p w')
 ·exact ⟨0,[],_,[],by omega,rfl,rfl,pA6 ⟨rfl,by simp⟩,bx,⟨by simp,by simp⟩,b1,b2,B1.only _,A1⟩
 ·clear b1 b2 bx A1;obtain ⟨k,vals,v,F,hk,rfl,rfl,HV,hv,hF,b1,b2,hO,bf⟩:=hrel;obtain ⟨A,c,rfl,_⟩:=XA (xA hv);by_cases h3:k<3
  ·have bc:=pAm w0 wr p bf wide h1 (by omega);have i1:(k:Int)<3:=by omega
   have cd:∀b∈F,b∉[p]:=fun b hb h=>by have:=hF.2 b hb;simp at h;omega
   go_wp2_with fail;refine bc.mono ?_;rintro e w2 ⟨v2,rfl,⟨y,rfl,y1,y2⟩,bj,bk⟩;have c1:=b1.only bj (by simp;omega);have c2:=b2.only bj (by simp;omega);have bq:=bj.keeps (aA (B:=0)) hv cd;have cg:=hO.two bj;have cc:=(aA (B:=0)).lt bq;have bg:=(Bw.refl w2).alloc (.cells #[.int .i64 y] 3);have cp:=(aA (B:=0)).bw bg (Nat.zero_le _) bq;have bs:=bk.bwStep bg;have d1:=c1.bw bg;have d2:=c2.bw bg;have bp:=cg.bwNext bg;have cm:=cell_one_new w2 (.int .i64 y) 3;have ck:=bk.bw.size;have hww:=hO.1;have bv:=bk.ge;have cf:sA w0.heap.size F:=⟨hF.1,fun b hb=>by have:=hF.2 b hb;omega⟩;have HL:=pA6 HV.out.1;have k0:=d2.c0;have k1:=d2.c1;have kf:=d2.fr;have j0:=c2.c0;have j1:=c2.c1;have jf:=c2.fr;clear hv bq b1 b2 c1 bc bf;go_wp2_with (at_builtin;refine iC _ rfl (.tmp 20) (.tmp 22) 26 rfl w0 3 i0 _ 1 8 underlying26 hi cq cs ct rfl (by omega) YA _ vals F rfl cp cf ⟨w2.heap.size,0,none⟩ 1 rfl y [.int .i64 y] [] cm ⟨rfl,rfl⟩ rfl _ cc sA.nil ck (by have:=HL.out;omega) (by have:=HL.out;omega) bs.bw ?_;intro v3 w3 F3 bz cb cj bb cn;obtain ⟨A3,n3,c3,rfl,l3,_⟩:=qA (xA bz);replace l3:=pA6 l3;have m0:=(d2.only bb (fun h=>by have:=hF.2 _ h;omega)).c0;have m1:=(d2.only bb (fun h=>by have:=hF.2 _ h;omega)).c1;have mf:=(d2.only bb (fun h=>by have:=hF.2 _ h;omega)).fr);have bm:=bs.onlyStep bb (fun b hb=>by have:=hF.2 b hb;omega) cj;have e1:=d1.only bb (fun h=>by have:=hF.2 _ h;omega);have e2:=d2.only bb (fun h=>by have:=hF.2 _ h;omega)
   have bt:TB [p] w w3:=⟨Nat.le_trans bp.1 bb.1,fun b hb hn=>(bb.2 b (Nat.lt_of_lt_of_le hb bp.1) (fun h=>by have:=hF.2 _ h;omega)).trans (bp.2 b hb hn)⟩;have bn:=cb.raise cn (B:=w.heap.size+2) hF.2 (by simp) (by have:=d2.lt;omega);have hlt3:=bm.lt
   go_roundg (3-(k+1))
   ·refine ⟨k+1,vals++[y],.slice A3 n3 c3,F3,by omega,rfl,by go_num,pA6 ⟨by rw [List.length_append,HL.out];rfl,fun z hz=>?_⟩,?_,⟨bn.nodup,bn.ge⟩,?_,?_,?_,?_⟩
    ·rcases List.mem_append.1 hz with hz | hz
     ·exact HV.out.2 z hz
     ·rw [List.mem_singleton.1 hz];exact ⟨y1,y2⟩
    ·refine (aA (B:=0)).step (fun b hb=>?_) bz;rcases hb with hb | hb
     ·have:=bn.ge b hb;rw [Below.heap_setCell _ _ _ _ (by dsimp only;omega)]
     ·omega
    ·exact e1.only (GA _ _ _ _) (by simp)
    ·exact ⟨by go_simp,by go_simp,fun o=>by go_simp⟩
    ·exact ⟨by simpa using bt.1,fun b hb hn=>(Below.heap_setCell _ _ _ _ (by dsimp only;omega)).trans (bt.2 b hb hn)⟩
    ·exact bm.onlyStep (GA _ _ _ _) (by simp;omega) (bm.bw.set (by dsimp only;omega) _)
   ·omega
  ·obtain rfl:k=3:=by omega
   have j0:=b2.c0;have j1:=b2.c1;have i0:=b1.c0;have i1:=b1.c1;have jf:=b1.fr;go_wp2;refine bodyPost_ret (v:=.agg #[.int .i64 id,.slice A vals.length c]) (by simp [results,results73,go_sem,i0,i1]) rfl ?_;refine ⟨_,rfl,⟨⟨id,vals⟩,_,F,rfl,?_,⟨hF.1,fun b hb=>by have:=hF.2 b hb;omega⟩,rfl,HV.out⟩,?_,?_⟩
   ·refine (aA (B:=0)).step (fun b hb=>?_) hv;rcases hb with hb | hb
    ·have:=hF.2 b hb
     repeat rw [Below.heap_setCell _ _ _ _ (by dsimp only;omega)]
    ·omega
   ·exact ⟨by simpa using hO.1,fun b hb hn=>by
     repeat rw [Below.heap_setCell _ _ _ _ (by dsimp only;omega)]
     exact hO.2 b hb hn⟩
   ·have bv:=bf.ge;refine ⟨?_,bv,bf.cur.same fun b hb=>?_⟩
    ·repeat (first | exact bf.bw | refine Bw.set ?_ (by dsimp only;omega) _)
    ·repeat rw [Below.heap_setCell _ _ _ _ (by dsimp only;omega)]
structure Dn (w0 w:World) (p:Nat) (W:World):Prop where
 only:TB [p] w W
 at':At w0 p W
 lt:p<w.heap.size
 le:w0.heap.size<=w.heap.size
theorem Dn.start {w0 w:World} {p:Nat} (h:At w0 p w):Dn w0 w p w:=⟨TB.refl _ _,h,h.lt,h.bw.size⟩
theorem Dn.call {w0 w W W':World} {p:Nat} (h:Dn w0 w p W) (hO:TB [p] W W') (hA:At w0 p W'):Dn w0 w p W':=⟨h.only.two hO,hA,h.lt,h.le⟩
theorem Dn.bw {w0 w W W':World} {p:Nat} (h:Dn w0 w p W) (hb:Bw W W'):Dn w0 w p W':=⟨h.only.bwNext hb,h.at'.bwStep hb,h.lt,h.le⟩
theorem Dn.alloc {w0 w W:World} {p:Nat} (h:Dn w0 w p W) (o:Obj):Dn w0 w p (W.alloc o):=h.bw ((Bw.refl W).alloc o)
theorem Dn.drew {w0 w W:World} {p:Nat} (h:Dn w0 w p W):Dn w0 w p W.drew:=h.bw (Bw.refl W).drew
theorem Dn.next {w0 w W W':World} {p:Nat} {F:List Nat} (h:Dn w0 w p W) (hO:TB F W W') (hF:∀b∈F,w.heap.size<=b) (hb:Bw w0 W'):Dn w0 w p W':=
 ⟨⟨Nat.le_trans h.only.1 hO.1,fun b hb hn=>(hO.2 b (Nat.lt_of_lt_of_le hb h.only.1) (fun e=>by have:=hF b e;omega)).trans (h.only.2 b hb hn)⟩,h.at'.onlyStep hO (fun b hb=>by have:=hF b hb;have:=h.lt;omega) hb,h.lt,h.le⟩
theorem Dn.set {w0 w W:World} {p b o:Nat} (h:Dn w0 w p W) (hb:w.heap.size<=b) (u:Value):Dn w0 w p (W.setCell ⟨b,o,none⟩ u):=
 h.next (GA b o W u) (by simpa using hb) (h.at'.bw.set (by have:=h.le;dsimp only;omega) u)
theorem Dn.size {w0 w W:World} {p:Nat} (h:Dn w0 w p W):w.heap.size<=W.heap.size:=h.only.1
theorem Dn.ret {w0 w W:World} {p:Nat} {R:World->Value->Prop} {v:Value} (h:Dn w0 w p W) (hR:R W v):WM w0 p w R (.returned v) W:=⟨v,rfl,hR,h.only,h.at'⟩
theorem Dn.keep {w0 w W W':World} {p:Nat} (h:Dn w0 w p W) (hO:TB [p] W W') {α:Type} {R:Fp α} (hR:tC 0 R) {x:α} {cs:List Value} {F:List Nat} (hx:R W x cs F) (hF:∀b∈F,w.heap.size<=b):R W' x cs F:=
 hO.keeps hR hx fun b hb e=>by have:=hF b hb;have:=h.lt;simp at e;omega
theorem aJ {α:Type} {P:Program} {ops:Array Oper} {rest:List Oper} {o:Oper} {a:Act} {Q:Exit->Act->World->Prop} (W:World) (hgd:o.guard=none) (s x:Operand) (t:TypeId)
  (ho:o.op=.call { callee:=.builtin .append,args:=#[s,x],argTypes:=#[t,t] })
  (w0 w:World) (p:Nat) (hD:Dn w0 w p W) (B:Nat) (hB:w.heap.size<=B) (hBW:B<=W.heap.size) (e:TypeId) (i:TypeInfo) (z:Value) (sz bytes:Nat) (ht:P.underlying t=some (.slice e)) (hi:P.info? e=some i) (hz:i.zero=some z)
  (hsize:i.size=sz) (hby:i.bytes=bytes) (hzs:z.cells.size=sz) (hsz:0<sz)
  {R:Fp α} (hR:tC 0 R) (v:Value) (xs:List α) (F:List Nat) (hs:a.eval s=v) (hv:fSl e sz R W xs [v] F) (hF:sA B F)
  (ad:Addr) (c:Nat) (hx:a.eval x=.slice (some ad) 1 c) (y:α) (u:List Value) (f:List Nat) (hu:∀j t,u[j]? = some t->W.cell? (ad.add j)=some t)
  (hy:R W y u f) (hul:u.length=sz) (m:Nat) (hFm:∀b∈F,b<m) (hf:sA m f) (hm:B<=m) (hbytes:(xs.length+1)*bytes<=140737488355328) (hlen:xs.length<4611686018427387904)
  (h:∀v' w' F',fSl e sz R w' (xs++[y]) [v'] F'->sA B F'->Dn w0 w p w'->TB F W w'->wpList P ops Q rest (a.put o.dst v') w'):wpList P ops Q (o::rest) a W:=by
 have hle:=hD.le;refine iC W hgd s x t ho w0 e i z sz bytes ht hi hz hsize hby hzs hsz (hR.mono (Nat.zero_le _)) v xs F hs hv (hF.mono (by omega)) ad c hx y u f hu hy hul m hFm hf (by omega) hbytes hlen hD.at'.bw ?_;intro v' w' F' bf bc bd bb h5;exact h v' w' F' bf (bc.raise h5 hF.ge (fun b hb=>Nat.le_trans hm (hf.ge b hb)) hBW) (hD.next bb (fun b hb=>Nat.le_trans hB (hF.ge b hb)) bd) bb
def mAq (x:iA):Prop:=(-100<=x.id/\x.id<=1000)/\x.vals.length=3/\∀y∈x.vals,-100<=y/\y<=100
def oAx (x:iA):Prop:=(-100<=x.id/\x.id<=1000)/\x.vals.length<=4/\∀y∈x.vals,-100<=y/\y<=100
theorem mAq.g {x:iA} (h:mAq x):oAx x:=⟨h.1,by have:=h.2.1;omega,h.2.2⟩
def aA2 (x:EB):Prop:=(-100<=x.fst/\x.fst<=100)/\(-100<=x.snd/\x.snd<=100)
def mAr (x:AB):Prop:=(-100<=x.kind/\x.kind<=100)/\(-100<=x.field/\x.field<=100)/\(-100<=x.value/\x.value<=100)/\(x.list.length<=8/\∀y∈x.list,-100<=y/\y<=100)/\(x.pairs.length<=8/\∀y∈x.pairs,aA2 y)
theorem kAj (w0 w:World) (p:Nat) (hA:At w0 p w):Calls prog 258 #[.pointer (some ⟨p,0,none⟩)] w
  (WM w0 p w (DL AE w.heap.size fun xs=>xs.length<=5/\∀x∈xs,aA2 x)):=by
 obtain ⟨i0,hi,cp,cq,ct⟩:=info_parts IK;have D0:=Dn.start hA;have D1:=D0.alloc (.cells #[] 214);have cf:=MA (e:=214) (sz:=2) (R:=ET) w;have hlt:=hA.lt;have bb:=pAm w0 _ p D1.at' 5 (by omega) (by omega);go_enter func258,ntmps258;go_wp2_with fail;refine bb.mono ?_;rintro e w1 ⟨v1,rfl,⟨N0,rfl,N1,N2⟩,bm,bx⟩;have D2:=D1.call bm bx;have cg:=D1.keep bm EA cf (by simp);obtain ⟨N,rfl⟩:∃N:Nat,N0=(N:Int):=⟨N0.toNat,by omega⟩;have HN:=pA6 N2;clear bb bm bx D1 cf N1 N2;go_wp2
 go_loopg [3,4,5,6] N (fun g s z x5 x6 w'=>∃(k:Nat) (n:Nat) (xs:List EB) (F:List Nat),n=g/\z=.int .i64 n/\Hid (k+n=N/\xs.length=k/\∀x∈xs,aA2 x)/\AE w' xs [s] F/\sA w.heap.size F/\Dn w0 w p w')
 ·exact ⟨0,N,[],[w.heap.size],rfl,rfl,pA6 ⟨by omega,rfl,by simp⟩,cg,⟨by simp,by simp⟩,D2⟩
 ·clear cg D2;obtain ⟨k,n,xs,F,rfl,rfl,HI,hv,hF,hD⟩:=hrel;have hk16:k+n<=5:=by have:=HI.out.1;have:=HN.out;omega
  by_cases hn:0<n
  ·have n1:(0:Int)<(n:Int):=by omega
   obtain ⟨m,rfl⟩:∃m,n=m+1:=⟨n-1,by omega⟩;have bb:=pAm w0 wr p hD.at' 4 (by omega) (by omega);go_wp2_with fail;refine bb.mono ?_;rintro e w4 ⟨v4,rfl,⟨a,rfl,a1,a2⟩,bn,bj⟩;have D4:=hD.call bn bj;have cj:=hD.keep bn EA hv hF.ge;have bb:=pAm w0 w4 p bj 3 (by omega) (by omega);clear hv;go_wp2_with fail;refine bb.mono ?_;rintro e w5 ⟨v5,rfl,⟨b,rfl,b1,b2⟩,bp,bk⟩;have D5:=D4.call bp bk;have ck:=D4.keep bp EA cj hF.ge;have bb:=ZN w0 w5 p bk 3 (by omega) (by omega);clear cj;go_wp2_with fail;refine bb.mono ?_;rintro e w6 ⟨v6,rfl,⟨q,rfl⟩,bq,bz⟩;have D6:=D5.call bq bz;have bd:=D5.keep bq EA ck hF.ge;have cd:=(EA (B:=0)).lt bd;have cn:xs.length=k:=HI.out.2.1;have bc:=pA6 cn;have bf:=D6.size;clear ck bb bn bp bq bj bk bz D4 D5 cn;have bg:∀y:EB,aA2 y->Hid (xs++[y]=xs++[y]/\k+1+m=N/\(xs++[y]).length=k+1/\∀x∈xs++[y],aA2 x):=fun y hy=>pA6 ⟨rfl,by have:=HI.out.1;omega,by rw [List.length_append,bc.out];rfl,fun x hx=>(List.mem_append.1 hx).elim (HI.out.2.2 x) (fun h=>by rw [List.mem_singleton.1 h];exact hy)⟩
   cases q
   rotate_left
   focus
    have K:=bg ⟨a+1+b,a+1+b+1⟩ ⟨⟨by dsimp only;omega,by dsimp only;omega⟩,⟨by dsimp only;omega,by dsimp only;omega⟩⟩;have DW:=D6.alloc (.cells #[.int .i64 (a+1+b),.int .i64 (a+1+b+1)] 214);have bt:=nA ((Bw.refl w6).alloc (.cells #[.int .i64 (a+1+b),.int .i64 (a+1+b+1)] 214)) EA bd;have bs:∀j t,[Value.int .i64 (a+1+b),.int .i64 (a+1+b+1)][j]? = some t->(w6.alloc (.cells #[.int .i64 (a+1+b),.int .i64 (a+1+b+1)] 214)).cell? ((⟨w6.heap.size,0,none⟩:Addr).add j)=some t:=World.news_of_block (cs:=#[.int .i64 (a+1+b),.int .i64 (a+1+b+1)]) (t:=214) (fr:=(0,0)) (heap_alloc_new w6 _);have bv:=DW.size;clear bg bd;go_wp2_with (at_builtin;refine aJ _ rfl (.tmp 23) (.tmp 28) 107 rfl w0 w p DW w.heap.size (Nat.le_refl _) bv 214 i0 _ 2 16 underlying107 hi cp cq ct rfl (by omega) SF _ xs F rfl bt hF ⟨w6.heap.size,0,none⟩ 1 rfl ⟨a+1+b,a+1+b+1⟩ [.int .i64 (a+1+b),.int .i64 (a+1+b+1)] [] bs ⟨rfl,rfl⟩ rfl w6.heap.size cd sA.nil bf (by have:=bc.out;omega) (by have:=bc.out;omega) ?_;intro v7 w7 F7 cm cc cb cv)
   rotate_right
   focus
    have K:=bg ⟨a,a+1+b⟩ ⟨⟨by dsimp only;omega,by dsimp only;omega⟩,⟨by dsimp only;omega,by dsimp only;omega⟩⟩;have DW:=D6.alloc (.cells #[.int .i64 a,.int .i64 (a+1+b)] 214);have bt:=nA ((Bw.refl w6).alloc (.cells #[.int .i64 a,.int .i64 (a+1+b)] 214)) EA bd;have bs:∀j t,[Value.int .i64 a,.int .i64 (a+1+b)][j]? = some t->(w6.alloc (.cells #[.int .i64 a,.int .i64 (a+1+b)] 214)).cell? ((⟨w6.heap.size,0,none⟩:Addr).add j)=some t:=World.news_of_block (cs:=#[.int .i64 a,.int .i64 (a+1+b)]) (t:=214) (fr:=(0,0)) (heap_alloc_new w6 _);have bv:=DW.size;clear bg bd;go_wp2_with (at_builtin;refine aJ _ rfl (.tmp 30) (.tmp 34) 107 rfl w0 w p DW w.heap.size (Nat.le_refl _) bv 214 i0 _ 2 16 underlying107 hi cp cq ct rfl (by omega) SF _ xs F rfl bt hF ⟨w6.heap.size,0,none⟩ 1 rfl ⟨a,a+1+b⟩ [.int .i64 a,.int .i64 (a+1+b)] [] bs ⟨rfl,rfl⟩ rfl w6.heap.size cd sA.nil bf (by have:=bc.out;omega) (by have:=bc.out;omega) ?_;intro v7 w7 F7 cm cc cb cv)
   all_goals
    go_roundg m
    ·exact ⟨k+1,m,_,F7,rfl,by go_num,pA6 K.out.2,cm,cc,cb⟩
    ·omega
  ·obtain rfl:n=0:=by omega
   have HR:=pA6 (show xs.length<=5 by have:=HI.out.1;have:=HI.out.2.1;have:=HN.out;omega);clear hn;go_wp2;go_ret;exact hD.ret ⟨xs,F,hv,hF,HR.out,HI.out.2.2⟩
def IX (B:Nat) (Q:AB->Prop) (W:World) (v:Value):Prop:=∃x u t F G,v=.agg #[.int .i64 x.kind,.int .i64 x.field,.int .i64 x.value,u,t]/\WA W x.list [u] F/\AE W x.pairs [t] G/\sA B (F++G)/\Q x
theorem IX.mk {B:Nat} {Q:AB->Prop} {W:World} {kd fd va:Int} {l:List Int} {ps:List EB} {u t:Value} {F G:List Nat} (h1:WA W l [u] F) (h2:AE W ps [t] G) (h3:sA B (F++G)) (h4:Q ⟨kd,fd,va,l,ps⟩):IX B Q W (.agg #[.int .i64 kd,.int .i64 fd,.int .i64 va,u,t]):=⟨⟨kd,fd,va,l,ps⟩,u,t,F,G,rfl,h1,h2,h3,h4⟩
def oAy (W:World) (b:Nat) (a0 a1 a2 a3 a4:Value):World:=((((W.setCell ⟨b,0,none⟩ a0).setCell ⟨b,1,none⟩ a1).setCell ⟨b,2,none⟩ a2).setCell ⟨b,3,none⟩ a3).setCell ⟨b,4,none⟩ a4
theorem Dn.set5 {w0 w W:World} {p b:Nat} {a0 a1 a2 a3 a4:Value} (h:Dn w0 w p W) (hb:w.heap.size<=b):Dn w0 w p (oAy W b a0 a1 a2 a3 a4):=((((h.set hb _).set hb _).set hb _).set hb _).set hb _
theorem jO {W:World} {b:Nat} {a0 a1 a2 a3 a4:Value} {α:Type} {R:Fp α} (hR:tC 0 R) {x:α} {cs:List Value} {F:List Nat} (hx:R W x cs F) (hF:b∉F):R (oAy W b a0 a1 a2 a3 a4) x cs F:=UA hR (UA hR (UA hR (UA hR (UA hR hx hF) hF) hF) hF) hF
theorem fA9 (w0 w:World) (p:Nat) (hA:At w0 p w):Calls prog 203 #[.pointer (some ⟨p,0,none⟩)] w
  (WM w0 p w (IX w.heap.size mAr)):=by
 obtain ⟨i0,hi,ds,dt,dv⟩:=info_parts xC;have D0:=Dn.start hA;have D1:=D0.alloc (.cells #[.int .i64 0,.int .i64 0,.int .i64 0,.slice none 0 0,.slice none 0 0] 109);have bR:=Box.new w #[.int .i64 0,.int .i64 0,.int .i64 0,.slice none 0 0,.slice none 0 0] 109;have hlt:=hA.lt;have bb:=pAm w0 _ p D1.at' 5 (by omega) (by omega);go_enter func203,ntmps203;go_wp2_with fail;refine bb.mono ?_;rintro e w1 ⟨v1,rfl,⟨kd,rfl,k1,k2⟩,bx,cc⟩;have D2:=D1.call bx cc;replace bR:=bR.only bx (by simp;omega);have bb:=pAm w0 _ p cc 3 (by omega) (by omega);go_wp2_with fail;refine bb.mono ?_;rintro e w2 ⟨v2,rfl,⟨fd,rfl,f1,f2⟩,bz,cv⟩;have D3:=D2.call bz cv;replace bR:=bR.only bz (by simp;omega);have D4:=D3.alloc (.cells #[.int .i64 kd,.int .i64 fd,.int .i64 0,.slice none 0 0,.slice none 0 0] 109);have bX:=Box.new w2 #[.int .i64 kd,.int .i64 fd,.int .i64 0,.slice none 0 0,.slice none 0 0] 109;replace bR:=bR.bw ((Bw.refl w2).alloc (.cells #[.int .i64 kd,.int .i64 fd,.int .i64 0,.slice none 0 0,.slice none 0 0] 109));obtain ⟨b,hb⟩:=pA7 w2.heap.size;obtain ⟨W,hW⟩:=pA7 (w2.alloc (.cells #[.int .i64 kd,.int .i64 fd,.int .i64 0,.slice none 0 0,.slice none 0 0] 109));have hbw:w.heap.size<b:=by have:=D3.size;have:=(Bw.refl w).alloc (.cells #[] 3);have h2:=bz.1;have h1:=bx.1;simp at h1;omega
 have bd:=XB (e:=3) (sz:=1) (R:=IF) W;have bj:=XB (e:=214) (sz:=2) (R:=ET) W;rw [<-hW] at D4 bX bR;rw [<-hb] at bX;have HW:=pA6 hW;have HB:=pA6 hb;clear bb hW hb D1 D2 D3 bx bz cc cv;obtain ⟨x0,x1,x2,x3,x4,xf⟩:=bX.a5;obtain ⟨r0,r1,r2,r3,r4,rf⟩:=bR.a5;have bg:b≠w.heap.size:=by omega
 have bm:w.heap.size≠b:=by omega
 by_cases h2:kd=2
 ·subst h2;have bb:=pAm w0 _ p D4.at' 5 (by omega) (by omega);clear x0 x1 x2 x3 x4 xf;clear r0 r1 r2 r3 r4 rf;go_wp2_with fail;rw [<-HB.out,<-HW.out];refine bb.mono ?_;rintro e w5 ⟨v5,rfl,⟨z,rfl,z1,z2⟩,bc,bf⟩;have D5:=D4.call bc bf;have bp:=bX.only bc (by simp;omega);have bn:=bR.only bc (by simp;omega);have n5:=D4.keep bc (CC YA) bd (by simp);have m5:=D4.keep bc (CC SF) bj (by simp);obtain ⟨x0,x1,x2,x3,x4,xf⟩:=bp.a5;obtain ⟨r0,r1,r2,r3,r4,rf⟩:=bn.a5;clear bb bX bR bd bj bc bf D4;go_wp2;refine bodyPost_ret (v:=.agg #[.int .i64 2,.int .i64 fd,.int .i64 z,.slice none 0 0,.slice none 0 0]) (by simp [results,results203,go_sem,r0,r1,r2,r3,r4,bg,bm]) rfl ?_;exact ((D5.set (by omega) _).set5 (Nat.le_refl _)).ret (IX.mk (jO aA (UA aA n5 (by simp)) (by simp)) (jO EA (UA EA m5 (by simp)) (by simp)) ⟨by simp,by simp⟩ ⟨by dsimp only;omega,by dsimp only;omega,by dsimp only;omega,⟨by simp,by simp⟩,⟨by simp,by simp⟩⟩)
 ·by_cases h4:kd=4
  ·subst h4;have bb:=kAj w0 _ p D4.at';clear x0 x1 x2 x3 x4 xf;clear r0 r1 r2 r3 r4 rf;go_wp2_with fail;rw [<-HB.out,<-HW.out];refine bb.mono ?_;rintro e w5 ⟨v5,rfl,⟨xs,F,hv,hF,df,dj⟩,bc,bf⟩;obtain ⟨A,n,c,rfl,l1,l2,l3⟩:=qA (aC hv);have HL:=pA6 l1;have ck:=pA6 (And.intro df dj);have D5:=D4.call bc bf;have bp:=bX.only bc (by simp;omega);have bn:=bR.only bc (by simp;omega);have n5:=D4.keep bc (CC YA) bd (by simp);have db:∀c∈F,w.heap.size<c/\b≠c:=fun c hc=>by have:=hF.ge c hc;have:=bX.lt;omega
   obtain ⟨x0,x1,x2,x3,x4,xf⟩:=bp.a5;obtain ⟨r0,r1,r2,r3,r4,rf⟩:=bn.a5;have hbR:=bR.lt;clear bb bX bR bd bj bc bf D4 l1 l2 l3 df dj;go_wp2;refine bodyPost_ret (v:=.agg #[.int .i64 4,.int .i64 fd,.int .i64 0,.slice none 0 0,.slice A n c]) (by simp [results,results203,go_sem,r0,r1,r2,r3,r4,bg,bm]) rfl ?_;exact ((D5.set (by omega) _).set5 (Nat.le_refl _)).ret (IX.mk (jO aA (UA aA n5 (by simp)) (by simp)) (jO EA (UA EA hv (fun h=>(db _ h).2 rfl)) (fun h=>by have:=(db _ h).1;omega)) ⟨by simpa using hF.nodup,fun c hc=>by have:=hF.ge c (by simpa using hc);omega⟩ ⟨by dsimp only;omega,by dsimp only;omega,by dsimp only;omega,⟨by simp,by simp⟩,⟨by have:=ck.out.1;dsimp only;omega,ck.out.2⟩⟩)
  ·by_cases h3:kd=3
   ·subst h3;have bb:=pAm w0 _ p D4.at' 2 (by omega) (by omega);clear x0 x1 x2 x3 x4 xf;clear r0 r1 r2 r3 r4 rf;go_wp2_with fail;rw [<-HB.out,<-HW.out];refine bb.mono ?_;rintro e w5 ⟨v5,rfl,⟨q,rfl,q1,q2⟩,bc,bf⟩;have D5:=D4.call bc bf;have bp:=bX.only bc (by simp;omega);have bn:=bR.only bc (by simp;omega);have n5:=D4.keep bc (CC YA) bd (by simp);have bb:=pAm w0 _ p bf 3 (by omega) (by omega);have hbW:=bX.lt;clear bX bR bd bj bc D4;go_wp2_with fail;refine bb.mono ?_;rintro e w6 ⟨v6,rfl,⟨N0,rfl,N1,N2⟩,bs,cx⟩;have D6:=D5.call bs cx;have cs:=bp.only bs (by simp;omega);have cm:=bn.only bs (by simp;omega);have n6:=D5.keep bs aA n5 (by simp);obtain ⟨N,rfl⟩:∃N:Nat,N0=(N:Int):=⟨N0.toNat,by omega⟩;have HN:=pA6 N2;have HQ:=pA6 (And.intro q1 q2);clear bb bp bn n5 bs bf cx D5 q1 q2;go_wp2;clear N1 N2
    go_loopg [4,5] (N+1) (fun g t z w'=>∃(k n:Nat) (q:Int) (xs:List Int) (v:Value) (F:List Nat),n=g/\z=.int .i64 n/\t=.int .i64 q/\Hid (k+n=N+1/\0<=q/\q<=2+2*k/\xs.length=k/\∀x∈xs,-100<=x/\x<=100)/\WA w' xs [v] F/\sA (b+1) F/\Dn w0 w p w'/\Box w' b [.int .i64 3,.int .i64 fd,.int .i64 0,v,.slice none 0 0]/\Box w' w.heap.size [.int .i64 0,.int .i64 0,.int .i64 0,.slice none 0 0,.slice none 0 0])
    ·exact ⟨0,N+1,q,[],.slice none 0 0,[],rfl,by go_num,rfl,pA6 ⟨by omega,by have:=HQ.out;omega,by have:=HQ.out;omega,rfl,by simp⟩,n6,sA.nil,D6,cs,cm⟩
    ·clear n6 D6 cs cm;obtain ⟨k,n,q,xs,v,F,rfl,rfl,rfl,HI,hv,hF,hD,bX,bR⟩:=hrel;have hk4:k+n<=3:=by have:=HI.out.1;have:=HN.out;omega
     have hq:0<=q/\q<=8:=by have:=HI.out.2;omega
     obtain ⟨A,L,c,rfl,l1,l2,l3⟩:=qA (xA hv);have HL:=pA6 l1;clear l1 l2 l3;by_cases hn:0<n
     ·have n1:(0:Int)<(n:Int):=by omega
      obtain ⟨m,rfl⟩:∃m,n=m+1:=⟨n-1,by omega⟩;have dq:=(aA (B:=0)).lt hv;have bq:=(Bw.refl wr).alloc (.cells #[.int .i64 q] 3);have DW:=hD.bw bq;have dd:=nA bq aA hv;have bv:=bX.bw bq;have cq:=bR.bw bq;have dc:=cell_one_new wr (.int .i64 q) 3;have dx:=bv.lt;have hz:=bX.lt;have dk:xs.length=k:=HI.out.2.2.2.1;have cb:=pA6 dk;obtain ⟨x0,x1,x2,x3,x4,xf⟩:=bX.a5;obtain ⟨y0,y1,y2,y3,y4,yf⟩:=bv.a5;clear hv dk bX bR;go_wp2_with (at_builtin;refine aJ _ rfl (.tmp 30) (.tmp 32) 26 rfl w0 w p DW (b+1) (by omega) dx 3 i0 _ 1 8 underlying26 hi ds dt dv rfl (by omega) YA _ xs F rfl dd hF ⟨wr.heap.size,0,none⟩ 1 rfl q [.int .i64 q] [] dc ⟨rfl,rfl⟩ rfl wr.heap.size dq sA.nil hz (by have:=cb.out;omega) (by have:=cb.out;omega) ?_;intro v7 w7 F7 cj cd cz cf;obtain ⟨A7,n7,c7,rfl,l7,_⟩:=qA (xA cj);replace l7:=pA6 l7;have bk:=bv.only cf (fun h=>by have:=hF.ge _ h;omega);have cn:=cq.only cf (fun h=>by have:=hF.ge _ h;omega);have u0:=bk.c 0 _ rfl;have u1:=bk.c 1 _ rfl;have u2:=bk.c 2 _ rfl;have u3:=bk.c 3 _ rfl;have u4:=bk.c 4 _ rfl;have uf:=bk.fr);obtain ⟨V,hV⟩:=pA7 (w7.setCell ⟨b,3,none⟩ (.slice A7 n7 c7));have D8:Dn w0 w p V:=by rw [hV];exact cz.set (by omega) _
      have v8:WA V (xs++[q]) [.slice A7 n7 c7] F7:=by rw [hV];exact UA aA cj (fun h=>by have:=cd.ge _ h;omega)
      have ct:Box V b [.int .i64 3,.int .i64 fd,.int .i64 0,.slice A7 n7 c7,.slice none 0 0]:=by rw [hV];exact bk.set (by simp) _
      have cp:Box V w.heap.size [.int .i64 0,.int .i64 0,.int .i64 0,.slice none 0 0,.slice none 0 0]:=by rw [hV];exact cn.only (GA _ _ _ _) (by simp;omega)
      have HV:=pA6 hV;have bb:=pAm w0 V p D8.at' 2 (by omega) (by omega);clear hV cj bk cn u0 u1 u2 u3 u4 uf x0 x1 x2 x3 x4 xf y0 y1 y2 y3 y4 yf bv cq dd DW cz cf dc bq;go_wp2_with fail;rw [<-HV.out];refine bb.mono ?_;rintro e w9 ⟨v9,rfl,⟨z,rfl,z1,z2⟩,bt,dp⟩;have D9:=D8.call bt dp;have dz:=D8.keep bt aA v8 (fun c hc=>by have:=cd.ge c hc;omega);have hltp:=D8.lt;have dn:=ct.only bt (by simp;omega);have dm:=cp.only bt (by simp;omega);clear bb v8 ct cp bt D8;go_wp2
      go_roundg m
      ·exact ⟨k+1,m,q+1+z,xs++[q],_,F7,rfl,by go_num,rfl,pA6 ⟨by have:=HI.out.1;omega,by omega,by have:=HI.out.2.2.1;omega,by rw [List.length_append,cb.out];rfl,fun y hy=>(List.mem_append.1 hy).elim (HI.out.2.2.2.2 y) (fun h=>by rw [List.mem_singleton.1 h];omega)⟩,dz,cd,D9,dn,dm⟩
      ·omega
     ·obtain rfl:n=0:=by omega
      obtain ⟨x0,x1,x2,x3,x4,xf⟩:=bX.a5;obtain ⟨r0,r1,r2,r3,r4,rf⟩:=bR.a5;clear hn;go_wp2;refine bodyPost_ret (v:=.agg #[.int .i64 3,.int .i64 fd,.int .i64 0,.slice A L c,.slice none 0 0]) (by simp [results,results203,go_sem,r0,r1,r2,r3,r4,bg,bm]) rfl ?_;exact (hD.set5 (Nat.le_refl _)).ret (IX.mk (jO aA hv (fun h=>by have:=hF.ge _ h;omega)) (XB _) ⟨by simpa using hF.nodup,fun c hc=>by have:=hF.ge c (by simpa using hc);omega⟩ ⟨by dsimp only;omega,by dsimp only;omega,by dsimp only;omega,⟨by have:=HI.out.2.2.2.1;dsimp only;omega,HI.out.2.2.2.2⟩,⟨by simp,by simp⟩⟩)
   ·have e2:(kd==2)=false:=by simpa using h2
    have e3:(kd==3)=false:=by simpa using h3
    have e4:(kd==4)=false:=by simpa using h4
    have hD:=D4;rw [HW.out] at r0 r1 r2 r3 r4 hD;simp only [HW.out] at rf;have cg:w2.heap.size≠w.heap.size:=by rw [<-HB.out];exact bg
    clear h2 h3 h4 x0 x1 x2 x3 x4 xf;go_wp2;refine bodyPost_ret (v:=.agg #[.int .i64 kd,.int .i64 fd,.int .i64 0,.slice none 0 0,.slice none 0 0]) (by simp [results,results203,go_sem,r0,r1,r2,r3,r4,cg]) rfl ?_;exact (hD.set5 (Nat.le_refl _)).ret (IX.mk (XB _) (XB _) ⟨by simp,by simp⟩ ⟨by dsimp only;omega,by dsimp only;omega,by dsimp only;omega,⟨by simp,by simp⟩,⟨by simp,by simp⟩⟩)
theorem JX {α:Type} {P:Program} {ops:Array Oper} {rest:List Oper} {o:Oper} {a:Act} {Q:Exit->Act->World->Prop} (W:World) (hgd:o.guard=none) (s x:Operand) (t:TypeId)
  (ho:o.op=.call { callee:=.builtin .append,args:=#[s,x],argTypes:=#[t,t] })
  (w0 w:World) (p:Nat) (hD:Dn w0 w p W) (B:Nat) (hB:w.heap.size<=B) (hBW:B<=W.heap.size) (e:TypeId) (i:TypeInfo) (z:Value) (sz bytes:Nat) (ht:P.underlying t=some (.slice e)) (hi:P.info? e=some i) (hz:i.zero=some z)
  (hsize:i.size=sz) (hby:i.bytes=bytes) (hzs:z.cells.size=sz) (hsz:0<sz)
  {R:Fp α} (hR:tC 0 R) (v:Value) (xs:List α) (F:List Nat) (hs:a.eval s=v) (hv:fSl e sz R W xs [v] F) (hF:sA B F)
  (sv:Value) (hx:a.eval x=sv) (ys:List α) (G:List Nat) (hw:fSl e sz R W ys [sv] G) (m:Nat) (hFm:∀b∈F,b<m) (hG:sA m G) (hm:B<=m)
  (hbytes:(xs.length+ys.length)*bytes<=140737488355328) (hlen:xs.length+ys.length<4611686018427387904)
  (h:∀v' w' F',fSl e sz R w' (xs++ys) [v'] F'->sA B F'->Dn w0 w p w'->TB F W w'->wpList P ops Q rest (a.put o.dst v') w'):wpList P ops Q (o::rest) a W:=by
 have hle:=hD.le;refine QF W hgd s x t ho w0 e i z sz bytes ht hi hz hsize hby hzs hsz (hR.mono (Nat.zero_le _)) v xs F hs hv (hF.mono (by omega)) sv hx ys G hw m hFm hG (by omega) hbytes hlen hD.at'.bw ?_;intro v' w' F' bf bc bd bb h5;exact h v' w' F' bf ⟨bc.nodup,fun b hb=>(h5 b hb).elim (hF.ge b) (fun h=>h.elim (fun h=>Nat.le_trans hm (hG.ge b h)) (fun h=>Nat.le_trans hBW h))⟩ (hD.next bb (fun b hb=>Nat.le_trans hB (hF.ge b hb)) bd) bb
def hAq (x:AB):Prop:=(-100<=x.kind/\x.kind<=100)/\(-100<=x.field/\x.field<=100)/\(-100<=x.value/\x.value<=100)/\(x.list.length<=9/\∀y∈x.list,-100<=y/\y<=100)/\(x.pairs.length<=8/\∀y∈x.pairs,aA2 y)
theorem mAr.a {x:AB} (h:mAr x):hAq x:=⟨h.1,h.2.1,h.2.2.1,⟨by have:=h.2.2.2.1.1;omega,h.2.2.2.1.2⟩,h.2.2.2.2⟩
def iAg (x:mA):Prop:=(-100<=x.op/\x.op<=100)/\hAq x.wish
theorem mAs {n:Int} (h1 : -100<=n) (h2:n<=100):iAg ⟨n,⟨0,0,0,[],[]⟩⟩:=⟨⟨h1,h2⟩,⟨by dsimp only;omega,by dsimp only;omega⟩,⟨by dsimp only;omega,by dsimp only;omega⟩,⟨by dsimp only;omega,by dsimp only;omega⟩,⟨by simp,by simp⟩,⟨by simp,by simp⟩⟩
theorem KX {x:AB} (h:hAq x):iAg ⟨0,x⟩:=⟨⟨by dsimp only;omega,by dsimp only;omega⟩,h⟩
theorem aA3 (w:World) (n:Int):LJ w ⟨n,⟨0,0,0,[],[]⟩⟩ [.int .i64 n,.int .i64 0,.int .i64 0,.int .i64 0,.slice none 0 0,.slice none 0 0] []:=
 ⟨_,rfl,_,_,[],[],rfl,XB _,XB _,rfl⟩
theorem LX {w:World} {kd fd va:Int} {l:List Int} {ps:List EB} {u t:Value} {F G:List Nat} (h1:WA w l [u] F) (h2:AE w ps [t] G) (n:Int):LJ w ⟨n,⟨kd,fd,va,l,ps⟩⟩ [.int .i64 n,.int .i64 kd,.int .i64 fd,.int .i64 va,u,t] (F++G):=
 ⟨_,rfl,_,_,F,G,rfl,h1,h2,rfl⟩
theorem NX {w W:World} {x:mA} {a0 a1 a2 a3 a4 a5:Value} {F:List Nat} (hW:W=w.alloc (.cells #[a0,a1,a2,a3,a4,a5] 111)) (h:LJ w x [a0,a1,a2,a3,a4,a5] F):mC W [x] [.slice (some ⟨w.heap.size,0,none⟩) 1 1] (w.heap.size::F):=by
 subst hW;have h1:=nA ((Bw.refl w).alloc (.cells #[a0,a1,a2,a3,a4,a5] 111)) vC h;refine ⟨_,[[a0,a1,a2,a3,a4,a5]],[F],rfl,?_,⟨⟨h1,rfl⟩,trivial⟩,by simp [Value.ownBlock]⟩;have bb:=(vC (B:=0)).one h;exact World.ownsRow_lit w #[a0,a1,a2,a3,a4,a5] 1 (Nat.zero_le _) (by simp [maxLen]) (by
  have e:=fun u hu=>bb u hu
  simp only [List.mem_cons,List.not_mem_nil,or_false,forall_eq_or_imp,forall_eq] at e;simp [e])
theorem aA4 {w:World} {B:Nat} {F:List Nat} (hF:sA B F) (hlt:∀b∈F,b<w.heap.size) (hB:B<=w.heap.size):sA B (w.heap.size::F):=
 ⟨List.nodup_cons.2 ⟨fun h=>by have:=hlt _ h;omega,hF.nodup⟩,fun b hb=>(List.mem_cons.1 hb).elim (fun e=>by omega) (hF.ge b)⟩
def nd:Nat->Nat
 | 0=>1
 | d+1=>2*nd d+1
theorem oAz {d:Nat} (h:d<=2):nd d<=7:=by
 match d,h with
 | 0,_=>decide
 | 1,_=>decide
 | 2,_=>decide
theorem fAa:∀(d:Nat),d<=2->∀(w0 w:World) (p:Nat) (k:Int),Hid (k=(d:Int))->At w0 p w->Calls prog 202 #[.pointer (some ⟨p,0,none⟩),.int .i64 k] w
  (WM w0 p w (DL mC w.heap.size fun xs=>0<xs.length/\xs.length<=nd d/\∀x∈xs,iAg x))
 | 0,_,w0,w,p,k,HK,hA=>by
  obtain rfl:k=0:=by simpa using HK.out
  have D0:=Dn.start hA;have bb:=True.intro;go_enter func202,ntmps202;clear bb;have bb:=fA9 w0 w p hA;go_wp2_with fail;refine bb.mono ?_;rintro e w9 ⟨v9,rfl,⟨⟨kd,fd,va,l,ps⟩,u,t,F,G,rfl,o1,o2,hF,hx⟩,bz,bp⟩;have D9:=D0.call bz bp;have cq:=D0.size;obtain ⟨Al,nl,cl,rfl,l1,_⟩:=qA (xA o1);obtain ⟨Ap,np,cp,rfl,l2,_⟩:=qA (aC o2);have HX:=pA6 hx;have bc:∀b∈F++G,b<w9.heap.size:=fun b hb=>(List.mem_append.1 hb).elim ((aA (B:=0)).lt o1 b) ((EA (B:=0)).lt o2 b)
  have bd:=NX rfl (LX o1 o2 0 (kd:=kd) (fd:=fd) (va:=va));have cc:=aA4 (w:=w9) (hF.mono cq) bc (by have:=D9.size;omega);clear bb l1 l2 hx;go_wp2;go_ret;exact (D9.alloc _).ret ⟨_,_,bd,cc,by simp,by simp [nd],fun y hy=>by rw [List.mem_singleton.1 hy];exact KX HX.out.a⟩
 | d+1,hd,w0,w,p,k,HK,hA=>by
  have ih:=fAa d (by omega);have hnd:=oAz (d:=d) (by omega);obtain ⟨i0,hi,ck,cm,cn⟩:=info_parts tH;have k1:1<=k:=by have:=HK.out;omega
  have k2:k<=2:=by have:=HK.out;omega
  have k0:(k==0)=false:=by simp;omega
  have dc:Hid (k-1=(d:Int)):=pA6 (by have:=HK.out;omega);have D0:=Dn.start hA;have bb:=ZN w0 w p hA 3 (by omega) (by omega);go_enter func202,ntmps202;go_wp2_with fail;refine bb.mono ?_;rintro e w1 ⟨v1,rfl,⟨q,rfl⟩,ds,bn⟩;have D1:=D0.call ds bn
  cases q with
  | true=>
   clear bb;have bb:=fA9 w0 w1 p bn;go_wp2_with fail;refine bb.mono ?_;rintro e w9 ⟨v9,rfl,⟨⟨kd,fd,va,l,ps⟩,u,t,F,G,rfl,o1,o2,hF,hx⟩,bz,bp⟩;have D9:=D1.call bz bp;have cq:=D1.size;obtain ⟨Al,nl,cl,rfl,l1,_⟩:=qA (xA o1);obtain ⟨Ap,np,cp,rfl,l2,_⟩:=qA (aC o2);have HX:=pA6 hx;have bc:∀b∈F++G,b<w9.heap.size:=fun b hb=>(List.mem_append.1 hb).elim ((aA (B:=0)).lt o1 b) ((EA (B:=0)).lt o2 b)
   have bd:=NX rfl (LX o1 o2 0 (kd:=kd) (fd:=fd) (va:=va));have cc:=aA4 (w:=w9) (hF.mono cq) bc (by have:=D9.size;omega);clear bb l1 l2 hx;go_wp2;go_ret;exact (D9.alloc _).ret ⟨_,_,bd,cc,by simp,by simp [nd],fun y hy=>by rw [List.mem_singleton.1 hy];exact KX HX.out.a⟩
  | false=>
   clear bb;have bb:=pAm w0 w1 p bn 4 (by omega) (by omega);go_wp2_with fail;refine bb.mono ?_;rintro e w2 ⟨v2,rfl,⟨z,rfl,z1,z2⟩,dt,df⟩;have D2:=D1.call dt df;clear bb;have bb:=ih w0 w2 p (k-1) dc df;have HG:=pA6 (mAs (n:=1+z) (by omega) (by omega));by_cases h3:z=2
   ·have e3:(1+z==3)=true:=by simp;omega
    have HZ:=pA6 h3;clear h3;go_wp2_with fail;refine bb.mono ?_;rintro e w3 ⟨v3,rfl,⟨xs,F,hv,hF,hx⟩,bx,bk⟩;have D3:=D2.call bx bk;have HX:=pA6 hx;have bf:=hx.2.1;have cd:=D2.size;obtain ⟨Ax,nx,cx,rfl,lx,_⟩:=qA (bB hv);have bt:=(kA (B:=0)).lt hv;have DW:=D3.alloc (.cells #[.int .i64 (1+z),.int .i64 0,.int .i64 0,.int .i64 0,.slice none 0 0,.slice none 0 0] 111);have cg:=nA ((Bw.refl w3).alloc (.cells #[.int .i64 (1+z),.int .i64 0,.int .i64 0,.int .i64 0,.slice none 0 0,.slice none 0 0] 111)) kA hv;have cb:∀j t,[Value.int .i64 (1+z),.int .i64 0,.int .i64 0,.int .i64 0,.slice none 0 0,.slice none 0 0][j]? = some t->(w3.alloc (.cells #[.int .i64 (1+z),.int .i64 0,.int .i64 0,.int .i64 0,.slice none 0 0,.slice none 0 0] 111)).cell? ((⟨w3.heap.size,0,none⟩:Addr).add j)=some t:=World.news_of_block (cs:=#[.int .i64 (1+z),.int .i64 0,.int .i64 0,.int .i64 0,.slice none 0 0,.slice none 0 0]) (t:=111) (fr:=(0,0)) (heap_alloc_new w3 _);have ct:=DW.size;have bg:=pA6 (hF.mono cd);have cz:=D3.size;have HL:=pA6 bf;clear bb hx lx bf hv;go_wp2_with (at_builtin;refine aJ _ rfl (.tmp 27) (.tmp 30) 25 rfl w0 w p DW w.heap.size (Nat.le_refl _) ct 111 i0 _ 6 80 underlying25 hi ck cm cn rfl (by omega) vC _ xs F rfl cg bg.out ⟨w3.heap.size,0,none⟩ 1 rfl ⟨1+z,⟨0,0,0,[],[]⟩⟩ [.int .i64 (1+z),.int .i64 0,.int .i64 0,.int .i64 0,.slice none 0 0,.slice none 0 0] [] cb (aA3 _ _) rfl w3.heap.size bt sA.nil cz (by have:=HL.out;omega) (by have:=HL.out;omega) ?_;intro v7 w7 F7 cf bs bq dv)
    go_ret;exact bq.ret ⟨_,F7,cf,bs,(by rw [List.length_append,List.length_singleton];omega),by have:=HL.out;rw [show nd (d+1)=2*nd d+1 from rfl,List.length_append,List.length_singleton];omega,fun y hy=>(List.mem_append.1 hy).elim (HX.out.2.2 y) (fun h=>by rw [List.mem_singleton.1 h];exact HG.out)⟩
   ·have e3:(1+z==3)=false:=by simp;omega
    have HZ:=pA6 h3;clear h3;go_wp2_with fail;refine bb.mono ?_;rintro e w3 ⟨v3,rfl,⟨xs,F,hv,hF,hx⟩,bx,bk⟩;have D3:=D2.call bx bk;have HX:=pA6 hx;have bf:=hx.2.1;have cd:=D2.size;obtain ⟨Ax,nx,cx,rfl,lx,_⟩:=qA (bB hv);have bt:=(kA (B:=0)).lt hv;clear bb;have bb:=ih w0 w3 p (k-1) dc bk;have bg:=pA6 (hF.mono cd);have HL:=pA6 bf;have cz:=D3.size;clear hx lx bf;go_wp2_with fail;refine bb.mono ?_;rintro e w4 ⟨v4,rfl,⟨ys,G,hy,hG,cj⟩,dk,dp⟩;have D4:=D3.call dk dp;have dm:=D3.keep dk kA hv bg.out.ge;have HY:=pA6 cj;have dn:=cj.2.1;obtain ⟨Ay,ny,cy,rfl,ly,_⟩:=qA (bB hy);have bj:=pA6 dn;have ct:=D4.size;clear bb cj ly dn hv;go_wp2_with (first | (at_builtin;refine JX _ rfl (.tmp 36) (.tmp 40) 25 rfl w0 w p D4 w.heap.size (Nat.le_refl _) ct 111 i0 _ 6 80 underlying25 hi ck cm cn rfl (by omega) vC _ xs F rfl dm bg.out _ rfl ys G hy w3.heap.size bt hG cz (by have:=HL.out;have:=bj.out;omega) (by have:=HL.out;have:=bj.out;omega) ?_;intro v5 w5 F5 bm dq dj hO5;obtain ⟨A5,n5,c5,rfl,l5,_⟩:=qA (bB bm);replace l5:=pA6 l5;have bv:=(kA (B:=0)).lt bm;have DW:=dj.alloc (.cells #[.int .i64 (1+z),.int .i64 0,.int .i64 0,.int .i64 0,.slice none 0 0,.slice none 0 0] 111);have cg:=nA ((Bw.refl w5).alloc (.cells #[.int .i64 (1+z),.int .i64 0,.int .i64 0,.int .i64 0,.slice none 0 0,.slice none 0 0] 111)) kA bm;have cb:∀j t,[Value.int .i64 (1+z),.int .i64 0,.int .i64 0,.int .i64 0,.slice none 0 0,.slice none 0 0][j]? = some t->(w5.alloc (.cells #[.int .i64 (1+z),.int .i64 0,.int .i64 0,.int .i64 0,.slice none 0 0,.slice none 0 0] 111)).cell? ((⟨w5.heap.size,0,none⟩:Addr).add j)=some t:=World.news_of_block (cs:=#[.int .i64 (1+z),.int .i64 0,.int .i64 0,.int .i64 0,.slice none 0 0,.slice none 0 0]) (t:=111) (fr:=(0,0)) (heap_alloc_new w5 _);have cv:=DW.size;have db:=dj.size;have dd:=pA6 (show (xs++ys).length<=14 by (rw [List.length_append];have:=HL.out;have:=bj.out;omega));clear bm dm hy) | (at_builtin;refine aJ _ rfl (.tmp 42) (.tmp 45) 25 rfl w0 w p DW w.heap.size (Nat.le_refl _) cv 111 i0 _ 6 80 underlying25 hi ck cm cn rfl (by omega) vC _ (xs++ys) F5 rfl cg dq ⟨w5.heap.size,0,none⟩ 1 rfl ⟨1+z,⟨0,0,0,[],[]⟩⟩ [.int .i64 (1+z),.int .i64 0,.int .i64 0,.int .i64 0,.slice none 0 0,.slice none 0 0] [] cb (aA3 _ _) rfl w5.heap.size bv sA.nil db (by have:=dd.out;omega) (by have:=dd.out;omega) ?_;intro v7 w7 F7 cf bs bq dv))
    go_ret;exact bq.ret ⟨_,F7,cf,bs,(by rw [List.length_append,List.length_singleton];omega),by have:=HL.out;have:=bj.out;rw [show nd (d+1)=2*nd d+1 from rfl,List.length_append,List.length_append,List.length_singleton];omega,fun y hy=>(List.mem_append.1 hy).elim (fun hy=>(List.mem_append.1 hy).elim (HX.out.2.2 y) (HY.out.2.2 y)) (fun h=>by rw [List.mem_singleton.1 h];exact HG.out)⟩
theorem WK (w0 w:World) (p:Nat) (hA:At w0 p w):Calls prog 151 #[.pointer (some ⟨p,0,none⟩)] w
  (WM w0 p w (DL mC w.heap.size fun xs=>0<xs.length/\xs.length<=7/\∀x∈xs,iAg x)):=by
 have D0:=Dn.start hA;have bb:=fAa 2 (by omega) w0 w p 2 (pA6 rfl) hA;go_enter func151,ntmps151;go_wp2_with fail;refine bb.mono ?_;rintro e w1 ⟨v1,rfl,⟨xs,F,hv,hF,hx⟩,bd,bc⟩;have D1:=D0.call bd bc;obtain ⟨A,n,c,rfl,l1,_⟩:=qA (bB hv);have h7:xs.length<=7:=hx.2.1;rw [<-l1] at h7;have HX:=pA6 hx;clear bb l1 hx;go_wp2;go_ret;exact D1.ret ⟨xs,F,hv,hF,HX.out⟩
theorem pA0 (w:World) (xs:List Int) (v:Value) (h:Rd aO w xs [v]):Calls prog 9 #[v] w (Ret w (.bool (decide (1048576<xs.length)))):=by
 obtain ⟨A,n,c,rfl,L,Lc,Lm⟩:=yA h;obtain ⟨Y,hY⟩:=pA7 (decide (1048576<xs.length));rw [<-hY];have HY:=pA6 (show Y=decide (1048576<(n:Int)) by rw [hY,<-L.out,decide_eq_decide];omega);clear hY h;go_enter func9,ntmps9;go_wp2;go_ret;exact Ret.bool HY.out.symm (Bw.refl _)
def atM (xs:List Int) (i:Nat):Int:=match xs[i]? with | some x=>x | none=>((i:Int)*37+(xs.length:Int)*11).tmod 256
theorem iAh {xs:List Int} (hx:MM xs) (i:Nat):0<=atM xs i/\atM xs i<=255:=by
 unfold atM
 cases h:xs[i]? with
 | some x=>exact hx x (List.mem_of_getElem? h)
 | none=>dsimp only;rw [Int.tmod_eq_emod_of_nonneg (by omega)];omega
theorem pA4 (w:World) (xs:List Int) (i:Nat) (v:Value) (h:Rd aO w xs [v]) (hx:MM xs) (hn:xs.length<=1048576) (hi:i<=1048576):Calls prog 41 #[v,.int .i64 i] w (Ret w (.int .i64 (atM xs i))):=by
 have hA:=iAh hx i;obtain ⟨A,n,c,rfl,L,Lc,Lm⟩:=yA h;rw [<-L.out] at hn;obtain ⟨Y,hY⟩:=pA7 (atM xs i);rw [<-hY];by_cases hlt:i<n
 ·obtain ⟨x,hy⟩:=tA (xs:=xs) (k:=i) (by have:=L.out;omega);have HE:=pA6 (show x=Y by rw [hY];unfold atM;rw [hy]);have HX:=pA6 (hx x (List.mem_of_getElem? hy));obtain ⟨b,o,rfl,_,hc⟩:=TJ h hy;have i1:(0:Int)<=(i:Int):=by omega
  have i2:(i:Int)<(n:Int):=by omega
  have HW:=pA6 (show wrap64 x=Y by rw [<-HE.out];have:=HX.out;unfold wrap64;omega);clear hY hy hlt h hA;go_enter func41,ntmps41;go_wp2;go_ret
  first
   | exact Ret.int HW.out (Bw.refl _)
   | exact Ret.int HE.out (Bw.refl _)
 ·have HE:=pA6 (show ((i:Int)*37+(n:Int)*11).tmod 256=Y by
   rw [hY];unfold atM;rw [List.getElem?_eq_none (by rw [<-L.out];omega),<-L.out])
  have bb:=pA6 (show ((i:Int)*37+(n:Int)*11) % 256=Y by rw [<-HE.out,Int.tmod_eq_emod_of_nonneg (by omega)]);have i2:¬(i:Int)<(n:Int):=by omega
  clear hY h hA hlt;go_enter func41,ntmps41;go_wp2;go_ret
  first
   | exact Ret.int HE.out (Bw.refl _)
   | exact Ret.int bb.out (Bw.refl _)
section
variable {H:Type} {enc:TypeId×Value->H} {w:World} {sp:Nat->Bool} {held:Bool}
theorem pA5 {n:Nat} {cs:List Value} {y:DataW H×List MemPlace} (h:DataW.trod enc prog w 0 sp held n 5 cs=some y):∃x,rU8 w (lt w) x cs/\(0<=x/\x<=255):=by
 obtain ⟨x,rfl,_,hw⟩:=DataW.trod_int underlying5 h;exact ⟨x,rfl,bounds_u8 hw⟩
theorem nAx {n:Nat} {cs:List Value} {y:DataW H×List MemPlace} (h:DataW.trod enc prog w 0 sp held n 22 cs=some y):∃xs,aO w (lt w) xs cs/\MM xs:=
 nA3 underlying22 (by kernel_rfl) (by omega) (fun _ _ _ h _=>pA5 h) h
end
end Go.Proofs.YtpihighajaeabaaGreat
