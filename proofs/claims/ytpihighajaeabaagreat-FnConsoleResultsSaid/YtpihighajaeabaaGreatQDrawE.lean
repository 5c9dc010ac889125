/- Draws: pairs and wishes. -/
import Derived.Test.YtpihighajaeabaaGreatQDrawB
import Derived.Test.YtpihighajaeabaaGreatQOwn2
import Derived.Test.YtpihighajaeabaaGreatQCopies
import Derived.Test.YtpihighajaeabaaGreatQCopyW
namespace Go.Proofs.YtpihighajaeabaaGreat
open Go.RowKit
set_option linter.unusedVariables false
set_option linter.unusedSimpArgs false
abbrev DK:Rep (List Int):=rSl 1 rU8
def xJ (xs:List Int):Prop:=∀x∈xs,0≤x∧x≤255
theorem MF:sG DK:=qF TK
set_option maxRecDepth 100000 in
set_option maxHeartbeats 1600000 in
theorem iA5 (w:World) (xs:List Int) (v:Value) (h:Rd DK w xs [v]) (hx:xJ xs):Calls Tryz.prog 69 #[v] w fun e w'=>∃p,e=.returned (.pointer (some ⟨p,0,none⟩))∧At w p w':=by
 have HR:=Lib.hid h;obtain ⟨A,n,c,rfl,L0,Lc,Lm⟩:=iA h;unfold maxLen at Lm;have L:=Lib.hid L0;clear L0;have HX:=Lib.hid hx;have HH:=Lib.hid h;clear h;go_enter Tryz.func69,Tryz.ntmps69;go_wp2
 go_loopg [3,4] n (fun g hh i w'=>∃(k:Nat) (q:Int),k≤n∧g=n-k∧i=.int .i64 k∧hh=.int .i64 q∧w'=w)
 case atStart=>exact ⟨0,_,by omega,rfl,rfl,rfl,rfl⟩
 case round=>
  obtain ⟨k,q,hk,rfl,rfl,rfl,rfl⟩:=hrel;by_cases hlt:k<n∧k<4000
  ·have h:=HH.out;obtain ⟨x,hx⟩:=rA (xs:=xs) (k:=k) (by have:=L.out;omega);obtain ⟨b,o,rfl,_,hc⟩:=dI h hx;have i1:(0:Int)≤(k:Int):=by omega
   have i2:(k:Int)<(n:Int):=by omega
   have i3:(k:Int)<4000:=by omega
   have hxb:=hx;clear hx h hxb;go_wp2
   go_roundg (n-(k+1))
   case measure=>omega
   case rel=>exact ⟨k+1,_,by omega,rfl,by go_num,rfl,rfl⟩
  ·have key:∀W q,W=wr.alloc (.cells #[.slice A n c,.int .i64 0,.int .i64 q] 150)→At wr wr.heap.size W:=by
    rintro W q rfl;refine ⟨(Bw.refl wr).alloc _,Nat.le_refl _,xs,A,n,c,0,q,by go_simp,by go_simp,by go_simp,fun o=>by go_simp,by omega,?_,HX.out⟩;exact MF.step ⟨fun _ h=>h,fun p hp=>Below.cell ((Bw.refl wr).alloc _) hp⟩ HH.out
   by_cases h1:k<n
   ·have h2:¬(k:Int)<4000:=by omega
    have i2:(k:Int)<(n:Int):=by omega
    clear hlt h1;go_wp2;go_ret;exact ⟨_,rfl,key _ _ rfl⟩
   ·have i2:¬(k:Int)<(n:Int):=by omega
    clear hlt h1;go_wp2;go_ret;exact ⟨_,rfl,key _ _ rfl⟩
def iAh (B:Nat) (Q:gA→Prop) (W:World) (v:Value):Prop:=∃x u F,v=.agg #[.int .i64 x.id,u]∧ZA W x.vals [u] F∧pA B F∧Q x
def DL {α:Type} (f:Fp α) (B:Nat) (Q:α→Prop) (W:World) (v:Value):Prop:=∃xs F,f W xs [v] F∧pA B F∧Q xs
set_option maxRecDepth 100000 in
set_option maxHeartbeats 3200000 in
theorem iZ (w0 w:World) (p:Nat) (hA:At w0 p w) (id wide:Int) (h1:0<wide) (h2:wide≤256):Calls Tryz.prog 73 #[.pointer (some ⟨p,0,none⟩),.int .i64 id,.int .i64 wide] w
  (fJ w0 p w (iAh w.heap.size fun x=>x.id=id∧x.vals.length=3∧∀y∈x.vals,0≤y∧y<wide)):=by
 obtain ⟨i0,hi,hz0,hz1,hz2⟩:=info_parts PC;have hlt:=hA.lt;obtain ⟨W1,hW1⟩:∃W1,W1=(w.alloc (.cells #[.int .i64 0,.slice none 0 0] 30)).alloc (.cells #[.int .i64 id,.slice none 0 0] 30):=⟨_,rfl⟩;have b1:sM W1 w.heap.size (.int .i64 0) (.slice none 0 0):=by rw [hW1];exact (sM.new _ _ _ _).bw ((Bw.refl _).alloc _)
 have b2:sM W1 (w.heap.size+1) (.int .i64 id) (.slice none 0 0):=by
  have:=sM.new (w.alloc (.cells #[.int .i64 0,.slice none 0 0] 30)) (.int .i64 id) (.slice none 0 0) 30;rw [show (w.alloc (.cells #[.int .i64 0,.slice none 0 0] 30)).heap.size=w.heap.size+1 from by simp] at this;rw [hW1];exact this
 have B1:Bw w W1:=by rw [hW1];exact ((Bw.refl _).alloc _).alloc _
 have A1:=hA.bwStep B1;have z1:W1.heap.size=w.heap.size+2:=by rw [hW1];simp
 have hn1:ZA W1 [] [.slice none 0 0] []:=WC _;have HW:=Lib.hid hW1;clear hW1;go_enter Tryz.func73,Tryz.ntmps73;go_wp2;rw [← HW.out]
 go_loopg [8,9] 3 (fun g s z w'=>∃(k:Nat) (vals:List Int) (v:Value) (F:List Nat),k≤3∧g=3-k∧s=.int .i64 k∧Hid (vals.length=k∧∀y∈vals,0≤y∧y<wide)∧ZA w' vals [v] F∧(F.Nodup∧∀b∈F,w.heap.size+2≤b)∧sM w' w.heap.size (.int .i64 0) (.slice none 0 0)∧sM w' (w.heap.size+1) (.int .i64 id) v∧SB [p] w w'∧At w0 p w')
 case atStart=>exact ⟨0,[],_,[],by omega,rfl,rfl,Lib.hid ⟨rfl,by simp⟩,hn1,⟨by simp,by simp⟩,b1,b2,B1.only _,A1⟩
 case round=>
  clear b1 b2 hn1 A1;obtain ⟨k,vals,v,F,hk,rfl,rfl,HV,hv,hF,b1,b2,hO,hA1⟩:=hrel;obtain ⟨A,c,rfl,_⟩:=aB (AA hv);by_cases h3:k<3
  ·have hcall:=pC w0 wr p hA1 wide h1 (by omega);have i1:(k:Int)<3:=by omega
   have hFp:∀b∈F,b∉[p]:=fun b hb h=>by have:=hF.2 b hb;simp at h;omega
   go_wp2_with fail;refine hcall.mono ?_;rintro e w2 ⟨v2,rfl,⟨y,rfl,y1,y2⟩,hO2,hA2⟩;have c1:=b1.only hO2 (by simp;omega);have c2:=b2.only hO2 (by simp;omega);have hv2:=hO2.keeps (aA (B:=0)) hv hFp;have hOO:=hO.two hO2;have hFm:=(aA (B:=0)).lt hv2;have hAl:=(Bw.refl w2).alloc (.cells #[.int .i64 y] 3);have hvW:=(aA (B:=0)).bw hAl (Nat.zero_le _) hv2;have hAW:=hA2.bwStep hAl;have d1:=c1.bw hAl;have d2:=c2.bw hAl;have hOW:=hOO.bwNext hAl;have hcl:=cell_one_new w2 (.int .i64 y) 3;have hbs:=hA2.bw.size;have hww:=hO.1;have hge:=hA2.ge;have hFw:pA w0.heap.size F:=⟨hF.1,fun b hb=>by have:=hF.2 b hb;omega⟩;have HL:=Lib.hid HV.out.1;have k0:=d2.c0;have k1:=d2.c1;have kf:=d2.fr;have j0:=c2.c0;have j1:=c2.c1;have jf:=c2.fr;clear hv hv2 b1 b2 c1 hcall hA1;go_wp2_with (at_builtin;refine mC _ rfl (.tmp 20) (.tmp 22) 26 rfl w0 3 i0 _ 1 8 Tryz.underlying26 hi hz0 hz1 hz2 rfl (by omega) nB _ vals F rfl hvW hFw ⟨w2.heap.size,0,none⟩ 1 rfl y [.int .i64 y] [] hcl ⟨rfl,rfl⟩ rfl _ hFm pA.nil hbs (by have:=HL.out;omega) (by have:=HL.out;omega) hAW.bw ?_;intro v3 w3 F3 hv3 hF3 hb3 hO3 hs3;obtain ⟨A3,n3,c3,rfl,l3,_⟩:=iA (AA hv3);replace l3:=Lib.hid l3;have m0:=(d2.only hO3 (fun h=>by have:=hF.2 _ h;omega)).c0;have m1:=(d2.only hO3 (fun h=>by have:=hF.2 _ h;omega)).c1;have mf:=(d2.only hO3 (fun h=>by have:=hF.2 _ h;omega)).fr);have hAn:=hAW.onlyStep hO3 (fun b hb=>by have:=hF.2 b hb;omega) hb3;have e1:=d1.only hO3 (fun h=>by have:=hF.2 _ h;omega)
   have e2:=d2.only hO3 (fun h=>by have:=hF.2 _ h;omega);have hOn:SB [p] w w3:=⟨Nat.le_trans hOW.1 hO3.1,fun b hb hn=>(hO3.2 b (Nat.lt_of_lt_of_le hb hOW.1) (fun h=>by have:=hF.2 _ h;omega)).trans (hOW.2 b hb hn)⟩;have hFr:=hF3.raise hs3 (B:=w.heap.size+2) hF.2 (by simp) (by have:=d2.lt;omega);have hlt3:=hAn.lt
   go_roundg (3-(k+1))
   case measure=>omega
   case rel=>
    refine ⟨k+1,vals++[y],.slice A3 n3 c3,F3,by omega,rfl,by go_num,Lib.hid ⟨by rw [List.length_append,HL.out];rfl,fun z hz=>?_⟩,?_,⟨hFr.nodup,hFr.ge⟩,?_,?_,?_,?_⟩
    ·rcases List.mem_append.1 hz with hz | hz
     ·exact HV.out.2 z hz
     ·rw [List.mem_singleton.1 hz];exact ⟨y1,y2⟩
    ·refine (aA (B:=0)).step (fun b hb=>?_) hv3;rcases hb with hb | hb
     ·have:=hFr.ge b hb;rw [Below.heap_setCell _ _ _ _ (by dsimp only;omega)]
     ·omega
    ·exact e1.only (KA _ _ _ _) (by simp)
    ·exact ⟨by go_simp,by go_simp,fun o=>by go_simp⟩
    ·exact ⟨by simpa using hOn.1,fun b hb hn=>(Below.heap_setCell _ _ _ _ (by dsimp only;omega)).trans (hOn.2 b hb hn)⟩
    ·exact hAn.onlyStep (KA _ _ _ _) (by simp;omega) (hAn.bw.set (by dsimp only;omega) _)
  ·obtain rfl:k=3:=by omega
   have j0:=b2.c0;have j1:=b2.c1;have i0:=b1.c0;have i1:=b1.c1;have jf:=b1.fr;go_wp2;refine bodyPost_ret (v:=.agg #[.int .i64 id,.slice A vals.length c]) (by simp [results,Tryz.results73,go_sem,i0,i1]) rfl ?_;refine ⟨_,rfl,⟨⟨id,vals⟩,_,F,rfl,?_,⟨hF.1,fun b hb=>by have:=hF.2 b hb;omega⟩,rfl,HV.out⟩,?_,?_⟩
   ·refine (aA (B:=0)).step (fun b hb=>?_) hv;rcases hb with hb | hb
    ·have:=hF.2 b hb
     repeat rw [Below.heap_setCell _ _ _ _ (by dsimp only;omega)]
    ·omega
   ·exact ⟨by simpa using hO.1,fun b hb hn=>by
     repeat rw [Below.heap_setCell _ _ _ _ (by dsimp only;omega)]
     exact hO.2 b hb hn⟩
   ·have hge:=hA1.ge;refine ⟨?_,hge,hA1.cur.same fun b hb=>?_⟩
    ·repeat (first | exact hA1.bw | refine Bw.set ?_ (by dsimp only;omega) _)
    ·repeat rw [Below.heap_setCell _ _ _ _ (by dsimp only;omega)]
end Go.Proofs.YtpihighajaeabaaGreat
namespace Go.Proofs.YtpihighajaeabaaGreat
open Go.RowKit
set_option linter.unusedVariables false
set_option linter.unusedSimpArgs false
structure Dn (w0 w:World) (p:Nat) (W:World):Prop where
 only:SB [p] w W
 at':At w0 p W
 lt:p<w.heap.size
 le:w0.heap.size≤w.heap.size
theorem Dn.start {w0 w:World} {p:Nat} (h:At w0 p w):Dn w0 w p w:=⟨SB.refl _ _,h,h.lt,h.bw.size⟩
theorem Dn.call {w0 w W W':World} {p:Nat} (h:Dn w0 w p W) (hO:SB [p] W W') (hA:At w0 p W'):Dn w0 w p W':=⟨h.only.two hO,hA,h.lt,h.le⟩
theorem Dn.bw {w0 w W W':World} {p:Nat} (h:Dn w0 w p W) (hb:Bw W W'):Dn w0 w p W':=⟨h.only.bwNext hb,h.at'.bwStep hb,h.lt,h.le⟩
theorem Dn.alloc {w0 w W:World} {p:Nat} (h:Dn w0 w p W) (o:Obj):Dn w0 w p (W.alloc o):=h.bw ((Bw.refl W).alloc o)
theorem Dn.drew {w0 w W:World} {p:Nat} (h:Dn w0 w p W):Dn w0 w p W.drew:=h.bw (Bw.refl W).drew
theorem Dn.next {w0 w W W':World} {p:Nat} {F:List Nat} (h:Dn w0 w p W) (hO:SB F W W') (hF:∀b∈F,w.heap.size≤b) (hb:Bw w0 W'):Dn w0 w p W':=
 ⟨⟨Nat.le_trans h.only.1 hO.1,fun b hb hn=>(hO.2 b (Nat.lt_of_lt_of_le hb h.only.1) (fun e=>by have:=hF b e;omega)).trans (h.only.2 b hb hn)⟩,h.at'.onlyStep hO (fun b hb=>by have:=hF b hb;have:=h.lt;omega) hb,h.lt,h.le⟩
theorem Dn.set {w0 w W:World} {p b o:Nat} (h:Dn w0 w p W) (hb:w.heap.size≤b) (u:Value):Dn w0 w p (W.setCell ⟨b,o,none⟩ u):=
 h.next (KA b o W u) (by simpa using hb) (h.at'.bw.set (by have:=h.le;dsimp only;omega) u)
theorem Dn.size {w0 w W:World} {p:Nat} (h:Dn w0 w p W):w.heap.size≤W.heap.size:=h.only.1
theorem Dn.ret {w0 w W:World} {p:Nat} {R:World→Value→Prop} {v:Value} (h:Dn w0 w p W) (hR:R W v):fJ w0 p w R (.returned v) W:=⟨v,rfl,hR,h.only,h.at'⟩
theorem Dn.keep {w0 w W W':World} {p:Nat} (h:Dn w0 w p W) (hO:SB [p] W W') {α:Type} {R:Fp α} (hR:VB 0 R) {x:α} {cs:List Value} {F:List Nat} (hx:R W x cs F) (hF:∀b∈F,w.heap.size≤b):R W' x cs F:=
 hO.keeps hR hx fun b hb e=>by have:=hF b hb;have:=h.lt;simp at e;omega
theorem WD {α:Type} {P:Program} {ops:Array Oper} {rest:List Oper} {o:Oper} {a:Act} {Q:Exit→Act→World→Prop} (W:World) (hgd:o.guard=none) (s x:Operand) (t:TypeId)
  (ho:o.op=.call { callee:=.builtin .append,args:=#[s,x],argTypes:=#[t,t] })
  (w0 w:World) (p:Nat) (hD:Dn w0 w p W) (B:Nat) (hB:w.heap.size≤B) (hBW:B≤W.heap.size) (e:TypeId) (i:TypeInfo) (z:Value) (sz bytes:Nat) (ht:P.underlying t=some (.slice e)) (hi:P.info? e=some i) (hz:i.zero=some z)
  (hsize:i.size=sz) (hby:i.bytes=bytes) (hzs:z.cells.size=sz) (hsz:0<sz)
  {R:Fp α} (hR:VB 0 R) (v:Value) (xs:List α) (F:List Nat) (hs:a.eval s=v) (hv:fSl e sz R W xs [v] F) (hF:pA B F)
  (ad:Addr) (c:Nat) (hx:a.eval x=.slice (some ad) 1 c) (y:α) (u:List Value) (f:List Nat) (hu:∀j t,u[j]? = some t→W.cell? (ad.add j)=some t)
  (hy:R W y u f) (hul:u.length=sz) (m:Nat) (hFm:∀b∈F,b<m) (hf:pA m f) (hm:B≤m) (hbytes:(xs.length+1)*bytes≤140737488355328) (hlen:xs.length<4611686018427387904)
  (h:∀v' w' F',fSl e sz R w' (xs++[y]) [v'] F'→pA B F'→Dn w0 w p w'→SB F W w'→wpList P ops Q rest (a.put o.dst v') w'):wpList P ops Q (o::rest) a W:=by
 have hle:=hD.le;refine mC W hgd s x t ho w0 e i z sz bytes ht hi hz hsize hby hzs hsz (hR.mono (Nat.zero_le _)) v xs F hs hv (hF.mono (by omega)) ad c hx y u f hu hy hul m hFm hf (by omega) hbytes hlen hD.at'.bw ?_;intro v' w' F' hv' hF' hb' hO' h5;exact h v' w' F' hv' (hF'.raise h5 hF.ge (fun b hb=>Nat.le_trans hm (hf.ge b hb)) hBW) (hD.next hO' (fun b hb=>Nat.le_trans hB (hF.ge b hb)) hb') hO'
def yP (x:gA):Prop:=(-100≤x.id∧x.id≤1000)∧x.vals.length=3∧∀y∈x.vals,-100≤y∧y≤100
def YU (x:gA):Prop:=(-100≤x.id∧x.id≤1000)∧x.vals.length≤4∧∀y∈x.vals,-100≤y∧y≤100
theorem yP.g {x:gA} (h:yP x):YU x:=⟨h.1,by have:=h.2.1;omega,h.2.2⟩
theorem CI (w:World) (a b c:Int):ZA (w.alloc (.cells #[.int .i64 a,.int .i64 b,.int .i64 c] 3)) [a,b,c] [.slice (some ⟨w.heap.size,0,none⟩) 3 3] [w.heap.size]:=by
 refine ⟨_,[[.int .i64 a],[.int .i64 b],[.int .i64 c]],[[],[],[]],rfl,?_,?_,rfl⟩
 ·exact ⟨rfl,.inr ⟨w.heap.size,3,#[.int .i64 a,.int .i64 b,.int .i64 c],rfl,Nat.zero_le _,heap_alloc_new w _,Nat.le_refl 3,(by decide:3≤maxLen),rfl,rfl⟩⟩
 ·exact ⟨⟨⟨rfl,rfl⟩,rfl⟩,⟨⟨rfl,rfl⟩,rfl⟩,⟨⟨rfl,rfl⟩,rfl⟩,trivial⟩
set_option maxRecDepth 100000 in
set_option maxHeartbeats 3200000 in
theorem ZU (w0 w:World) (p:Nat) (hA:At w0 p w) (most:Int) (h1:0≤most) (h2:most≤16):Calls Tryz.prog 128 #[.pointer (some ⟨p,0,none⟩),.int .i64 most] w
  (fJ w0 p w (DL fD w.heap.size fun xs=>(xs.length:Int)≤most∧∀x∈xs,yP x)):=by
 obtain ⟨i0,hi,hz0,hz1,hz2⟩:=info_parts ZE;have D0:=Dn.start hA;have D1:=D0.alloc (.cells #[] 30);have D2:=D1.alloc (.cells #[.int .i64 2,.int .i64 4,.int .i64 10] 3);have hv0:=PA (e:=30) (sz:=2) (R:=BG) w;have hv1:=xA ((Bw.refl _).alloc (.cells #[.int .i64 2,.int .i64 4,.int .i64 10] 3)) (xB YB) hv0;have hl:=CI (w.alloc (.cells #[] 30)) 2 4 10;have hlt:=hA.lt;have hcall:=QG w0 _ p D2.at' [2,4,10] _ _ hl (by simp;omega) (by decide) (by decide);rw [show (w.alloc (.cells #[] 30)).heap.size=w.heap.size+1 from by simp] at hcall;clear hl hv0;go_enter Tryz.func128,Tryz.ntmps128;go_wp2_with fail;refine hcall.mono ?_;rintro e w1 ⟨v1,rfl,⟨wide,hw,rfl⟩,hO1,hA1⟩;have D3:=D2.call hO1 hA1;have hv2:=D2.keep hO1 (xB YB) hv1 (by simp);have hw2:0<wide∧wide≤10:=by simp at hw;omega
 have hcall2:=pC w0 w1 p hA1 3 (by omega) (by omega);clear hcall hw hv1 D1 D2 hO1;go_wp2_with fail;refine hcall2.mono ?_;rintro e w2 ⟨v2,rfl,⟨id0,rfl,id1,id2⟩,hO2,hA2⟩;have D4:=D3.call hO2 hA2;have hv3:=D3.keep hO2 (xB YB) hv2 (by simp);have hcall3:=pC w0 w2 p hA2 (most+1) (by omega) (by omega);clear hcall2 hv2 D3 hO2;go_wp2_with fail;refine hcall3.mono ?_;rintro e w3 ⟨v3,rfl,⟨N0,rfl,N1,N2⟩,hO3,hA3⟩;have D5:=D4.call hO3 hA3;have hv4:=D4.keep hO3 (xB YB) hv3 (by simp);obtain ⟨N,rfl⟩:∃N:Nat,N0=(N:Int):=⟨N0.toNat,by omega⟩;clear hcall3 hv3 D4 hO3 hA1 hA2;go_wp2;have HN:=Lib.hid N2;have Hid0:=Lib.hid (And.intro id1 id2);clear id1 id2 N1 N2
 go_loopg [5,7,8] N (fun g s t z w'=>∃(k:Nat) (n:Nat) (q:Int) (xs:List gA) (F:List Nat),n=g∧z=.int .i64 n∧t=.int .i64 q∧Hid (k+n=N∧0≤q∧q≤2+2*k∧xs.length=k∧∀x∈xs,yP x)∧fD w' xs [s] F∧pA w.heap.size F∧Dn w0 w p w')
 case atStart=>exact ⟨0,N,id0,[],[w.heap.size],rfl,rfl,rfl,Lib.hid ⟨by omega,by have:=Hid0.out;omega,by have:=Hid0.out;omega,rfl,by simp⟩,hv4,⟨by simp,by simp⟩,D5⟩
 case round=>
  clear hv4 D5 hA3;obtain ⟨k,n,q,xs,F,rfl,rfl,rfl,HI,hv,hF,hD⟩:=hrel;have hk16:k+n≤16:=by have:=HI.out.1;have:=HN.out;omega
  have hq:0≤q∧q≤34:=by have:=HI.out.2;omega
  by_cases hn:0<n
  ·have n1:(0:Int)<(n:Int):=by omega
   have hcall:=iZ w0 wr p hD.at' q wide hw2.1 (by omega);go_wp2_with fail;refine hcall.mono ?_;rintro e w4 ⟨v4,rfl,⟨x,u,F2,rfl,o2,f2,HX⟩,hO4,hA4⟩;have D4:=hD.call hO4 hA4;obtain ⟨A2,n2,c2,rfl,l2,_⟩:=iA (AA o2);have HL2:=Lib.hid l2;have HXX:=Lib.hid HX;have hv4:=hD.keep hO4 (xB YB) hv hF.ge;have hFm:=(xB (sz:=2) (e:=30) (YB (B:=0))).lt hv;have DW:=D4.alloc (.cells #[.int .i64 x.id,.slice A2 n2 c2] 30);have hvW:=xA ((Bw.refl w4).alloc (.cells #[.int .i64 x.id,.slice A2 n2 c2] 30)) (xB YB) hv4;have oW:=xA ((Bw.refl w4).alloc (.cells #[.int .i64 x.id,.slice A2 n2 c2] 30)) aA o2;have hcl:∀j t,[Value.int .i64 x.id,.slice A2 n2 c2][j]? = some t→(w4.alloc (.cells #[.int .i64 x.id,.slice A2 n2 c2] 30)).cell? ((⟨w4.heap.size,0,none⟩:Addr).add j)=some t:=World.news_of_block (cs:=#[.int .i64 x.id,.slice A2 n2 c2]) (t:=30) (fr:=(0,0)) (heap_alloc_new w4 _);have hxl:xs.length=k:=HI.out.2.2.2.1;have HXL:=Lib.hid hxl;have hz1':=DW.size;have hz2':=hD.size;have HF2:=f2;clear hcall l2 HX hv hv4 o2 hxl hO4 hA4;go_wp2_with (at_builtin;refine WD _ rfl (.tmp 23) (.tmp 28) 24 rfl w0 w p DW w.heap.size (Nat.le_refl _) hz1' 30 i0 _ 2 32 Tryz.underlying24 hi hz0 hz1 hz2 rfl (by omega) YB _ xs F rfl hvW hF ⟨w4.heap.size,0,none⟩ 1 rfl x [.int .i64 x.id,.slice A2 n2 c2] F2 hcl ⟨_,rfl,oW⟩ rfl wr.heap.size hFm f2 hz2' (by have:=HXL.out;omega) (by have:=HXL.out;omega) ?_;intro v5 w5 F5 hv5 hF5 hD5 hO5);have hcall5:=pC w0 w5 p hD5.at' 2 (by omega) (by omega)
   go_wp2_with fail;refine hcall5.mono ?_;rintro e w6 ⟨v6,rfl,⟨z6,rfl,z61,z62⟩,hO6,hA6⟩;have D6:=hD5.call hO6 hA6;have hv6:=hD5.keep hO6 (xB YB) hv5 hF5.ge;have HG:=Lib.hid (show yP x from by
    obtain ⟨e1,e2,e3⟩:=HXX.out;exact ⟨by rw [e1];omega,e2,fun y hy=>by have:=e3 y hy;omega⟩)
   have HI2:=HI;obtain ⟨m,rfl⟩:∃m,n=m+1:=⟨n-1,by omega⟩;clear hcall5 hv5 hvW oW hcl hO5 hO6 DW D4;go_wp2
   go_roundg m
   case measure=>omega
   case rel=>exact ⟨k+1,m,q+1+z6,xs++[x],F5,rfl,by go_num,rfl,Lib.hid ⟨by have:=HI.out.1;omega,by omega,by have:=HI.out.2.2.1;omega,by rw [List.length_append,HI.out.2.2.2.1];rfl,fun y hy=>(List.mem_append.1 hy).elim (HI.out.2.2.2.2 y) (fun h=>by rw [List.mem_singleton.1 h];exact HG.out)⟩,hv6,hF5,D6⟩
  ·obtain rfl:n=0:=by omega
   have HR:=Lib.hid (show (xs.length:Int)≤most by have:=HI.out.1;have:=HI.out.2.2.2.1;have:=HN.out;omega);clear hn;go_wp2;go_ret;exact hD.ret ⟨xs,F,hv,hF,HR.out,HI.out.2.2.2.2⟩
end Go.Proofs.YtpihighajaeabaaGreat
namespace Go.Proofs.YtpihighajaeabaaGreat
open Go.RowKit
set_option linter.unusedVariables false
set_option linter.unusedSimpArgs false
def aV (x:lB):Prop:=(-100≤x.fst∧x.fst≤100)∧(-100≤x.snd∧x.snd≤100)
def gAl (x:eB):Prop:=(-100≤x.kind∧x.kind≤100)∧(-100≤x.field∧x.field≤100)∧(-100≤x.value∧x.value≤100)∧(x.list.length≤8∧∀y∈x.list,-100≤y∧y≤100)∧(x.pairs.length≤8∧∀y∈x.pairs,aV y)
set_option maxRecDepth 100000 in
set_option maxHeartbeats 3200000 in
theorem eAb (w0 w:World) (p:Nat) (hA:At w0 p w):Calls Tryz.prog 258 #[.pointer (some ⟨p,0,none⟩)] w
  (fJ w0 p w (DL XF w.heap.size fun xs=>xs.length≤5∧∀x∈xs,aV x)):=by
 obtain ⟨i0,hi,hz0,hz1,hz2⟩:=info_parts tK;have D0:=Dn.start hA;have D1:=D0.alloc (.cells #[] 214);have hv0:=PA (e:=214) (sz:=2) (R:=QQ) w;have hlt:=hA.lt;have hcall:=pC w0 _ p D1.at' 5 (by omega) (by omega);go_enter Tryz.func258,Tryz.ntmps258;go_wp2_with fail;refine hcall.mono ?_;rintro e w1 ⟨v1,rfl,⟨N0,rfl,N1,N2⟩,hO1,hA1⟩;have D2:=D1.call hO1 hA1;have hv1:=D1.keep hO1 zA hv0 (by simp);obtain ⟨N,rfl⟩:∃N:Nat,N0=(N:Int):=⟨N0.toNat,by omega⟩;have HN:=Lib.hid N2;clear hcall hO1 hA1 D1 hv0 N1 N2;go_wp2
 go_loopg [3,4,5,6] N (fun g s z x5 x6 w'=>∃(k:Nat) (n:Nat) (xs:List lB) (F:List Nat),n=g∧z=.int .i64 n∧Hid (k+n=N∧xs.length=k∧∀x∈xs,aV x)∧XF w' xs [s] F∧pA w.heap.size F∧Dn w0 w p w')
 case atStart=>exact ⟨0,N,[],[w.heap.size],rfl,rfl,Lib.hid ⟨by omega,rfl,by simp⟩,hv1,⟨by simp,by simp⟩,D2⟩
 case round=>
  clear hv1 D2;obtain ⟨k,n,xs,F,rfl,rfl,HI,hv,hF,hD⟩:=hrel;have hk16:k+n≤5:=by have:=HI.out.1;have:=HN.out;omega
  by_cases hn:0<n
  ·have n1:(0:Int)<(n:Int):=by omega
   obtain ⟨m,rfl⟩:∃m,n=m+1:=⟨n-1,by omega⟩;have hcall:=pC w0 wr p hD.at' 4 (by omega) (by omega);go_wp2_with fail;refine hcall.mono ?_;rintro e w4 ⟨v4,rfl,⟨a,rfl,a1,a2⟩,hO4,hA4⟩;have D4:=hD.call hO4 hA4;have hv4:=hD.keep hO4 zA hv hF.ge;have hcall:=pC w0 w4 p hA4 3 (by omega) (by omega);clear hv;go_wp2_with fail;refine hcall.mono ?_;rintro e w5 ⟨v5,rfl,⟨b,rfl,b1,b2⟩,hO5,hA5⟩;have D5:=D4.call hO5 hA5;have hv5:=D4.keep hO5 zA hv4 hF.ge;have hcall:=YS w0 w5 p hA5 3 (by omega) (by omega);clear hv4;go_wp2_with fail;refine hcall.mono ?_;rintro e w6 ⟨v6,rfl,⟨q,rfl⟩,hO6,hA6⟩;have D6:=D5.call hO6 hA6;have hv6:=D5.keep hO6 zA hv5 hF.ge;have hFm:=(zA (B:=0)).lt hv6;have hxl:xs.length=k:=HI.out.2.1;have HXL:=Lib.hid hxl;have hz2':=D6.size;clear hv5 hcall hO4 hO5 hO6 hA4 hA5 hA6 D4 D5 hxl;have key:∀y:lB,aV y→Hid (xs++[y]=xs++[y]∧k+1+m=N∧(xs++[y]).length=k+1∧∀x∈xs++[y],aV x):=fun y hy=>Lib.hid ⟨rfl,by have:=HI.out.1;omega,by rw [List.length_append,HXL.out];rfl,fun x hx=>(List.mem_append.1 hx).elim (HI.out.2.2 x) (fun h=>by rw [List.mem_singleton.1 h];exact hy)⟩
   cases q with
   | true=>
    have K:=key ⟨a+1+b,a+1+b+1⟩ ⟨⟨by dsimp only;omega,by dsimp only;omega⟩,⟨by dsimp only;omega,by dsimp only;omega⟩⟩;have DW:=D6.alloc (.cells #[.int .i64 (a+1+b),.int .i64 (a+1+b+1)] 214);have hvW:=xA ((Bw.refl w6).alloc (.cells #[.int .i64 (a+1+b),.int .i64 (a+1+b+1)] 214)) zA hv6;have hcl:∀j t,[Value.int .i64 (a+1+b),.int .i64 (a+1+b+1)][j]? = some t→(w6.alloc (.cells #[.int .i64 (a+1+b),.int .i64 (a+1+b+1)] 214)).cell? ((⟨w6.heap.size,0,none⟩:Addr).add j)=some t:=World.news_of_block (cs:=#[.int .i64 (a+1+b),.int .i64 (a+1+b+1)]) (t:=214) (fr:=(0,0)) (heap_alloc_new w6 _);have hzW:=DW.size;clear key hv6;go_wp2_with (at_builtin;refine WD _ rfl (.tmp 23) (.tmp 28) 107 rfl w0 w p DW w.heap.size (Nat.le_refl _) hzW 214 i0 _ 2 16 Tryz.underlying107 hi hz0 hz1 hz2 rfl (by omega) UE _ xs F rfl hvW hF ⟨w6.heap.size,0,none⟩ 1 rfl ⟨a+1+b,a+1+b+1⟩ [.int .i64 (a+1+b),.int .i64 (a+1+b+1)] [] hcl ⟨rfl,rfl⟩ rfl w6.heap.size hFm pA.nil hz2' (by have:=HXL.out;omega) (by have:=HXL.out;omega) ?_;intro v7 w7 F7 hv7 hF7 hD7 hO7)
    go_roundg m
    case measure=>omega
    case rel=>exact ⟨k+1,m,_,F7,rfl,by go_num,Lib.hid K.out.2,hv7,hF7,hD7⟩
   | false=>
    have K:=key ⟨a,a+1+b⟩ ⟨⟨by dsimp only;omega,by dsimp only;omega⟩,⟨by dsimp only;omega,by dsimp only;omega⟩⟩;have DW:=D6.alloc (.cells #[.int .i64 a,.int .i64 (a+1+b)] 214);have hvW:=xA ((Bw.refl w6).alloc (.cells #[.int .i64 a,.int .i64 (a+1+b)] 214)) zA hv6;have hcl:∀j t,[Value.int .i64 a,.int .i64 (a+1+b)][j]? = some t→(w6.alloc (.cells #[.int .i64 a,.int .i64 (a+1+b)] 214)).cell? ((⟨w6.heap.size,0,none⟩:Addr).add j)=some t:=World.news_of_block (cs:=#[.int .i64 a,.int .i64 (a+1+b)]) (t:=214) (fr:=(0,0)) (heap_alloc_new w6 _);have hzW:=DW.size;clear key hv6;go_wp2_with (at_builtin;refine WD _ rfl (.tmp 30) (.tmp 34) 107 rfl w0 w p DW w.heap.size (Nat.le_refl _) hzW 214 i0 _ 2 16 Tryz.underlying107 hi hz0 hz1 hz2 rfl (by omega) UE _ xs F rfl hvW hF ⟨w6.heap.size,0,none⟩ 1 rfl ⟨a,a+1+b⟩ [.int .i64 a,.int .i64 (a+1+b)] [] hcl ⟨rfl,rfl⟩ rfl w6.heap.size hFm pA.nil hz2' (by have:=HXL.out;omega) (by have:=HXL.out;omega) ?_;intro v7 w7 F7 hv7 hF7 hD7 hO7)
    go_roundg m
    case measure=>omega
    case rel=>exact ⟨k+1,m,_,F7,rfl,by go_num,Lib.hid K.out.2,hv7,hF7,hD7⟩
  ·obtain rfl:n=0:=by omega
   have HR:=Lib.hid (show xs.length≤5 by have:=HI.out.1;have:=HI.out.2.1;have:=HN.out;omega);clear hn;go_wp2;go_ret;exact hD.ret ⟨xs,F,hv,hF,HR.out,HI.out.2.2⟩
def cK (B:Nat) (Q:eB→Prop) (W:World) (v:Value):Prop:=∃x u t F G,v=.agg #[.int .i64 x.kind,.int .i64 x.field,.int .i64 x.value,u,t]∧ZA W x.list [u] F∧XF W x.pairs [t] G∧pA B (F++G)∧Q x
theorem cK.mk {B:Nat} {Q:eB→Prop} {W:World} {kd fd va:Int} {l:List Int} {ps:List lB} {u t:Value} {F G:List Nat} (h1:ZA W l [u] F) (h2:XF W ps [t] G) (h3:pA B (F++G)) (h4:Q ⟨kd,fd,va,l,ps⟩):cK B Q W (.agg #[.int .i64 kd,.int .i64 fd,.int .i64 va,u,t]):=⟨⟨kd,fd,va,l,ps⟩,u,t,F,G,rfl,h1,h2,h3,h4⟩
def jA5 (W:World) (b:Nat) (a0 a1 a2 a3 a4:Value):World:=((((W.setCell ⟨b,0,none⟩ a0).setCell ⟨b,1,none⟩ a1).setCell ⟨b,2,none⟩ a2).setCell ⟨b,3,none⟩ a3).setCell ⟨b,4,none⟩ a4
theorem Dn.set5 {w0 w W:World} {p b:Nat} {a0 a1 a2 a3 a4:Value} (h:Dn w0 w p W) (hb:w.heap.size≤b):Dn w0 w p (jA5 W b a0 a1 a2 a3 a4):=((((h.set hb _).set hb _).set hb _).set hb _).set hb _
theorem gE {W:World} {b:Nat} {a0 a1 a2 a3 a4:Value} {α:Type} {R:Fp α} (hR:VB 0 R) {x:α} {cs:List Value} {F:List Nat} (hx:R W x cs F) (hF:b∉F):R (jA5 W b a0 a1 a2 a3 a4) x cs F:=QA hR (QA hR (QA hR (QA hR (QA hR hx hF) hF) hF) hF) hF
set_option maxRecDepth 100000 in
set_option maxHeartbeats 6400000 in
theorem aT (w0 w:World) (p:Nat) (hA:At w0 p w):Calls Tryz.prog 203 #[.pointer (some ⟨p,0,none⟩)] w
  (fJ w0 p w (cK w.heap.size gAl)):=by
 obtain ⟨i0,hi,hz0,hz1,hz2⟩:=info_parts PC;have D0:=Dn.start hA;have D1:=D0.alloc (.cells #[.int .i64 0,.int .i64 0,.int .i64 0,.slice none 0 0,.slice none 0 0] 109);have bR:=Box.new w #[.int .i64 0,.int .i64 0,.int .i64 0,.slice none 0 0,.slice none 0 0] 109;have hlt:=hA.lt;have hcall:=pC w0 _ p D1.at' 5 (by omega) (by omega);go_enter Tryz.func203,Tryz.ntmps203;go_wp2_with fail;refine hcall.mono ?_;rintro e w1 ⟨v1,rfl,⟨kd,rfl,k1,k2⟩,hO1,hA1⟩;have D2:=D1.call hO1 hA1;replace bR:=bR.only hO1 (by simp;omega);have hcall:=pC w0 _ p hA1 3 (by omega) (by omega);go_wp2_with fail;refine hcall.mono ?_;rintro e w2 ⟨v2,rfl,⟨fd,rfl,f1,f2⟩,hO2,hA2⟩;have D3:=D2.call hO2 hA2;replace bR:=bR.only hO2 (by simp;omega);have D4:=D3.alloc (.cells #[.int .i64 kd,.int .i64 fd,.int .i64 0,.slice none 0 0,.slice none 0 0] 109);have bX:=Box.new w2 #[.int .i64 kd,.int .i64 fd,.int .i64 0,.slice none 0 0,.slice none 0 0] 109;replace bR:=bR.bw ((Bw.refl w2).alloc (.cells #[.int .i64 kd,.int .i64 fd,.int .i64 0,.slice none 0 0,.slice none 0 0] 109));obtain ⟨b,hb⟩:∃b,b=w2.heap.size:=⟨_,rfl⟩;obtain ⟨W,hW⟩:∃W,W=w2.alloc (.cells #[.int .i64 kd,.int .i64 fd,.int .i64 0,.slice none 0 0,.slice none 0 0] 109):=⟨_,rfl⟩;have hbw:w.heap.size<b:=by have:=D3.size;have:=(Bw.refl w).alloc (.cells #[] 3);have h2:=hO2.1;have h1:=hO1.1;simp at h1;omega
 have hnil:=WC (e:=3) (sz:=1) (R:=RG) W;have hnip:=WC (e:=214) (sz:=2) (R:=QQ) W;rw [← hW] at D4 bX bR;rw [← hb] at bX;have HW:=Lib.hid hW;have HB:=Lib.hid hb;clear hcall hW hb D1 D2 D3 hO1 hO2 hA1 hA2;have x0:=bX.c 0 _ rfl;have x1:=bX.c 1 _ rfl;have x2:=bX.c 2 _ rfl;have x3:=bX.c 3 _ rfl;have x4:=bX.c 4 _ rfl;have xf:=bX.fr;have r0:=bR.c 0 _ rfl;have r1:=bR.c 1 _ rfl;have r2:=bR.c 2 _ rfl;have r3:=bR.c 3 _ rfl;have r4:=bR.c 4 _ rfl;have rf:=bR.fr;have hne1:b≠w.heap.size:=by omega
 have hne2:w.heap.size≠b:=by omega
 by_cases h2:kd=2
 ·subst h2;have hcall:=pC w0 _ p D4.at' 5 (by omega) (by omega);clear x0 x1 x2 x3 x4 xf;clear r0 r1 r2 r3 r4 rf;go_wp2_with fail;rw [← HB.out,← HW.out];refine hcall.mono ?_;rintro e w5 ⟨v5,rfl,⟨z,rfl,z1,z2⟩,hO5,hA5⟩;have D5:=D4.call hO5 hA5;have bX5:=bX.only hO5 (by simp;omega);have bR5:=bR.only hO5 (by simp;omega);have n5:=D4.keep hO5 (xB nB) hnil (by simp);have m5:=D4.keep hO5 (xB UE) hnip (by simp);have x0:=bX5.c 0 _ rfl;have x1:=bX5.c 1 _ rfl;have x2:=bX5.c 2 _ rfl;have x3:=bX5.c 3 _ rfl;have x4:=bX5.c 4 _ rfl;have xf:=bX5.fr;have r0:=bR5.c 0 _ rfl;have r1:=bR5.c 1 _ rfl;have r2:=bR5.c 2 _ rfl;have r3:=bR5.c 3 _ rfl;have r4:=bR5.c 4 _ rfl;have rf:=bR5.fr;clear hcall bX bR hnil hnip hO5 hA5 D4;go_wp2;refine bodyPost_ret (v:=.agg #[.int .i64 2,.int .i64 fd,.int .i64 z,.slice none 0 0,.slice none 0 0]) (by simp [results,Tryz.results203,go_sem,r0,r1,r2,r3,r4,hne1,hne2]) rfl ?_;exact ((D5.set (by omega) _).set5 (Nat.le_refl _)).ret (cK.mk (gE aA (QA aA n5 (by simp)) (by simp)) (gE zA (QA zA m5 (by simp)) (by simp)) ⟨by simp,by simp⟩ ⟨by dsimp only;omega,by dsimp only;omega,by dsimp only;omega,⟨by simp,by simp⟩,⟨by simp,by simp⟩⟩)
 ·by_cases h4:kd=4
  ·subst h4;have hcall:=eAb w0 _ p D4.at';clear x0 x1 x2 x3 x4 xf;clear r0 r1 r2 r3 r4 rf;go_wp2_with fail;rw [← HB.out,← HW.out];refine hcall.mono ?_;rintro e w5 ⟨v5,rfl,⟨xs,F,hv,hF,hx5,hxg⟩,hO5,hA5⟩;obtain ⟨A,n,c,rfl,l1,l2,l3⟩:=iA (TC hv);have HL:=Lib.hid l1;have HXG:=Lib.hid (And.intro hx5 hxg);have D5:=D4.call hO5 hA5;have bX5:=bX.only hO5 (by simp;omega);have bR5:=bR.only hO5 (by simp;omega);have n5:=D4.keep hO5 (xB nB) hnil (by simp);have hFW:∀c∈F,w.heap.size<c∧b≠c:=fun c hc=>by have:=hF.ge c hc;have:=bX.lt;omega
   have x0:=bX5.c 0 _ rfl;have x1:=bX5.c 1 _ rfl;have x2:=bX5.c 2 _ rfl;have x3:=bX5.c 3 _ rfl;have x4:=bX5.c 4 _ rfl;have xf:=bX5.fr;have r0:=bR5.c 0 _ rfl;have r1:=bR5.c 1 _ rfl;have r2:=bR5.c 2 _ rfl;have r3:=bR5.c 3 _ rfl;have r4:=bR5.c 4 _ rfl;have rf:=bR5.fr;have hbR:=bR.lt;clear hcall bX bR hnil hnip hO5 hA5 D4 l1 l2 l3 hx5 hxg;go_wp2;refine bodyPost_ret (v:=.agg #[.int .i64 4,.int .i64 fd,.int .i64 0,.slice none 0 0,.slice A n c]) (by simp [results,Tryz.results203,go_sem,r0,r1,r2,r3,r4,hne1,hne2]) rfl ?_;exact ((D5.set (by omega) _).set5 (Nat.le_refl _)).ret (cK.mk (gE aA (QA aA n5 (by simp)) (by simp)) (gE zA (QA zA hv (fun h=>(hFW _ h).2 rfl)) (fun h=>by have:=(hFW _ h).1;omega)) ⟨by simpa using hF.nodup,fun c hc=>by have:=hF.ge c (by simpa using hc);omega⟩ ⟨by dsimp only;omega,by dsimp only;omega,by dsimp only;omega,⟨by simp,by simp⟩,⟨by have:=HXG.out.1;dsimp only;omega,HXG.out.2⟩⟩)
  ·by_cases h3:kd=3
   ·subst h3;have hcall:=pC w0 _ p D4.at' 2 (by omega) (by omega);clear x0 x1 x2 x3 x4 xf;clear r0 r1 r2 r3 r4 rf;go_wp2_with fail;rw [← HB.out,← HW.out];refine hcall.mono ?_;rintro e w5 ⟨v5,rfl,⟨q,rfl,q1,q2⟩,hO5,hA5⟩;have D5:=D4.call hO5 hA5;have bX5:=bX.only hO5 (by simp;omega);have bR5:=bR.only hO5 (by simp;omega);have n5:=D4.keep hO5 (xB nB) hnil (by simp);have hcall:=pC w0 _ p hA5 3 (by omega) (by omega);have hbW:=bX.lt;clear bX bR hnil hnip hO5 D4;go_wp2_with fail;refine hcall.mono ?_;rintro e w6 ⟨v6,rfl,⟨N0,rfl,N1,N2⟩,hO6,hA6⟩;have D6:=D5.call hO6 hA6;have bX6:=bX5.only hO6 (by simp;omega);have bR6:=bR5.only hO6 (by simp;omega);have n6:=D5.keep hO6 aA n5 (by simp);obtain ⟨N,rfl⟩:∃N:Nat,N0=(N:Int):=⟨N0.toNat,by omega⟩;have HN:=Lib.hid N2;have HQ:=Lib.hid (And.intro q1 q2);clear hcall bX5 bR5 n5 hO6 hA5 hA6 D5 q1 q2;go_wp2;clear N1 N2
    go_loopg [4,5] (N+1) (fun g t z w'=>∃(k n:Nat) (q:Int) (xs:List Int) (v:Value) (F:List Nat),n=g∧z=.int .i64 n∧t=.int .i64 q∧Hid (k+n=N+1∧0≤q∧q≤2+2*k∧xs.length=k∧∀x∈xs,-100≤x∧x≤100)∧ZA w' xs [v] F∧pA (b+1) F∧Dn w0 w p w'∧Box w' b [.int .i64 3,.int .i64 fd,.int .i64 0,v,.slice none 0 0]∧Box w' w.heap.size [.int .i64 0,.int .i64 0,.int .i64 0,.slice none 0 0,.slice none 0 0])
    case atStart=>exact ⟨0,N+1,q,[],.slice none 0 0,[],rfl,by go_num,rfl,Lib.hid ⟨by omega,by have:=HQ.out;omega,by have:=HQ.out;omega,rfl,by simp⟩,n6,pA.nil,D6,bX6,bR6⟩
    case round=>
     clear n6 D6 bX6 bR6;obtain ⟨k,n,q,xs,v,F,rfl,rfl,rfl,HI,hv,hF,hD,bX,bR⟩:=hrel;have hk4:k+n≤3:=by have:=HI.out.1;have:=HN.out;omega
     have hq:0≤q∧q≤8:=by have:=HI.out.2;omega
     obtain ⟨A,L,c,rfl,l1,l2,l3⟩:=iA (AA hv);have HL:=Lib.hid l1;clear l1 l2 l3;by_cases hn:0<n
     ·have n1:(0:Int)<(n:Int):=by omega
      obtain ⟨m,rfl⟩:∃m,n=m+1:=⟨n-1,by omega⟩;have hFm:=(aA (B:=0)).lt hv;have hAl:=(Bw.refl wr).alloc (.cells #[.int .i64 q] 3);have DW:=hD.bw hAl;have hvW:=xA hAl aA hv;have bXW:=bX.bw hAl;have bRW:=bR.bw hAl;have hcl:=cell_one_new wr (.int .i64 q) 3;have hzW:=bXW.lt;have hz:=bX.lt;have hxl:xs.length=k:=HI.out.2.2.2.1;have HXL:=Lib.hid hxl;have x0:=bX.c 0 _ rfl;have x1:=bX.c 1 _ rfl;have x2:=bX.c 2 _ rfl;have x3:=bX.c 3 _ rfl;have x4:=bX.c 4 _ rfl;have xf:=bX.fr;have y0:=bXW.c 0 _ rfl;have y1:=bXW.c 1 _ rfl;have y2:=bXW.c 2 _ rfl;have y3:=bXW.c 3 _ rfl;have y4:=bXW.c 4 _ rfl;have yf:=bXW.fr;clear hv hxl bX bR;go_wp2_with (at_builtin;refine WD _ rfl (.tmp 30) (.tmp 32) 26 rfl w0 w p DW (b+1) (by omega) hzW 3 i0 _ 1 8 Tryz.underlying26 hi hz0 hz1 hz2 rfl (by omega) nB _ xs F rfl hvW hF ⟨wr.heap.size,0,none⟩ 1 rfl q [.int .i64 q] [] hcl ⟨rfl,rfl⟩ rfl wr.heap.size hFm pA.nil hz (by have:=HXL.out;omega) (by have:=HXL.out;omega) ?_;intro v7 w7 F7 hv7 hF7 hD7 hO7;obtain ⟨A7,n7,c7,rfl,l7,_⟩:=iA (AA hv7);replace l7:=Lib.hid l7;have bX7:=bXW.only hO7 (fun h=>by have:=hF.ge _ h;omega);have bR7:=bRW.only hO7 (fun h=>by have:=hF.ge _ h;omega);have u0:=bX7.c 0 _ rfl;have u1:=bX7.c 1 _ rfl;have u2:=bX7.c 2 _ rfl;have u3:=bX7.c 3 _ rfl;have u4:=bX7.c 4 _ rfl;have uf:=bX7.fr);obtain ⟨V,hV⟩:∃V,V=w7.setCell ⟨b,3,none⟩ (.slice A7 n7 c7):=⟨_,rfl⟩;have D8:Dn w0 w p V:=by rw [hV];exact hD7.set (by omega) _
      have v8:ZA V (xs++[q]) [.slice A7 n7 c7] F7:=by rw [hV];exact QA aA hv7 (fun h=>by have:=hF7.ge _ h;omega)
      have bX8:Box V b [.int .i64 3,.int .i64 fd,.int .i64 0,.slice A7 n7 c7,.slice none 0 0]:=by rw [hV];exact bX7.set (by simp) _
      have bR8:Box V w.heap.size [.int .i64 0,.int .i64 0,.int .i64 0,.slice none 0 0,.slice none 0 0]:=by rw [hV];exact bR7.only (KA _ _ _ _) (by simp;omega)
      have HV:=Lib.hid hV;have hcall:=pC w0 V p D8.at' 2 (by omega) (by omega);clear hV hv7 bX7 bR7 u0 u1 u2 u3 u4 uf x0 x1 x2 x3 x4 xf y0 y1 y2 y3 y4 yf bXW bRW hvW DW hD7 hO7 hcl hAl;go_wp2_with fail;rw [← HV.out];refine hcall.mono ?_;rintro e w9 ⟨v9,rfl,⟨z,rfl,z1,z2⟩,hO9,hA9⟩;have D9:=D8.call hO9 hA9;have v10:=D8.keep hO9 aA v8 (fun c hc=>by have:=hF7.ge c hc;omega);have hltp:=D8.lt;have bX9:=bX8.only hO9 (by simp;omega);have bR9:=bR8.only hO9 (by simp;omega);clear hcall v8 bX8 bR8 hO9 D8;go_wp2
      go_roundg m
      case measure=>omega
      case rel=>exact ⟨k+1,m,q+1+z,xs++[q],_,F7,rfl,by go_num,rfl,Lib.hid ⟨by have:=HI.out.1;omega,by omega,by have:=HI.out.2.2.1;omega,by rw [List.length_append,HXL.out];rfl,fun y hy=>(List.mem_append.1 hy).elim (HI.out.2.2.2.2 y) (fun h=>by rw [List.mem_singleton.1 h];omega)⟩,v10,hF7,D9,bX9,bR9⟩
     ·obtain rfl:n=0:=by omega
      have x0:=bX.c 0 _ rfl;have x1:=bX.c 1 _ rfl;have x2:=bX.c 2 _ rfl;have x3:=bX.c 3 _ rfl;have x4:=bX.c 4 _ rfl;have xf:=bX.fr;have r0:=bR.c 0 _ rfl;have r1:=bR.c 1 _ rfl;have r2:=bR.c 2 _ rfl;have r3:=bR.c 3 _ rfl;have r4:=bR.c 4 _ rfl;have rf:=bR.fr;clear hn;go_wp2;refine bodyPost_ret (v:=.agg #[.int .i64 3,.int .i64 fd,.int .i64 0,.slice A L c,.slice none 0 0]) (by simp [results,Tryz.results203,go_sem,r0,r1,r2,r3,r4,hne1,hne2]) rfl ?_;exact (hD.set5 (Nat.le_refl _)).ret (cK.mk (gE aA hv (fun h=>by have:=hF.ge _ h;omega)) (WC _) ⟨by simpa using hF.nodup,fun c hc=>by have:=hF.ge c (by simpa using hc);omega⟩ ⟨by dsimp only;omega,by dsimp only;omega,by dsimp only;omega,⟨by have:=HI.out.2.2.2.1;dsimp only;omega,HI.out.2.2.2.2⟩,⟨by simp,by simp⟩⟩)
   ·have e2:(kd==2)=false:=by simpa using h2
    have e3:(kd==3)=false:=by simpa using h3
    have e4:(kd==4)=false:=by simpa using h4
    have hD:=D4;rw [HW.out] at r0 r1 r2 r3 r4 hD;simp only [HW.out] at rf;have hne3:w2.heap.size≠w.heap.size:=by rw [← HB.out];exact hne1
    clear h2 h3 h4 x0 x1 x2 x3 x4 xf;go_wp2;refine bodyPost_ret (v:=.agg #[.int .i64 kd,.int .i64 fd,.int .i64 0,.slice none 0 0,.slice none 0 0]) (by simp [results,Tryz.results203,go_sem,r0,r1,r2,r3,r4,hne3]) rfl ?_;exact (hD.set5 (Nat.le_refl _)).ret (cK.mk (WC _) (WC _) ⟨by simp,by simp⟩ ⟨by dsimp only;omega,by dsimp only;omega,by dsimp only;omega,⟨by simp,by simp⟩,⟨by simp,by simp⟩⟩)
end Go.Proofs.YtpihighajaeabaaGreat
