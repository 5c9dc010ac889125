/- The places of the missing values, in both programs. -/
import Derived.Test.YtpihighajaeabaaGreatQDrawE
import Derived.Test.YtpihighajaeabaaGreatQApply
import Derived.Deep.RegionLaw
import Derived.Test.YtpihighajaeabaaGreatQCopies
import Derived.Test.YtpihighajaeabaaGreatQDelS2
import Derived.Deep.LoopGhost
namespace Go.Proofs.YtpihighajaeabaaGreat
open Go.RowKit
set_option linter.unusedVariables false
set_option linter.unusedSimpArgs false
theorem bT {α:Type} {P:Program} {ops:Array Oper} {rest:List Oper} {o:Oper} {a:Act} {Q:Exit→Act→World→Prop} (W:World) (hgd:o.guard=none) (s x:Operand) (t:TypeId)
  (ho:o.op=.call { callee:=.builtin .append,args:=#[s,x],argTypes:=#[t,t] })
  (w0 w:World) (p:Nat) (hD:Dn w0 w p W) (B:Nat) (hB:w.heap.size≤B) (hBW:B≤W.heap.size) (e:TypeId) (i:TypeInfo) (z:Value) (sz bytes:Nat) (ht:P.underlying t=some (.slice e)) (hi:P.info? e=some i) (hz:i.zero=some z)
  (hsize:i.size=sz) (hby:i.bytes=bytes) (hzs:z.cells.size=sz) (hsz:0<sz)
  {R:Fp α} (hR:VB 0 R) (v:Value) (xs:List α) (F:List Nat) (hs:a.eval s=v) (hv:fSl e sz R W xs [v] F) (hF:pA B F)
  (sv:Value) (hx:a.eval x=sv) (ys:List α) (G:List Nat) (hw:fSl e sz R W ys [sv] G) (m:Nat) (hFm:∀b∈F,b<m) (hG:pA m G) (hm:B≤m)
  (hbytes:(xs.length+ys.length)*bytes≤140737488355328) (hlen:xs.length+ys.length<4611686018427387904)
  (h:∀v' w' F',fSl e sz R w' (xs++ys) [v'] F'→pA B F'→Dn w0 w p w'→SB F W w'→wpList P ops Q rest (a.put o.dst v') w'):wpList P ops Q (o::rest) a W:=by
 have hle:=hD.le;refine qO W hgd s x t ho w0 e i z sz bytes ht hi hz hsize hby hzs hsz (hR.mono (Nat.zero_le _)) v xs F hs hv (hF.mono (by omega)) sv hx ys G hw m hFm hG (by omega) hbytes hlen hD.at'.bw ?_;intro v' w' F' hv' hF' hb' hO' h5;exact h v' w' F' hv' ⟨hF'.nodup,fun b hb=>(h5 b hb).elim (hF.ge b) (fun h=>h.elim (fun h=>Nat.le_trans hm (hG.ge b h)) (fun h=>Nat.le_trans hBW h))⟩ (hD.next hO' (fun b hb=>Nat.le_trans hB (hF.ge b hb)) hb') hO'
def ML (x:eB):Prop:=(-100≤x.kind∧x.kind≤100)∧(-100≤x.field∧x.field≤100)∧(-100≤x.value∧x.value≤100)∧(x.list.length≤9∧∀y∈x.list,-100≤y∧y≤100)∧(x.pairs.length≤8∧∀y∈x.pairs,aV y)
theorem gAl.a {x:eB} (h:gAl x):ML x:=⟨h.1,h.2.1,h.2.2.1,⟨by have:=h.2.2.2.1.1;omega,h.2.2.2.1.2⟩,h.2.2.2.2⟩
def bV (x:kA):Prop:=(-100≤x.op∧x.op≤100)∧ML x.wish
theorem jZ {n:Int} (h1 : -100≤n) (h2:n≤100):bV ⟨n,⟨0,0,0,[],[]⟩⟩:=⟨⟨h1,h2⟩,⟨by dsimp only;omega,by dsimp only;omega⟩,⟨by dsimp only;omega,by dsimp only;omega⟩,⟨by dsimp only;omega,by dsimp only;omega⟩,⟨by simp,by simp⟩,⟨by simp,by simp⟩⟩
theorem xN {x:eB} (h:ML x):bV ⟨0,x⟩:=⟨⟨by dsimp only;omega,by dsimp only;omega⟩,h⟩
theorem zP (w:World) (n:Int):nL w ⟨n,⟨0,0,0,[],[]⟩⟩ [.int .i64 n,.int .i64 0,.int .i64 0,.int .i64 0,.slice none 0 0,.slice none 0 0] []:=
 ⟨_,rfl,_,_,[],[],rfl,WC _,WC _,rfl⟩
theorem yN {w:World} {kd fd va:Int} {l:List Int} {ps:List lB} {u t:Value} {F G:List Nat} (h1:ZA w l [u] F) (h2:XF w ps [t] G) (n:Int):nL w ⟨n,⟨kd,fd,va,l,ps⟩⟩ [.int .i64 n,.int .i64 kd,.int .i64 fd,.int .i64 va,u,t] (F++G):=
 ⟨_,rfl,_,_,F,G,rfl,h1,h2,rfl⟩
theorem cT {w W:World} {x:kA} {a0 a1 a2 a3 a4 a5:Value} {F:List Nat} (hW:W=w.alloc (.cells #[a0,a1,a2,a3,a4,a5] 111)) (h:nL w x [a0,a1,a2,a3,a4,a5] F):EC W [x] [.slice (some ⟨w.heap.size,0,none⟩) 1 1] (w.heap.size::F):=by
 subst hW;have h1:=xA ((Bw.refl w).alloc (.cells #[a0,a1,a2,a3,a4,a5] 111)) ZC h;refine ⟨_,[[a0,a1,a2,a3,a4,a5]],[F],rfl,?_,⟨⟨h1,rfl⟩,trivial⟩,by simp [Value.ownBlock]⟩;have hone:=(ZC (B:=0)).one h;exact World.ownsRow_lit w #[a0,a1,a2,a3,a4,a5] 1 (Nat.zero_le _) (by simp [maxLen]) (by
  have e:=fun u hu=>hone u hu
  simp only [List.mem_cons,List.not_mem_nil,or_false,forall_eq_or_imp,forall_eq] at e;simp [e])
theorem dV {w:World} {B:Nat} {F:List Nat} (hF:pA B F) (hlt:∀b∈F,b<w.heap.size) (hB:B≤w.heap.size):pA B (w.heap.size::F):=
 ⟨List.nodup_cons.2 ⟨fun h=>by have:=hlt _ h;omega,hF.nodup⟩,fun b hb=>(List.mem_cons.1 hb).elim (fun e=>by omega) (hF.ge b)⟩
def nd:Nat→Nat
 | 0=>1
 | d+1=>2*nd d+1
theorem jA6 {d:Nat} (h:d≤2):nd d≤7:=by
 match d,h with
 | 0,_=>decide
 | 1,_=>decide
 | 2,_=>decide
set_option maxRecDepth 100000 in
set_option maxHeartbeats 6400000 in
theorem kZ:∀(d:Nat),d≤2→∀(w0 w:World) (p:Nat) (k:Int),Hid (k=(d:Int))→At w0 p w→Calls Tryz.prog 202 #[.pointer (some ⟨p,0,none⟩),.int .i64 k] w
  (fJ w0 p w (DL EC w.heap.size fun xs=>0<xs.length∧xs.length≤nd d∧∀x∈xs,bV x))
 | 0,_,w0,w,p,k,HK,hA=>by
  obtain rfl:k=0:=by simpa using HK.out
  have D0:=Dn.start hA;have hcall:=True.intro;go_enter Tryz.func202,Tryz.ntmps202;clear hcall;have hcall:=aT w0 w p hA;go_wp2_with fail;refine hcall.mono ?_;rintro e w9 ⟨v9,rfl,⟨⟨kd,fd,va,l,ps⟩,u,t,F,G,rfl,o1,o2,hF,hx⟩,hO9,hA9⟩;have D9:=D0.call hO9 hA9;have hz9:=D0.size;obtain ⟨Al,nl,cl,rfl,l1,_⟩:=iA (AA o1);obtain ⟨Ap,np,cp,rfl,l2,_⟩:=iA (TC o2);have HX:=Lib.hid hx;have hFlt:∀b∈F++G,b<w9.heap.size:=fun b hb=>(List.mem_append.1 hb).elim ((aA (B:=0)).lt o1 b) ((zA (B:=0)).lt o2 b)
  have hres:=cT rfl (yN o1 o2 0 (kd:=kd) (fd:=fd) (va:=va));have hfr:=dV (w:=w9) (hF.mono hz9) hFlt (by have:=D9.size;omega);clear hcall l1 l2 hx;go_wp2;go_ret;exact (D9.alloc _).ret ⟨_,_,hres,hfr,by simp,by simp [nd],fun y hy=>by rw [List.mem_singleton.1 hy];exact xN HX.out.a⟩
 | d+1,hd,w0,w,p,k,HK,hA=>by
  have ih:=kZ d (by omega);have hnd:=jA6 (d:=d) (by omega);obtain ⟨i0,hi,hz0,hz1,hz2⟩:=info_parts AH;have k1:1≤k:=by have:=HK.out;omega
  have k2:k≤2:=by have:=HK.out;omega
  have k0:(k==0)=false:=by simp;omega
  have HK1:Hid (k-1=(d:Int)):=Lib.hid (by have:=HK.out;omega);have D0:=Dn.start hA;have hcall:=YS w0 w p hA 3 (by omega) (by omega);go_enter Tryz.func202,Tryz.ntmps202;go_wp2_with fail;refine hcall.mono ?_;rintro e w1 ⟨v1,rfl,⟨q,rfl⟩,hO1,hA1⟩;have D1:=D0.call hO1 hA1
  cases q with
  | true=>
   clear hcall;have hcall:=aT w0 w1 p hA1;go_wp2_with fail;refine hcall.mono ?_;rintro e w9 ⟨v9,rfl,⟨⟨kd,fd,va,l,ps⟩,u,t,F,G,rfl,o1,o2,hF,hx⟩,hO9,hA9⟩;have D9:=D1.call hO9 hA9;have hz9:=D1.size;obtain ⟨Al,nl,cl,rfl,l1,_⟩:=iA (AA o1);obtain ⟨Ap,np,cp,rfl,l2,_⟩:=iA (TC o2);have HX:=Lib.hid hx;have hFlt:∀b∈F++G,b<w9.heap.size:=fun b hb=>(List.mem_append.1 hb).elim ((aA (B:=0)).lt o1 b) ((zA (B:=0)).lt o2 b)
   have hres:=cT rfl (yN o1 o2 0 (kd:=kd) (fd:=fd) (va:=va));have hfr:=dV (w:=w9) (hF.mono hz9) hFlt (by have:=D9.size;omega);clear hcall l1 l2 hx;go_wp2;go_ret;exact (D9.alloc _).ret ⟨_,_,hres,hfr,by simp,by simp [nd],fun y hy=>by rw [List.mem_singleton.1 hy];exact xN HX.out.a⟩
  | false=>
   clear hcall;have hcall:=pC w0 w1 p hA1 4 (by omega) (by omega);go_wp2_with fail;refine hcall.mono ?_;rintro e w2 ⟨v2,rfl,⟨z,rfl,z1,z2⟩,hO2,hA2⟩;have D2:=D1.call hO2 hA2;clear hcall;have hcall:=ih w0 w2 p (k-1) HK1 hA2;have HG:=Lib.hid (jZ (n:=1+z) (by omega) (by omega));by_cases h3:z=2
   ·have e3:(1+z==3)=true:=by simp;omega
    have HZ:=Lib.hid h3;clear h3;go_wp2_with fail;refine hcall.mono ?_;rintro e w3 ⟨v3,rfl,⟨xs,F,hv,hF,hx⟩,hO3,hA3⟩;have D3:=D2.call hO3 hA3;have HX:=Lib.hid hx;have hxl:=hx.2.1;have hs2:=D2.size;obtain ⟨Ax,nx,cx,rfl,lx,_⟩:=iA (lC hv);have hFm:=(nA (B:=0)).lt hv;have DW:=D3.alloc (.cells #[.int .i64 (1+z),.int .i64 0,.int .i64 0,.int .i64 0,.slice none 0 0,.slice none 0 0] 111);have hvW:=xA ((Bw.refl w3).alloc (.cells #[.int .i64 (1+z),.int .i64 0,.int .i64 0,.int .i64 0,.slice none 0 0,.slice none 0 0] 111)) nA hv;have hcl:∀j t,[Value.int .i64 (1+z),.int .i64 0,.int .i64 0,.int .i64 0,.slice none 0 0,.slice none 0 0][j]? = some t→(w3.alloc (.cells #[.int .i64 (1+z),.int .i64 0,.int .i64 0,.int .i64 0,.slice none 0 0,.slice none 0 0] 111)).cell? ((⟨w3.heap.size,0,none⟩:Addr).add j)=some t:=World.news_of_block (cs:=#[.int .i64 (1+z),.int .i64 0,.int .i64 0,.int .i64 0,.slice none 0 0,.slice none 0 0]) (t:=111) (fr:=(0,0)) (heap_alloc_new w3 _);have hzW:=DW.size;have HFG:=Lib.hid (hF.mono hs2);have hzz:=D3.size;have HL:=Lib.hid hxl;clear hcall hx lx hxl hv;go_wp2_with (at_builtin;refine WD _ rfl (.tmp 27) (.tmp 30) 25 rfl w0 w p DW w.heap.size (Nat.le_refl _) hzW 111 i0 _ 6 80 Tryz.underlying25 hi hz0 hz1 hz2 rfl (by omega) ZC _ xs F rfl hvW HFG.out ⟨w3.heap.size,0,none⟩ 1 rfl ⟨1+z,⟨0,0,0,[],[]⟩⟩ [.int .i64 (1+z),.int .i64 0,.int .i64 0,.int .i64 0,.slice none 0 0,.slice none 0 0] [] hcl (zP _ _) rfl w3.heap.size hFm pA.nil hzz (by have:=HL.out;omega) (by have:=HL.out;omega) ?_;intro v7 w7 F7 hv7 hF7 hD7 hO7)
    go_ret;exact hD7.ret ⟨_,F7,hv7,hF7,(by rw [List.length_append,List.length_singleton];omega),by have:=HL.out;rw [show nd (d+1)=2*nd d+1 from rfl,List.length_append,List.length_singleton];omega,fun y hy=>(List.mem_append.1 hy).elim (HX.out.2.2 y) (fun h=>by rw [List.mem_singleton.1 h];exact HG.out)⟩
   ·have e3:(1+z==3)=false:=by simp;omega
    have HZ:=Lib.hid h3;clear h3;go_wp2_with fail;refine hcall.mono ?_;rintro e w3 ⟨v3,rfl,⟨xs,F,hv,hF,hx⟩,hO3,hA3⟩;have D3:=D2.call hO3 hA3;have HX:=Lib.hid hx;have hxl:=hx.2.1;have hs2:=D2.size;obtain ⟨Ax,nx,cx,rfl,lx,_⟩:=iA (lC hv);have hFm:=(nA (B:=0)).lt hv;clear hcall;have hcall:=ih w0 w3 p (k-1) HK1 hA3;have HFG:=Lib.hid (hF.mono hs2);have HL:=Lib.hid hxl;have hzz:=D3.size;clear hx lx hxl;go_wp2_with fail;refine hcall.mono ?_;rintro e w4 ⟨v4,rfl,⟨ys,G,hy,hG,hyx⟩,hO4,hA4⟩;have D4:=D3.call hO4 hA4;have hv4:=D3.keep hO4 nA hv HFG.out.ge;have HY:=Lib.hid hyx;have hyl:=hyx.2.1;obtain ⟨Ay,ny,cy,rfl,ly,_⟩:=iA (lC hy);have HLY:=Lib.hid hyl;have hzW:=D4.size;clear hcall hyx ly hyl hv;go_wp2_with (first | (at_builtin;refine bT _ rfl (.tmp 36) (.tmp 40) 25 rfl w0 w p D4 w.heap.size (Nat.le_refl _) hzW 111 i0 _ 6 80 Tryz.underlying25 hi hz0 hz1 hz2 rfl (by omega) ZC _ xs F rfl hv4 HFG.out _ rfl ys G hy w3.heap.size hFm hG hzz (by have:=HL.out;have:=HLY.out;omega) (by have:=HL.out;have:=HLY.out;omega) ?_;intro v5 w5 F5 hv5 hF5 hD5 hO5;obtain ⟨A5,n5,c5,rfl,l5,_⟩:=iA (lC hv5);replace l5:=Lib.hid l5;have hFm5:=(nA (B:=0)).lt hv5;have DW:=hD5.alloc (.cells #[.int .i64 (1+z),.int .i64 0,.int .i64 0,.int .i64 0,.slice none 0 0,.slice none 0 0] 111);have hvW:=xA ((Bw.refl w5).alloc (.cells #[.int .i64 (1+z),.int .i64 0,.int .i64 0,.int .i64 0,.slice none 0 0,.slice none 0 0] 111)) nA hv5;have hcl:∀j t,[Value.int .i64 (1+z),.int .i64 0,.int .i64 0,.int .i64 0,.slice none 0 0,.slice none 0 0][j]? = some t→(w5.alloc (.cells #[.int .i64 (1+z),.int .i64 0,.int .i64 0,.int .i64 0,.slice none 0 0,.slice none 0 0] 111)).cell? ((⟨w5.heap.size,0,none⟩:Addr).add j)=some t:=World.news_of_block (cs:=#[.int .i64 (1+z),.int .i64 0,.int .i64 0,.int .i64 0,.slice none 0 0,.slice none 0 0]) (t:=111) (fr:=(0,0)) (heap_alloc_new w5 _);have hzW5:=DW.size;have hzz5:=hD5.size;have HL5:=Lib.hid (show (xs++ys).length≤14 by (rw [List.length_append];have:=HL.out;have:=HLY.out;omega));clear hv5 hv4 hy) | (at_builtin;refine WD _ rfl (.tmp 42) (.tmp 45) 25 rfl w0 w p DW w.heap.size (Nat.le_refl _) hzW5 111 i0 _ 6 80 Tryz.underlying25 hi hz0 hz1 hz2 rfl (by omega) ZC _ (xs++ys) F5 rfl hvW hF5 ⟨w5.heap.size,0,none⟩ 1 rfl ⟨1+z,⟨0,0,0,[],[]⟩⟩ [.int .i64 (1+z),.int .i64 0,.int .i64 0,.int .i64 0,.slice none 0 0,.slice none 0 0] [] hcl (zP _ _) rfl w5.heap.size hFm5 pA.nil hzz5 (by have:=HL5.out;omega) (by have:=HL5.out;omega) ?_;intro v7 w7 F7 hv7 hF7 hD7 hO7))
    go_ret;exact hD7.ret ⟨_,F7,hv7,hF7,(by rw [List.length_append,List.length_singleton];omega),by have:=HL.out;have:=HLY.out;rw [show nd (d+1)=2*nd d+1 from rfl,List.length_append,List.length_append,List.length_singleton];omega,fun y hy=>(List.mem_append.1 hy).elim (fun hy=>(List.mem_append.1 hy).elim (HX.out.2.2 y) (HY.out.2.2 y)) (fun h=>by rw [List.mem_singleton.1 h];exact HG.out)⟩
end Go.Proofs.YtpihighajaeabaaGreat
namespace Go.Proofs.YtpihighajaeabaaGreat
open Go.RowKit
set_option linter.unusedVariables false
set_option linter.unusedSimpArgs false
theorem OL (w0 w:World) (p:Nat) (hA:At w0 p w):Calls Tryz.prog 151 #[.pointer (some ⟨p,0,none⟩)] w
  (fJ w0 p w (DL EC w.heap.size fun xs=>0<xs.length∧xs.length≤7∧∀x∈xs,bV x)):=by
 have D0:=Dn.start hA;have hcall:=kZ 2 (by omega) w0 w p 2 (Lib.hid rfl) hA;go_enter Tryz.func151,Tryz.ntmps151;go_wp2_with fail;refine hcall.mono ?_;rintro e w1 ⟨v1,rfl,⟨xs,F,hv,hF,hx⟩,hO1,hA1⟩;have D1:=D0.call hO1 hA1;obtain ⟨A,n,c,rfl,l1,_⟩:=iA (lC hv);have h7:xs.length≤7:=hx.2.1;rw [← l1] at h7;have HX:=Lib.hid hx;clear hcall l1 hx;go_wp2;go_ret;exact D1.ret ⟨xs,F,hv,hF,HX.out⟩
theorem FW {α:Type} {P:Program} {ops:Array Oper} {rest:List Oper} {o:Oper} {a:Act} {Q:Exit→Act→World→Prop} (W:World) (hgd:o.guard=none) (s x:Operand) (t:TypeId)
  (ho:o.op=.call { callee:=.builtin .append,args:=#[s,x],argTypes:=#[t,t] })
  (w0 w:World) (p:Nat) (hD:Dn w0 w p W) (B:Nat) (hB:w.heap.size≤B) (hBW:B≤W.heap.size) (e:TypeId) (i:TypeInfo) (z:Value) (sz bytes:Nat) (ht:P.underlying t=some (.slice e)) (hi:P.info? e=some i) (hz:i.zero=some z)
  (hsize:i.size=sz) (hby:i.bytes=bytes) (hzs:z.cells.size=sz) (hsz:0<sz)
  {R:Fp α} (hR:VB 0 R) (v:Value) (xs:List α) (F:List Nat) (hs:a.eval s=v) (hv:fSl e sz R W xs [v] F) (hF:pA B F)
  (ad:Addr) (c:Nat) (hx:a.eval x=.slice (some ad) 1 c) (y:α) (u:List Value) (f:List Nat) (hu:∀j t,u[j]? = some t→W.cell? (ad.add j)=some t)
  (hy:R W y u f) (hul:u.length=sz) (m:Nat) (hFm:∀b∈F,b<m) (hf:pA m f) (hm:B≤m) (hbytes:(xs.length+1)*bytes≤140737488355328) (hlen:xs.length<4611686018427387904)
  (h:∀v' w' F',fSl e sz R w' (xs++[y]) [v'] F'→pA B F'→Dn w0 w p w'→SB F W w'→(∀b∈F',b∈F∨b∈f∨W.heap.size≤b)→wpList P ops Q rest (a.put o.dst v') w'):wpList P ops Q (o::rest) a W:=by
 have hle:=hD.le;refine mC W hgd s x t ho w0 e i z sz bytes ht hi hz hsize hby hzs hsz (hR.mono (Nat.zero_le _)) v xs F hs hv (hF.mono (by omega)) ad c hx y u f hu hy hul m hFm hf (by omega) hbytes hlen hD.at'.bw ?_;intro v' w' F' hv' hF' hb' hO' h5;exact h v' w' F' hv' (hF'.raise h5 hF.ge (fun b hb=>Nat.le_trans hm (hf.ge b hb)) hBW) (hD.next hO' (fun b hb=>Nat.le_trans hB (hF.ge b hb)) hb') hO' h5
def jA7 (W:World) (b:Nat) (a0 a1:Value):World:=(W.setCell ⟨b,0,none⟩ a0).setCell ⟨b,1,none⟩ a1
theorem Dn.set2 {w0 w W:World} {p b:Nat} {a0 a1:Value} (h:Dn w0 w p W) (hb:w.heap.size≤b):Dn w0 w p (jA7 W b a0 a1):=(h.set hb _).set hb _
theorem Qj {W:World} {b:Nat} {a0 a1:Value} {α:Type} {R:Fp α} (hR:VB 0 R) {x:α} {cs:List Value} {F:List Nat} (hx:R W x cs F) (hF:b∉F):R (jA7 W b a0 a1) x cs F:=QA hR (QA hR hx hF) hF
set_option maxRecDepth 100000 in
set_option maxHeartbeats 6400000 in
theorem lZ (w0 w:World) (p:Nat) (hA:At w0 p w):Calls Tryz.prog 72 #[.pointer (some ⟨p,0,none⟩)] w
  (fJ w0 p w (iAh w.heap.size YU)):=by
 obtain ⟨i0,hi,hz0,hz1,hz2⟩:=info_parts PC;have D0:=Dn.start hA;have hlt:=hA.lt;have D1:=D0.alloc (.cells #[.int .i64 0,.slice none 0 0] 30);have bR:=Box.new w #[.int .i64 0,.slice none 0 0] 30;have hcall:=pC w0 _ p D1.at' 6 (by omega) (by omega);go_enter Tryz.func72,Tryz.ntmps72;go_wp2_with fail;refine hcall.mono ?_;rintro e w1 ⟨v1,rfl,⟨id,rfl,k1,k2⟩,hO1,hA1⟩;have D2:=D1.call hO1 hA1;replace bR:=bR.only hO1 (by simp;omega);clear hcall;have hcall:=iZ w0 w1 p hA1 id 10 (by omega) (by omega);go_wp2_with fail;refine hcall.mono ?_;rintro e w2 ⟨v2,rfl,⟨⟨id2,vals⟩,u,F,rfl,hv,hF,rfl,hl3,hva⟩,hO2,hA2⟩;dsimp only at hv hl3 hva;have D3:=D2.call hO2 hA2;replace bR:=bR.only hO2 (by simp;omega);have hw1:w.heap.size<w1.heap.size:=by have:=hO1.1;simp at this;omega
 obtain ⟨g,L,c,rfl,hL,hLc,hcm,hL0⟩:=VG hv (by omega);obtain rfl:L=3:=by rw [← hL.out,hl3]
 have HVA:=Lib.hid hva;have HL3:=Lib.hid hl3;have bX:=Box.new w2 #[.int .i64 id2,.slice (some ⟨g,0,none⟩) 3 c] 30;have D4:=D3.alloc (.cells #[.int .i64 id2,.slice (some ⟨g,0,none⟩) 3 c] 30);have hFlt:=(aA (B:=0)).lt hv;have hAl:=(Bw.refl w2).alloc (.cells #[.int .i64 id2,.slice (some ⟨g,0,none⟩) 3 c] 30);replace hv:=xA hAl aA hv;replace bR:=bR.bw hAl;obtain ⟨b,hb⟩:∃b,b=w2.heap.size:=⟨_,rfl⟩;obtain ⟨W,hW⟩:∃W,W=w2.alloc (.cells #[.int .i64 id2,.slice (some ⟨g,0,none⟩) 3 c] 30):=⟨_,rfl⟩;have hbw:w1.heap.size≤b:=by rw [hb];exact hO2.1
 rw [← hW] at D4 bX bR hv;rw [← hb] at bX hFlt;have HW:=Lib.hid hW;have HB:=Lib.hid hb;have hcall2:=pC w0 W p D4.at' 8 (by omega) (by omega);clear hcall hW hb D1 D2 D3 hO1 hO2 hA1 hA2 hAl hva hl3 hL;have hne1:b≠w.heap.size:=by omega
 have hne2:w.heap.size≠b:=by omega
 go_wp2_with fail;rw [← HW.out];refine hcall2.mono ?_;rintro e w3 ⟨v3,rfl,⟨sw,rfl,s1,s2⟩,hO3,hA3⟩;have D5:=D4.call hO3 hA3;replace bX:=bX.only hO3 (by simp;omega);replace bR:=bR.only hO3 (by simp;omega);replace hv:=D4.keep hO3 aA hv (fun c hc=>by have:=hF.ge c hc;omega);rw [← HB.out];have HID:=Lib.hid (And.intro k1 k2);clear hcall2 hO3 D4 k1 k2;have hq:∀(i:Int) (l:List Int),-100≤i→i≤1000→l.length≤4→(∀y∈l,-100≤y∧y≤100)→YU ⟨i,l⟩:=fun i l h1 h2 h3 h4=>⟨⟨h1,h2⟩,h3,h4⟩
 have hva2:∀y∈vals,-100≤y∧y≤100:=fun y hy=>by have:=HVA.out y hy;omega
 have HVB:=Lib.hid hva2;have HQ:=Lib.hid hq;clear hva2 hq;by_cases h0:sw=0
 ·subst h0;have DW:=D5.alloc (.cells #[.int .i64 (-1),.int .i64 99,.int .i64 100] 3);have hAl:=(Bw.refl w3).alloc (.cells #[.int .i64 (-1),.int .i64 99,.int .i64 100] 3);have hl:=CI w3 (-1) 99 100;have hz3:=bX.lt;have hcall:=QG w0 _ p DW.at' [-1,99,100] _ _ hl (by simp;omega) (by decide) (by decide);clear hl;go_wp2_with fail;refine hcall.mono ?_;rintro e w4 ⟨v4,rfl,⟨y,hy,rfl⟩,hO4,hA4⟩;have D6:=DW.call hO4 hA4;have bX6:=(bX.bw hAl).only hO4 (by simp;omega);have bR6:=(bR.bw hAl).only hO4 (by simp;omega);have v6:=DW.keep hO4 aA (xA hAl aA hv) (fun c hc=>by have:=hF.ge c hc;omega);have v7:=QA (b:=b) (o:=0) (u:=.int .i64 y) aA v6 (fun h=>by have:=hFlt _ h;omega);have D7:=D6.set (b:=b) (o:=0) (by omega) (.int .i64 y);have HY:=Lib.hid (show -100≤y∧y≤1000 by simp at hy;omega);clear hcall hy v6 D6 DW hO4 hA4 bX bR hv hAl;have x0:=bX6.c 0 _ rfl;have x1:=bX6.c 1 _ rfl;have xf:=bX6.fr;have r0:=bR6.c 0 _ rfl;have r1:=bR6.c 1 _ rfl;have rf:=bR6.fr;go_wp2;refine bodyPost_ret (v:=.agg #[.int .i64 y,.slice (some ⟨g,0,none⟩) 3 c]) (by simp [results,Tryz.results72,go_sem,r0,r1,hne1,hne2]) rfl ?_;exact (D7.set2 (Nat.le_refl _)).ret ⟨⟨y,vals⟩,_,F,rfl,Qj aA v7 (fun h=>by have:=hF.ge _ h;omega),hF.mono (by omega),HQ.out _ _ HY.out.1 HY.out.2 (by have:=HL3.out;omega) HVB.out⟩
 ·by_cases h1:sw=1
  ·subst h1;have AD:Bw w3 (w3.drew.alloc (.cells #[.int .i64 (-1),.int .i64 9,.int .i64 10] 3)):=((Bw.refl w3).drew).alloc (.cells #[.int .i64 (-1),.int .i64 9,.int .i64 10] 3);have DW:=D5.bw AD;have hl:=CI w3.drew (-1) 9 10;have hz3:=bX.lt;have hzd:w3.drew.heap.size=w3.heap.size:=rfl;have hcall:=QG w0 _ p DW.at' [-1,9,10] _ _ hl (by simp;omega) (by decide) (by decide);have bXd:=bX.bw ((Bw.refl w3).drew);have bRd:=bR.bw ((Bw.refl w3).drew);have bXa:=bX.bw AD;clear hl h0;have x0:=bX.c 0 _ rfl;have x1:=bX.c 1 _ rfl;have xf:=bX.fr;have y0:=bXd.c 0 _ rfl;have y1:=bXd.c 1 _ rfl;have yf:=bXd.fr;have z0:=bXa.c 0 _ rfl;have z1:=bXa.c 1 _ rfl;have zf:=bXa.fr;go_wp2_with fail
   go_region_law (go_simp;go_at_call 155;refine hcall.mono ?_;rintro e w4 ⟨v4,rfl,⟨y,hy,rfl⟩,hO4,hA4⟩;have bX6:=bXa.only hO4 (by simp;omega);have u0:=bX6.c 0 _ rfl;have u1:=bX6.c 1 _ rfl;have uf:=bX6.fr;have v6:=DW.keep hO4 aA (xA AD aA hv) (fun c hc=>by have:=hF.ge c hc;omega);have hfz:=vD v6 0;obtain ⟨t,ht⟩:=rA (xs:=vals) (k:=0) (by have:=HL3.out;omega);obtain ⟨_,_,e,hgF,hc0⟩:=GB (FI (B:=0) v6) ht;injection e with e;injection e with e e2;subst e e2)
   all_goals
    obtain ⟨F',hv',hF',_,_,hsub⟩:=IH (nB (B:=w1.heap.size)) v6 hF (k:=0) (y:=y) (u:=[.int .i64 y]) ⟨rfl,rfl⟩ rfl (m:=b) hFlt pA.nil hbw (by have:=HL3.out;omega);simp only [aD,Nat.zero_mul] at hv';have HY:=Lib.hid (show -100≤y∧y≤100 by simp at hy;omega);have gF:g∈F:=hgF.resolve_right (Nat.not_lt_zero _);have hgb:=hFlt g gF;have hgw:=hF.ge g gF;have D6:=DW.call hO4 hA4;have D7:=D6.set (b:=g) (o:=0) (by omega) (.int .i64 y);have bX7:=bX6.only (KA g 0 w4 (.int .i64 y)) (by simp;omega);have bR7:=((bR.bw AD).only hO4 (by simp;omega)).only (KA g 0 w4 (.int .i64 y)) (by simp;omega);have hsb:∀c∈F',c<b:=fun c hc=>(hsub c hc).elim (hFlt c) (fun h=>by simp at h)
    have HVC:=Lib.hid (show ∀z∈vals.set 0 y,-100≤z∧z≤100 from fun z hz=>(List.mem_or_eq_of_mem_set hz).elim (HVB.out z) (fun e=>by rw [e];exact HY.out));clear u0 u1 uf x0 x1 xf y0 y1 yf z0 z1 zf hcall hy v6 hc0 ht hfz bX6 hsub;have x0:=bX7.c 0 _ rfl;have x1:=bX7.c 1 _ rfl;have xf:=bX7.fr;have r0:=bR7.c 0 _ rfl;have r1:=bR7.c 1 _ rfl;have rf:=bR7.fr;go_wp2;refine bodyPost_ret (v:=.agg #[.int .i64 id2,.slice (some ⟨g,0,none⟩) 3 c]) (by simp [results,Tryz.results72,go_sem,r0,r1,hne1,hne2]) rfl ?_;exact (D7.set2 (Nat.le_refl _)).ret ⟨⟨id2,vals.set 0 y⟩,_,F',rfl,Qj aA hv' (fun h=>by have:=hF'.ge _ h;omega),hF'.mono (by omega),HQ.out _ _ (by have:=HID.out;omega) (by have:=HID.out;omega) (by rw [List.length_set];have:=HL3.out;omega) HVC.out⟩
  ·by_cases h2:sw=2
   ·subst h2;have hAl:=(Bw.refl w3).alloc (.cells #[.int .i64 1] 3);have DW:=D5.bw hAl;have hvW:=xA hAl aA hv;have bXW:=bX.bw hAl;have bRW:=bR.bw hAl;have hcl:=cell_one_new w3 (.int .i64 1) 3;have hzW:=DW.size;have hz3:w1.heap.size≤w3.heap.size:=by have:=bX.lt;omega
    have hz4:w1.heap.size≤(w3.alloc (.cells #[.int .i64 1] 3)).heap.size:=by have:=hAl.size;omega
    have hw1':w.heap.size≤w1.heap.size:=by omega
    have hFm3:∀c∈F,c<w3.heap.size:=fun c hc=>by have:=hFlt c hc;have:=bX.lt;omega
    have x0:=bX.c 0 _ rfl;have x1:=bX.c 1 _ rfl;have xf:=bX.fr;have y0:=bXW.c 0 _ rfl;have y1:=bXW.c 1 _ rfl;have yf:=bXW.fr;clear h0 h1;go_wp2_with (at_builtin;refine FW _ rfl (.tmp 27) (.tmp 28) 26 rfl w0 w p DW w1.heap.size hw1' hz4 3 i0 _ 1 8 Tryz.underlying26 hi hz0 hz1 hz2 rfl (by omega) nB _ vals F rfl hvW hF ⟨w3.heap.size,0,none⟩ 1 rfl 1 [.int .i64 1] [] hcl ⟨rfl,rfl⟩ rfl w3.heap.size hFm3 pA.nil hz3 (by have:=HL3.out;omega) (by have:=HL3.out;omega) ?_;intro v7 w7 F7 hv7 hF7 hD7 hO7 hs7;obtain ⟨A7,n7,c7,rfl,l7,_⟩:=iA (AA hv7);replace l7:=Lib.hid l7;have bX7:=bXW.only hO7 (fun h=>by have:=hFlt _ h;omega);have bR7:=bRW.only hO7 (fun h=>by have:=hF.ge _ h;omega);have u0:=bX7.c 0 _ rfl;have u1:=bX7.c 1 _ rfl;have uf:=bX7.fr;have r0:=bR7.c 0 _ rfl;have r1:=bR7.c 1 _ rfl;have rf:=bR7.fr);refine bodyPost_ret (v:=.agg #[.int .i64 id2,.slice A7 n7 c7]) (by simp [results,Tryz.results72,go_sem,u0,u1,r0,r1,hne1,hne2]) rfl ?_;have nb:b∉F7:=fun h=>(hs7 b h).elim (fun h=>by have:=hFlt _ h;omega) (fun h=>h.elim (fun h=>by simp at h) (fun h=>by have:=bXW.lt;omega))
    exact ((hD7.set (b:=b) (o:=1) (by omega) _).set2 (Nat.le_refl _)).ret ⟨⟨id2,vals++[1]⟩,_,F7,rfl,Qj aA (QA aA hv7 nb) (fun h=>by have:=hF7.ge _ h;omega),hF7.mono (by omega),HQ.out _ _ (by have:=HID.out;omega) (by have:=HID.out;omega) (by rw [List.length_append,HL3.out];simp) (fun z hz=>(List.mem_append.1 hz).elim (HVB.out z) (fun h=>by rw [List.mem_singleton.1 h];omega))⟩
   ·have e0:(sw==0)=false:=by simpa using h0
    have e1:(sw==1)=false:=by simpa using h1
    have e2:(sw==2)=false:=by simpa using h2
    clear h0 h1 h2;have x0:=bX.c 0 _ rfl;have x1:=bX.c 1 _ rfl;have xf:=bX.fr;have r0:=bR.c 0 _ rfl;have r1:=bR.c 1 _ rfl;have rf:=bR.fr;go_wp2;refine bodyPost_ret (v:=.agg #[.int .i64 id2,.slice (some ⟨g,0,none⟩) 3 c]) (by simp [results,Tryz.results72,go_sem,r0,r1,hne1,hne2]) rfl ?_;exact (D5.set2 (Nat.le_refl _)).ret ⟨⟨id2,vals⟩,_,F,rfl,Qj aA hv (fun h=>by have:=hF.ge _ h;omega),hF.mono (by omega),HQ.out _ _ (by have:=HID.out;omega) (by have:=HID.out;omega) (by have:=HL3.out;omega) HVB.out⟩
end Go.Proofs.YtpihighajaeabaaGreat
namespace Go.Proofs.YtpihighajaeabaaGreat
open Go.RowKit
set_option linter.unusedVariables false
theorem eAc (w:World) (i k:Int):ZA (w.alloc (.cells #[.int .i64 i,.int .i64 k] 3)) [i,k] [.slice (some ⟨w.heap.size,0,none⟩) 2 2] [w.heap.size]:=by
 refine ⟨_,[[.int .i64 i],[.int .i64 k]],[[],[]],rfl,?_,⟨⟨⟨rfl,rfl⟩,rfl⟩,⟨⟨rfl,rfl⟩,rfl⟩,trivial⟩,by simp [Value.ownBlock]⟩;exact World.ownsRow_lit w #[.int .i64 i,.int .i64 k] 2 (Nat.zero_le _) (by simp [maxLen]) rfl
end Go.Proofs.YtpihighajaeabaaGreat
