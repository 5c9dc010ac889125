/- An element is taken from the midst of a list of the call's own: append(xs[:k], xs[k+1:]...). -/
import Derived.Test.YtpihighajaeabaaGreatXCodes
import Derived.Test.YtpihighajaeabaaGreatXBestS
import Derived.Test.YtpihighajaeabaaGreatXIntss
import Derived.Test.YtpihighajaeabaaGreatXCostOf
import Derived.Test.YtpihighajaeabaaGreatXWishes
namespace Go.Proofs.YtpihighajaeabaaGreat
open Go.RowKit Go.Proofs.Tryz
set_option linter.all false
set_option maxRecDepth 100000
set_option maxHeartbeats 16000000
def JK {α:Type} (f:Fp α) (B:Nat) (x:α) (z:Value) (w:World) (u:Value):Prop:=∃cs,u=.tuple #[.agg cs.toArray,z]/\∃F,f w x cs F/\sA B F
def iF (l:List iA) (e:List mA):zA:=if kB l e then ⟨l,e,eB l e,0⟩ else ⟨[],[],[],0⟩
theorem bT {l:List iA} {e:List mA} (h:kB l e=true):iF l e=⟨l,e,eB l e,0⟩:=by unfold iF;rw [h];rfl
theorem mW {l:List iA} {e:List mA} (h:kB l e=false):iF l e=⟨[],[],[],0⟩:=by unfold iF;rw [h];rfl
theorem gY (l:List iA) (e:List mA):(eB l e).length<=l.length:=by
 unfold eB;split
 ·exact jJ l e
 ·exact Nat.zero_le _
theorem dA8 {l:List iA} {e:List mA} (h1:jC l<=1048576) (h2:sB e<=1048576):ZJ (iF l e):=by
 unfold iF ZJ;split
 ·refine ⟨h1,h2,?_⟩;have h3:=gY l e;unfold jC at h1;dsimp only;omega
 ·simp [jC,sB,JH]
theorem dA9 (w:World):GB w ⟨[],[],[],0⟩ [.slice none 0 0,.slice none 0 0,.slice none 0 0,.int .i64 0] []:=
 ⟨_,_,_,[],[],[],rfl,⟨_,[],[],rfl,World.ownsRow_nil _ _ _ _,trivial,by simp [Value.ownBlock]⟩,⟨_,[],[],rfl,World.ownsRow_nil _ _ _ _,trivial,by simp [Value.ownBlock]⟩,⟨_,[],[],rfl,World.ownsRow_nil _ _ _ _,trivial,by simp [Value.ownBlock]⟩,rfl⟩
theorem jA7 {l:List iA} {e:List mA} (h:kB l e=true):wD l e=eB l e:=by unfold eB;rw [h];rfl
theorem wP (w:World) (l:List iA) (e:List mA) (v u:Value) (h:Rd LA w l [v]) (h':Rd OA w e [u]) (t1:jC l<=1048576) (t2:sB e<=1048576) :
  Calls prog 25 #[v,u] w (WB w (JK GB w.heap.size (iF l e) (.bool (kB l e)))):=by
 have A0:Bw w (w.alloc (.cells #[.slice none 0 0,.slice none 0 0,.slice none 0 0,.int .i64 0] 28)):=(Bw.refl w).alloc _;obtain ⟨Y,hY⟩:=pA7 (iF l e);obtain ⟨Z,hZ⟩:=pA7 (kB l e);rw [<-hY,<-hZ];have HY:=pA6 hY;have HZ:=pA6 hZ;clear hY hZ;go_enter func25,ntmps25;go_wp2_with fail;refine (KE _ l e _ _ (h.bw gA A0) (h'.bw jA A0)).mono ?_;rintro e w1 ⟨rfl,bd⟩;have B1:=A0.then bd;obtain ⟨r0,r1,r2,r3⟩:C4 w1 w.heap.size (.slice none 0 0) (.slice none 0 0) (.slice none 0 0) (.int .i64 0):=bd.c4 (by unfold C4;go_simp);have bm:∀o,w1.frozen? ⟨w.heap.size,o,none⟩=false:=fun o=>by rw [oC bd _ _ (by first | (simp;done) | (simp;omega))];go_simp
 rcases pA8 (kB l e) with e1 | e1
 ·have E1:=pA6 e1;rw [e1];clear e1;go_wp2_with fail;refine (TT _ l _ (h.bw gA B1) t1).mono ?_;rintro e w2 ⟨v2,rfl,⟨F2,o2,f2⟩,bg⟩;have B2:=B1.then bg;obtain ⟨A2,c2,rfl,_⟩:=XA (pC o2);go_wp2_with fail;refine (iI _ e _ (h'.bw jA B2) t2).mono ?_;rintro e w3 ⟨v3,rfl,⟨F3,o3,f3⟩,bf⟩;have B3:=B2.then bf;obtain ⟨A3,c3,rfl,_⟩:=XA (bB o3);go_wp2_with fail;refine (fI _ l e _ _ (h.bw gA B3) (h'.bw jA B3)).mono ?_;rintro e w4 ⟨v4,rfl,⟨F4,o4,f4⟩,bb⟩
  skip
  obtain ⟨A4,c4,rfl,_⟩:=XA (xA o4);have bc:=(bg.then bf).then bb;replace r0:=bc.cell r0;replace r1:=bc.cell r1;replace r2:=bc.cell r2;replace r3:=bc.cell r3;have hz1:w.heap.size+1<=w1.heap.size:=by have:=bd.size;simpa using this
  have hf4:∀o,w4.frozen? ⟨w.heap.size,o,none⟩=false:=fun o=>(oC bc w.heap.size o (by omega)).trans (bm o)
  have bn:=(rA (B:=0)).lt o2;have bp:=(kA (B:=0)).lt o3;have z2:=bg.size;have z3:=bf.size;have z4:=bb.size;have bq:∀b∈F2,w.heap.size+1<=b:=fun b hb=>by have:=f2.ge b hb;omega
  have bs:∀b∈F3,w.heap.size+1<=b:=fun b hb=>by have:=f3.ge b hb;omega
  have bt:∀b∈F4,w.heap.size+1<=b:=fun b hb=>by have:=f4.ge b hb;omega
  have bv:=(rA (B:=0)).bw (bf.then bb) (Nat.zero_le _) o2;have bx:=(kA (B:=0)).bw bb (Nat.zero_le _) o3;have FF:sA w.heap.size (F2++(F3++F4)):=sA.append (m:=w2.heap.size) (f2.mono (by omega)) bn (sA.append (m:=w3.heap.size) f3 bp f4 (by omega)) (by omega);have B4:=B3.then bb;have bj:=pA6 (HY.out.trans (bT E1.out));have bk:=pA6 (HZ.out.trans E1.out);clear HY HZ bd bg bf bb bm f2 f3 f4 bn bp bc B1 B2 B3;go_wp2;obtain rfl:=bj.out;obtain rfl:=bk.out;refine bodyPost_ret (v:=.tuple #[.agg #[.slice A2 l.length c2,.slice A3 e.length c3,.slice A4 (eB l e).length c4,.int .i64 0],.bool true]) (by simp [results,results25,go_sem,r0,r1,r2,r3]) rfl ⟨_,rfl,⟨[.slice A2 l.length c2,.slice A3 e.length c3,.slice A4 (eB l e).length c4,.int .i64 0],rfl,F2++(F3++F4),⟨_,_,_,F2,F3,F4,rfl,?_,?_,?_,rfl⟩,FF⟩,?_⟩
  ·refine (rA (B:=0)).step (fun b hb=>?_) bv;rcases hb with hb | hb
   ·have:=bq b hb
    repeat rw [Below.heap_setCell _ _ _ _ (by dsimp only;omega)]
   ·omega
  ·refine (kA (B:=0)).step (fun b hb=>?_) bx;rcases hb with hb | hb
   ·have:=bs b hb
    repeat rw [Below.heap_setCell _ _ _ _ (by dsimp only;omega)]
   ·omega
  ·refine (aA (B:=0)).step (fun b hb=>?_) o4;rcases hb with hb | hb
   ·have:=bt b hb
    repeat rw [Below.heap_setCell _ _ _ _ (by dsimp only;omega)]
   ·omega
  ·repeat (first | with_reducible exact B4 | with_reducible refine Bw.set ?_ ?_ _)
   all_goals (dsimp only;omega)
 ·have E1:=pA6 e1;rw [e1];clear e1;have bj:=pA6 (HY.out.trans (mW E1.out));have bk:=pA6 (HZ.out.trans E1.out);clear HY HZ;go_wp2;obtain rfl:=bj.out;obtain rfl:=bk.out;refine bodyPost_ret (v:=.tuple #[.agg #[.slice none 0 0,.slice none 0 0,.slice none 0 0,.int .i64 0],.bool false]) (by simp [results,results25,go_sem,r0,r1,r2,r3]) rfl ⟨_,rfl,⟨[.slice none 0 0,.slice none 0 0,.slice none 0 0,.int .i64 0],rfl,[],dA9 _,sA.nil⟩,?_⟩
  repeat (first | with_reducible exact B1 | with_reducible refine Bw.set ?_ ?_ _)
  all_goals (dsimp only;omega)
theorem iY (w:World) (l:List iA) (e:List mA) (v u:Value) (h:Rd LA w l [v]) (h':Rd OA w e [u]) (t1:jC l<=1048576) (t2:sB e<=1048576) :
  Calls prog 26 #[v,u] w (WB w (JK GB w.heap.size (iF l e) (.bool (kB l e)))):=by
 have A0:Bw w (w.alloc (.cells #[.slice none 0 0,.slice none 0 0,.slice none 0 0,.int .i64 0] 28)):=(Bw.refl w).alloc _;obtain ⟨Y,hY⟩:=pA7 (iF l e);obtain ⟨Z,hZ⟩:=pA7 (kB l e);rw [<-hY,<-hZ];have HY:=pA6 hY;have HZ:=pA6 hZ;clear hY hZ;go_enter func26,ntmps26;go_wp2_with fail;refine (EE _ l e _ _ (h.bw gA A0) (h'.bw jA A0)).mono ?_;rintro e w1 ⟨rfl,bd⟩;have B1:=A0.then bd;obtain ⟨r0,r1,r2,r3⟩:C4 w1 w.heap.size (.slice none 0 0) (.slice none 0 0) (.slice none 0 0) (.int .i64 0):=bd.c4 (by unfold C4;go_simp);have bm:∀o,w1.frozen? ⟨w.heap.size,o,none⟩=false:=fun o=>by rw [oC bd _ _ (by first | (simp;done) | (simp;omega))];go_simp
 rcases pA8 (kB l e) with e1 | e1
 ·have E1:=pA6 e1;rw [e1];clear e1;go_wp2_with fail;refine (dA7 _ l _ (h.bw gA B1) t1).mono ?_;rintro e w2 ⟨v2,rfl,⟨F2,o2,f2⟩,bg⟩;have B2:=B1.then bg;obtain ⟨A2,c2,rfl,_⟩:=XA (pC o2);go_wp2_with fail;refine (gG _ e _ (h'.bw jA B2) t2).mono ?_;rintro e w3 ⟨v3,rfl,⟨F3,o3,f3⟩,bf⟩;have B3:=B2.then bf;obtain ⟨A3,c3,rfl,_⟩:=XA (bB o3);go_wp2_with fail;refine (AK _ l e _ _ (h.bw gA B3) (h'.bw jA B3) (AA E1.out) (yB E1.out)).mono ?_;rintro e w4 ⟨v4,rfl,⟨F4,o4,f4⟩,bb⟩;rw [jA7 E1.out] at o4;obtain ⟨A4,c4,rfl,_⟩:=XA (xA o4);have bc:=(bg.then bf).then bb;replace r0:=bc.cell r0;replace r1:=bc.cell r1;replace r2:=bc.cell r2;replace r3:=bc.cell r3;have hz1:w.heap.size+1<=w1.heap.size:=by have:=bd.size;simpa using this
  have hf4:∀o,w4.frozen? ⟨w.heap.size,o,none⟩=false:=fun o=>(oC bc w.heap.size o (by omega)).trans (bm o)
  have bn:=(rA (B:=0)).lt o2;have bp:=(kA (B:=0)).lt o3;have z2:=bg.size;have z3:=bf.size;have z4:=bb.size;have bq:∀b∈F2,w.heap.size+1<=b:=fun b hb=>by have:=f2.ge b hb;omega
  have bs:∀b∈F3,w.heap.size+1<=b:=fun b hb=>by have:=f3.ge b hb;omega
  have bt:∀b∈F4,w.heap.size+1<=b:=fun b hb=>by have:=f4.ge b hb;omega
  have bv:=(rA (B:=0)).bw (bf.then bb) (Nat.zero_le _) o2;have bx:=(kA (B:=0)).bw bb (Nat.zero_le _) o3;have FF:sA w.heap.size (F2++(F3++F4)):=sA.append (m:=w2.heap.size) (f2.mono (by omega)) bn (sA.append (m:=w3.heap.size) f3 bp f4 (by omega)) (by omega);have B4:=B3.then bb;have bj:=pA6 (HY.out.trans (bT E1.out));have bk:=pA6 (HZ.out.trans E1.out);clear HY HZ bd bg bf bb bm f2 f3 f4 bn bp bc B1 B2 B3;go_wp2;obtain rfl:=bj.out;obtain rfl:=bk.out;refine bodyPost_ret (v:=.tuple #[.agg #[.slice A2 l.length c2,.slice A3 e.length c3,.slice A4 (eB l e).length c4,.int .i64 0],.bool true]) (by simp [results,results26,go_sem,r0,r1,r2,r3]) rfl ⟨_,rfl,⟨[.slice A2 l.length c2,.slice A3 e.length c3,.slice A4 (eB l e).length c4,.int .i64 0],rfl,F2++(F3++F4),⟨_,_,_,F2,F3,F4,rfl,?_,?_,?_,rfl⟩,FF⟩,?_⟩
  ·refine (rA (B:=0)).step (fun b hb=>?_) bv;rcases hb with hb | hb
   ·have:=bq b hb
    repeat rw [Below.heap_setCell _ _ _ _ (by dsimp only;omega)]
   ·omega
  ·refine (kA (B:=0)).step (fun b hb=>?_) bx;rcases hb with hb | hb
   ·have:=bs b hb
    repeat rw [Below.heap_setCell _ _ _ _ (by dsimp only;omega)]
   ·omega
  ·refine (aA (B:=0)).step (fun b hb=>?_) o4;rcases hb with hb | hb
   ·have:=bt b hb
    repeat rw [Below.heap_setCell _ _ _ _ (by dsimp only;omega)]
   ·omega
  ·repeat (first | with_reducible exact B4 | with_reducible refine Bw.set ?_ ?_ _)
   all_goals (dsimp only;omega)
 ·have E1:=pA6 e1;rw [e1];clear e1;have bj:=pA6 (HY.out.trans (mW E1.out));have bk:=pA6 (HZ.out.trans E1.out);clear HY HZ;go_wp2;obtain rfl:=bj.out;obtain rfl:=bk.out;refine bodyPost_ret (v:=.tuple #[.agg #[.slice none 0 0,.slice none 0 0,.slice none 0 0,.int .i64 0],.bool false]) (by simp [results,results26,go_sem,r0,r1,r2,r3]) rfl ⟨_,rfl,⟨[.slice none 0 0,.slice none 0 0,.slice none 0 0,.int .i64 0],rfl,[],dA9 _,sA.nil⟩,?_⟩
  repeat (first | with_reducible exact B1 | with_reducible refine Bw.set ?_ ?_ _)
  all_goals (dsimp only;omega)
theorem OK {α:Type} {P:Program} {ops:Array Oper} {rest:List Oper} {o:Oper} {a:Act} {Q:Exit->Act->World->Prop} (W:World) (hgd:o.guard=none) (s x:Operand) (t:TypeId)
  (ho:o.op=.call { callee:=.builtin .append,args:=#[s,x],argTypes:=#[t,t] })
  (w0:World) (e:TypeId) (i:TypeInfo) (z:Value) (sz bytes:Nat) (ht:P.underlying t=some (.slice e)) (hi:P.info? e=some i) (hz:i.zero=some z)
  (hsize:i.size=sz) (hby:i.bytes=bytes) (hzs:z.cells.size=sz) (hsz:0<sz)
  {R:Fp α} (hR:tC w0.heap.size R) (v:Value) (xs:List α) (F:List Nat) (hs:a.eval s=v) (hv:fSl e sz R W xs [v] F) (hF:sA w0.heap.size F)
  (sv:Value) (hx:a.eval x=sv) (ys:List α) (G:List Nat) (hw:fSl e sz R W ys [sv] G) (hdis:∀b∈F,b∉G) (hG:sA w0.heap.size G)
  (hbytes:(xs.length+ys.length)*bytes<=140737488355328) (hlen:xs.length+ys.length<4611686018427387904) (hbw:Bw w0 W)
  (h:∀v' w' F',fSl e sz R w' (xs++ys) [v'] F'->sA w0.heap.size F'->Bw w0 w'->TB F W w'->(∀b∈F',b∈F\/b∈G\/W.heap.size<=b)->wpList P ops Q rest (a.put o.dst v') w'):wpList P ops Q (o::rest) a W:=
 wpList_plain hgd fun _ hK=>RW W s x t ho w0 e i z sz bytes ht hi hz hsize hby hzs hsz hR v xs F hs hv hF sv hx ys G hw hdis hG hbytes hlen hbw fun v' w' F' h1 h2 h3 h4 h5=>hK _ _ (h v' w' F' h1 h2 h3 h4 h5)
theorem IR (w:World) (l:List iA) (id:Int) (bA oA n c k:Nat) (x:iA) (SA:Option Addr) (sn sc:Nat) (h:Rd LA w l [.slice (some ⟨bA,oA,none⟩) n c]) (hk:rB l id=(k:Int)) (hkn:k<n) (h0:w.cell? ⟨bA,oA+k*2,none⟩=some (.int .i64 x.id)) (h1:w.cell? ⟨bA,oA+k*2+1,none⟩=some (.slice SA sn sc)) :
  Calls prog 86 #[.slice (some ⟨bA,oA,none⟩) n c,.int .i64 id] w (Ret w (.agg #[.int .i64 x.id,.slice SA sn sc])):=by
 have B0:Bw w (w.alloc (.cells #[.int .i64 0,.slice none 0 0] 30)):=(Bw.refl w).alloc _;have i1:(0:Int)<=(k:Int):=by omega
 have i2:(k:Int)<(n:Int):=by omega
 have hz:=World.block_lt_of_cell? _ _ h0;have bb:=gD _ l id _ (h.bw gA B0);rw [hk] at bb;clear hk hkn;go_enter func86,ntmps86;go_wp2_with fail;refine (bb).mono ?_;rintro e w2 ⟨rfl,bc⟩;have hf:∀o,w2.frozen? ⟨w.heap.size,o,none⟩=false:=fun o=>by rw [oC bc _ _ (by first | (simp;done) | (simp;omega))];go_simp
 obtain ⟨q0,q1⟩:C2 w2 w.heap.size (.int .i64 0) (.slice none 0 0):=bc.c2 (by unfold C2;go_simp);have B2:=B0.then bc;have p0:=B2.cell h0;have p1:=B2.cell h1;clear bb h0 h1 h;go_wp2;refine bodyPost_ret (v:=.agg #[.int .i64 x.id,.slice SA sn sc]) (by simp [results,results86,go_sem,q0,q1]) rfl ⟨rfl,?_⟩
 repeat (first | with_reducible exact B2 | with_reducible refine Bw.set ?_ ?_ _)
 all_goals (dsimp only;omega)
def TN (l:List iA) (e:List mA):List iA:=QB l (wD l e) false
def aG (e:List mA):Nat->List iA->List (List Int)
 | 0,_=>[]
 | n+1,l=>if l.length=0 then [] else wD l e::aG e n (TN l e)
theorem ZU {l:List iA} {e:List mA} (hE:pB e=true) (hl:¬l.length=0) (hi:∀x∈l,gB x=true):(TN l e).length<l.length:=by
 have hb:=lA0 hE (fun h=>hl (by rw [h];rfl)) hi;obtain ⟨b,hb⟩:=List.exists_mem_of_ne_nil _ hb;obtain ⟨x,hx,rfl⟩:=List.mem_map.1 (show b∈(l.filter (DH l e)).map (·.id) from hb);have bb:=(List.mem_filter.1 hx).1;rcases Nat.lt_or_ge (TN l e).length l.length with h | h
 ·exact h
 ·exfalso
  have h2:(TN l e).length=l.length:=Nat.le_antisymm (List.length_filter_le _ _) h;have:=List.length_filter_eq_length_iff.1 h2 x bb;simp only [beq_iff_eq] at this;rw [List.contains_iff_mem.2 hb] at this
  cases this
theorem QK {l:List iA} {e:List mA} (h:dB l=true):dB (TN l e)=true:=FU _ h
theorem QR {e:List mA} (hE:pB e=true):∀(n m:Nat) (l:List iA),dB l=true->l.length<=n->l.length<=m->aG e n l=aG e m l
 | 0,0,l,_,_,_=>rfl
 | 0,m+1,l,_,h,_=>by simp only [aG];rw [if_pos (by omega)]
 | n+1,0,l,_,_,h=>by simp only [aG];rw [if_pos (by omega)]
 | n+1,m+1,l,hi,h1,h2=>by
  simp only [aG];by_cases hl:l.length=0
  ·rw [if_pos hl,if_pos hl]
  ·rw [if_neg hl,if_neg hl];have:=ZU hE hl (fun x hx=>TA hi hx);rw [QR hE n m _ (QK hi) (by omega) (by omega)]
def jE (l:List iA) (e:List mA):List (List Int):=aG e l.length l
theorem SR {l:List iA} {e:List mA} (h:l.length=0):jE l e=[]:=by unfold jE;rw [h];rfl
theorem FP {l:List iA} {e:List mA} (hE:pB e=true) (hi:dB l=true) (h:¬l.length=0):jE l e=wD l e::jE (TN l e) e:=by
 unfold jE;obtain ⟨n,hn⟩:∃n,l.length=n+1:=⟨l.length-1,by omega⟩;have:=ZU hE h (fun x hx=>TA hi hx);rw [hn];simp only [aG];rw [if_neg h,QR hE n (TN l e).length _ (QK hi) (by omega) (Nat.le_refl _)]
theorem nU {e:List mA}:∀(n:Nat) (l:List iA),(aG e n l).length<=n
 | 0,_=>Nat.le_refl _
 | n+1,l=>by
  simp only [aG]
  split
  ·simp
  ·have:=nU (e:=e) n (TN l e);simp only [List.length_cons];omega
theorem oU {e:List mA}:∀(n:Nat) (l:List iA) (b:List Int),b∈aG e n l->b.length<=l.length
 | 0,_,_,h=>by simp [aG] at h
 | n+1,l,b,h=>by
  simp only [aG] at h
  split at h
  ·simp at h
  ·rcases List.mem_cons.1 h with rfl | h
   ·exact jJ l e
   ·exact Nat.le_trans (oU n _ b h) (List.length_filter_le _ _)
def mD (l:List iA) (e:List mA):List (List Int):=if kB l e then jE l e else []
theorem tI (l:List iA) (e:List mA):(mD l e).length<=16:=by
 unfold mD;split
 ·rename_i h
  have:=VA (AA h);have:=nU (e:=e) l.length l;unfold jE;omega
 ·simp
theorem UN {l:List iA} {e:List mA} {b:List Int} (h:b∈mD l e):b.length<=16:=by
 unfold mD at h;split at h
 ·rename_i h2
  have:=VA (AA h2);have:=oU l.length l b h;omega
 ·simp at h
section
variable {α:Type} {R:α->List Value->List Nat->Prop}
theorem QZ:∀ {xs:List α} {us:List (List Value)} {fs:List (List Nat)} (k:Nat),IH R xs us fs->IH R (xs.take k) (us.take k) (fs.take k)
 | [],[],[],k,_=>by simp [IH]
 | x::xs,u::us,f::fs,0,_=>by simp [IH]
 | x::xs,u::us,f::fs,k+1,h=>⟨h.1,QZ k h.2⟩
theorem RZ:∀ {xs:List α} {us:List (List Value)} {fs:List (List Nat)} (k:Nat),IH R xs us fs->IH R (xs.drop k) (us.drop k) (fs.drop k)
 | [],[],[],k,_=>by simp [IH]
 | x::xs,u::us,f::fs,0,h=>h
 | x::xs,u::us,f::fs,k+1,h=>RZ k h.2
theorem bAg {xs:List α} {us:List (List Value)} {fs:List (List Nat)} (k:Nat) (h:IH R xs us fs):IH R (xs.take k++xs.drop (k+1)) (us.take k++us.drop (k+1)) (fs.take k++fs.drop (k+1)):=WG (QZ k h) (RZ (k+1) h)
end
theorem kA4 {us:List (List Value)} {sz k:Nat} (h:∀u∈us,u.length=sz) (hk:k<=us.length):us.flatten.take (k*sz)=(us.take k).flatten:=by
 have hl:(us.take k).flatten.length=k*sz:=by
  rw [KF (sz:=sz) (fun u hu=>h u (List.mem_of_mem_take hu)),List.length_take,Nat.min_eq_left hk]
 conv=>lhs;rw [<-List.take_append_drop k us,List.flatten_append]
 rw [<-hl,List.take_left]
theorem kA5 {us:List (List Value)} {sz k:Nat} (h:∀u∈us,u.length=sz) (hk:k<=us.length):us.flatten.drop (k*sz)=(us.drop k).flatten:=by
 have hl:(us.take k).flatten.length=k*sz:=by
  rw [KF (sz:=sz) (fun u hu=>h u (List.mem_of_mem_take hu)),List.length_take,Nat.min_eq_left hk]
 conv=>lhs;rw [<-List.take_append_drop k us,List.flatten_append]
 rw [<-hl,List.drop_left]
theorem hAb {Fs:List (List Nat)} {k:Nat}:(Fs.take k++Fs.drop (k+1)).flatten.Sublist Fs.flatten:=by
 rw [List.flatten_append]
 conv=>rhs;rw [<-List.take_append_drop k Fs,List.flatten_append]
 refine List.Sublist.append (List.Sublist.refl _) ?_;rcases h:Fs.drop k with _ | ⟨f,l⟩
 ·have:Fs.drop (k+1)=[]:=by rw [<-List.drop_drop,h];rfl
  rw [this];exact List.Sublist.refl _
 ·have:Fs.drop (k+1)=l:=by rw [<-List.drop_drop,h];rfl
  rw [this,List.flatten_cons];exact List.sublist_append_right _ _
section
variable {P:Program}
theorem eK {α:Type} {ops:Array Oper} {o:Oper} {a:Act} {K:Act->World->Prop} {Q:Exit->Act->World->Prop} {E:Prop} (W:World) (hgd:o.guard=none) (s x:Operand) (t:TypeId)
  (ho:o.op=.call { callee:=.builtin .append,args:=#[s,x],argTypes:=#[t,t] })
  (w0:World) (e:TypeId) (i:TypeInfo) (z:Value) (sz bytes:Nat) (ht:P.underlying t=some (.slice e)) (hi:P.info? e=some i) (hz:i.zero=some z)
  (hsize:i.size=sz) (hby:i.bytes=bytes) (hzs:z.cells.size=sz) (hsz:0<sz)
  {R:Fp α} (hR:tC w0.heap.size R) (g n c:Nat) (xs:List α) (F:List Nat) (hv:fSl e sz R W xs [.slice (some ⟨g,0,none⟩) n c] F) (hF:sA w0.heap.size F)
  (k:Nat) (hk:k<n) (hs:a.eval s=.slice (some ⟨g,0,none⟩) k c) (ad:Addr) (l c':Nat) (hx:a.eval x=.slice (some ad) l c') (hln:l=n-(k+1)) (had:k+1<n->ad=⟨g,(k+1)*sz,none⟩)
  (hbytes:n*bytes<=140737488355328) (hlen:n<4611686018427387904) (hbw:Bw w0 W)
  (h:∀v' w' F',fSl e sz R w' (xs.take k++xs.drop (k+1)) [v'] F'->sA w0.heap.size F'->Bw w0 w'->TB F W w'->(∀b∈F',b∈F\/W.heap.size<=b)->K (a.put o.dst v') w'):if Region.wanted o (yielded ops a.tmps)=true then Oper.wp P o a W K Q else E:=by
 have hw:Region.wanted o (yielded ops a.tmps)=true:=by simp [Region.wanted,hgd]
 rw [if_pos hw];subst hln;obtain ⟨v0,us,Fs,bg,bp,bc,bj⟩:=hv;injection bg with bg;have hl:=qF bc;have bs:∀u∈us,u.length=sz:=fun u hu=>by obtain ⟨x,f,hr⟩:=bF bc hu;exact hr.2
 rcases bp.2 with ⟨h0,_⟩ | ⟨g',cap,cd,cm,_,hb,h1,h2,h3,h4⟩
 ·rw [<-bg] at h0;cases h0
 rw [<-bg] at cm;injection cm with e1 e2 e3;injection e1 with e1;injection e1 with e1;subst e1 e3;have hn:us.length=n:=by rw [hl.1,e2]
 have cb:W.ownsRow 0 e sz (.slice (some ⟨g,0,none⟩) k c) k (us.take k).flatten:=by
  refine ⟨by rw [KF (sz:=sz) (fun u hu=>bs u (List.mem_of_mem_take hu)),List.length_take,Nat.min_eq_left (by omega)],.inr ⟨g,c,cd,rfl,Nat.zero_le _,hb,by omega,h2,h3,?_⟩⟩;rw [<-kA4 bs (by omega),<-h4,List.take_take,Nat.min_eq_left (Nat.mul_le_mul_right _ (by omega))]
 have cg:(us.drop (k+1)).flatten.length=(n-(k+1))*sz:=by rw [KF (sz:=sz) (fun u hu=>bs u (List.mem_of_mem_drop hu)),List.length_drop,hn]
 have bn:∀j u,(us.drop (k+1)).flatten[j]? = some u->W.cell? (ad.add j)=some u:=by
  intro j u hj;have cn:j<(n-(k+1))*sz:=by rw [<-cg];exact (List.getElem?_eq_some_iff.1 hj).1
  have cp:k+1<n:=by
   rcases Nat.lt_or_ge (k+1) n with h | h
   ·exact h
   ·rw [show n-(k+1)=0 from by omega] at cn;omega
  rw [had cp,show (⟨g,(k+1)*sz,none⟩:Addr).add j=⟨g,(k+1)*sz+j,none⟩ by
   unfold Addr.add
   split
   ·rename_i h0;subst h0;rfl
   ·rfl]
  rw [cell_of_row W g _ cd e (0,0) hb];rw [<-kA5 bs (by omega),List.getElem?_drop,<-h4,List.getElem?_take] at hj
  split at hj
  ·rw [<-hj];simp
  ·cases hj
 have bz:∀u∈(us.drop (k+1)).flatten,u.oneCell'=true:=fun u hu=>by
  obtain ⟨l,cq,cs⟩:=List.mem_flatten.1 hu;obtain ⟨y,f,hr⟩:=bF bc (List.mem_of_mem_drop cq);exact hR.one hr.1 u cs
 have hvg:w0.heap.size<=g:=hF.ge g (by rw [bj,<-bg];simp [Value.ownBlock]);have cf:g∈F:=by rw [bj,<-bg];simp [Value.ownBlock]
 obtain ⟨v',w',cc,bq,bb,_,bt⟩:=run_append_own_at (P:=P) W 0 t o.type e i z sz bytes ht hi hz hsize hby hzs hsz _ k _ cb ad (n-(k+1)) c' (us.drop (k+1)).flatten cg bn bz
  (by simp only [maxLen];omega) (by rw [show k+(n-(k+1))=n-1 from by omega];exact Nat.le_trans (Nat.mul_le_mul_right _ (by omega)) hbytes) (Nat.zero_le _)
 have bv:Bw w0 w':=hbw.grown bb (fun k' hk'=>by simp [Value.ownBlock] at hk';omega);have bm:=hF.nodup;rw [bj,<-bg] at bm;simp only [Value.ownBlock,Option.toList,List.singleton_append,List.nodup_cons] at bm;have bd:=hAb (Fs:=Fs) (k:=k);have bk:∀b∈Fs.flatten,b<W.heap.size:=fun b hb=>(CC hR).lt (⟨v0,us,Fs,rfl,bp,bc,rfl⟩:fSl e sz R W xs [v0] _) b (List.mem_append_right _ hb)
 have bx:∀b,b<w0.heap.size->w'.heap[b]? = W.heap[b]?:=fun b hb=>bb.block b (Nat.lt_of_lt_of_le hb hbw.size) (fun e=>by simp [Value.ownBlock] at e;omega)
 unfold Oper.wp execOp;simp only [ho,resolve,invoke,builtin,Sem.run_bind,Sem.run_pure,Result.andThen_ok,List.map_toArray,List.map_cons,List.map_nil,hs,hx,cc];refine h v' w' (v'.ownBlock.toList++(Fs.take k++Fs.drop (k+1)).flatten) ⟨v',us.take k++us.drop (k+1),Fs.take k++Fs.drop (k+1),rfl,?_,?_,rfl⟩ ⟨?_,?_⟩ bv ⟨bb.size,fun b hb hn=>bb.block b hb (fun e=>by simp [Value.ownBlock] at e;exact hn (e▸cf))⟩ ?_
 ·rw [List.flatten_append,List.length_append,List.length_take,List.length_drop,show min k xs.length+(xs.length-(k+1))=k+(n-(k+1)) from by omega];exact bq
 ·refine bG (fun y u f' hf' hy=>⟨hR.step (fun b hb=>?_) hy.1,hy.2⟩) (bAg k bc);rcases hb with hb | hb
  ·have bf:b∈Fs.flatten:=bd.subset (List.mem_flatten.2 ⟨_,hf',hb⟩);exact bb.block b (bk b bf) (fun e=>by simp [Value.ownBlock] at e;exact bm.1 (e▸bf))
  ·exact bx b hb
 ·rw [List.nodup_append];refine ⟨by cases v'.ownBlock<;>simp,bm.2.sublist bd,fun p hp q hq e=>?_⟩;subst e;have cj:v'.ownBlock=some p:=by simpa using hp
  have ck:=bd.subset hq;rcases bt with e | e
  ·rw [cj] at e;simp [Value.ownBlock] at e;exact bm.1 (e▸ck)
  ·rw [cj] at e;injection e with e;have:=bk p ck;omega
 ·intro b hb;rcases List.mem_append.1 hb with hb | hb
  ·have bf:v'.ownBlock=some b:=by simpa using hb
   rcases bt with e | e
   ·rw [bf] at e;simp [Value.ownBlock] at e;omega
   ·rw [bf] at e;injection e with e;have:=hbw.size;omega
  ·exact hF.ge b (by rw [bj];exact List.mem_append_right _ (bd.subset hb))
 ·intro b hb;rcases List.mem_append.1 hb with hb | hb
  ·have bf:v'.ownBlock=some b:=by simpa using hb
   rcases bt with e | e
   ·rw [bf] at e;simp [Value.ownBlock] at e;exact .inl (e▸cf)
   ·rw [bf] at e;injection e with e;exact .inr (by omega)
  ·exact .inl (by rw [bj];exact List.mem_append_right _ (bd.subset hb))
end
end Go.Proofs.YtpihighajaeabaaGreat
