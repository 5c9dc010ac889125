/- Lines on layers in both programs. -/
import Derived.Test.YtpihighajaeabaaGreatQDelS2
import Derived.Test.YtpihighajaeabaaGreatQDelI3
import Derived.Deep.Cut
import Derived.Test.YtpihighajaeabaaGreatQFmtP
namespace Go.Proofs.YtpihighajaeabaaGreat
open Go.RowKit
set_option linter.unusedVariables false
theorem AO (w:World) (s:tA) (id:Int) (va vb vc:Value) (ha:Rd MA w s.items [va]) (hb:Rd RA w s.wanted [vb]) (hc:Rd XA w s.best [vc]) (t1:eC s.items≤1048576) (t2:tC s.wanted≤1048576) (t3:s.best.length≤1048576) :
  Calls Tryz.prog 18 #[.agg #[va,vb,vc,.int .i64 s.tests],.int .i64 id] w (BC w (xQ aC w.heap.size (PE s id) (.bool (oF s id)))):=by
 cases h:oF s id with
 | true=>
  rw [show PE s id=xL s id by unfold PE;rw [h];rfl]
  cases h2:s.best.contains id with
  | true=>exact AQ w s id va vb vc ha hb hc t1 t2 t3 h h2
  | false=>exact tP w s id va vb vc ha hb hc t1 t2 t3 h h2
 | false=>rw [show PE s id=s by unfold PE;rw [h];rfl];exact zQ w s id va vb vc ha hb hc t1 t2 t3 h
theorem oN {α:Type} (f:α→Nat) (n:Nat):∀ {l:List α},(∀x∈l,f x=n)→NH f l=l.length*n
 | [],_=>by simp [NH]
 | a::l,h=>by
  have h1:=oN f n (l:=l) (fun x hx=>h x (by simp [hx]));have h2:=h a (by simp);simp only [NH,List.length_cons,h1,h2,Nat.succ_mul];omega
theorem JY {l:List gA} (h:WA l=true):eC l≤64:=by
 have h2:=oN (fun y:gA=>y.vals.length) 3 (fun y hy=>YA (NA h hy));have h3:=VA h;unfold eC;rw [h2];omega
theorem DS {s:tA} {id:Int} (h:oJ s):oJ (PE s id):=by
 unfold PE
 split
 ·rename_i hok
  obtain ⟨E1,_,_⟩:=VH hok;have hI:=sA (ZB E1).1;have hl:=DD E1;have h4:=JY (vJ hI [id] false);have h5:=dQ s id;have h6:=mN hI id;unfold xL
  split
  ·refine ⟨by dsimp only;omega,h.2.1,?_⟩;dsimp only;rw [qP,List.length_append];omega
  ·exact ⟨by dsimp only;omega,h.2.1,h.2.2⟩
 ·exact h
end Go.Proofs.YtpihighajaeabaaGreat
namespace Go.Proofs.YtpihighajaeabaaGreat
open Go.RowKit
set_option linter.unusedVariables false
set_option linter.unusedSimpArgs false
def OG (s:tA) (x:gA):Bool:=LA x && (oF s x.id && WF (PE s x.id) x)
def CK (s:tA) (x:gA):tA:=if OG s x then cG (PE s x.id) x else s
end Go.Proofs.YtpihighajaeabaaGreat
namespace Go.Proofs.YtpihighajaeabaaGreat
open Go.RowKit
set_option linter.unusedVariables false
set_option linter.unusedSimpArgs false
set_option maxRecDepth 100000 in
set_option maxHeartbeats 6400000 in
theorem lW (w:World) (s:tA) (x:gA) (va vb vc u:Value) (ha:Rd MA w s.items [va]) (hb:Rd RA w s.wanted [vb]) (hc:Rd XA w s.best [vc]) (hx:Rd XA w x.vals [u]) (t1:eC s.items≤1048576) (t2:tC s.wanted≤1048576) (t3:s.best.length≤1048576) :
  Calls Tryz.prog 13 #[.agg #[va,vb,vc,.int .i64 s.tests],.agg #[.int .i64 x.id,u]] w (BC w (xQ aC w.heap.size (CK s x) (.bool (OG s x)))):=by
 obtain ⟨A,n,c,rfl,L0,Lc,Lm⟩:=iA ha;unfold maxLen at Lm;have L:=Lib.hid L0;clear L0;obtain ⟨B,m,c4,rfl,M0,Mc,Mm⟩:=iA hc;unfold maxLen at Mm;have M:=Lib.hid M0;clear M0;obtain ⟨W0,hW0⟩:∃W0,W0=((w.alloc (.cells #[.slice A n c,vb,.slice B m c4,.int .i64 s.tests] 28)).alloc (.cells #[.int .i64 x.id,u] 30)).alloc (.cells #[.slice none 0 0,.slice none 0 0,.slice none 0 0,.int .i64 0] 28):=⟨_,rfl⟩;have A0:Bw w W0:=by rw [hW0];exact (((Bw.refl w).alloc _).alloc _).alloc _
 have bS:Box W0 w.heap.size [.slice A n c,vb,.slice B m c4,.int .i64 s.tests]:=by rw [hW0];exact (Box.new w #[.slice A n c,vb,.slice B m c4,.int .i64 s.tests] 28).bw (((Bw.refl _).alloc _).alloc _)
 have bX:Box W0 (w.heap.size+1) [.int .i64 x.id,u]:=by
  have:=Box.new (w.alloc (.cells #[.slice A n c,vb,.slice B m c4,.int .i64 s.tests] 28)) #[.int .i64 x.id,u] 30;rw [show (w.alloc (.cells #[.slice A n c,vb,.slice B m c4,.int .i64 s.tests] 28)).heap.size=w.heap.size+1 from by simp] at this;rw [hW0];exact this.bw ((Bw.refl _).alloc _)
 have bR:Box W0 (w.heap.size+1+1) [.slice none 0 0,.slice none 0 0,.slice none 0 0,.int .i64 0]:=by
  have:=Box.new ((w.alloc (.cells #[.slice A n c,vb,.slice B m c4,.int .i64 s.tests] 28)).alloc (.cells #[.int .i64 x.id,u] 30)) #[.slice none 0 0,.slice none 0 0,.slice none 0 0,.int .i64 0] 28;rw [show ((w.alloc (.cells #[.slice A n c,vb,.slice B m c4,.int .i64 s.tests] 28)).alloc (.cells #[.int .i64 x.id,u] 30)).heap.size=w.heap.size+1+1 from by simp] at this;rw [hW0];exact this
 have z0:W0.heap.size=w.heap.size+3:=by rw [hW0];simp
 have HW0:=Lib.hid hW0;clear hW0;have hcall:=IE W0 x u (hx.bw dA A0);go_enter Tryz.func13,Tryz.ntmps13;go_wp2_with fail;rw [← HW0.out];refine hcall.mono ?_;rintro e w2 ⟨rfl,hb2⟩;clear hcall;rcases Bool.eq_false_or_eq_true (LA x) with e1 | e1
 ·have E1:=Lib.hid e1;rw [e1];clear e1;have bS2:=bS.bw hb2;have bX2:=bX.bw hb2;have y0:=bS2.c 0 _ rfl;have y1:=bS2.c 1 _ rfl;have y2:=bS2.c 2 _ rfl;have y3:=bS2.c 3 _ rfl;have yf:=bS2.fr;have z0:=bX2.c 0 _ rfl;have z1:=bX2.c 1 _ rfl;have zf:=bX2.fr;have hcall:=AO w2 s x.id _ vb _ (ha.bw jA (A0.then hb2)) (hb.bw lA (A0.then hb2)) (hc.bw dA (A0.then hb2)) t1 t2 t3;clear bS2 bX2;go_wp2_with fail;refine hcall.mono ?_;rintro e w3 ⟨_,rfl,⟨cs,rfl,⟨G3,o3,f3⟩⟩,hb3⟩;clear hcall;obtain ⟨D,hD⟩:∃D,D=PE s x.id:=⟨_,rfl⟩;rw [← hD] at o3;have hsm:oJ D:=by rw [hD];exact DS ⟨t1,t2,t3⟩
  have HD:=Lib.hid hD;clear hD;obtain ⟨A1,c1,A2,c2,A3,c3,rfl⟩:=NC o3;clear y0 y1 y2 y3 yf;clear z0 z1 zf;have AV:=(Bw.refl w3).alloc (.cells #[.slice A1 D.items.length c1,.slice A2 D.wanted.length c2,.slice A3 D.best.length c3,.int .i64 D.tests] 28);have hB3:=(hb2.then hb3).then AV;rcases Bool.eq_false_or_eq_true (oF s x.id) with e2 | e2
  ·have E2:=Lib.hid e2;rw [e2];clear e2;have bX3:=bX.bw hB3;have bD3:=Box.new w3 #[.slice A1 D.items.length c1,.slice A2 D.wanted.length c2,.slice A3 D.best.length c3,.int .i64 D.tests] 28;have z0:=bX3.c 0 _ rfl;have z1:=bX3.c 1 _ rfl;have zf:=bX3.fr;have d0:=bD3.c 0 _ rfl;have d1:=bD3.c 1 _ rfl;have d2:=bD3.c 2 _ rfl;have d3:=bD3.c 3 _ rfl;have df:=bD3.fr;obtain ⟨rd1,rd2,rd3,_⟩:=BT (xA AV oD o3);have hcall:=xO _ D x _ _ _ u rd1 rd2 rd3 (hx.bw dA (A0.then hB3)) hsm.1 hsm.2.1 hsm.2.2;clear rd1 rd2 rd3 bX3 bD3;go_wp2_with fail;refine hcall.mono ?_;rintro e w4 ⟨_,rfl,⟨cs,rfl,⟨G4,o4,f4⟩⟩,hb4⟩;clear hcall;clear z0 z1 zf;clear d0 d1 d2 d3 df;obtain ⟨I,hI⟩:∃I,I=cG D x:=⟨_,rfl⟩;rw [← hI] at o4;have HI:=Lib.hid hI;clear hI;obtain ⟨B1,d1,B2,d2,B3,d3,rfl⟩:=NC o4;have bD4:=(Box.new w3 #[.slice A1 D.items.length c1,.slice A2 D.wanted.length c2,.slice A3 D.best.length c3,.int .i64 D.tests] 28).bw hb4;have z3:=(hb2.then hb3).size;have hB5:=hB3.then hb4;have nG:w3.heap.size∉G4:=fun h=>by have:=f4.ge _ h;simp at this;omega
   obtain ⟨V2,hV2⟩:∃V,V=(((w4.setCell ⟨w3.heap.size,0,none⟩ (.slice B1 I.items.length d1)).setCell ⟨w3.heap.size,1,none⟩ (.slice B2 I.wanted.length d2)).setCell ⟨w3.heap.size,2,none⟩ (.slice B3 I.best.length d3)).setCell ⟨w3.heap.size,3,none⟩ (.int .i64 I.tests):=⟨_,rfl⟩;have hB4:Bw W0 V2:=by rw [hV2];exact hB5.set4 z3
   have o5:aC V2 I [.slice B1 I.items.length d1,.slice B2 I.wanted.length d2,.slice B3 I.best.length d3,.int .i64 I.tests] G4:=by rw [hV2];exact SI oD o4 nG
   have bD5:Box V2 w3.heap.size [.slice B1 I.items.length d1,.slice B2 I.wanted.length d2,.slice B3 I.best.length d3,.int .i64 I.tests]:=by rw [hV2];exact (((bD4.set (by simp) _).set (by simp) _).set (by simp) _).set (by simp) _
   have HV2:=Lib.hid hV2;have k0:=bD4.c 0 _ rfl;have k1:=bD4.c 1 _ rfl;have k2:=bD4.c 2 _ rfl;have k3:=bD4.c 3 _ rfl;have kf:=bD4.fr;clear hV2 o4;rcases Bool.eq_false_or_eq_true (WF D x) with e3 | e3
   ·have hok:OG s x=true:=by unfold OG;rw [E1.out,E2.out,← HD.out,e3];rfl
    have HY:=Lib.hid (show CK s x=I by unfold CK;rw [hok,← HD.out,← HI.out];rfl);have HOK:=Lib.hid hok;rw [e3];clear e3 hok;have bR4:=bR.bw hB4;have BB:=A0.then hB4;have z4:=hB3.size;obtain ⟨F1,F2,F3,o1,o2,o3',rfl⟩:=XC o5
    go_upto_region 6 with fail
    rw [← HV2.out];clear k0 k1 k2 k3 kf;have r0:=bR4.c 0 _ rfl;have r1:=bR4.c 1 _ rfl;have r2:=bR4.c 2 _ rfl;have r3:=bR4.c 3 _ rfl;have rf:=bR4.fr;have k0:=bD5.c 0 _ rfl;have k1:=bD5.c 1 _ rfl;have k2:=bD5.c 2 _ rfl;have k3:=bD5.c 3 _ rfl;have kf:=bD5.fr;clear o5 bD4 bR4 bD5;go_wp2;rw [HY.out,HOK.out];refine bodyPost_ret (v:=.tuple #[.agg #[.slice B1 I.items.length d1,.slice B2 I.wanted.length d2,.slice B3 I.best.length d3,.int .i64 I.tests],.bool true]) (by simp [results,Tryz.results13,go_sem,r0,r1,r2,r3]) rfl (cD o1 o2 o3' (f4.mono (by omega)) (by omega) BB)
   ·have hno:OG s x=false:=by unfold OG;rw [← HD.out,e3];simp
    rw [e3];clear e3
    go_upto_region 6 with fail
    rw [← HV2.out];clear k0 k1 k2 k3 kf;have HNO:=Lib.hid (show CK s x=s by unfold CK;rw [hno];rfl);have HNO2:=Lib.hid hno;clear hno;have bS9:=bS.bw hB4;have y0:=bS9.c 0 _ rfl;have y1:=bS9.c 1 _ rfl;have y2:=bS9.c 2 _ rfl;have y3:=bS9.c 3 _ rfl;have yf:=bS9.fr;have hcall:=ED _ s _ vb _ (ha.bw jA (A0.then hB4)) (hb.bw lA (A0.then hB4)) (hc.bw dA (A0.then hB4)) t1 t2 t3;clear bS9;go_wp2_with fail;refine hcall.mono ?_;rintro e w9 ⟨cs,F9,rfl,o9,f9,hb9⟩;obtain ⟨A1,c1,A2,c2,A3,c3,rfl⟩:=NC o9;obtain ⟨F1,F2,F3,o1,o2,o3,rfl⟩:=XC o9;clear y0 y1 y2 y3 yf;have bR9:=bR.bw (hB4.then hb9);have BB:=A0.then (hB4.then hb9);have zB:=(hB4).size;clear hcall o9;have r0:=bR9.c 0 _ rfl;have r1:=bR9.c 1 _ rfl;have r2:=bR9.c 2 _ rfl;have r3:=bR9.c 3 _ rfl;have rf:=bR9.fr;go_wp2;rw [HNO.out,HNO2.out];refine bodyPost_ret (v:=.tuple #[.agg #[.slice A1 s.items.length c1,.slice A2 s.wanted.length c2,.slice A3 s.best.length c3,.int .i64 s.tests],.bool false]) (by simp [results,Tryz.results13,go_sem,r0,r1,r2,r3]) rfl (cD o1 o2 o3 (f9.mono (by omega)) (by omega) BB)
  ·have hno:OG s x=false:=by unfold OG;rw [e2];simp
   rw [e2];clear e2;have HNO:=Lib.hid (show CK s x=s by unfold CK;rw [hno];rfl);have HNO2:=Lib.hid hno;clear hno;have bS9:=bS.bw hB3;have y0:=bS9.c 0 _ rfl;have y1:=bS9.c 1 _ rfl;have y2:=bS9.c 2 _ rfl;have y3:=bS9.c 3 _ rfl;have yf:=bS9.fr;have hcall:=ED _ s _ vb _ (ha.bw jA (A0.then hB3)) (hb.bw lA (A0.then hB3)) (hc.bw dA (A0.then hB3)) t1 t2 t3;clear bS9;go_wp2_with fail;refine hcall.mono ?_;rintro e w9 ⟨cs,F9,rfl,o9,f9,hb9⟩;obtain ⟨A1,c1,A2,c2,A3,c3,rfl⟩:=NC o9;obtain ⟨F1,F2,F3,o1,o2,o3,rfl⟩:=XC o9;clear y0 y1 y2 y3 yf;have bR9:=bR.bw (hB3.then hb9);have BB:=A0.then (hB3.then hb9);have zB:=(hB3).size;clear hcall o9;have r0:=bR9.c 0 _ rfl;have r1:=bR9.c 1 _ rfl;have r2:=bR9.c 2 _ rfl;have r3:=bR9.c 3 _ rfl;have rf:=bR9.fr;go_wp2;rw [HNO.out,HNO2.out];refine bodyPost_ret (v:=.tuple #[.agg #[.slice A1 s.items.length c1,.slice A2 s.wanted.length c2,.slice A3 s.best.length c3,.int .i64 s.tests],.bool false]) (by simp [results,Tryz.results13,go_sem,r0,r1,r2,r3]) rfl (cD o1 o2 o3 (f9.mono (by omega)) (by omega) BB)
 ·have hno:OG s x=false:=by unfold OG;rw [e1];rfl
  rw [e1];clear e1;have HNO:=Lib.hid (show CK s x=s by unfold CK;rw [hno];rfl);have HNO2:=Lib.hid hno;clear hno;have bS9:=bS.bw hb2;have y0:=bS9.c 0 _ rfl;have y1:=bS9.c 1 _ rfl;have y2:=bS9.c 2 _ rfl;have y3:=bS9.c 3 _ rfl;have yf:=bS9.fr;have hcall:=ED _ s _ vb _ (ha.bw jA (A0.then hb2)) (hb.bw lA (A0.then hb2)) (hc.bw dA (A0.then hb2)) t1 t2 t3;clear bS9;go_wp2_with fail;refine hcall.mono ?_;rintro e w9 ⟨cs,F9,rfl,o9,f9,hb9⟩;obtain ⟨A1,c1,A2,c2,A3,c3,rfl⟩:=NC o9;obtain ⟨F1,F2,F3,o1,o2,o3,rfl⟩:=XC o9;clear y0 y1 y2 y3 yf;have bR9:=bR.bw (hb2.then hb9);have BB:=A0.then (hb2.then hb9);have zB:=(hb2).size;clear hcall o9;have r0:=bR9.c 0 _ rfl;have r1:=bR9.c 1 _ rfl;have r2:=bR9.c 2 _ rfl;have r3:=bR9.c 3 _ rfl;have rf:=bR9.fr;go_wp2;rw [HNO.out,HNO2.out];refine bodyPost_ret (v:=.tuple #[.agg #[.slice A1 s.items.length c1,.slice A2 s.wanted.length c2,.slice A3 s.best.length c3,.int .i64 s.tests],.bool false]) (by simp [results,Tryz.results13,go_sem,r0,r1,r2,r3]) rfl (cD o1 o2 o3 (f9.mono (by omega)) (by omega) BB)
end Go.Proofs.YtpihighajaeabaaGreat
namespace Go.Proofs.YtpihighajaeabaaGreat
open Go.RowKit
set_option linter.unusedVariables false
set_option linter.unusedSimpArgs false
def aK (k:Nat) (b:List Int):ByteArray:=EA (k:Int)++⟨#[58,32]⟩++nC b
def XH (X:List (List Int)):Nat→List ByteArray
 | 0=>[]
 | k+1=>XH X k++(match X[k]? with | some b=>[aK k b] | none=>[])
def EH (l:List gA) (e:List kA):List ByteArray:=XH (BE l e) (BE l e).length
theorem KY {X:List (List Int)} {k:Nat} {b:List Int} (h:X[k]? = some b):XH X (k+1)=XH X k++[aK k b]:=by rw [XH,h]
theorem pN (X:List (List Int)):∀k,(XH X k).length≤k
 | 0=>Nat.le_refl _
 | k+1=>by
  have:=pN X k;rw [XH,List.length_append]
  cases X[k]?<;>simp<;>omega
theorem aAw (l:List gA) (e:List kA):(EH l e).length≤16:=Nat.le_trans (pN _ _) (wJ l e)
theorem jQ {e:List kA}:∀(n:Nat) (l:List gA) (b:List Int),WA l=true→b∈AE e n l→∀v∈b,0≤v∧v≤99
 | 0,_,_,_,h=>by simp [AE] at h
 | n+1,l,b,hi,h=>by
  simp only [AE] at h
  split at h
  ·simp at h
  ·rcases List.mem_cons.1 h with h1 | h1
   ·subst h1;exact qD hi
   ·exact jQ n (MM l e) b (AK hi) h1
theorem kQ {l:List gA} {e:List kA} {b:List Int} (h:b∈BE l e):∀v∈b,0≤v∧v≤99:=by
 unfold BE at h;split at h
 ·rename_i h2;exact jQ _ l b (sA h2) h
 ·simp at h
theorem dAn {k:Nat} (hk:k≤16) {b:List Int} (hw:∀x∈b,(Lit.int .i64 x).wf=true) (hl:b.length≤16) :
  (∀W,(Op.stringOp .add (EA (k:Int)) ⟨#[58,32]⟩).run Tryz.prog W=.ok (.string (EA (k:Int)++⟨#[58,32]⟩)) W) ∧
  (∀W,(Op.stringOp .add (EA (k:Int)++⟨#[58,32]⟩) (nC b)).run Tryz.prog W=.ok (.string (EA (k:Int)++⟨#[58,32]⟩++nC b)) W):=by
 have h1:=(OA (iB (n:=(k:Int)) (by omega))).2;have h2:=lJ hw;have e2:(⟨#[58,32]⟩:ByteArray).size=2:=rfl;refine ⟨fun W=>run_string_add_sum W _ _ (by omega),fun W=>run_string_add_sum W _ _ (by rw [cA];omega)⟩
set_option maxRecDepth 100000 in
set_option maxHeartbeats 3200000 in
theorem mW (w:World) (l:List gA) (e:List kA) (v u:Value) (h:Rd MA w l [v]) (h':Rd RA w e [u]) :
  Calls Tryz.prog 44 #[v,u] w (BC w (pF GK w.heap.size (EH l e))):=by
 obtain ⟨i0,hi,hz0,hz1,hz2⟩:=info_parts UK;have hv0:=PA (e:=9) (sz:=1) (R:=KW) w;have A0:Bw w (w.alloc (.cells #[] 9)):=(Bw.refl w).alloc _;obtain ⟨Y,hY⟩:∃Y,Y=EH l e:=⟨_,rfl⟩;rw [← hY];have HY:=Lib.hid hY;clear hY;go_enter Tryz.func44,Tryz.ntmps44;go_wp2_with fail;refine (aAu _ l e _ _ (h.bw jA A0) (h'.bw lA A0)).mono ?_;rintro e w2 ⟨vX,rfl,⟨FX,oX,fX⟩,hb2⟩;have B2:=A0.then hb2;have hv2:=(kB (B:=w.heap.size)).bw hb2 A0.size hv0;have zX:∀z∈FX,z∉[w.heap.size]:=fun z hz=>by have h1:=fX.ge z hz;simp at h1;simp only [List.mem_singleton];omega
 have HL:=Lib.hid (wJ l e);have HMM:=Lib.hid (fun b (hb:b∈BE l e)=>And.intro (gQ hb) (kQ hb));obtain ⟨X,hX⟩:∃X,X=BE l e:=⟨_,rfl⟩;have HE:=Lib.hid (show Y=XH X X.length by rw [HY.out,hX];rfl);rw [← hX] at oX HL HMM;have hl:=GU oX;obtain ⟨A,n,c,rfl,L0,Lc,Lm⟩:=iA hl;unfold maxLen at Lm;have L:=Lib.hid L0;clear L0;have n16:n≤16:=by rw [L.out];exact HL.out
 have OX:=Lib.hid oX;have ZX:=Lib.hid zX;have ZS:=Lib.hid (show w.heap.size<w2.heap.size by have:=hb2.size;simp at this;omega);clear hX oX zX hl hv0 HY fX;go_wp2
 go_loopg [5,13] n (fun g s i w'=>∃(k:Nat) (F:List Nat),k≤n∧g=n-k∧i=.int .i64 k∧GK w' (XH X k) [s] F∧pA w.heap.size F∧Bw w w'∧SB [w.heap.size] w2 w'∧Hid (∀z∈F,z=w.heap.size∨w2.heap.size≤z))
 case atStart=>exact ⟨0,_,by omega,rfl,rfl,hv2,⟨by simp,by simp⟩,B2,SB.refl _ _,Lib.hid (fun z hz=>.inl (by simpa using hz))⟩
 case round=>
  clear hv2 B2 hb2 A0;obtain ⟨k,F,hk,rfl,rfl,hv,hF,hb,hO,HF⟩:=hrel;by_cases hlt:k<n
  ·obtain ⟨b,hbx⟩:=rA (xs:=X) (k:=k) (by have:=L.out;omega);obtain ⟨ba,oa,Ab,cb,rfl,_,hc0,hin⟩:=cA1 (GU (hO.keeps TE OX.out ZX.out)) hbx;have i1:(0:Int)≤(k:Int):=by omega
   have i2:(k:Int)<(n:Int):=by omega
   obtain ⟨m1,m2⟩:=HMM.out b (List.mem_of_getElem? hbx);have hw:∀x∈b,(Lit.int .i64 x).wf=true:=fun x hx=>iB (by have:=m2 x hx;omega)
   obtain ⟨a1,a2⟩:=dAn (k:=k) (by omega) hw m1;have HS:=Lib.hid (KY hbx);have HLEN:=Lib.hid (pN X k);have hcall:=OB wr (k:Int) (iB (by omega));have hcall2:=fun W (B:Bw wr W)=>VK W b _ (Rd.bw dA hin B) hw (by omega)
   obtain ⟨P,hP⟩:∃P,P=EA (k:Int):=⟨_,rfl⟩;obtain ⟨Q,hQ⟩:∃Q,Q=nC b:=⟨_,rfl⟩;have HLN:=Lib.hid (show aK k b=P++⟨#[58,32]⟩++Q by rw [hP,hQ];rfl);rw [← hP] at hcall a1 a2;rw [← hQ] at a2 hcall2;have HC2:=Lib.hid hcall2;clear hbx hin m1 m2 hw hP hQ hcall2;go_wp2_with fail;refine (hcall).mono ?_;rintro e w3 ⟨rfl,hb3⟩;go_wp2_with fail;refine (HC2.out _ hb3).mono ?_;rintro e' w4 ⟨rfl,hb4⟩;have hb34:=hb3.then hb4;have hbb:=hb.then hb34;have hv4:=(kB (B:=w.heap.size)).bw hb34 hb.size hv;have hA:=(Bw.refl w4).alloc (.cells #[.string (P++⟨#[58,32]⟩++Q)] 9);have hvW:=(kB (B:=w.heap.size)).bw hA hbb.size hv4;have hFm:=(kB (B:=0)).lt hv4;have hbW:=hbb.then hA;have hcl:=cell_one_new w4 (.string (P++⟨#[58,32]⟩++Q)) 9;have hOW:=Lib.hid (hO.then ((hb34.then hA).only []) (by simp));have hbs:=hbb.size;clear hv hv4 hcall HC2 hO;go_wp2_with (at_builtin;refine mC _ rfl (.tmp 18) (.tmp 25) 58 rfl w 9 i0 _ 1 16 Tryz.underlying58 hi hz0 hz1 hz2 rfl (by omega) FE _ (XH X k) F rfl hvW hF ⟨w4.heap.size,0,none⟩ 1 rfl (P++⟨#[58,32]⟩++Q) [.string (P++⟨#[58,32]⟩++Q)] [] hcl ⟨rfl,rfl⟩ rfl w4.heap.size hFm pA.nil hbs (by have:=HLEN.out;omega) (by have:=HLEN.out;omega) hbW ?_;intro v' w' F' hv' hF' hb' hO' hs');have hOn:=SB.push hOW.out hO' HF.out;have HF':=Lib.hid (show ∀z∈F',z=w.heap.size∨w2.heap.size≤z from fun z hz=>(hs' z hz).elim (fun h=>HF.out z h) (fun h=>h.elim (fun h=>by simp at h) (fun h=>.inr (Nat.le_trans hOW.out.1 h))))
   go_roundg (n-(k+1))
   case measure=>omega
   case rel=>exact ⟨k+1,F',by omega,rfl,by go_num,by rw [HS.out,HLN.out];exact hv',hF',hb',hOn,HF'⟩
  ·obtain rfl:k=n:=by omega
   rw [L.out,← HE.out] at hv;go_wp2;go_ret;exact ⟨_,rfl,⟨F,hv,hF⟩,hb⟩
end Go.Proofs.YtpihighajaeabaaGreat
