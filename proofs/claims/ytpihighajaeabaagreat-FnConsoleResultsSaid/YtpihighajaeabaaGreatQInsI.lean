/- An item is added to a standing answer, in the program. -/
import Derived.Test.YtpihighajaeabaaGreatQSortT
import Derived.Test.YtpihighajaeabaaGreatQParseX
import Derived.Test.YtpihighajaeabaaGreatQCopies
import Derived.Test.YtpihighajaeabaaGreatQApply
import Derived.Test.YtpihighajaeabaaGreatQLines2
namespace Go.Proofs.YtpihighajaeabaaGreat
open Go.RowKit
set_option linter.unusedVariables false
set_option linter.unusedSimpArgs false
def TG:List gA→gA→List gA
 | [],x=>[x]
 | y::l,x=>if x.id<y.id then x::y::l else y::TG l x
theorem sO:∀(l:List gA) (x:gA),(TG l x).length=l.length+1
 | [],x=>rfl
 | y::l,x=>by
  rw [TG];split
  ·simp
  ·rw [List.length_cons,sO l x,List.length_cons]
theorem DH:∀(l:List gA) (x:gA),(TG l x).Perm (l++[x])
 | [],x=>List.Perm.refl _
 | y::l,x=>by
  rw [TG];split
  ·exact (List.perm_append_comm (l₁:=[x]) (l₂:=y::l))
  ·exact (DH l x).cons y
theorem DY {l:List gA} {x z:gA} (h:z∈TG l x):z∈l∨z=x:=by
 have:=(DH l x).mem_iff.1 h
 simpa using this
theorem hAt {l:List gA} {o:Option Int} (h:IA o l=true):l.Pairwise (fun a b=>a.id<b.id):=by
 induction l generalizing o with
 | nil=>exact List.Pairwise.nil
 | cons z l ih=>
  have h2:IA (some z.id) l=true:=by
   cases o<;>simp only [IA,Bool.and_eq_true] at h<;>exact h.2
  exact List.Pairwise.cons (fun y hy=>VN h2 y hy) (ih h2)
theorem rE {l:List gA} (h:WA l=true):l.Pairwise (fun a b=>a.id<b.id):=by
 unfold WA at h;rw [Bool.and_eq_true] at h;exact hAt h.1
theorem bAt:∀ {l:List gA} (o:Option Int),(∀x∈l,LA x=true)→l.Pairwise (fun a b=>a.id<b.id)→(∀n,o=some n→∀x∈l,n<x.id)→IA o l=true
 | [],o,_,_,_=>by cases o<;>rfl
 | z::l,o,h1,h2,h3=>by
  have ih:=bAt (l:=l) (some z.id) (fun x hx=>h1 x (by simp [hx])) (List.pairwise_cons.1 h2).2 (fun n hn x hx=>by injection hn with hn;rw [← hn];exact (List.pairwise_cons.1 h2).1 x hx)
  cases o with
  | none=>rw [IA,h1 z (by simp),ih];rfl
  | some n=>rw [IA,h1 z (by simp),ih,decide_eq_true (h3 n rfl z (by simp))];rfl
theorem aQ {l:List gA} (h1:∀x∈l,LA x=true) (h2:l.Pairwise (fun a b=>a.id<b.id)) (h3:l.length≤16):WA l=true:=by
 unfold WA;rw [bAt none h1 h2 (fun n hn=>by cases hn)];simpa using h3
theorem wL {x:gA}:∀ {l:List gA},l.Pairwise (fun a b=>a.id<b.id)→(∀y∈l,y.id≠x.id)→(TG l x).Pairwise (fun a b=>a.id<b.id)
 | [],_,_=>List.pairwise_singleton _ _
 | y::l,h,hn=>by
  rw [List.pairwise_cons] at h;rw [TG];split
  ·rename_i hlt
   refine List.Pairwise.cons (fun z hz=>?_) (List.Pairwise.cons h.1 h.2);rcases List.mem_cons.1 hz with rfl | hz
   ·exact hlt
   ·have:=h.1 z hz;omega
  ·rename_i hlt
   refine List.Pairwise.cons (fun z hz=>?_) (wL h.2 (fun z hz=>hn z (by simp [hz])));rcases DY hz with hz | rfl
   ·exact h.1 z hz
   ·have:=hn y (by simp);omega
theorem zI {l:List gA} {id:Int} (h:UA l id<0):∀y∈l,y.id≠id:=by
 rcases PB l id with ⟨_,hn⟩ | ⟨j,y,hf,_,_⟩
 ·exact hn
 ·omega
theorem EY {l ys:List gA} {x:gA} (hp:ys.Perm (l++[x])) (hs:ys.Pairwise (fun a b=>a.id≤b.id)) (hl:l.Pairwise (fun a b=>a.id<b.id)) (hn:∀y∈l,y.id≠x.id):ys=TG l x:=by
 have hps:=wL hl hn;refine List.Perm.eq_of_pairwise (le:=fun a b:gA=>a.id≤b.id) (fun a b ha hb h1 h2=>?_) hs (hps.imp (fun h=>Int.le_of_lt h)) (hp.trans (DH l x).symm);have ha':=hp.mem_iff.1 ha;have hb':=(DH l x).mem_iff.1 hb;have e:a.id=b.id:=by omega
 have key:∀ {l:List gA},l.Pairwise (fun a b=>a.id<b.id)→∀a∈l,∀b∈l,a.id=b.id→a=b:=by
  intro l hl
  induction hl with
  | nil=>intro a ha;simp at ha
  | cons h1 _ ih=>
   intro a ha b hb e;rcases List.mem_cons.1 ha with ea | ka
   ·rcases List.mem_cons.1 hb with eb | kb
    ·rw [ea,eb]
    ·have:=h1 b kb;rw [ea] at e;omega
   ·rcases List.mem_cons.1 hb with eb | kb
    ·have:=h1 a ka;rw [eb] at e;omega
    ·exact ih a ka b kb e
 exact key hps a ((DH l x).mem_iff.2 ha') b ((DH l x).mem_iff.2 hb') e
def WF (s:tA) (x:gA):Bool:=tB s && (LA x && (decide (UA s.items x.id<0) && (decide (s.items.length<16) && decide (s.tests≤999900))))
def qH (s:tA) (x:gA) (k:Nat):Bool:=(s.best.take k).any fun id=>decide (CC s.wanted (nD s.items id) x=1)
def ND (s:tA) (x:gA) (k:Nat):List Int:=(s.best.take k).filter fun id=>!decide (CC s.wanted (nD s.items id) x = -1)
def mI (s:tA) (x:gA):tA:=⟨TG s.items x,s.wanted,if qH s x s.best.length then s.best else rH (ND s x s.best.length++[x.id]),s.tests+s.best.length⟩
def cG (s:tA) (x:gA):tA:=if WF s x then mI s x else s
theorem FY {s:tA} {x:gA} {k:Nat} {id:Int} (h:s.best[k]? = some id):qH s x (k+1)=(qH s x k || decide (CC s.wanted (nD s.items id) x=1)):=by
 unfold qH;rw [List.take_add_one,h,List.any_append];simp
theorem aAp {s:tA} {x:gA} {k:Nat} {id:Int} (h:s.best[k]? = some id) (hc:¬CC s.wanted (nD s.items id) x = -1):ND s x (k+1)=ND s x k++[id]:=by
 unfold ND;rw [List.take_add_one,h,List.filter_append];simp [hc]
theorem dAg {s:tA} {x:gA} {k:Nat} {id:Int} (h:s.best[k]? = some id) (hc:CC s.wanted (nD s.items id) x = -1):ND s x (k+1)=ND s x k:=by
 unfold ND;rw [List.take_add_one,h,List.filter_append];simp [hc]
theorem yS (s:tA) (x:gA) (k:Nat):(ND s x k).length≤s.best.length:=by
 unfold ND;exact Nat.le_trans (List.length_filter_le _ _) (by rw [List.length_take];omega)
theorem DD {s:tA} (h:tB s=true):s.best.length≤16:=by
 obtain ⟨h1,h2⟩:=ZB h;rw [h2];exact Nat.le_trans (tI _ _) (VA (sA h1))
theorem tJ {s:tA} (h:tB s=true):0≤s.tests∧s.tests≤1000000:=by
 unfold tB at h;simp only [Bool.and_eq_true,decide_eq_true_iff,inB] at h;exact h.2.2
theorem NG {s:tA} {x:gA} (h:WF s x=true):tB s=true∧LA x=true∧UA s.items x.id<0∧s.items.length<16∧s.tests≤999900:=by
 unfold WF at h;simp only [Bool.and_eq_true,decide_eq_true_iff] at h;exact ⟨h.1,h.2.1,h.2.2.1,h.2.2.2.1,h.2.2.2.2⟩
end Go.Proofs.YtpihighajaeabaaGreat
namespace Go.Proofs.YtpihighajaeabaaGreat
open Go.RowKit
set_option linter.unusedVariables false
set_option linter.unusedSimpArgs false
end Go.Proofs.YtpihighajaeabaaGreat
namespace Go.Proofs.YtpihighajaeabaaGreat
open Go.RowKit
set_option linter.unusedVariables false
set_option linter.unusedSimpArgs false
theorem cW {w:World} {S:XB} {xs:List Int} {b o n c m:Nat} (h:XA w S xs [.slice (some ⟨b,o,none⟩) n c]) (hm:m≤n):XA w S (xs.take m) [.slice (some ⟨b,o,none⟩) m c]:=by
 have hl:=(UG h).1;have h2:=ZL h 0 m (Nat.zero_le _) hm hl;have h3:rSl 1 gAq w S (xs.take m) [.slice (some ⟨b,o,none⟩) m c]:=by simpa using h2
 exact h3
theorem dW {w:World} {S:XB} {xs:List Int} {b o n c m:Nat} (h:XA w S xs [.slice (some ⟨b,o,none⟩) n c]) (hm:m≤n):XA w S (xs.drop m) [.slice (some ⟨b,o+m,none⟩) (n-m) (c-m)]:=by
 have hl:=(UG h).1;have:=ZL h m n hm (Nat.le_refl _) hl;rw [Nat.mul_one,List.take_of_length_le (by rw [List.length_drop];omega)] at this;exact this
theorem aAq {w:World} {S:XB} {xs:List Int} {A:Option Addr} {n:Nat} (h1:xs.length=n) (h0:n=0):XA w S xs [.slice A n 0]:=by
 subst h0;obtain rfl:=List.eq_nil_of_length_eq_zero h1;exact ⟨A,0,rfl,Nat.le_refl _,by decide,fun k x hx=>by simp at hx⟩
end Go.Proofs.YtpihighajaeabaaGreat
namespace Go.Proofs.YtpihighajaeabaaGreat
open Go.RowKit
set_option linter.unusedVariables false
set_option linter.unusedSimpArgs false
set_option maxRecDepth 100000 in
set_option maxHeartbeats 3200000 in
theorem ED (w:World) (s:tA) (va vb vc:Value) (ha:Rd MA w s.items [va]) (hb:Rd RA w s.wanted [vb]) (hc:Rd XA w s.best [vc]) (t1:eC s.items≤1048576) (t2:tC s.wanted≤1048576) (t3:s.best.length≤1048576) :
  Calls Tryz.prog 75 #[.agg #[va,vb,vc,.int .i64 s.tests]] w (hAg aC w s):=by
 obtain ⟨W,hW⟩:∃W,W=((w.alloc (.cells #[va,vb,vc,.int .i64 s.tests] 28)).alloc (.cells #[.slice none 0 0,.slice none 0 0,.slice none 0 0,.int .i64 0] 28)).drew:=⟨_,rfl⟩;have A0:Bw w W:=by rw [hW];exact (((Bw.refl w).alloc _).alloc _).drew
 have k0:W.cell? ⟨w.heap.size,0,none⟩=some va:=by rw [hW];go_simp
 have k1:W.cell? ⟨w.heap.size,1,none⟩=some vb:=by rw [hW];go_simp
 have k2:W.cell? ⟨w.heap.size,2,none⟩=some vc:=by rw [hW];go_simp
 have k3:W.cell? ⟨w.heap.size,3,none⟩=some (.int .i64 s.tests):=by rw [hW];go_simp
 have bR:Box W (w.heap.size+1) [.slice none 0 0,.slice none 0 0,.slice none 0 0,.int .i64 0]:=by
  have:=Box.new (w.alloc (.cells #[va,vb,vc,.int .i64 s.tests] 28)) #[.slice none 0 0,.slice none 0 0,.slice none 0 0,.int .i64 0] 28;rw [show (w.alloc (.cells #[va,vb,vc,.int .i64 s.tests] 28)).heap.size=w.heap.size+1 from by simp] at this;rw [hW];exact this.bw (Bw.refl _).drew
 have z0:W.heap.size=w.heap.size+2:=by rw [hW];simp
 have c1:=QP W s.items va (ha.bw jA A0) t1;have c2:=Lib.hid (fun W' (B:Bw W W')=>LG W' s.wanted vb (hb.bw lA (A0.then B)) t2);have c3:=Lib.hid (fun W' (B:Bw W W')=>bN W' s.best vc (hc.bw dA (A0.then B)) t3);have HW:=Lib.hid hW;clear hW ha hb hc;go_enter Tryz.func75,Tryz.ntmps75;go_wp2
 go_region_held3 (fun w'=>w'.cell? ⟨w.heap.size,0,none⟩=some va∧w'.cell? ⟨w.heap.size,1,none⟩=some vb∧w'.cell? ⟨w.heap.size,2,none⟩=some vc∧w'.cell? ⟨w.heap.size,3,none⟩=some (.int .i64 s.tests)) (first | go_keep | exact ⟨k0,k1,k2,k3⟩ | (rw [HW.out] at k0 k1 k2 k3;exact ⟨k0,k1,k2,k3⟩))
  (first
   | (go_at_call 107;rw [← HW.out];refine c1.mono ?_;rintro e w1 ⟨v1,rfl,⟨F1,o1,f1⟩,hb1⟩;obtain ⟨A1,d1,rfl,_⟩:=aB (vC o1);replace k0:=hb1.cell k0;replace k1:=hb1.cell k1;replace k2:=hb1.cell k2;replace k3:=hb1.cell k3)
   | (go_at_call 108;refine (c2.out _ hb1).mono ?_;rintro e w2 ⟨v2,rfl,⟨F2,o2,f2⟩,hb2⟩;obtain ⟨A2,d2,rfl,_⟩:=aB (lC o2);replace k0:=hb2.cell k0;replace k1:=hb2.cell k1;replace k2:=hb2.cell k2;replace k3:=hb2.cell k3;have hb12:=hb1.then hb2)
   | (go_at_call 96;refine (c3.out _ hb12).mono ?_;rintro e w3 ⟨v3,rfl,⟨F3,o3,f3⟩,hb3⟩;obtain ⟨A3,d3,rfl,_⟩:=aB (AA o3);replace k0:=hb3.cell k0;replace k1:=hb3.cell k1;replace k2:=hb3.cell k2;replace k3:=hb3.cell k3;have hbb:=hb12.then hb3;have bR3:=bR.bw hbb;have r0:=bR3.c 0 _ rfl;have r1:=bR3.c 1 _ rfl;have r2:=bR3.c 2 _ rfl;have r3:=bR3.c 3 _ rfl;have rf:=bR3.fr))
 have lt1:=(yA (B:=0)).lt o1;have lt2:=(nA (B:=0)).lt o2;have z1:=hb1.size;have z2:=hb2.size;have o1':=xA (hb2.then hb3) yA o1;have o2':=xA hb3 nA o2;have f1z:∀b∈F1,w.heap.size+2≤b:=fun b hb=>by have:=f1.ge b hb;omega
 have f2z:∀b∈F2,w.heap.size+2≤b:=fun b hb=>by have:=f2.ge b hb;omega
 have f3z:∀b∈F3,w.heap.size+2≤b:=fun b hb=>by have:=f3.ge b hb;omega
 have FF:pA w.heap.size (F1++(F2++F3)):=pA.append (m:=w1.heap.size) (f1.mono (by omega)) lt1 (pA.append (m:=w2.heap.size) f2 lt2 f3 (by omega)) (by omega);have B4:=A0.then hbb;clear bR bR3 c1 c2 c3 o1 o2 hbb hb12 hb1 hb2 hb3;go_wp2;refine bodyPost_ret (v:=.agg #[.slice A1 s.items.length d1,.slice A2 s.wanted.length d2,.slice A3 s.best.length d3,.int .i64 s.tests]) (by simp [results,Tryz.results75,go_sem,r0,r1,r2,r3]) rfl ⟨_,F1++(F2++F3),rfl,⟨_,_,_,F1,F2,F3,rfl,?_,?_,?_,rfl⟩,FF,?_⟩
 ·refine (yA (B:=0)).step (fun b hb=>?_) o1';rcases hb with hb | hb
  ·have:=f1z b hb
   repeat rw [Below.heap_setCell _ _ _ _ (by dsimp only;omega)]
  ·omega
 ·refine (nA (B:=0)).step (fun b hb=>?_) o2';rcases hb with hb | hb
  ·have:=f2z b hb
   repeat rw [Below.heap_setCell _ _ _ _ (by dsimp only;omega)]
  ·omega
 ·refine (aA (B:=0)).step (fun b hb=>?_) o3;rcases hb with hb | hb
  ·have:=f3z b hb
   repeat rw [Below.heap_setCell _ _ _ _ (by dsimp only;omega)]
  ·omega
 ·repeat (first | with_reducible exact B4 | with_reducible refine Bw.set ?_ ?_ _)
  all_goals (dsimp only;omega)
structure St3 (W X:World) (l:List gA) (v:Value) (F:List Nat) (e:List kA) (u:Value) (G:List Nat) (b:List Int) (t:Value) (H:List Nat):Prop where
 h1:fD X l [v] F
 h2:EC X e [u] G
 h3:ZA X b [t] H
 d1:∀b∈F,b∉G
 d2:∀b∈F,b∉H
 d3:∀b∈G,b∉H
 f1:pA W.heap.size F
 f2:pA W.heap.size G
 f3:pA W.heap.size H
 B:Bw W X
theorem St3.start (W:World):St3 W W [] (.slice none 0 0) [] [] (.slice none 0 0) [] [] (.slice none 0 0) []:=⟨WC _,WC _,WC _,by simp,by simp,by simp,pA.nil,pA.nil,pA.nil,Bw.refl W⟩
theorem St3.ret {w W X:World} {s:tA} {A1 A2 A3:Option Addr} {d1 d2 d3:Nat} {F G H:List Nat} {a0 a1 a2 a3:Value} (p:St3 W X s.items (.slice A1 s.items.length d1) F s.wanted (.slice A2 s.wanted.length d2) G s.best (.slice A3 s.best.length d3) H) (A0:Bw w W) (hz:W.heap.size=w.heap.size+2) :
  hAg aC w s (.returned (.agg #[.slice A1 s.items.length d1,.slice A2 s.wanted.length d2,.slice A3 s.best.length d3,.int .i64 s.tests])) (hAf X (w.heap.size+1) a0 a1 a2 a3):=by
 obtain ⟨h1,h2,h3,e1,e2,e3,f1,f2,f3,B⟩:=p;have nF:w.heap.size+1∉F:=fun h=>by have:=f1.ge _ h;omega
 have nG:w.heap.size+1∉G:=fun h=>by have:=f2.ge _ h;omega
 have nH:w.heap.size+1∉H:=fun h=>by have:=f3.ge _ h;omega
 refine ⟨[.slice A1 s.items.length d1,.slice A2 s.wanted.length d2,.slice A3 s.best.length d3,.int .i64 s.tests],F++(G++H),rfl,⟨_,_,_,F,G,H,rfl,SI yA h1 nF,SI nA h2 nG,SI aA h3 nH,rfl⟩,⟨?_,?_⟩,(A0.then B).set4 (by omega)⟩
 ·rw [List.nodup_append,List.nodup_append];refine ⟨f1.nodup,⟨f2.nodup,f3.nodup,fun a ha b hb e=>e3 a ha (e▸hb)⟩,fun a ha b hb e=>?_⟩;rcases List.mem_append.1 hb with hb | hb
  ·exact e1 a ha (e▸hb)
  ·exact e2 a ha (e▸hb)
 ·intro b hb;rcases List.mem_append.1 hb with hb | hb
  ·have:=f1.ge b hb;omega
  ·rcases List.mem_append.1 hb with hb | hb
   ·have:=f2.ge b hb;omega
   ·have:=f3.ge b hb;omega
section
variable {ops:Array Oper} {o:Oper} {a:Act} {K:Act→World→Prop} {Q:Exit→Act→World→Prop} {E:Prop}
end
end Go.Proofs.YtpihighajaeabaaGreat
namespace Go.Proofs.YtpihighajaeabaaGreat
open Go.RowKit
set_option linter.unusedVariables false
set_option linter.unusedSimpArgs false
theorem XC {w:World} {x:tA} {a b c d:Value} {F:List Nat} (h:aC w x [a,b,c,d] F):∃Fa Fb Fc,fD w x.items [a] Fa∧EC w x.wanted [b] Fb∧ZA w x.best [c] Fc∧F=Fa++(Fb++Fc):=by
 obtain ⟨va,vb,vc,Fa,Fb,Fc,e,h1,h2,h3,hF⟩:=h;injection e with e1 e;injection e with e2 e;injection e with e3 e;subst e1 e2 e3;exact ⟨Fa,Fb,Fc,h1,h2,h3,hF⟩
theorem cD {w V:World} {y:tA} {b:Bool} {b0:Nat} {v1 v2 v3:Value} {F G H:List Nat} {a0 a1 a2 a3:Value} (h1:fD V y.items [v1] F) (h2:EC V y.wanted [v2] G) (h3:ZA V y.best [v3] H) (f:pA (b0+1) (F++(G++H))) (hb0:w.heap.size≤b0) (B:Bw w V) :
  BC w (xQ aC w.heap.size y (.bool b)) (.returned (.tuple #[.agg #[v1,v2,v3,.int .i64 y.tests],.bool b])) (hAf V b0 a0 a1 a2 a3):=by
 have n1:b0∉F:=fun h=>by have:=f.ge b0 (List.mem_append_left _ h);omega
 have n2:b0∉G:=fun h=>by have:=f.ge b0 (List.mem_append_right _ (List.mem_append_left _ h));omega
 have n3:b0∉H:=fun h=>by have:=f.ge b0 (List.mem_append_right _ (List.mem_append_right _ h));omega
 exact ⟨_,rfl,⟨[v1,v2,v3,.int .i64 y.tests],rfl,F++(G++H),⟨_,_,_,F,G,H,rfl,SI yA h1 n1,SI nA h2 n2,SI aA h3 n3,rfl⟩,f.mono (by omega)⟩,B.set4 hb0⟩
end Go.Proofs.YtpihighajaeabaaGreat
namespace Go.Proofs.YtpihighajaeabaaGreat
open Go.RowKit
set_option linter.unusedVariables false
set_option linter.unusedSimpArgs false
end Go.Proofs.YtpihighajaeabaaGreat
namespace Go.Proofs.YtpihighajaeabaaGreat
open Go.RowKit
set_option linter.unusedVariables false
set_option linter.unusedSimpArgs false
theorem dAh {α β:Type} (f:α→β) {m l2:List β} (hp:l2.Perm m):∀l1:List α,l1.map f=m→∃l:List α,l.Perm l1∧l.map f=l2:=by
 induction hp with
 | nil=>intro l1 h;exact ⟨[],by simp at h;rw [h],rfl⟩
 | cons x _ ih=>
  intro l1 h
  cases l1 with
  | nil=>simp at h
  | cons a l1=>
   rw [List.map_cons] at h;injection h with h1 h2;obtain ⟨l,hl,hm⟩:=ih l1 h2;exact ⟨a::l,hl.cons a,by rw [List.map_cons,hm,h1]⟩
 | swap x y l=>
  intro l1 h
  match l1,h with
  | a::b::l1,h=>
   simp only [List.map_cons,List.cons.injEq] at h;obtain ⟨h1,h2,h3⟩:=h;exact ⟨b::a::l1,List.Perm.swap a b l1,by simp [h1,h2,h3]⟩
 | trans _ _ ih1 ih2=>
  intro l1 h;obtain ⟨l,hl,hm⟩:=ih2 l1 h;obtain ⟨l',hl',hm'⟩:=ih1 l hm;exact ⟨l',hl'.trans hl,hm'⟩
theorem rP (cur F:Array Value) (h:F.size≤cur.size):(Go.Sort.putCells id 0 F cur).toList.take F.size=F.toList:=by
 apply List.ext_getElem?;intro j;by_cases hj:j<F.size
 ·rw [List.getElem?_take_of_lt hj,Array.getElem?_toList];simp [Go.Sort.putCells,hj,show j<cur.size by omega]
 ·rw [List.getElem?_take_eq_none (by omega),List.getElem?_eq_none (by simp;omega)]
theorem zS {α:Type} [Inhabited α] (enc:α→List Value) (k:Nat) (hk0:0<k) (hk:∀x,(enc x).length=k) (d:Array α):(Go.Sort.flatK enc k d).toList=(d.toList.map enc).flatten:=by
 have hl:((d.toList.map enc).flatten).length=d.size*k:=by
  rw [GE (sz:=k) (by intro u hu;obtain ⟨x,_,rfl⟩:=List.mem_map.1 hu;exact hk x)];simp
 apply List.ext_getElem?;intro t;by_cases ht:t<d.size*k
 ·have hd:t / k<d.size:=Nat.div_lt_of_lt_mul (by rw [Nat.mul_comm];exact ht);have h1:(d.toList.map enc)[t / k]? = some (enc d[t / k]!):=by rw [List.getElem?_map,Array.getElem?_toList];simp [hd]
  have h2:=sF (us:=d.toList.map enc) (sz:=k) (k:=t / k) (j:=t % k) (by intro u hu;obtain ⟨x,_,rfl⟩:=List.mem_map.1 hu;exact hk x) h1 (Nat.mod_lt _ hk0);rw [Nat.div_add_mod' t k] at h2;rw [h2,Array.getElem?_toList,Array.getElem?_eq_getElem (by simpa using ht)];have h3:=Go.Sort.get_flatK enc k d t ht;rw [getElem!_pos _ _ (by simpa using ht)] at h3;rw [h3,List.getElem?_eq_getElem (by rw [hk];exact Nat.mod_lt _ hk0),getElem!_pos _ _ (by rw [hk];exact Nat.mod_lt _ hk0)]
 ·rw [List.getElem?_eq_none (by simp;omega),List.getElem?_eq_none (by omega)]
abbrev IC:Type:={ q:Int×Value // 0≤q.1∧q.1≤99∧q.2.oneCell'=true }
instance:Inhabited IC:=⟨⟨(0,.int .i64 0),by decide,by decide,rfl⟩⟩
def sH (x:IC):List Value:=[.int .i64 x.1.1,x.1.2]
def aAr (x y:IC):Int:=x.1.1-y.1.1
theorem hAu (x y:IC):Go.Proofs.ltOf aAr x y=decide (x.1.1<y.1.1):=by unfold Go.Proofs.ltOf aAr;rw [decide_eq_decide];omega
theorem jA2:Go.Sort.SWO (Go.Proofs.ltOf aAr) where
 irrefl x:=by rw [hAu];simp
 trans x y z h1 h2:=by rw [hAu] at *;simp at *;omega
 ntrans x y z h1 h2:=by rw [hAu] at *;simp at *;omega
set_option maxHeartbeats 1000000 in
theorem iAo (x y:IC) (W:World):Calls Tryz.prog 82 #[.agg #[.int .i64 x.1.1,x.1.2],.agg #[.int .i64 y.1.1,y.1.2]] W fun e w'=>e=.returned (.int .i64 (aAr x y))∧∃q os',w'=Go.Sort.grow (W.drewN q) os':=by
 obtain ⟨⟨a,va⟩,h1,h2,h3⟩:=x;obtain ⟨⟨b,vb⟩,k1,k2,k3⟩:=y;simp only at h1 h2 h3 k1 k2 k3;unfold aAr;dsimp only;go_enter Tryz.func82,Tryz.ntmps82;go_wp2;go_ret;exact ⟨rfl,0,_,by rw [Go.Sort.alloc_eq_grow,Go.Sort.alloc_eq_grow,Go.Sort.grow_grow];rfl⟩
theorem jA3 (blk off size:Nat) (w:World):Go.Proofs.CmpLays Tryz.prog 82 #[] sH 2 aAr blk off size w:=fun _ _ _ _ x y=>iAo x y _
theorem KM:∀ {xs:List gA} {us:List (List Value)} {fs:List (List Nat)} {w:World},dG (fun x u f=>BG w x u f∧u.length=2) xs us fs→(∀x∈xs,0≤x.id∧x.id≤99) →
  ∃zs:List (gA×IC×List Nat),zs.map (·.1)=xs∧zs.map (fun z=>sH z.2.1)=us∧zs.map (·.2.2)=fs∧∀z∈zs,z.1.id=z.2.1.1.1∧BG w z.1 (sH z.2.1) z.2.2
 | [],[],[],_,_,_=>⟨[],rfl,rfl,rfl,by simp⟩
 | x::xs,u::us,f::fs,w,h,hI=>by
  obtain ⟨zs,h1,h2,h3,h4⟩:=KM (xs:=xs) (w:=w) h.2 (fun y hy=>hI y (by simp [hy]));obtain ⟨⟨v,hu,hv⟩,_⟩:=h.1;have hone:v.oneCell'=true:=(aA (B:=0)).one hv v (by simp);have hx:=hI x (by simp);refine ⟨(x,⟨(x.id,v),hx.1,hx.2,hone⟩,f)::zs,by simp [h1],?_,by simp [h3],fun z hz=>?_⟩
  ·rw [List.map_cons,h2,hu];rfl
  ·rcases List.mem_cons.1 hz with rfl | hz
   ·exact ⟨rfl,v,rfl,hv⟩
   ·exact h4 z hz
 | [],_::_,_,_,h,_ | [],[],_::_,_,h,_ | _::_,[],_,_,h,_ | _::_,_::_,[],_,h,_=>h.elim
theorem tO {w:World}:∀ {zs:List (gA×IC×List Nat)},(∀z∈zs,BG w z.1 (sH z.2.1) z.2.2)→dG (fun x u f=>BG w x u f∧u.length=2) (zs.map (·.1)) (zs.map (fun z=>sH z.2.1)) (zs.map (·.2.2))
 | [],_=>trivial
 | z::zs,h=>⟨⟨h z (by simp),rfl⟩,tO (zs:=zs) (fun y hy=>h y (by simp [hy]))⟩
def fAz (w:World) (xs:List gA) (g:Nat) (v:Value) (F:List Nat) (e:Ending) (w':World):Prop:=e=.returned (.tuple #[])∧∃ys F',ys.Perm xs∧ys.Pairwise (fun a b=>a.id≤b.id)∧fD w' ys [v] F'∧F'.Perm F∧SB [g] w w'∧∀w0:World,Bw w0 w→w0.heap.size≤g→Bw w0 w'
set_option maxRecDepth 100000 in
set_option maxHeartbeats 1000000 in
theorem bQ (w:World) (xs:List gA) (g c:Nat) (F:List Nat) (h:fD w xs [.slice (some ⟨g,0,none⟩) xs.length c] F) (hnd:F.Nodup) (hI:∀x∈xs,0≤x.id∧x.id≤99) (hn:xs.length≤1048576) :
  Calls Tryz.prog 81 #[.slice (some ⟨g,0,none⟩) xs.length c,.func (.func 82) #[] #[]] w (fAz w xs g (.slice (some ⟨g,0,none⟩) xs.length c) F):=by
 obtain ⟨v,us,fs,e,hown,hall,hF⟩:=h;injection e with e;subst e;obtain ⟨zs,e1,e2,e3,hz⟩:=KM hall hI;rcases hown.2 with ⟨h0,_⟩ | ⟨g',cap,cur,hv,hbase,hb,h1,h2,h3,h4⟩
 ·cases h0
 injection hv with hv1 hv2 hv3;injection hv1 with hv1;injection hv1 with hv1;subst hv1 hv3;have hzl:zs.length=xs.length:=by rw [← e1,List.length_map]
 obtain ⟨d,hd⟩:∃d:Array IC,d=(zs.map (·.2.1)).toArray:=⟨_,rfl⟩;have hds:d.size=xs.length:=by rw [hd];simp [hzl]
 have hfl:(Go.Sort.flatK sH 2 d).toList=us.flatten:=by
  rw [zS sH 2 (by omega) (fun _=>rfl),hd,← e2];simp [List.map_map,Function.comp_def]
 have hH:Go.Sort.HoldsK sH 2 w g 0 d:=by
  intro j hj;have hj2:j<us.flatten.length:=by rw [← hfl];simpa using hj
  refine ⟨?_,by simp [World.frozen?,hb]⟩;have hc:=hown.cells (g:=g) rfl j _ (List.getElem?_eq_getElem hj2);have hadd:(⟨g,0,none⟩:Addr).add j=⟨g,0+j,none⟩:=by unfold Addr.add;split<;>simp_all
  rw [hadd] at hc;rw [hc]
  congr 1
  rw [getElem!_pos _ j hj];simp only [← hfl,Array.getElem_toList];rfl
 have hg:g<w.heap.size:=(Array.getElem?_eq_some_iff.1 hb).1;have eg:∀args w,(callFunc 82 args).run Tryz.prog w=.ok (.enter 82 args) w:=enters_of Tryz.func82 (by kernel_rfl) rfl;have hcon:=Go.Proofs.AnyQ.slices_SortFunc fAx 2 Tryz.isAgg30 Tryz.sizeOf30 sH (fun _=>rfl) (fun x v hv=>by simp [sH] at hv;rcases hv with rfl | rfl<;>first | rfl | exact x.2.2.2) aAr jA2 82 #[] g 0 c d w eg (jA3 g 0 d.size w) hH hg (by omega)
 change Calls Tryz.prog 81 _ _ _ at hcon
 rw [hds] at hcon;refine hcon.mono ?_;rintro e w' ⟨rfl,d',n,os,hp,hs,rfl⟩;have hsz':d'.size=d.size:=hp.1;have hperm:d'.toList.Perm d.toList:=by
  have h5:=hp.2.2;have q1:d'.extract 0 xs.length=d':=by rw [← hds,← hsz'];simp
  have q2:d.extract 0 xs.length=d:=by rw [← hds];simp
  rwa [q1,q2] at h5
 obtain ⟨zs',hpz,hmz⟩:=dAh (fun z:gA×IC×List Nat=>z.2.1) hperm zs (by rw [hd]);have hz':∀z∈zs',z.1.id=z.2.1.1.1∧BG w z.1 (sH z.2.1) z.2.2:=fun z h=>hz z (hpz.mem_iff.1 h)
 have hlen':zs'.length=xs.length:=by rw [hpz.length_eq,hzl]
 obtain ⟨W',hW'⟩:∃W',W'=Go.Proofs.sortWorldK sH 2 w g 0 n d' os:=⟨_,rfl⟩;rw [← hW'];have hgr:w.grownBy W' (some g):=by
  rw [hW'];refine ⟨rfl,rfl,rfl,by simp [Go.Proofs.sortWorldK,Go.Sort.putRowK],fun k hk hne=>?_⟩;unfold Go.Proofs.sortWorldK Go.Sort.putRowK;rw [Go.Sort.heap_grow_old _ _ (by simpa using hk)];have:g≠k:=fun e=>hne (by rw [e])
  simp [Go.Sort.putRow,Go.Sort.mapBlock,Go.Sort.ahead,Array.getElem?_modify,this]
 have hhp:W'.heap[g]? = some (.cells (Go.Sort.putCells id 0 (Go.Sort.flatK sH 2 d') cur) 30 (0,0)):=by
  rw [hW'];unfold Go.Proofs.sortWorldK Go.Sort.putRowK;rw [Go.Sort.heap_grow_old _ _ (by simpa using hg)];simp [Go.Sort.putRow,Go.Sort.mapBlock,Go.Sort.ahead,Array.getElem?_modify,hb,Go.Sort.onCells]
 have hgn:g∉fs.flatten:=by
  rw [hF] at hnd;simp [Value.ownBlock] at hnd
  simpa using hnd.1
 refine ⟨rfl,zs'.map (·.1),[g]++(zs'.map (·.2.2)).flatten,?_,?_,?_,?_,SB.of_grown hgr hgr.size (by simp),fun w0 hbw hge=>hbw.grown hgr (fun k hk=>by injection hk with hk;omega)⟩
 ·rw [← e1];exact hpz.map _
 ·rw [List.pairwise_map,List.pairwise_iff_getElem];intro i j hi hj hij;have h6:=hs i j (Nat.zero_le _) hij (by rw [← hlen'];simpa using hj);rw [hAu] at h6;have h7:∀k (hk:k<zs'.length),d'[k]!.1.1=zs'[k].1.id:=fun k hk=>by
   rw [(hz' _ (List.getElem_mem hk)).1];have h8:d'.toList[k]? = some zs'[k].2.1:=by rw [← hmz,List.getElem?_map,List.getElem?_eq_getElem hk];rfl
   rw [Array.getElem?_toList] at h8;have h9:k<d'.size:=by rw [hsz',hds,← hlen'];exact hk
   rw [getElem!_pos d' k h9];rw [Array.getElem?_eq_getElem h9] at h8;injection h8 with h8;rw [h8]
  rw [h7 j hj,h7 i hi] at h6;simp at h6;exact h6
 ·have hall':=tO (w:=W') (zs:=zs') (fun z h=>(YB (B:=0)).step (fun b hb=>?_) (hz' z h).2)
  ·refine ⟨_,zs'.map (fun z=>sH z.2.1),zs'.map (·.2.2),rfl,?_,hall',rfl⟩;have e4:zs'.map (fun z=>sH z.2.1)=d'.toList.map sH:=by rw [← hmz,List.map_map];rfl
   have e5:(zs'.map (·.1)).length=xs.length:=by rw [List.length_map,hlen']
   rw [e4,← zS sH 2 (by omega) (fun _=>rfl),e5];refine ⟨by simp [hsz',hds],.inr ⟨g,c,_,rfl,Nat.zero_le _,hhp,h1,h2,by simp [Go.Sort.putCells,h3],?_⟩⟩;have e6:(Go.Sort.flatK sH 2 d').size=xs.length*2:=by simp [hsz',hds]
   rw [← e6];exact rP _ _ (by rw [e6,h3];exact Nat.mul_le_mul_right 2 h1)
  ·rcases hb with hb | hb
   ·have hm:b∈fs.flatten:=by
     rw [← e3];exact List.mem_flatten.2 ⟨z.2.2,List.mem_map.2 ⟨z,hpz.mem_iff.1 h,rfl⟩,hb⟩
    exact hgr.block b ((YB (B:=0)).lt (hz' z h).2 b hb) (fun e=>by injection e with e;exact hgn (e▸hm))
   ·omega
 ·rw [hF,← e3];exact (List.Perm.refl [g]).append ((hpz.map _).flatten)
end Go.Proofs.YtpihighajaeabaaGreat
namespace Go.Proofs.YtpihighajaeabaaGreat
open Go.RowKit
set_option linter.unusedVariables false
set_option linter.unusedSimpArgs false
set_option maxRecDepth 100000 in
set_option maxHeartbeats 6400000 in
theorem yQ (w:World) (s:tA) (x:gA) (va vb vc u:Value) (ha:Rd MA w s.items [va]) (hb:Rd RA w s.wanted [vb]) (hc:Rd XA w s.best [vc]) (hx:Rd XA w x.vals [u]) (t1:eC s.items≤1048576) (t2:tC s.wanted≤1048576) (t3:s.best.length≤1048576) (hno:WF s x=false) :
  Calls Tryz.prog 11 #[.agg #[va,vb,vc,.int .i64 s.tests],.agg #[.int .i64 x.id,u]] w (BC w (xQ aC w.heap.size s (.bool false))):=by
 obtain ⟨A,n,c,rfl,L0,Lc,Lm⟩:=iA ha;unfold maxLen at Lm;have L:=Lib.hid L0;clear L0;obtain ⟨B,m,c4,rfl,M0,Mc,Mm⟩:=iA hc;unfold maxLen at Mm;have M:=Lib.hid M0;clear M0;obtain ⟨W0,hW0⟩:∃W0,W0=((w.alloc (.cells #[.slice A n c,vb,.slice B m c4,.int .i64 s.tests] 28)).alloc (.cells #[.int .i64 x.id,u] 30)).alloc (.cells #[.slice none 0 0,.slice none 0 0,.slice none 0 0,.int .i64 0] 28):=⟨_,rfl⟩;have A0:Bw w W0:=by rw [hW0];exact (((Bw.refl w).alloc _).alloc _).alloc _
 have bS:Box W0 w.heap.size [.slice A n c,vb,.slice B m c4,.int .i64 s.tests]:=by rw [hW0];exact (Box.new w #[.slice A n c,vb,.slice B m c4,.int .i64 s.tests] 28).bw (((Bw.refl _).alloc _).alloc _)
 have bX:Box W0 (w.heap.size+1) [.int .i64 x.id,u]:=by
  have:=Box.new (w.alloc (.cells #[.slice A n c,vb,.slice B m c4,.int .i64 s.tests] 28)) #[.int .i64 x.id,u] 30;rw [show (w.alloc (.cells #[.slice A n c,vb,.slice B m c4,.int .i64 s.tests] 28)).heap.size=w.heap.size+1 from by simp] at this;rw [hW0];exact this.bw ((Bw.refl _).alloc _)
 have bR:Box W0 (w.heap.size+1+1) [.slice none 0 0,.slice none 0 0,.slice none 0 0,.int .i64 0]:=by
  have:=Box.new ((w.alloc (.cells #[.slice A n c,vb,.slice B m c4,.int .i64 s.tests] 28)).alloc (.cells #[.int .i64 x.id,u] 30)) #[.slice none 0 0,.slice none 0 0,.slice none 0 0,.int .i64 0] 28;rw [show ((w.alloc (.cells #[.slice A n c,vb,.slice B m c4,.int .i64 s.tests] 28)).alloc (.cells #[.int .i64 x.id,u] 30)).heap.size=w.heap.size+1+1 from by simp] at this;rw [hW0];exact this
 have z0:W0.heap.size=w.heap.size+3:=by rw [hW0];simp
 have hcopy:=ED W0 s _ vb _ (ha.bw jA A0) (hb.bw lA A0) (hc.bw dA A0) t1 t2 t3;have HW0:=Lib.hid hW0;clear hW0;go_enter Tryz.func11,Tryz.ntmps11;go_wp2_with fail;rw [← HW0.out];refine hcopy.mono ?_;rintro e w1 ⟨cs,F0,rfl,oS,fS,hb1⟩;obtain ⟨A1,c1,A2,c2,A3,c3,rfl⟩:=NC oS;obtain ⟨F1,F2,F3,o1,o2,o3,rfl⟩:=XC oS;obtain ⟨m1,hm1⟩:∃m,m=s.items.length:=⟨_,rfl⟩;obtain ⟨m2,hm2⟩:∃m,m=s.wanted.length:=⟨_,rfl⟩;obtain ⟨m3,hm3⟩:∃m,m=s.best.length:=⟨_,rfl⟩;rw [← hm1] at o1;rw [← hm2] at o2;rw [← hm3] at o3;dsimp only;rw [← hm1,← hm2,← hm3];have bS1:=(bS.bw hb1).bw ((Bw.refl w1).alloc (.cells #[.slice A1 m1 c1,.slice A2 m2 c2,.slice A3 m3 c3,.int .i64 s.tests] 28));have y0:=bS1.c 0 _ rfl;have y1:=bS1.c 1 _ rfl;have y2:=bS1.c 2 _ rfl;have y3:=bS1.c 3 _ rfl;have HM1:=Lib.hid hm1;have HM2:=Lib.hid hm2;have HM3:=Lib.hid hm3;clear hm1 hm2 hm3;go_wp2_with fail;obtain ⟨V,hV⟩:∃V,V=w1.alloc (.cells #[.slice A1 m1 c1,.slice A2 m2 c2,.slice A3 m3 c3,.int .i64 s.tests] 28):=⟨_,rfl⟩;have A1':Bw w1 V:=by rw [hV];exact (Bw.refl w1).alloc _
 have bO:Box V w1.heap.size [.slice A1 m1 c1,.slice A2 m2 c2,.slice A3 m3 c3,.int .i64 s.tests]:=by rw [hV];exact Box.new w1 #[.slice A1 m1 c1,.slice A2 m2 c2,.slice A3 m3 c3,.int .i64 s.tests] 28
 have zV:V.heap.size=w1.heap.size+1:=by rw [hV];simp
 have BV:Bw w V:=A0.then (hb1.then A1');replace bS:=bS.bw (hb1.then A1');replace bX:=bX.bw (hb1.then A1');replace bR:=bR.bw (hb1.then A1');have zw:w.heap.size+3≤w1.heap.size:=by have:=hb1.size;omega
 have lS:=(oD (B:=0)).lt oS;replace o1:=xA A1' yA o1;replace o2:=xA A1' nA o2;replace o3:=xA A1' aA o3;have fV:pA (w.heap.size+3) (F1++(F2++F3)):=fS.mono (by omega);have HLS:=Lib.hid lS;have HV:=Lib.hid hV;have k1:=Lib.hid (fun W (B:Bw V W)=>VE W s _ vb _ (ha.bw jA (BV.then B)) (hb.bw lA (BV.then B)) (hc.bw dA (BV.then B)));have k2:=Lib.hid (fun W (B:Bw V W)=>IE W x u (hx.bw dA (BV.then B)));have k3:=Lib.hid (fun W (B:Bw V W)=>QC W s.items x.id _ (ha.bw jA (BV.then B)));obtain ⟨b6,hb6⟩:∃b,b=w1.heap.size:=⟨_,rfl⟩;rw [← hb6] at bO zV zw lS;have HB6:=Lib.hid hb6;rw [← HV.out,← HB6.out];clear hV oS fS hcopy hb1 A1' A0 hb6 lS y0 y1 y2 y3 bS1;refine (k1.out _ (Bw.refl V)).mono ?_;rintro e w2 ⟨rfl,hb2⟩;rcases Bool.eq_false_or_eq_true (tB s) with e1 | e1
 ·have E1:=Lib.hid e1;rw [e1];clear e1;have bS2:=bS.bw hb2;have bX2:=bX.bw hb2;have y0:=bS2.c 0 _ rfl;have y1:=bS2.c 1 _ rfl;have y2:=bS2.c 2 _ rfl;have y3:=bS2.c 3 _ rfl;have yf:=bS2.fr;have x0:=bX2.c 0 _ rfl;have x1:=bX2.c 1 _ rfl;have xf:=bX2.fr;have hcall:=k2.out _ hb2;clear bS2 bX2;go_wp2_with fail;refine hcall.mono ?_;rintro e w3 ⟨rfl,hb3⟩;have hB3:=hb2.then hb3;clear y0 y1 y2 y3 yf;clear x0 x1 xf;rcases Bool.eq_false_or_eq_true (LA x) with e2 | e2
  ·have E2:=Lib.hid e2;rw [e2];clear e2;have bS3:=bS.bw hB3;have bX3:=bX.bw hB3;have y0:=bS3.c 0 _ rfl;have y1:=bS3.c 1 _ rfl;have y2:=bS3.c 2 _ rfl;have y3:=bS3.c 3 _ rfl;have yf:=bS3.fr;have x0:=bX3.c 0 _ rfl;have x1:=bX3.c 1 _ rfl;have xf:=bX3.fr;have hcall:=k3.out _ hB3;obtain ⟨K,hK⟩:∃K,K=UA s.items x.id:=⟨_,rfl⟩;rw [← hK] at hcall;have HK:=Lib.hid hK;clear bS3 bX3 hK;go_wp2_with fail;refine hcall.mono ?_;rintro e w4 ⟨rfl,hb4⟩;have hB4:=hB3.then hb4;clear y0 y1 y2 y3 yf;clear x0 x1 xf;by_cases hK0:0≤K
   ·clear hno;have bR2:=bR.bw hB4;have bO2:=bO.bw hB4;have r0:=bR2.c 0 _ rfl;have r1:=bR2.c 1 _ rfl;have r2:=bR2.c 2 _ rfl;have r3:=bR2.c 3 _ rfl;have rf:=bR2.fr;have q0:=bO2.c 0 _ rfl;have q1:=bO2.c 1 _ rfl;have q2:=bO2.c 2 _ rfl;have q3:=bO2.c 3 _ rfl;have qf:=bO2.fr;have hBB:=BV.then hB4;have p1:=xA hB4 yA o1;have p2:=xA hB4 nA o2;have p3:=xA hB4 aA o3;clear bR2 bO2 o1 o2 o3 bR bO;go_wp2;rw [HM1.out] at p1 ⊢;rw [HM2.out] at p2 ⊢;rw [HM3.out] at p3 ⊢;refine bodyPost_ret (v:=.tuple #[.agg #[.slice A1 s.items.length c1,.slice A2 s.wanted.length c2,.slice A3 s.best.length c3,.int .i64 s.tests],.bool false]) (by simp [results,Tryz.results11,go_sem,r0,r1,r2,r3]) rfl (cD p1 p2 p3 (fV.mono (by omega)) (by omega) hBB)
   ·have hK1:¬(0:Int)≤K:=hK0;by_cases hn16:16≤n
    ·have hn2:n=16:=by
      have h1:=VA (sA (ZB E1.out).1);have:=L.out;omega
     have hn1:((n:Int)==16)=true:=by rw [hn2];rfl
     clear hn2;have bS4:=bS.bw hB4;have y0:=bS4.c 0 _ rfl;have y1:=bS4.c 1 _ rfl;have y2:=bS4.c 2 _ rfl;have y3:=bS4.c 3 _ rfl;have yf:=bS4.fr;clear hno bS4;have bR2:=bR.bw hB4;have bO2:=bO.bw hB4;have r0:=bR2.c 0 _ rfl;have r1:=bR2.c 1 _ rfl;have r2:=bR2.c 2 _ rfl;have r3:=bR2.c 3 _ rfl;have rf:=bR2.fr;have q0:=bO2.c 0 _ rfl;have q1:=bO2.c 1 _ rfl;have q2:=bO2.c 2 _ rfl;have q3:=bO2.c 3 _ rfl;have qf:=bO2.fr;have hBB:=BV.then hB4;have p1:=xA hB4 yA o1;have p2:=xA hB4 nA o2;have p3:=xA hB4 aA o3;clear bR2 bO2 o1 o2 o3 bR bO;go_wp2;rw [HM1.out] at p1 ⊢;rw [HM2.out] at p2 ⊢;rw [HM3.out] at p3 ⊢;refine bodyPost_ret (v:=.tuple #[.agg #[.slice A1 s.items.length c1,.slice A2 s.wanted.length c2,.slice A3 s.best.length c3,.int .i64 s.tests],.bool false]) (by simp [results,Tryz.results11,go_sem,r0,r1,r2,r3]) rfl (cD p1 p2 p3 (fV.mono (by omega)) (by omega) hBB)
    ·have hn1:((n:Int)==16)=false:=by rw [beq_eq_false_iff_ne];omega
     have ht0:999900<s.tests:=by
      rcases Decidable.em (999900<s.tests) with h | h
      ·exact h
      ·exfalso
       have h2:WF s x=true:=by
        unfold WF;rw [E1.out,E2.out,decide_eq_true (show UA s.items x.id<0 by rw [← HK.out];omega),decide_eq_true (show s.items.length<16 by rw [← L.out];omega),decide_eq_true (show s.tests≤999900 by omega)];rfl
       rw [h2] at hno;cases hno
     have bS4:=bS.bw hB4;have y0:=bS4.c 0 _ rfl;have y1:=bS4.c 1 _ rfl;have y2:=bS4.c 2 _ rfl;have y3:=bS4.c 3 _ rfl;have yf:=bS4.fr;clear hno bS4;have bR2:=bR.bw hB4;have bO2:=bO.bw hB4;have r0:=bR2.c 0 _ rfl;have r1:=bR2.c 1 _ rfl;have r2:=bR2.c 2 _ rfl;have r3:=bR2.c 3 _ rfl;have rf:=bR2.fr;have q0:=bO2.c 0 _ rfl;have q1:=bO2.c 1 _ rfl;have q2:=bO2.c 2 _ rfl;have q3:=bO2.c 3 _ rfl;have qf:=bO2.fr;have hBB:=BV.then hB4;have p1:=xA hB4 yA o1;have p2:=xA hB4 nA o2;have p3:=xA hB4 aA o3;clear bR2 bO2 o1 o2 o3 bR bO;go_wp2;rw [HM1.out] at p1 ⊢;rw [HM2.out] at p2 ⊢;rw [HM3.out] at p3 ⊢;refine bodyPost_ret (v:=.tuple #[.agg #[.slice A1 s.items.length c1,.slice A2 s.wanted.length c2,.slice A3 s.best.length c3,.int .i64 s.tests],.bool false]) (by simp [results,Tryz.results11,go_sem,r0,r1,r2,r3]) rfl (cD p1 p2 p3 (fV.mono (by omega)) (by omega) hBB)
  ·rw [e2];clear e2 hno;have bR2:=bR.bw hB3;have bO2:=bO.bw hB3;have r0:=bR2.c 0 _ rfl;have r1:=bR2.c 1 _ rfl;have r2:=bR2.c 2 _ rfl;have r3:=bR2.c 3 _ rfl;have rf:=bR2.fr;have q0:=bO2.c 0 _ rfl;have q1:=bO2.c 1 _ rfl;have q2:=bO2.c 2 _ rfl;have q3:=bO2.c 3 _ rfl;have qf:=bO2.fr;have hBB:=BV.then hB3;have p1:=xA hB3 yA o1;have p2:=xA hB3 nA o2;have p3:=xA hB3 aA o3;clear bR2 bO2 o1 o2 o3 bR bO;go_wp2;rw [HM1.out] at p1 ⊢;rw [HM2.out] at p2 ⊢;rw [HM3.out] at p3 ⊢;refine bodyPost_ret (v:=.tuple #[.agg #[.slice A1 s.items.length c1,.slice A2 s.wanted.length c2,.slice A3 s.best.length c3,.int .i64 s.tests],.bool false]) (by simp [results,Tryz.results11,go_sem,r0,r1,r2,r3]) rfl (cD p1 p2 p3 (fV.mono (by omega)) (by omega) hBB)
 ·rw [e1];clear e1 hno;have bR2:=bR.bw hb2;have bO2:=bO.bw hb2;have r0:=bR2.c 0 _ rfl;have r1:=bR2.c 1 _ rfl;have r2:=bR2.c 2 _ rfl;have r3:=bR2.c 3 _ rfl;have rf:=bR2.fr;have q0:=bO2.c 0 _ rfl;have q1:=bO2.c 1 _ rfl;have q2:=bO2.c 2 _ rfl;have q3:=bO2.c 3 _ rfl;have qf:=bO2.fr;have hBB:=BV.then hb2;have p1:=xA hb2 yA o1;have p2:=xA hb2 nA o2;have p3:=xA hb2 aA o3;clear bR2 bO2 o1 o2 o3 bR bO;go_wp2;rw [HM1.out] at p1 ⊢;rw [HM2.out] at p2 ⊢;rw [HM3.out] at p3 ⊢;refine bodyPost_ret (v:=.tuple #[.agg #[.slice A1 s.items.length c1,.slice A2 s.wanted.length c2,.slice A3 s.best.length c3,.int .i64 s.tests],.bool false]) (by simp [results,Tryz.results11,go_sem,r0,r1,r2,r3]) rfl (cD p1 p2 p3 (fV.mono (by omega)) (by omega) hBB)
end Go.Proofs.YtpihighajaeabaaGreat
