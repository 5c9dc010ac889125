/- The console in the program: a line with an argument. -/
import Derived.Test.YtpihighajaeabaaGreatQConB
namespace Go.Proofs.YtpihighajaeabaaGreat
open Go.RowKit
set_option linter.unusedVariables false
set_option linter.unusedSimpArgs false
def aJ (m:CS) (word:ByteArray) (X:gA×Bool) (N:Int×Bool) (E:List kA×Bool):ByteArray×CS:=
 if word=dAq∧X.2=true then sN m (cG m.s X.1) (WF m.s X.1)
 else if word=jM∧X.2=true then sN m (CK m.s X.1) (OG m.s X.1)
 else if word=LU∧N.2=true then sN m (PE m.s N.1) (oF m.s N.1)
 else if word=gA7∧N.2=true then (dAr m N.1,m)
 else if word=QY∧N.2=true then (nC (UJ m.s.items m.s.wanted N.1),m)
 else if word=Qq∧E.2=true then FL m E.1
 else (PG,m)
theorem iA1 (m:CS) (word rest:ByteArray):tH m word rest=aJ m word (KG rest) (pI rest) (GF rest):=rfl
section
variable {m:CS} {x:gA} {n:Int} {e:List kA} {px pn pe:Bool}
theorem dAy:aJ m dAq (x,true) (n,pn) (e,pe)=sN m (cG m.s x) (WF m.s x):=if_pos ⟨rfl,rfl⟩
theorem wW:aJ m jM (x,true) (n,pn) (e,pe)=sN m (CK m.s x) (OG m.s x):=by
 unfold aJ;rw [if_neg (fun h=>absurd h.1 (by decide)),if_pos ⟨rfl,rfl⟩]
theorem bA1:aJ m LU (x,px) (n,true) (e,pe)=sN m (PE m.s n) (oF m.s n):=by
 unfold aJ;rw [if_neg (fun h=>absurd h.1 (by decide)),if_neg (fun h=>absurd h.1 (by decide)),if_pos ⟨rfl,rfl⟩]
theorem dAz:aJ m gA7 (x,px) (n,true) (e,pe)=(dAr m n,m):=by
 unfold aJ;rw [if_neg (fun h=>absurd h.1 (by decide)),if_neg (fun h=>absurd h.1 (by decide)),if_neg (fun h=>absurd h.1 (by decide)),if_pos ⟨rfl,rfl⟩]
theorem bA2:aJ m QY (x,px) (n,true) (e,pe)=(nC (UJ m.s.items m.s.wanted n),m):=by
 unfold aJ;rw [if_neg (fun h=>absurd h.1 (by decide)),if_neg (fun h=>absurd h.1 (by decide)),if_neg (fun h=>absurd h.1 (by decide)),if_neg (fun h=>absurd h.1 (by decide)),if_pos ⟨rfl,rfl⟩]
theorem VY:aJ m Qq (x,px) (n,pn) (e,true)=FL m e:=by
 unfold aJ;rw [if_neg (fun h=>absurd h.1 (by decide)),if_neg (fun h=>absurd h.1 (by decide)),if_neg (fun h=>absurd h.1 (by decide)),if_neg (fun h=>absurd h.1 (by decide)),if_neg (fun h=>absurd h.1 (by decide)),if_pos ⟨rfl,rfl⟩]
theorem bJ {word:ByteArray} (h1:word=dAq→px=false) (h2:word=jM→px=false) (h3:word=LU→pn=false) (h4:word=gA7→pn=false) (h5:word=QY→pn=false) (h6:word=Qq→pe=false):aJ m word (x,px) (n,pn) (e,pe)=(PG,m):=by
 unfold aJ;rw [if_neg (fun h=>by rw [h1 h.1] at h;exact absurd h.2 Bool.false_ne_true),if_neg (fun h=>by rw [h2 h.1] at h;exact absurd h.2 Bool.false_ne_true),if_neg (fun h=>by rw [h3 h.1] at h;exact absurd h.2 Bool.false_ne_true),if_neg (fun h=>by rw [h4 h.1] at h;exact absurd h.2 Bool.false_ne_true),if_neg (fun h=>by rw [h5 h.1] at h;exact absurd h.2 Bool.false_ne_true),if_neg (fun h=>by rw [h6 h.1] at h;exact absurd h.2 Bool.false_ne_true)]
end
theorem jB {s t:ByteArray} (h:s=t) {l:List UInt8} (hn:t≠⟨l.toArray⟩):(s.toList==l)=false:=EF (by rw [h];exact hn)
set_option maxRecDepth 100000 in
set_option maxHeartbeats 1600000 in
theorem xW (w:World) (b:Nat) (m:CS) (word rest:ByteArray) (h:StP LI b w m) (hs:rest.size≤1048576) :
  Calls Tryz.prog 198 #[.pointer (some ⟨b,0,none⟩),.string word,.string rest] w (ID LI b w (tH m word rest)):=by
 obtain ⟨S,FV,vi,vw,vb,vv,h0⟩:=h;obtain ⟨A1,n1,c1,rfl,l1,_⟩:=iA h0.items;obtain ⟨A2,n2,c2,rfl,l2,_⟩:=iA h0.wanted;obtain ⟨A3,n3,c3,rfl,l3,_⟩:=iA h0.best;obtain ⟨A4,n4,c4,rfl,l4,_⟩:=iA h0.vote;have L4:=Lib.hid l4;clear l1 l2 l3 l4;rw [iA1];have k1:=RX w rest hs;have k2:=fun W=>xG W rest hs
 have k3:=fun W=>oH W rest hs
 have hx:=fun h=>(fA7 (s:=rest) h).1
 have he:=fun h=>YI (iS (s:=rest) h).1
 generalize KG rest=X at *;generalize pI rest=N at *;generalize GF rest=E at *;obtain ⟨x,px⟩:=X;obtain ⟨n,pn⟩:=N;obtain ⟨ee,pe⟩:=E;dsimp only at k1 k2 k3 hx he;obtain ⟨R,hR⟩:∃R,R=aJ m word (x,px) (n,pn) (ee,pe):=⟨_,rfl⟩;rw [← hR];have H0:=Lib.hid h0;have HR:=Lib.hid hR;have K2:=Lib.hid k2;have K3:=Lib.hid k3;have HX:=Lib.hid hx;have HE:=Lib.hid he;clear hR h0 k2 k3 hx he;go_enter Tryz.func198,Tryz.ntmps198;go_wp2_with fail;refine (k1).mono ?_;rintro e w1 ⟨v1,rfl,⟨cs1,rfl,F1,⟨u1,rfl,o1⟩,f1⟩,hb1⟩;obtain ⟨Au,nu,cu,rfl,lu,_⟩:=iA (AA o1);clear lu k1;go_wp2_with fail;refine (K2.out _).mono ?_;rintro e w2 ⟨rfl,hb2⟩;go_wp2_with fail;refine (K3.out _).mono ?_;rintro e w3 ⟨v3,rfl,⟨v3,rfl,F3,o3',f3⟩,hb3⟩;obtain ⟨A8,n8,c8,rfl,l8,_⟩:=iA (lC o3');clear l8;have hb23:=hb2.then hb3;have q0:w3.cell? ⟨w1.heap.size,0,none⟩=some (.int .i64 x.id):=hb23.cell (by go_simp);have q1:w3.cell? ⟨w1.heap.size,1,none⟩=some (.slice Au nu cu):=hb23.cell (by go_simp);have B3:=((hb1.alloc _).then hb23);have H3:=Lib.hid (H0.out.bw (B3.then (Bw.refl w3).drew));have o3:=xA (((Bw.refl w1).alloc _).then (hb23.then (Bw.refl w3).drew)) aA o1;have hnb:¬w1.heap.size=b:=by have:=H0.out.box.lt;have:=hb1.size;omega
 by_cases h:word=dAq
 ·skip
  have e1:(word.toList==[97,100,100])=true:=aG h;have e2:(word.toList==[99,104,97,110,103,101])=false:=jB h (by decide);have e3:(word.toList==[100,114,111,112])=false:=jB h (by decide);have e4:(word.toList==[119,104,121])=false:=jB h (by decide);have e5:(word.toList==[98,97,110,100])=false:=jB h (by decide);have e6:(word.toList==[118,111,116,101,114])=false:=jB h (by decide)
  cases px with
  | true=>
   have hr:R=sN m (cG m.s x) (WF m.s x):=by rw [HR.out,h];exact dAy
   clear h;have hsm:=H3.out.small.1;have hit:=(AA o3);have hc:=xO w3.drew m.s x _ _ _ _ H3.out.items H3.out.wanted H3.out.best hit hsm.1 hsm.2.1 hsm.2.2;have bx:=(H0.out.bw B3).box;have K3:=Lib.hid hr;clear hr hit hsm;have x0:=bx.c 0 _ rfl;have x1:=bx.c 1 _ rfl;have x2:=bx.c 2 _ rfl;have x3:=bx.c 3 _ rfl;have x4:=bx.c 4 _ rfl;have x5:=bx.c 5 _ rfl;have xf:=bx.fr;go_wp2_with fail;refine wp_region_held_drew (S:=(fun w'=>w'.cell? ⟨w1.heap.size,0,none⟩=some (.int .i64 x.id)∧w'.cell? ⟨w1.heap.size,1,none⟩=some (.slice Au nu cu))) (by kernel_rfl) ?_ (fun hHeld=>?_)
   ·exact ⟨q0,q1⟩
   refine wpAnyH_take (i:=0) (oi:=_) (v:=?_) rfl (by kernel_rfl) (by kernel_rfl) (by kernel_rfl) (fun _ _ _ h=>h) (Or.inl ⟨by rfl,?_⟩) (by assumption) ?_;rotate_left 1
   ·(intro wS hSw;(try dsimp only at hSw);go_simp;try with_reducible rfl)
   try simp only [Act.put,List.getElem_toArray,List.getElem_cons_zero,List.getElem_cons_succ,List.setIfInBounds_toArray,List.set_cons_zero,List.set_cons_succ]
   refine wpAnyH_take (i:=1) (oi:=_) (v:=?_) rfl (by kernel_rfl) (by kernel_rfl) (by kernel_rfl) (fun _ _ _ h=>h) (Or.inl ⟨by rfl,?_⟩) (by assumption) ?_;rotate_left 1
   ·(intro wS hSw;(try dsimp only at hSw);go_simp;try with_reducible rfl)
   try simp only [Act.put,List.getElem_toArray,List.getElem_cons_zero,List.getElem_cons_succ,List.setIfInBounds_toArray,List.set_cons_zero,List.set_cons_succ]
   refine wpAnyH_take (i:=2) (oi:=_) (v:=?_) rfl (by kernel_rfl) (by kernel_rfl) (by kernel_rfl) (fun _ _ _ h=>h) (Or.inl ⟨by rfl,?_⟩) (by assumption) ?_;rotate_left 1
   ·(intro wS hSw;(try dsimp only at hSw);go_simp;try with_reducible rfl)
   try simp only [Act.put,List.getElem_toArray,List.getElem_cons_zero,List.getElem_cons_succ,List.setIfInBounds_toArray,List.set_cons_zero,List.set_cons_succ]
   refine wpAnyH_take (i:=3) (oi:=_) (v:=?_) rfl (by kernel_rfl) (by kernel_rfl) (by kernel_rfl) (fun _ _ _ h=>h) (Or.inl ⟨by rfl,?_⟩) (by assumption) ?_;rotate_left 1
   ·(intro wS hSw;(try dsimp only at hSw);go_simp;try with_reducible rfl)
   try simp only [Act.put,List.getElem_toArray,List.getElem_cons_zero,List.getElem_cons_succ,List.setIfInBounds_toArray,List.set_cons_zero,List.set_cons_succ]
   refine wpAnyH_take (i:=5) (oi:=_) (v:=?_) rfl (by kernel_rfl) (by kernel_rfl) (by kernel_rfl) (fun _ _ _ h=>h) (Or.inl ⟨by rfl,?_⟩) (by assumption) ?_;rotate_left 1
   ·(intro wS hSw;(try dsimp only at hSw);go_simp;try with_reducible rfl)
   try simp only [Act.put,List.getElem_toArray,List.getElem_cons_zero,List.getElem_cons_succ,List.setIfInBounds_toArray,List.set_cons_zero,List.set_cons_succ]
   refine wpAnyH_ready (rs:=[4]) (by kernel_rfl) (by simp) (AllReadyH.cons (o:=_) rfl (fun K hK=>?_) AllReadyH.nil)
   go_simp
   refine hK.out _ _ ⟨q0,q1⟩ (fun hHeld=>?_);clear hK K
   try simp only [Act.put,List.getElem_toArray,List.getElem_cons_zero,List.getElem_cons_succ,List.setIfInBounds_toArray,List.set_cons_zero,List.set_cons_succ]
   refine wpAnyH_ready (rs:=[6]) (by kernel_rfl) (by simp) (AllReadyH.cons (o:=_) rfl (fun K hK=>?_) AllReadyH.nil);clear x0 x1 x2 x3 x4 x5 xf
   go_simp
   refine hc.mono ?_;clear hc;rintro e w5 ⟨v5,rfl,⟨cs5,rfl,F5,⟨va5,vb5,vc5,Fa5,Fb5,Fc5,rfl,g1,g2,g3,g4⟩,f5⟩,hb5⟩;obtain ⟨A5,n5,d5,rfl,l5,_⟩:=iA (vC g1);obtain ⟨A6,n6,d6,rfl,l6,_⟩:=iA (lC g2);obtain ⟨A7,n7,d7,rfl,l7,_⟩:=iA (AA g3);have o5:aC w5 (cG m.s x) _ F5:=⟨_,_,_,Fa5,Fb5,Fc5,rfl,g1,g2,g3,g4⟩;clear l5 l6 l7 g1 g2 g3 g4;have r0:=hb5.cell (w:=w5) (a:=w3.drew) q0;have r1:=hb5.cell (w:=w5) (a:=w3.drew) q1;have bx5:=H3.out.box.bw hb5;refine hK.out _ _ ⟨r0,r1⟩ (fun hHeld=>?_);clear hK K
   try simp only [Act.put,List.getElem_toArray,List.getElem_cons_zero,List.getElem_cons_succ,List.setIfInBounds_toArray,List.set_cons_zero,List.set_cons_succ]
   refine wpAnyH_take (i:=7) (oi:=_) (v:=?_) rfl (by kernel_rfl) (by kernel_rfl) (by kernel_rfl) (fun _ _ _ h=>h) (Or.inl ⟨by rfl,?_⟩) (by assumption) ?_;rotate_left 1
   ·(intro wS hSw;(try dsimp only at hSw);go_simp;try with_reducible rfl)
   try simp only [Act.put,List.getElem_toArray,List.getElem_cons_zero,List.getElem_cons_succ,List.setIfInBounds_toArray,List.set_cons_zero,List.set_cons_succ]
   refine wpAnyH_take (i:=8) (oi:=_) (v:=?_) rfl (by kernel_rfl) (by kernel_rfl) (by kernel_rfl) (fun _ _ _ h=>h) (Or.inl ⟨by rfl,?_⟩) (by assumption) ?_;rotate_left 1
   ·(intro wS hSw;(try dsimp only at hSw);go_simp;try with_reducible rfl)
   try simp only [Act.put,List.getElem_toArray,List.getElem_cons_zero,List.getElem_cons_succ,List.setIfInBounds_toArray,List.set_cons_zero,List.set_cons_succ]
   refine wpAnyH_ready (rs:=[9]) (by kernel_rfl) (by simp) (AllReadyH.cons (o:=_) rfl (fun K hK=>?_) AllReadyH.nil);have hset:=gA9 w5 b _ _ _ _ _ _ A5 A6 A7 n5 d5 n6 d6 n7 d7 (cG m.s x).tests (WF m.s x) bx5;obtain ⟨T,hT⟩:∃T,T=(if WF m.s x then wOk else wNo):=⟨_,rfl⟩;rw [← hT] at hset;have HT:=Lib.hid hT;clear hT
   go_simp
   refine hset.mono ?_;clear hset;rintro e w6 hS6;have hS7:=hS6;obtain ⟨rfl,hO6,hB6,bx6⟩:=hS6;refine hK.out _ _ ⟨hO6.cell r0 (by simpa using hnb),hO6.cell r1 (by simpa using hnb)⟩ (fun hHeld=>?_);clear hK K
   try simp only [Act.put,List.getElem_toArray,List.getElem_cons_zero,List.getElem_cons_succ,List.setIfInBounds_toArray,List.set_cons_zero,List.set_cons_succ]
   refine wpAnyH_take (i:=10) (oi:=_) (v:=?_) rfl (by kernel_rfl) (by kernel_rfl) (by kernel_rfl) (fun _ _ _ h=>h) (Or.inl ⟨by rfl,?_⟩) (by assumption) ?_;rotate_left 1
   ·(intro wS hSw;(try dsimp only at hSw);go_simp;try with_reducible rfl)
   try simp only [Act.put,List.getElem_toArray,List.getElem_cons_zero,List.getElem_cons_succ,List.setIfInBounds_toArray,List.set_cons_zero,List.set_cons_succ]
   refine wpAnyH_done (by kernel_rfl) ?_ _;have HS7:=Lib.hid (show ID LI b w R (.returned (.string T)) w6 from by
    obtain rfl:=HT.out;rw [K3.out];exact H0.out.put (B3.then ((Bw.refl w3).drew.then hb5)) o5 (f5.mono B3.size) (bAx H0.out.small) hS7)
   clear hS7 hO6 hB6 bx6 bx5 o5 f5 r0 r1 hHeld hb5;go_wp2;go_ret;exact HS7.out
  | false=>
   have hr:R=(PG,m):=by rw [HR.out];exact bJ (fun hh=>rfl) (fun hh=>absurd (h.symm.trans hh) (by decide)) (fun hh=>absurd (h.symm.trans hh) (by decide)) (fun hh=>absurd (h.symm.trans hh) (by decide)) (fun hh=>absurd (h.symm.trans hh) (by decide)) (fun hh=>absurd (h.symm.trans hh) (by decide))
   clear h;have HS7:=Lib.hid (show ID LI b w R (.returned (.string PG)) w3 from by rw [hr];exact H0.out.same B3 _);clear hr;go_wp2;go_ret;exact HS7.out
 have h1:=h;clear h;by_cases h:word=jM
 ·skip
  have e1:(word.toList==[97,100,100])=false:=jB h (by decide);have e2:(word.toList==[99,104,97,110,103,101])=true:=aG h;have e3:(word.toList==[100,114,111,112])=false:=jB h (by decide);have e4:(word.toList==[119,104,121])=false:=jB h (by decide);have e5:(word.toList==[98,97,110,100])=false:=jB h (by decide);have e6:(word.toList==[118,111,116,101,114])=false:=jB h (by decide)
  cases px with
  | true=>
   have hr:R=sN m (CK m.s x) (OG m.s x):=by rw [HR.out,h];exact wW
   clear h;have hsm:=H3.out.small.1;have hit:=(AA o3);have hc:=lW w3.drew m.s x _ _ _ _ H3.out.items H3.out.wanted H3.out.best hit hsm.1 hsm.2.1 hsm.2.2;have bx:=(H0.out.bw B3).box;have K3:=Lib.hid hr;clear hr hit hsm;have x0:=bx.c 0 _ rfl;have x1:=bx.c 1 _ rfl;have x2:=bx.c 2 _ rfl;have x3:=bx.c 3 _ rfl;have x4:=bx.c 4 _ rfl;have x5:=bx.c 5 _ rfl;have xf:=bx.fr;go_wp2_with fail;refine wp_region_held_drew (S:=(fun w'=>w'.cell? ⟨w1.heap.size,0,none⟩=some (.int .i64 x.id)∧w'.cell? ⟨w1.heap.size,1,none⟩=some (.slice Au nu cu))) (by kernel_rfl) ?_ (fun hHeld=>?_)
   ·exact ⟨q0,q1⟩
   refine wpAnyH_take (i:=0) (oi:=_) (v:=?_) rfl (by kernel_rfl) (by kernel_rfl) (by kernel_rfl) (fun _ _ _ h=>h) (Or.inl ⟨by rfl,?_⟩) (by assumption) ?_;rotate_left 1
   ·(intro wS hSw;(try dsimp only at hSw);go_simp;try with_reducible rfl)
   try simp only [Act.put,List.getElem_toArray,List.getElem_cons_zero,List.getElem_cons_succ,List.setIfInBounds_toArray,List.set_cons_zero,List.set_cons_succ]
   refine wpAnyH_take (i:=1) (oi:=_) (v:=?_) rfl (by kernel_rfl) (by kernel_rfl) (by kernel_rfl) (fun _ _ _ h=>h) (Or.inl ⟨by rfl,?_⟩) (by assumption) ?_;rotate_left 1
   ·(intro wS hSw;(try dsimp only at hSw);go_simp;try with_reducible rfl)
   try simp only [Act.put,List.getElem_toArray,List.getElem_cons_zero,List.getElem_cons_succ,List.setIfInBounds_toArray,List.set_cons_zero,List.set_cons_succ]
   refine wpAnyH_take (i:=2) (oi:=_) (v:=?_) rfl (by kernel_rfl) (by kernel_rfl) (by kernel_rfl) (fun _ _ _ h=>h) (Or.inl ⟨by rfl,?_⟩) (by assumption) ?_;rotate_left 1
   ·(intro wS hSw;(try dsimp only at hSw);go_simp;try with_reducible rfl)
   try simp only [Act.put,List.getElem_toArray,List.getElem_cons_zero,List.getElem_cons_succ,List.setIfInBounds_toArray,List.set_cons_zero,List.set_cons_succ]
   refine wpAnyH_take (i:=3) (oi:=_) (v:=?_) rfl (by kernel_rfl) (by kernel_rfl) (by kernel_rfl) (fun _ _ _ h=>h) (Or.inl ⟨by rfl,?_⟩) (by assumption) ?_;rotate_left 1
   ·(intro wS hSw;(try dsimp only at hSw);go_simp;try with_reducible rfl)
   try simp only [Act.put,List.getElem_toArray,List.getElem_cons_zero,List.getElem_cons_succ,List.setIfInBounds_toArray,List.set_cons_zero,List.set_cons_succ]
   refine wpAnyH_take (i:=5) (oi:=_) (v:=?_) rfl (by kernel_rfl) (by kernel_rfl) (by kernel_rfl) (fun _ _ _ h=>h) (Or.inl ⟨by rfl,?_⟩) (by assumption) ?_;rotate_left 1
   ·(intro wS hSw;(try dsimp only at hSw);go_simp;try with_reducible rfl)
   try simp only [Act.put,List.getElem_toArray,List.getElem_cons_zero,List.getElem_cons_succ,List.setIfInBounds_toArray,List.set_cons_zero,List.set_cons_succ]
   refine wpAnyH_ready (rs:=[4]) (by kernel_rfl) (by simp) (AllReadyH.cons (o:=_) rfl (fun K hK=>?_) AllReadyH.nil)
   go_simp
   refine hK.out _ _ ⟨q0,q1⟩ (fun hHeld=>?_);clear hK K
   try simp only [Act.put,List.getElem_toArray,List.getElem_cons_zero,List.getElem_cons_succ,List.setIfInBounds_toArray,List.set_cons_zero,List.set_cons_succ]
   refine wpAnyH_ready (rs:=[6]) (by kernel_rfl) (by simp) (AllReadyH.cons (o:=_) rfl (fun K hK=>?_) AllReadyH.nil);clear x0 x1 x2 x3 x4 x5 xf
   go_simp
   refine hc.mono ?_;clear hc;rintro e w5 ⟨v5,rfl,⟨cs5,rfl,F5,⟨va5,vb5,vc5,Fa5,Fb5,Fc5,rfl,g1,g2,g3,g4⟩,f5⟩,hb5⟩;obtain ⟨A5,n5,d5,rfl,l5,_⟩:=iA (vC g1);obtain ⟨A6,n6,d6,rfl,l6,_⟩:=iA (lC g2);obtain ⟨A7,n7,d7,rfl,l7,_⟩:=iA (AA g3);have o5:aC w5 (CK m.s x) _ F5:=⟨_,_,_,Fa5,Fb5,Fc5,rfl,g1,g2,g3,g4⟩;clear l5 l6 l7 g1 g2 g3 g4;have r0:=hb5.cell (w:=w5) (a:=w3.drew) q0;have r1:=hb5.cell (w:=w5) (a:=w3.drew) q1;have bx5:=H3.out.box.bw hb5;refine hK.out _ _ ⟨r0,r1⟩ (fun hHeld=>?_);clear hK K
   try simp only [Act.put,List.getElem_toArray,List.getElem_cons_zero,List.getElem_cons_succ,List.setIfInBounds_toArray,List.set_cons_zero,List.set_cons_succ]
   refine wpAnyH_take (i:=7) (oi:=_) (v:=?_) rfl (by kernel_rfl) (by kernel_rfl) (by kernel_rfl) (fun _ _ _ h=>h) (Or.inl ⟨by rfl,?_⟩) (by assumption) ?_;rotate_left 1
   ·(intro wS hSw;(try dsimp only at hSw);go_simp;try with_reducible rfl)
   try simp only [Act.put,List.getElem_toArray,List.getElem_cons_zero,List.getElem_cons_succ,List.setIfInBounds_toArray,List.set_cons_zero,List.set_cons_succ]
   refine wpAnyH_take (i:=8) (oi:=_) (v:=?_) rfl (by kernel_rfl) (by kernel_rfl) (by kernel_rfl) (fun _ _ _ h=>h) (Or.inl ⟨by rfl,?_⟩) (by assumption) ?_;rotate_left 1
   ·(intro wS hSw;(try dsimp only at hSw);go_simp;try with_reducible rfl)
   try simp only [Act.put,List.getElem_toArray,List.getElem_cons_zero,List.getElem_cons_succ,List.setIfInBounds_toArray,List.set_cons_zero,List.set_cons_succ]
   refine wpAnyH_ready (rs:=[9]) (by kernel_rfl) (by simp) (AllReadyH.cons (o:=_) rfl (fun K hK=>?_) AllReadyH.nil);have hset:=gA9 w5 b _ _ _ _ _ _ A5 A6 A7 n5 d5 n6 d6 n7 d7 (CK m.s x).tests (OG m.s x) bx5;obtain ⟨T,hT⟩:∃T,T=(if OG m.s x then wOk else wNo):=⟨_,rfl⟩;rw [← hT] at hset;have HT:=Lib.hid hT;clear hT
   go_simp
   refine hset.mono ?_;clear hset;rintro e w6 hS6;have hS7:=hS6;obtain ⟨rfl,hO6,hB6,bx6⟩:=hS6;refine hK.out _ _ ⟨hO6.cell r0 (by simpa using hnb),hO6.cell r1 (by simpa using hnb)⟩ (fun hHeld=>?_);clear hK K
   try simp only [Act.put,List.getElem_toArray,List.getElem_cons_zero,List.getElem_cons_succ,List.setIfInBounds_toArray,List.set_cons_zero,List.set_cons_succ]
   refine wpAnyH_take (i:=10) (oi:=_) (v:=?_) rfl (by kernel_rfl) (by kernel_rfl) (by kernel_rfl) (fun _ _ _ h=>h) (Or.inl ⟨by rfl,?_⟩) (by assumption) ?_;rotate_left 1
   ·(intro wS hSw;(try dsimp only at hSw);go_simp;try with_reducible rfl)
   try simp only [Act.put,List.getElem_toArray,List.getElem_cons_zero,List.getElem_cons_succ,List.setIfInBounds_toArray,List.set_cons_zero,List.set_cons_succ]
   refine wpAnyH_done (by kernel_rfl) ?_ _;have HS7:=Lib.hid (show ID LI b w R (.returned (.string T)) w6 from by
    obtain rfl:=HT.out;rw [K3.out];exact H0.out.put (B3.then ((Bw.refl w3).drew.then hb5)) o5 (f5.mono B3.size) (hAx H0.out.small) hS7)
   clear hS7 hO6 hB6 bx6 bx5 o5 f5 r0 r1 hHeld hb5;go_wp2;go_ret;exact HS7.out
  | false=>
   have hr:R=(PG,m):=by rw [HR.out];exact bJ (fun hh=>absurd (h.symm.trans hh) (by decide)) (fun hh=>rfl) (fun hh=>absurd (h.symm.trans hh) (by decide)) (fun hh=>absurd (h.symm.trans hh) (by decide)) (fun hh=>absurd (h.symm.trans hh) (by decide)) (fun hh=>absurd (h.symm.trans hh) (by decide))
   clear h;have HS7:=Lib.hid (show ID LI b w R (.returned (.string PG)) w3 from by rw [hr];exact H0.out.same B3 _);clear hr;go_wp2;go_ret;exact HS7.out
 have h2:=h;clear h;by_cases h:word=LU
 ·skip
  have e1:(word.toList==[97,100,100])=false:=jB h (by decide);have e2:(word.toList==[99,104,97,110,103,101])=false:=jB h (by decide);have e3:(word.toList==[100,114,111,112])=true:=aG h;have e4:(word.toList==[119,104,121])=false:=jB h (by decide);have e5:(word.toList==[98,97,110,100])=false:=jB h (by decide);have e6:(word.toList==[118,111,116,101,114])=false:=jB h (by decide)
  cases pn with
  | true=>
   have hr:R=sN m (PE m.s n) (oF m.s n):=by rw [HR.out,h];exact bA1
   clear h;have h3:=H0.out.bw B3;have hsm:=h3.small.1;have hc:=AO w3 m.s n _ _ _ h3.items h3.wanted h3.best hsm.1 hsm.2.1 hsm.2.2;have bx:=h3.box;have HH3:=Lib.hid h3;have K3:=Lib.hid hr;clear hr hsm h3;have x0:=bx.c 0 _ rfl;have x1:=bx.c 1 _ rfl;have x2:=bx.c 2 _ rfl;have x3:=bx.c 3 _ rfl;have x4:=bx.c 4 _ rfl;have x5:=bx.c 5 _ rfl;have xf:=bx.fr;go_wp2_with fail;clear x0 x1 x2 x3 x4 x5 xf;refine hc.mono ?_;clear hc;rintro e w5 ⟨v5,rfl,⟨cs5,rfl,F5,⟨va5,vb5,vc5,Fa5,Fb5,Fc5,rfl,g1,g2,g3,g4⟩,f5⟩,hb5⟩;obtain ⟨A5,n5,d5,rfl,l5,_⟩:=iA (vC g1);obtain ⟨A6,n6,d6,rfl,l6,_⟩:=iA (lC g2);obtain ⟨A7,n7,d7,rfl,l7,_⟩:=iA (AA g3);have o5:aC w5 (PE m.s n) _ F5:=⟨_,_,_,Fa5,Fb5,Fc5,rfl,g1,g2,g3,g4⟩;clear l5 l6 l7 g1 g2 g3 g4;have bx5:=HH3.out.box.bw hb5;have hset:=gA9 w5 b _ _ _ _ _ _ A5 A6 A7 n5 d5 n6 d6 n7 d7 (PE m.s n).tests (oF m.s n) bx5;obtain ⟨T,hT⟩:∃T,T=(if oF m.s n then wOk else wNo):=⟨_,rfl⟩;rw [← hT] at hset;have HT:=Lib.hid hT;clear hT;go_wp2_with fail;refine hset.mono ?_;clear hset;rintro e w6 hS6;have hS7:=hS6;obtain ⟨rfl,hO6,hB6,bx6⟩:=hS6;have HS7:=Lib.hid (show ID LI b w R (.returned (.string T)) w6 from by
    obtain rfl:=HT.out;rw [K3.out];exact H0.out.put (B3.then hb5) o5 (f5.mono B3.size) (bAy H0.out.small) hS7)
   clear hS7 hO6 hB6 bx6 bx5 o5 f5 hb5;go_wp2;go_ret;exact HS7.out
  | false=>
   have hr:R=(PG,m):=by rw [HR.out];exact bJ (fun hh=>absurd (h.symm.trans hh) (by decide)) (fun hh=>absurd (h.symm.trans hh) (by decide)) (fun hh=>rfl) (fun hh=>absurd (h.symm.trans hh) (by decide)) (fun hh=>absurd (h.symm.trans hh) (by decide)) (fun hh=>absurd (h.symm.trans hh) (by decide))
   clear h;have HS7:=Lib.hid (show ID LI b w R (.returned (.string PG)) w3 from by rw [hr];exact H0.out.same B3 _);clear hr;go_wp2;go_ret;exact HS7.out
 have h3:=h;clear h;by_cases h:word=gA7
 ·skip
  have e1:(word.toList==[97,100,100])=false:=jB h (by decide);have e2:(word.toList==[99,104,97,110,103,101])=false:=jB h (by decide);have e3:(word.toList==[100,114,111,112])=false:=jB h (by decide);have e4:(word.toList==[119,104,121])=true:=aG h;have e5:(word.toList==[98,97,110,100])=false:=jB h (by decide);have e6:(word.toList==[118,111,116,101,114])=false:=jB h (by decide)
  cases pn with
  | true=>
   have hr:R=(dAr m n,m):=by rw [HR.out,h];exact dAz
   clear h;have h3:=H0.out.bw B3;have hi:=h3.items;have hw:=h3.wanted;obtain ⟨Z,hZ⟩:∃Z,Z=DC m.s.items m.s.wanted n:=⟨_,rfl⟩;have kE:∀s:GC w3,Calls Tryz.prog 250 #[.slice A1 n1 c1,.slice A2 n2 c2,.int .i64 n] s.1 (Ret s.1 (.string Z)):=fun s=>by rw [hZ];exact mT _ _ _ _ _ _ (hi.bw jA s.bw) (hw.bw lA s.bw)
   have hy:R=((if Z.size=0 then KQ else Z),m):=by rw [hr];unfold dAr;rw [← hZ]
   have K3:=Lib.hid hy;have bx:=h3.box;have x0:=bx.c 0 _ rfl;have x1:=bx.c 1 _ rfl;have x2:=bx.c 2 _ rfl;have x3:=bx.c 3 _ rfl;have x4:=bx.c 4 _ rfl;have x5:=bx.c 5 _ rfl;have xf:=bx.fr;have s0:=qA x0;have s1:=qA x1;have s2:=qA x2;have s3:=qA x3;have s4:=qA x4;clear hr hy hZ hi hw h3 bx;by_cases hz0:Z.size=0
   ·have z0:=pJ hz0;have HS7:=Lib.hid (fun W (hb:Bw w W)=>show ID LI b w R (.returned (.string KQ)) W from by rw [K3.out,if_pos hz0];exact H0.out.same hb _);clear hz0 K3;go_wp2_with fail;refine mA (by kernel_rfl) (by kernel_rfl) ?_
    repeat (first | go_big_quiet_skip | (go_big_quiet_want;go_big_quiet_op;first | go_big_quiet_on | (apply Exists.intro;refine ⟨fun _=>?_,?_⟩;(· (((go_at_call 250;exact GA (kE _)))));go_big_quiet_on)))
    refine wpQuiet_nil ?_;rintro ⟨wq,hbq⟩;dsimp only at *;have B7:=B3.then hbq;go_wp2;go_ret;exact HS7.out _ B7
   ·have z0:Z.toList.isEmpty=false:=yJ (by omega);have HS7:=Lib.hid (fun W (hb:Bw w W)=>show ID LI b w R (.returned (.string Z)) W from by rw [K3.out,if_neg hz0];exact H0.out.same hb _);clear hz0 K3;go_wp2_with fail;refine mA (by kernel_rfl) (by kernel_rfl) ?_
    repeat (first | go_big_quiet_skip | (go_big_quiet_want;go_big_quiet_op;first | go_big_quiet_on | (apply Exists.intro;refine ⟨fun _=>?_,?_⟩;(· (((go_at_call 250;exact GA (kE _)))));go_big_quiet_on)))
    refine wpQuiet_nil ?_;rintro ⟨wq,hbq⟩;dsimp only at *;have B7:=B3.then hbq;go_wp2;go_ret;exact HS7.out _ B7
  | false=>
   have hr:R=(PG,m):=by rw [HR.out];exact bJ (fun hh=>absurd (h.symm.trans hh) (by decide)) (fun hh=>absurd (h.symm.trans hh) (by decide)) (fun hh=>absurd (h.symm.trans hh) (by decide)) (fun hh=>rfl) (fun hh=>absurd (h.symm.trans hh) (by decide)) (fun hh=>absurd (h.symm.trans hh) (by decide))
   clear h;have HS7:=Lib.hid (show ID LI b w R (.returned (.string PG)) w3 from by rw [hr];exact H0.out.same B3 _);clear hr;go_wp2;go_ret;exact HS7.out
 have h4:=h;clear h;by_cases h:word=QY
 ·skip
  have e1:(word.toList==[97,100,100])=false:=jB h (by decide);have e2:(word.toList==[99,104,97,110,103,101])=false:=jB h (by decide);have e3:(word.toList==[100,114,111,112])=false:=jB h (by decide);have e4:(word.toList==[119,104,121])=false:=jB h (by decide);have e5:(word.toList==[98,97,110,100])=true:=aG h;have e6:(word.toList==[118,111,116,101,114])=false:=jB h (by decide)
  cases pn with
  | true=>
   have hr:R=(nC (UJ m.s.items m.s.wanted n),m):=by rw [HR.out,h];exact bA2
   clear h;have h3:=H0.out.bw B3;obtain ⟨Z,hZ⟩:∃Z,Z=UJ m.s.items m.s.wanted n:=⟨_,rfl⟩;have hc:=nY w3.drew m.s.items m.s.wanted n _ _ (h3.items.bw jA (Bw.refl w3).drew) (h3.wanted.bw lA (Bw.refl w3).drew);have hid:∀v∈Z,(Lit.int .i64 v).wf=true:=fun v hv=>cI (MU v (hZ▸hv))
   have hlen:Z.length≤1048576:=by rw [hZ];exact Nat.le_trans (zU _ _ _) (by decide)
   rw [← hZ] at hc hr;have kI:=Lib.hid (fun W v (h:Rd XA W Z [v])=>VK W Z v h hid hlen);have HS7:=Lib.hid (fun W (hb:Bw w W)=>show ID LI b w R (.returned (.string (nC Z))) W from by rw [hr];exact H0.out.same hb _);have bx:=h3.box;have x0:=bx.c 0 _ rfl;have x1:=bx.c 1 _ rfl;have x2:=bx.c 2 _ rfl;have x3:=bx.c 3 _ rfl;have x4:=bx.c 4 _ rfl;have x5:=bx.c 5 _ rfl;have xf:=bx.fr;clear hr hZ hid hlen h3 bx;go_wp2_with fail
   go_region_held3 (fun w'=>w'.cell? ⟨b,1,none⟩=some (.slice A1 n1 c1)∧w'.cell? ⟨b,2,none⟩=some (.slice A2 n2 c2)) (first | exact ⟨x1,x2⟩ | exact ⟨hb5.cell x1,hb5.cell x2⟩ | exact ⟨(hb5.then hb6).cell x1,(hb5.then hb6).cell x2⟩)
    (first
     | (go_at_call 39;refine hc.mono ?_;rintro e w5 ⟨v5,rfl,⟨F5,o5,f5⟩,hb5⟩;obtain ⟨A5,n5,d5,rfl,l5,_⟩:=iA (AA o5);have k6:=kI.out w5 _ (AA o5);clear l5)
     | (go_at_call 51;refine k6.mono ?_;rintro e w6 ⟨rfl,hb6⟩))
   have B7:=B3.then ((Bw.refl w3).drew.then (hb5.then hb6));clear o5 f5 k6 hc;go_wp2;go_ret;exact HS7.out _ B7
  | false=>
   have hr:R=(PG,m):=by rw [HR.out];exact bJ (fun hh=>absurd (h.symm.trans hh) (by decide)) (fun hh=>absurd (h.symm.trans hh) (by decide)) (fun hh=>absurd (h.symm.trans hh) (by decide)) (fun hh=>absurd (h.symm.trans hh) (by decide)) (fun hh=>rfl) (fun hh=>absurd (h.symm.trans hh) (by decide))
   clear h;have HS7:=Lib.hid (show ID LI b w R (.returned (.string PG)) w3 from by rw [hr];exact H0.out.same B3 _);clear hr;go_wp2;go_ret;exact HS7.out
 have h5:=h;clear h;by_cases h:word=Qq
 ·skip
  have e1:(word.toList==[97,100,100])=false:=jB h (by decide);have e2:(word.toList==[99,104,97,110,103,101])=false:=jB h (by decide);have e3:(word.toList==[100,114,111,112])=false:=jB h (by decide);have e4:(word.toList==[119,104,121])=false:=jB h (by decide);have e5:(word.toList==[98,97,110,100])=false:=jB h (by decide);have e6:(word.toList==[118,111,116,101,114])=true:=aG h
  cases pe with
  | true=>
   have hr:R=FL m ee:=by rw [HR.out,h];exact VY
   clear h;have h3:=H0.out.bw B3;obtain ⟨i0,hi,hz0,hz1,hz2⟩:=info_parts TZ;have bx:=h3.box;have x0:=bx.c 0 _ rfl;have x1:=bx.c 1 _ rfl;have x2:=bx.c 2 _ rfl;have x3:=bx.c 3 _ rfl;have x4:=bx.c 4 _ rfl;have x5:=bx.c 5 _ rfl;have xf:=bx.fr;by_cases h5:n4=5
   ·have i1:((n4:Int)==5)=true:=beq_iff_eq.2 (by omega);have HS7:=Lib.hid (show ID LI b w R (.returned (.string wNo)) w3 from by rw [hr];unfold FL;rw [if_pos (L4.out.symm.trans h5)];exact H0.out.same B3 _);clear hr h5 h3 bx hi hz0 hz1 hz2;go_wp2;go_ret;exact HS7.out
   ·have i1:((n4:Int)==5)=false:=beq_eq_false_iff_ne.2 (by omega);have hW:Bw w3 (w3.alloc (.cells #[.slice A8 n8 c8] 25)):=(Bw.refl w3).alloc _;have hvW:=(h3.bw hW).rv;have hbz:b≤(w3.alloc (.cells #[.slice A8 n8 c8] 25)).heap.size:=Nat.le_of_lt (h3.bw hW).box.lt;have hFc:pA (RY b (w3.alloc (.cells #[.slice A8 n8 c8] 25))).heap.size FV:=by rw [BI hbz];exact h3.fv
    have hcl:=cell_one_new w3 (.slice A8 n8 c8) 25;have oW:=xA hW nA o3';have hFm:∀x∈FV,x<w.heap.size:=H0.out.lt;have f3z:pA w.heap.size F3:=f3.mono ((hb1.alloc _).then hb2).size;have hmm:(RY b (w3.alloc (.cells #[.slice A8 n8 c8] 25))).heap.size≤w.heap.size:=by rw [BI hbz];exact Nat.le_of_lt H0.out.box.lt
    have hcw:=iA0 hbz;have h55:=H0.out.five;have bxW:=h3.box.bw hW;have nbF:=H0.out.nb;have HR5:=Lib.hid (show R=(EA (m.voters.length+1),⟨m.s,m.on,m.voters++[ee]⟩) from by rw [hr];unfold FL;rw [if_neg (fun h=>h5 (L4.out.trans h))]);have H5:=Lib.hid (show ¬m.voters.length=5 from fun h=>h5 (L4.out.trans h));have BW:=B3.then hW;clear hr h5 h3 bx;go_wp2_with (at_builtin;refine mC _ rfl (.tmp 133) (.tmp 135) 66 rfl (RY b (w3.alloc (.cells #[.slice A8 n8 c8] 25))) 25 i0 _ 1 24 Tryz.underlying66 hi hz0 hz1 hz2 rfl (by omega) nA _ m.voters FV rfl hvW hFc ⟨w3.heap.size,0,none⟩ 1 rfl ee [.slice A8 n8 c8] F3 hcl oW rfl w.heap.size hFm f3z hmm (by omega) (by omega) hcw ?_;intro v9 w9 F9 hv9 hF9 hb9 hO9 hs9;have hbel:=aAy hbz hb9 hO9.1;rw [BI hbz] at hF9;clear x0 x1 x2 x3 x4 x5 xf hvW hFc hcl oW hmm hcw hi hz0 hz1 hz2 hb9 hbz;have bx9:=bxW.only hO9 nbF;have x0:=bx9.c 0 _ rfl;have x1:=bx9.c 1 _ rfl;have x2:=bx9.c 2 _ rfl;have x3:=bx9.c 3 _ rfl;have x4:=bx9.c 4 _ rfl;have x5:=bx9.c 5 _ rfl;have xf:=bx9.fr;obtain ⟨A9,n9,c9,rfl,l9,_⟩:=iA (Rd.of dC (B:=0) (DI lA (fun _ _ _ h=>xI h) hv9) ((lM (B:=0)).lt hv9) (Nat.zero_le _));rw [List.length_append,List.length_singleton] at l9;have L9:=Lib.hid l9;have hwf:(Lit.int .i64 (n9:Int)).wf=true:=(cI (by omega));clear l9);obtain ⟨W2,hW2⟩:∃W2,W2=w9.setCell ⟨b,5,none⟩ (.slice A9 n9 c9):=⟨_,rfl⟩;have hF:=OB W2 (n9:Int) hwf;rw [hW2] at hF;clear hW2;go_wp2_with fail
    refine hF.mono ?_;rintro e w10 ⟨rfl,hb10⟩;clear hF;go_wp2;go_ret;have hO2:=KA b 5 w9 (.slice A9 n9 c9);have hst:=H0.out.voter BW f3z hv9 hF9 hO9 hs9 H5.out hO2 (bx9.set (j:=5) (by simp) (.slice A9 n9 c9));have hlt:=hst.box.lt;rw [HR5.out,show ((m.voters.length:Int)+1)=(n9:Int) from by rw [L9.out];rfl];exact ⟨rfl,⟨_,_,_,_,_,_,hst.bw hb10⟩,(((Below.mono BW (Nat.le_of_lt H0.out.box.lt)).trans hbel).setCell (p:=⟨b,5,none⟩) (Nat.le_refl _) _).trans (Below.mono hb10 (Nat.le_of_lt hlt))⟩
  | false=>
   have hr:R=(PG,m):=by rw [HR.out];exact bJ (fun hh=>absurd (h.symm.trans hh) (by decide)) (fun hh=>absurd (h.symm.trans hh) (by decide)) (fun hh=>absurd (h.symm.trans hh) (by decide)) (fun hh=>absurd (h.symm.trans hh) (by decide)) (fun hh=>absurd (h.symm.trans hh) (by decide)) (fun hh=>rfl)
   clear h;have HS7:=Lib.hid (show ID LI b w R (.returned (.string PG)) w3 from by rw [hr];exact H0.out.same B3 _);clear hr;go_wp2;go_ret;exact HS7.out
 have h6:=h;clear h;have hr:R=(PG,m):=by rw [HR.out];exact bJ (fun h=>absurd h h1) (fun h=>absurd h h2) (fun h=>absurd h h3) (fun h=>absurd h h4) (fun h=>absurd h h5) (fun h=>absurd h h6)
 have e1:(word.toList==[97,100,100])=false:=EF h1;have e2:(word.toList==[99,104,97,110,103,101])=false:=EF h2;have e3:(word.toList==[100,114,111,112])=false:=EF h3;have e4:(word.toList==[119,104,121])=false:=EF h4;have e5:(word.toList==[98,97,110,100])=false:=EF h5;have e6:(word.toList==[118,111,116,101,114])=false:=EF h6;clear h1 h2 h3 h4 h5 h6;have HS7:=Lib.hid (show ID LI b w R (.returned (.string PG)) w3 from by rw [hr];exact H0.out.same B3 _);clear hr;go_wp2;go_ret;exact HS7.out
end Go.Proofs.YtpihighajaeabaaGreat
