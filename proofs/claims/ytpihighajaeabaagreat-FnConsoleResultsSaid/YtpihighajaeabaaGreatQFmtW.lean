/- Wishes as text, in both programs. -/
import Derived.Test.YtpihighajaeabaaGreatQFmtP
import Derived.Test.YtpihighajaeabaaGreatQExpl
import Derived.Test.YtpihighajaeabaaGreatQCompI
import Derived.Test.YtpihighajaeabaaGreatQWishS
namespace Go.Proofs.YtpihighajaeabaaGreat
open Go.RowKit
set_option linter.unusedVariables false
set_option linter.unusedSimpArgs false
def bD (k:Int):ByteArray:=if k=0 then ⟨#[108,111,119]⟩ else if k=1 then ⟨#[104,105,103,104]⟩ else if k=2 then ⟨#[110,101,97,114]⟩ else if k=3 then ⟨#[97,109,111,110,103]⟩ else ⟨#[111,114,100,101,114]⟩
def AB (x:eB):ByteArray:=bD x.kind++⟨#[32,102]⟩++EA x.field
def JA (x:eB):ByteArray:=
 if gB x then (if x.kind=2 then AB x++⟨#[32]⟩++EA x.value else if x.kind=3 then AB x++⟨#[32]⟩++MB x.list ⟨#[44]⟩ else if x.kind=4 then AB x++⟨#[32]⟩++sB x.pairs else AB x) else ⟨#[]⟩
theorem zM (k:Int):1≤(bD k).size∧(bD k).size≤5:=by
 unfold bD;repeat' split
 all_goals (constructor<;>(show _≤_;decide))
theorem gI {x:eB} (h:gB x=true):∀v∈x.list,(Lit.int .i64 v).wf=true:=fun v hv=>by
 unfold gB at h;simp only [Bool.and_eq_true] at h;exact yF (kJ h.2.2.2.1 hv)
theorem qX:∀ {l:List Int} {p:Int},rC (some p) l=true→p≤9→(l.length:Int)≤9-p
 | [],p,_,h=>by simp;omega
 | v::l,p,h,hp=>by
  simp only [rC,Bool.and_eq_true,decide_eq_true_eq] at h;have hv:=qC.1 h.1.1;have:=qX h.2 hv.2;simp only [List.length_cons];omega
theorem lG {x:eB} (h:gB x=true):x.list.length≤10:=by
 unfold gB at h;simp only [Bool.and_eq_true] at h;have ha:=h.2.2.2.1
 match hl:x.list,ha with
 | [],_=>simp
 | v::l,ha=>
  simp only [rC,Bool.and_eq_true] at ha;have hv:=qC.1 ha.1;have:=qX ha.2 hv.2;simp only [List.length_cons];omega
theorem XD {x:eB} (h:gB x=true):1≤(AB x).size∧(AB x).size≤27:=by
 have h1:=(OA (iB (n:=x.field) (by have:=fC h;omega))).2;have h2:=zM x.kind;unfold AB;rw [cA,cA];have e:(⟨#[32,102]⟩:ByteArray).size=2:=rfl;omega
theorem mJ {x:eB} (h:gB x=true):(MB x.list ⟨#[44]⟩).size≤210:=by
 have h1:=pE ⟨#[44]⟩ (gI h);have h2:=lG h;have e:(⟨#[44]⟩:ByteArray).size=1:=rfl;rw [e] at h1;omega
theorem UC {P:Program} {md:Region.Mode} {ops:Array Oper} {Q:Exit→Act→World→Prop} {S S':World→Prop} (hSS:∀w,S' w→S w):∀(fuel:Nat) (listed:Array Bool) (a:Act) (w:World),wpAnyH P md ops Q S' fuel listed a w→wpAnyH P md ops Q S fuel listed a w
 | 0,_,_,_,h=>h
 | fuel+1,listed,a,w,h=>⟨h.1,fun i hi=>wpOp_mono (fun a' w' h2=>⟨hSS w' h2.1,UC hSS fuel _ a' w' h2.2⟩) (h.2 i hi)⟩
set_option maxRecDepth 100000 in
set_option maxHeartbeats 3200000 in
theorem vQ (w:World) (x:eB) (v u:Value) (h:Rd XA w x.list [v]) (h':Rd RB w x.pairs [u]) (hI:gB x=false) :
  Calls Tryz.prog 187 #[.agg #[.int .i64 x.kind,.int .i64 x.field,.int .i64 x.value,v,u]] w (Ret w (.string ⟨#[]⟩)):=by
 have B0:Bw w (w.alloc (.cells #[.int .i64 x.kind,.int .i64 x.field,.int .i64 x.value,v,u] 109)):=(Bw.refl w).alloc _;have c1:=fG _ x v u (h.bw dA B0) (h'.bw DA B0);rw [hI] at c1;clear hI;go_enter Tryz.func187,Tryz.ntmps187;go_wp2_with fail;refine (c1).mono ?_;rintro e w1 ⟨rfl,hb1⟩;go_wp2;go_ret;exact Ret.str (rfl) (B0.then hb1)
set_option maxRecDepth 100000 in
set_option maxHeartbeats 6400000 in
theorem nT (w:World) (x:eB) (v u:Value) (h:Rd XA w x.list [v]) (h':Rd RB w x.pairs [u]) (hI:gB x=true) (hK:x.kind=0) :
  Calls Tryz.prog 187 #[.agg #[.int .i64 0,.int .i64 x.field,.int .i64 x.value,v,u]] w (Ret w (.string (JA x))):=by
 obtain ⟨Av,nv,cv,rfl,l1,l2,l3⟩:=iA h;obtain ⟨Au,nu,cu,rfl,l4,l5,l6⟩:=iA h';clear l1 l2 l3 l4 l5 l6;have B0:Bw w (w.alloc (.cells #[.int .i64 0,.int .i64 x.field,.int .i64 x.value,.slice Av nv cv,.slice Au nu cu] 109)):=(Bw.refl w).alloc _;have c1:=fG _ x _ _ (h.bw dA B0) (h'.bw DA B0);rw [hK,hI] at c1;have wf1:=iB (n:=x.field) (by have:=fC hI;omega);have wf2:=iB (n:=x.value) (by have:=gC hI;omega);have cF:=fun W=>OB W x.field wf1
 have hsz:=(OA wf1).2;obtain ⟨F,hF⟩:∃F,F=EA x.field:=⟨_,rfl⟩;rw [← hF] at hsz;simp only [← hF] at cF;have e2:(⟨#[32,102]⟩:ByteArray).size=2:=rfl;have ew:(⟨#[108,111,119]⟩:ByteArray).size≤5:=by show _≤_;decide
 have a1:∀W,(Op.stringOp .add ⟨#[108,111,119]⟩ ⟨#[32,102]⟩).run Tryz.prog W=.ok (.string (⟨#[108,111,119]⟩++⟨#[32,102]⟩)) W:=EB (by omega);obtain ⟨G,hG⟩:∃G:ByteArray,G=⟨#[108,111,119]⟩++⟨#[32,102]⟩:=⟨_,rfl⟩;have hGs:G.size≤7:=by rw [hG,cA];omega
 have a2:∀W,(Op.stringOp .add G F).run Tryz.prog W=.ok (.string (G++F)) W:=EB (by omega);have HH:=Lib.hid (show AB x=G++F by rw [AB,hK,hF,hG];rfl);rw [← hG] at a1;clear hG hGs;have CF:=Lib.hid cF;have HI:=Lib.hid hI;have HK:=Lib.hid hK;have HL:=Lib.hid h;have HP:=Lib.hid h';have WF2:=Lib.hid wf2;have HA1:=Lib.hid a1;have HA2:=Lib.hid a2;clear cF hF hsz e2 ew wf1 wf2 hI hK h h' a1 a2;go_enter Tryz.func187,Tryz.ntmps187;go_wp2_with fail;refine (c1).mono ?_;rintro e w1 ⟨rfl,hb1⟩;have p0:w1.cell? ⟨w.heap.size,0,none⟩=some (.int .i64 0):=hb1.cell (by go_simp);have p1:w1.cell? ⟨w.heap.size,1,none⟩=some (.int .i64 x.field):=hb1.cell (by go_simp);have p2:w1.cell? ⟨w.heap.size,2,none⟩=some (.int .i64 x.value):=hb1.cell (by go_simp);have p3:w1.cell? ⟨w.heap.size,3,none⟩=some (.slice Av nv cv):=hb1.cell (by go_simp);have p4:w1.cell? ⟨w.heap.size,4,none⟩=some (.slice Au nu cu):=hb1.cell (by go_simp);have B1:=B0.then hb1;clear c1;go_wp2_with fail;have a1:=HA1.out;have a2:=HA2.out;obtain ⟨Z,hZ⟩:∃Z,Z=w1.drew:=⟨_,rfl⟩;have z0:Z.cell? ⟨w.heap.size,0,none⟩=some (.int .i64 0):=by rw [hZ];exact p0
 have z1:Z.cell? ⟨w.heap.size,1,none⟩=some (.int .i64 x.field):=by rw [hZ];exact p1
 have BZ:Bw w1 Z:=by rw [hZ];exact (Bw.refl w1).drew
 have hws:w.heap.size<w1.heap.size:=World.block_lt_of_cell? _ _ p0;have HZ:=Lib.hid hZ;clear hZ;refine wp_region_held_drew (S:=(fun w'=>w'.cell? ⟨w.heap.size,0,none⟩=some (.int .i64 0)∧w'.cell? ⟨w.heap.size,1,none⟩=some (.int .i64 x.field))) (by kernel_rfl) ?_ (fun hHeld=>?_)
 ·exact ⟨p0,p1⟩
 rw [← HZ.out] at hHeld ⊢;refine wpAnyH_take (i:=1) (oi:=_) (v:=?_) rfl (by kernel_rfl) (by kernel_rfl) (by kernel_rfl) (fun _ _ _ h=>h) (Or.inl ⟨by rfl,?_⟩) (by assumption) ?_;rotate_left 1
 ·(intro wS hSw;(try dsimp only at hSw);go_simp;try with_reducible rfl)
 try simp only [Act.put,List.getElem_toArray,List.getElem_cons_zero,List.getElem_cons_succ,List.setIfInBounds_toArray,List.set_cons_zero,List.set_cons_succ]
 refine wpAnyH_take (i:=2) (oi:=_) (v:=?_) rfl (by kernel_rfl) (by kernel_rfl) (by kernel_rfl) (fun _ _ _ h=>h) (Or.inl ⟨by rfl,?_⟩) (by assumption) ?_;rotate_left 1
 ·(intro wS hSw;(try dsimp only at hSw);go_simp;try with_reducible rfl)
 try simp only [Act.put,List.getElem_toArray,List.getElem_cons_zero,List.getElem_cons_succ,List.setIfInBounds_toArray,List.set_cons_zero,List.set_cons_succ]
 refine wpAnyH_take (i:=6) (oi:=_) (v:=?_) rfl (by kernel_rfl) (by kernel_rfl) (by kernel_rfl) (fun _ _ _ h=>h) (Or.inl ⟨by rfl,?_⟩) (by assumption) ?_;rotate_left 1
 ·(intro wS hSw;(try dsimp only at hSw);go_simp;try with_reducible rfl)
 try simp only [Act.put,List.getElem_toArray,List.getElem_cons_zero,List.getElem_cons_succ,List.setIfInBounds_toArray,List.set_cons_zero,List.set_cons_succ]
 refine wpAnyH_take (i:=7) (oi:=_) (v:=?_) rfl (by kernel_rfl) (by kernel_rfl) (by kernel_rfl) (fun _ _ _ h=>h) (Or.inl ⟨by rfl,?_⟩) (by assumption) ?_;rotate_left 1
 ·(intro wS hSw;(try dsimp only at hSw);go_simp;try with_reducible rfl)
 try simp only [Act.put,List.getElem_toArray,List.getElem_cons_zero,List.getElem_cons_succ,List.setIfInBounds_toArray,List.set_cons_zero,List.set_cons_succ]
 refine wpAnyH_ready (rs:=[0,8]) (by kernel_rfl) (by simp) (AllReadyH.cons (o:=_) rfl (fun K hK=>?_) (AllReadyH.cons (o:=_) rfl (fun K hK=>?_) AllReadyH.nil))
 ·go_simp
  have A:Bw Z (Z.alloc (.cells #[.string ⟨#[108,111,119]⟩,.string ⟨#[104,105,103,104]⟩,.string ⟨#[110,101,97,114]⟩,.string ⟨#[97,109,111,110,103]⟩,.string ⟨#[111,114,100,101,114]⟩] 9)):=(Bw.refl Z).alloc _;have y0:=A.cell z0;have y1:=A.cell z1;have yr:(Z.alloc (.cells #[.string ⟨#[108,111,119]⟩,.string ⟨#[104,105,103,104]⟩,.string ⟨#[110,101,97,114]⟩,.string ⟨#[97,109,111,110,103]⟩,.string ⟨#[111,114,100,101,114]⟩] 9)).cell? ⟨Z.heap.size,0,none⟩=some (.string ⟨#[108,111,119]⟩):=by go_simp
  refine hK.out _ _ ⟨y0,y1⟩ (fun hHeld=>?_);clear hK K
  try simp only [Act.put,List.getElem_toArray,List.getElem_cons_zero,List.getElem_cons_succ,List.setIfInBounds_toArray,List.set_cons_zero,List.set_cons_succ]
  refine UC (S':=(fun w'=>w'.cell? ⟨w.heap.size,0,none⟩=some (.int .i64 0)∧w'.cell? ⟨w.heap.size,1,none⟩=some (.int .i64 x.field)∧w'.cell? ⟨Z.heap.size,0,none⟩=some (.string ⟨#[108,111,119]⟩))) (fun _ h=>⟨h.1,h.2.1⟩) _ _ _ _ ?_;replace hHeld:=And.intro y0 (And.intro y1 yr);refine wpAnyH_take (i:=3) (oi:=_) (v:=?_) rfl (by kernel_rfl) (by kernel_rfl) (by kernel_rfl) (fun _ _ _ h=>h) (Or.inl ⟨by rfl,?_⟩) (by assumption) ?_;rotate_left 1
  ·(intro wS hSw;(try dsimp only at hSw);go_simp;try with_reducible rfl)
  try simp only [Act.put,List.getElem_toArray,List.getElem_cons_zero,List.getElem_cons_succ,List.setIfInBounds_toArray,List.set_cons_zero,List.set_cons_succ]
  refine wpAnyH_take (i:=4) (oi:=_) (v:=?_) rfl (by kernel_rfl) (by kernel_rfl) (by kernel_rfl) (fun _ _ _ h=>h) (Or.inl ⟨by rfl,?_⟩) (by assumption) ?_;rotate_left 1
  ·(intro wS hSw;(try dsimp only at hSw);go_simp;try with_reducible rfl)
  try simp only [Act.put,List.getElem_toArray,List.getElem_cons_zero,List.getElem_cons_succ,List.setIfInBounds_toArray,List.set_cons_zero,List.set_cons_succ]
  refine wpAnyH_take (i:=5) (oi:=_) (v:=?_) rfl (by kernel_rfl) (by kernel_rfl) (by kernel_rfl) (fun _ _ _ h=>h) (Or.inl ⟨by rfl,?_⟩) (by assumption) ?_;rotate_left 1
  ·(intro wS hSw;(try dsimp only at hSw);go_simp;try with_reducible rfl)
  try simp only [Act.put,List.getElem_toArray,List.getElem_cons_zero,List.getElem_cons_succ,List.setIfInBounds_toArray,List.set_cons_zero,List.set_cons_succ]
  refine wpAnyH_ready (rs:=[8]) (by kernel_rfl) (by simp) (AllReadyH.cons (o:=_) rfl (fun K hK=>?_) AllReadyH.nil)
  go_simp
  refine (CF.out _).mono ?_;rintro e' w5 ⟨rfl,hb5⟩;have B5:=(BZ.then A).then hb5;refine hK.out _ _ ⟨hb5.cell y0,hb5.cell y1,hb5.cell yr⟩ (fun hHeld=>?_);clear hK K
  try simp only [Act.put,List.getElem_toArray,List.getElem_cons_zero,List.getElem_cons_succ,List.setIfInBounds_toArray,List.set_cons_zero,List.set_cons_succ]
  refine wpAnyH_take (i:=9) (oi:=_) (v:=?_) rfl (by kernel_rfl) (by kernel_rfl) (by kernel_rfl) (fun _ _ _ h=>h) (Or.inl ⟨by rfl,?_⟩) (by assumption) ?_;rotate_left 1
  ·(intro wS hSw;(try dsimp only at hSw);go_simp;try with_reducible rfl)
  try simp only [Act.put,List.getElem_toArray,List.getElem_cons_zero,List.getElem_cons_succ,List.setIfInBounds_toArray,List.set_cons_zero,List.set_cons_succ]
  refine wpAnyH_take (i:=10) (oi:=_) (v:=?_) rfl (by kernel_rfl) (by kernel_rfl) (by kernel_rfl) (fun _ _ _ h=>h) (Or.inl ⟨by rfl,?_⟩) (by assumption) ?_;rotate_left 1
  ·(intro wS hSw;(try dsimp only at hSw);go_simp;try with_reducible rfl)
  try simp only [Act.put,List.getElem_toArray,List.getElem_cons_zero,List.getElem_cons_succ,List.setIfInBounds_toArray,List.set_cons_zero,List.set_cons_succ]
  refine wpAnyH_done (by kernel_rfl) ?_ _
  (have HF:=Lib.hid (show JA x=G++F by rw [JA,if_pos HI.out,HK.out,← HH.out];rfl);go_wp2;go_ret;exact Ret.str HF.out.symm (B1.then B5))
 ·go_simp
  refine (CF.out _).mono ?_;rintro e' w5 ⟨rfl,hb5⟩;have y0:=hb5.cell z0;have y1:=hb5.cell z1;refine hK.out _ _ ⟨y0,y1⟩ (fun hHeld=>?_);clear hK K
  try simp only [Act.put,List.getElem_toArray,List.getElem_cons_zero,List.getElem_cons_succ,List.setIfInBounds_toArray,List.set_cons_zero,List.set_cons_succ]
  refine wpAnyH_ready (rs:=[0]) (by kernel_rfl) (by simp) (AllReadyH.cons (o:=_) rfl (fun K hK=>?_) AllReadyH.nil)
  go_simp
  have A:Bw w5 (w5.alloc (.cells #[.string ⟨#[108,111,119]⟩,.string ⟨#[104,105,103,104]⟩,.string ⟨#[110,101,97,114]⟩,.string ⟨#[97,109,111,110,103]⟩,.string ⟨#[111,114,100,101,114]⟩] 9)):=(Bw.refl w5).alloc _;replace y0:=A.cell y0;replace y1:=A.cell y1;have yr:(w5.alloc (.cells #[.string ⟨#[108,111,119]⟩,.string ⟨#[104,105,103,104]⟩,.string ⟨#[110,101,97,114]⟩,.string ⟨#[97,109,111,110,103]⟩,.string ⟨#[111,114,100,101,114]⟩] 9)).cell? ⟨w5.heap.size,0,none⟩=some (.string ⟨#[108,111,119]⟩):=by go_simp
  have B5:=BZ.then (hb5.then A);refine hK.out _ _ ⟨y0,y1⟩ (fun hHeld=>?_);clear hK K
  try simp only [Act.put,List.getElem_toArray,List.getElem_cons_zero,List.getElem_cons_succ,List.setIfInBounds_toArray,List.set_cons_zero,List.set_cons_succ]
  refine UC (S':=(fun w'=>w'.cell? ⟨w.heap.size,0,none⟩=some (.int .i64 0)∧w'.cell? ⟨w.heap.size,1,none⟩=some (.int .i64 x.field)∧w'.cell? ⟨w5.heap.size,0,none⟩=some (.string ⟨#[108,111,119]⟩))) (fun _ h=>⟨h.1,h.2.1⟩) _ _ _ _ ?_;replace hHeld:=And.intro y0 (And.intro y1 yr);refine wpAnyH_take (i:=3) (oi:=_) (v:=?_) rfl (by kernel_rfl) (by kernel_rfl) (by kernel_rfl) (fun _ _ _ h=>h) (Or.inl ⟨by rfl,?_⟩) (by assumption) ?_;rotate_left 1
  ·(intro wS hSw;(try dsimp only at hSw);go_simp;try with_reducible rfl)
  try simp only [Act.put,List.getElem_toArray,List.getElem_cons_zero,List.getElem_cons_succ,List.setIfInBounds_toArray,List.set_cons_zero,List.set_cons_succ]
  refine wpAnyH_take (i:=4) (oi:=_) (v:=?_) rfl (by kernel_rfl) (by kernel_rfl) (by kernel_rfl) (fun _ _ _ h=>h) (Or.inl ⟨by rfl,?_⟩) (by assumption) ?_;rotate_left 1
  ·(intro wS hSw;(try dsimp only at hSw);go_simp;try with_reducible rfl)
  try simp only [Act.put,List.getElem_toArray,List.getElem_cons_zero,List.getElem_cons_succ,List.setIfInBounds_toArray,List.set_cons_zero,List.set_cons_succ]
  refine wpAnyH_take (i:=5) (oi:=_) (v:=?_) rfl (by kernel_rfl) (by kernel_rfl) (by kernel_rfl) (fun _ _ _ h=>h) (Or.inl ⟨by rfl,?_⟩) (by assumption) ?_;rotate_left 1
  ·(intro wS hSw;(try dsimp only at hSw);go_simp;try with_reducible rfl)
  try simp only [Act.put,List.getElem_toArray,List.getElem_cons_zero,List.getElem_cons_succ,List.setIfInBounds_toArray,List.set_cons_zero,List.set_cons_succ]
  refine wpAnyH_take (i:=9) (oi:=_) (v:=?_) rfl (by kernel_rfl) (by kernel_rfl) (by kernel_rfl) (fun _ _ _ h=>h) (Or.inl ⟨by rfl,?_⟩) (by assumption) ?_;rotate_left 1
  ·(intro wS hSw;(try dsimp only at hSw);go_simp;try with_reducible rfl)
  try simp only [Act.put,List.getElem_toArray,List.getElem_cons_zero,List.getElem_cons_succ,List.setIfInBounds_toArray,List.set_cons_zero,List.set_cons_succ]
  refine wpAnyH_take (i:=10) (oi:=_) (v:=?_) rfl (by kernel_rfl) (by kernel_rfl) (by kernel_rfl) (fun _ _ _ h=>h) (Or.inl ⟨by rfl,?_⟩) (by assumption) ?_;rotate_left 1
  ·(intro wS hSw;(try dsimp only at hSw);go_simp;try with_reducible rfl)
  try simp only [Act.put,List.getElem_toArray,List.getElem_cons_zero,List.getElem_cons_succ,List.setIfInBounds_toArray,List.set_cons_zero,List.set_cons_succ]
  refine wpAnyH_done (by kernel_rfl) ?_ _
  (have HF:=Lib.hid (show JA x=G++F by rw [JA,if_pos HI.out,HK.out,← HH.out];rfl);go_wp2;go_ret;exact Ret.str HF.out.symm (B1.then B5))
set_option maxRecDepth 100000 in
set_option maxHeartbeats 6400000 in
theorem oT (w:World) (x:eB) (v u:Value) (h:Rd XA w x.list [v]) (h':Rd RB w x.pairs [u]) (hI:gB x=true) (hK:x.kind=1) :
  Calls Tryz.prog 187 #[.agg #[.int .i64 1,.int .i64 x.field,.int .i64 x.value,v,u]] w (Ret w (.string (JA x))):=by
 obtain ⟨Av,nv,cv,rfl,l1,l2,l3⟩:=iA h;obtain ⟨Au,nu,cu,rfl,l4,l5,l6⟩:=iA h';clear l1 l2 l3 l4 l5 l6;have B0:Bw w (w.alloc (.cells #[.int .i64 1,.int .i64 x.field,.int .i64 x.value,.slice Av nv cv,.slice Au nu cu] 109)):=(Bw.refl w).alloc _;have c1:=fG _ x _ _ (h.bw dA B0) (h'.bw DA B0);rw [hK,hI] at c1;have wf1:=iB (n:=x.field) (by have:=fC hI;omega);have wf2:=iB (n:=x.value) (by have:=gC hI;omega);have cF:=fun W=>OB W x.field wf1
 have hsz:=(OA wf1).2;obtain ⟨F,hF⟩:∃F,F=EA x.field:=⟨_,rfl⟩;rw [← hF] at hsz;simp only [← hF] at cF;have e2:(⟨#[32,102]⟩:ByteArray).size=2:=rfl;have ew:(⟨#[104,105,103,104]⟩:ByteArray).size≤5:=by show _≤_;decide
 have a1:∀W,(Op.stringOp .add ⟨#[104,105,103,104]⟩ ⟨#[32,102]⟩).run Tryz.prog W=.ok (.string (⟨#[104,105,103,104]⟩++⟨#[32,102]⟩)) W:=EB (by omega);obtain ⟨G,hG⟩:∃G:ByteArray,G=⟨#[104,105,103,104]⟩++⟨#[32,102]⟩:=⟨_,rfl⟩;have hGs:G.size≤7:=by rw [hG,cA];omega
 have a2:∀W,(Op.stringOp .add G F).run Tryz.prog W=.ok (.string (G++F)) W:=EB (by omega);have HH:=Lib.hid (show AB x=G++F by rw [AB,hK,hF,hG];rfl);rw [← hG] at a1;clear hG hGs;have CF:=Lib.hid cF;have HI:=Lib.hid hI;have HK:=Lib.hid hK;have HL:=Lib.hid h;have HP:=Lib.hid h';have WF2:=Lib.hid wf2;have HA1:=Lib.hid a1;have HA2:=Lib.hid a2;clear cF hF hsz e2 ew wf1 wf2 hI hK h h' a1 a2;go_enter Tryz.func187,Tryz.ntmps187;go_wp2_with fail;refine (c1).mono ?_;rintro e w1 ⟨rfl,hb1⟩;have p0:w1.cell? ⟨w.heap.size,0,none⟩=some (.int .i64 1):=hb1.cell (by go_simp);have p1:w1.cell? ⟨w.heap.size,1,none⟩=some (.int .i64 x.field):=hb1.cell (by go_simp);have p2:w1.cell? ⟨w.heap.size,2,none⟩=some (.int .i64 x.value):=hb1.cell (by go_simp);have p3:w1.cell? ⟨w.heap.size,3,none⟩=some (.slice Av nv cv):=hb1.cell (by go_simp);have p4:w1.cell? ⟨w.heap.size,4,none⟩=some (.slice Au nu cu):=hb1.cell (by go_simp);have B1:=B0.then hb1;clear c1;go_wp2_with fail;have a1:=HA1.out;have a2:=HA2.out;obtain ⟨Z,hZ⟩:∃Z,Z=w1.drew:=⟨_,rfl⟩;have z0:Z.cell? ⟨w.heap.size,0,none⟩=some (.int .i64 1):=by rw [hZ];exact p0
 have z1:Z.cell? ⟨w.heap.size,1,none⟩=some (.int .i64 x.field):=by rw [hZ];exact p1
 have BZ:Bw w1 Z:=by rw [hZ];exact (Bw.refl w1).drew
 have hws:w.heap.size<w1.heap.size:=World.block_lt_of_cell? _ _ p0;have HZ:=Lib.hid hZ;clear hZ;refine wp_region_held_drew (S:=(fun w'=>w'.cell? ⟨w.heap.size,0,none⟩=some (.int .i64 1)∧w'.cell? ⟨w.heap.size,1,none⟩=some (.int .i64 x.field))) (by kernel_rfl) ?_ (fun hHeld=>?_)
 ·exact ⟨p0,p1⟩
 rw [← HZ.out] at hHeld ⊢;refine wpAnyH_take (i:=1) (oi:=_) (v:=?_) rfl (by kernel_rfl) (by kernel_rfl) (by kernel_rfl) (fun _ _ _ h=>h) (Or.inl ⟨by rfl,?_⟩) (by assumption) ?_;rotate_left 1
 ·(intro wS hSw;(try dsimp only at hSw);go_simp;try with_reducible rfl)
 try simp only [Act.put,List.getElem_toArray,List.getElem_cons_zero,List.getElem_cons_succ,List.setIfInBounds_toArray,List.set_cons_zero,List.set_cons_succ]
 refine wpAnyH_take (i:=2) (oi:=_) (v:=?_) rfl (by kernel_rfl) (by kernel_rfl) (by kernel_rfl) (fun _ _ _ h=>h) (Or.inl ⟨by rfl,?_⟩) (by assumption) ?_;rotate_left 1
 ·(intro wS hSw;(try dsimp only at hSw);go_simp;try with_reducible rfl)
 try simp only [Act.put,List.getElem_toArray,List.getElem_cons_zero,List.getElem_cons_succ,List.setIfInBounds_toArray,List.set_cons_zero,List.set_cons_succ]
 refine wpAnyH_take (i:=6) (oi:=_) (v:=?_) rfl (by kernel_rfl) (by kernel_rfl) (by kernel_rfl) (fun _ _ _ h=>h) (Or.inl ⟨by rfl,?_⟩) (by assumption) ?_;rotate_left 1
 ·(intro wS hSw;(try dsimp only at hSw);go_simp;try with_reducible rfl)
 try simp only [Act.put,List.getElem_toArray,List.getElem_cons_zero,List.getElem_cons_succ,List.setIfInBounds_toArray,List.set_cons_zero,List.set_cons_succ]
 refine wpAnyH_take (i:=7) (oi:=_) (v:=?_) rfl (by kernel_rfl) (by kernel_rfl) (by kernel_rfl) (fun _ _ _ h=>h) (Or.inl ⟨by rfl,?_⟩) (by assumption) ?_;rotate_left 1
 ·(intro wS hSw;(try dsimp only at hSw);go_simp;try with_reducible rfl)
 try simp only [Act.put,List.getElem_toArray,List.getElem_cons_zero,List.getElem_cons_succ,List.setIfInBounds_toArray,List.set_cons_zero,List.set_cons_succ]
 refine wpAnyH_ready (rs:=[0,8]) (by kernel_rfl) (by simp) (AllReadyH.cons (o:=_) rfl (fun K hK=>?_) (AllReadyH.cons (o:=_) rfl (fun K hK=>?_) AllReadyH.nil))
 ·go_simp
  have A:Bw Z (Z.alloc (.cells #[.string ⟨#[108,111,119]⟩,.string ⟨#[104,105,103,104]⟩,.string ⟨#[110,101,97,114]⟩,.string ⟨#[97,109,111,110,103]⟩,.string ⟨#[111,114,100,101,114]⟩] 9)):=(Bw.refl Z).alloc _;have y0:=A.cell z0;have y1:=A.cell z1;have yr:(Z.alloc (.cells #[.string ⟨#[108,111,119]⟩,.string ⟨#[104,105,103,104]⟩,.string ⟨#[110,101,97,114]⟩,.string ⟨#[97,109,111,110,103]⟩,.string ⟨#[111,114,100,101,114]⟩] 9)).cell? ⟨Z.heap.size,1,none⟩=some (.string ⟨#[104,105,103,104]⟩):=by go_simp
  refine hK.out _ _ ⟨y0,y1⟩ (fun hHeld=>?_);clear hK K
  try simp only [Act.put,List.getElem_toArray,List.getElem_cons_zero,List.getElem_cons_succ,List.setIfInBounds_toArray,List.set_cons_zero,List.set_cons_succ]
  refine UC (S':=(fun w'=>w'.cell? ⟨w.heap.size,0,none⟩=some (.int .i64 1)∧w'.cell? ⟨w.heap.size,1,none⟩=some (.int .i64 x.field)∧w'.cell? ⟨Z.heap.size,1,none⟩=some (.string ⟨#[104,105,103,104]⟩))) (fun _ h=>⟨h.1,h.2.1⟩) _ _ _ _ ?_;replace hHeld:=And.intro y0 (And.intro y1 yr);refine wpAnyH_take (i:=3) (oi:=_) (v:=?_) rfl (by kernel_rfl) (by kernel_rfl) (by kernel_rfl) (fun _ _ _ h=>h) (Or.inl ⟨by rfl,?_⟩) (by assumption) ?_;rotate_left 1
  ·(intro wS hSw;(try dsimp only at hSw);go_simp;try with_reducible rfl)
  try simp only [Act.put,List.getElem_toArray,List.getElem_cons_zero,List.getElem_cons_succ,List.setIfInBounds_toArray,List.set_cons_zero,List.set_cons_succ]
  refine wpAnyH_take (i:=4) (oi:=_) (v:=?_) rfl (by kernel_rfl) (by kernel_rfl) (by kernel_rfl) (fun _ _ _ h=>h) (Or.inl ⟨by rfl,?_⟩) (by assumption) ?_;rotate_left 1
  ·(intro wS hSw;(try dsimp only at hSw);go_simp;try with_reducible rfl)
  try simp only [Act.put,List.getElem_toArray,List.getElem_cons_zero,List.getElem_cons_succ,List.setIfInBounds_toArray,List.set_cons_zero,List.set_cons_succ]
  refine wpAnyH_take (i:=5) (oi:=_) (v:=?_) rfl (by kernel_rfl) (by kernel_rfl) (by kernel_rfl) (fun _ _ _ h=>h) (Or.inl ⟨by rfl,?_⟩) (by assumption) ?_;rotate_left 1
  ·(intro wS hSw;(try dsimp only at hSw);go_simp;try with_reducible rfl)
  try simp only [Act.put,List.getElem_toArray,List.getElem_cons_zero,List.getElem_cons_succ,List.setIfInBounds_toArray,List.set_cons_zero,List.set_cons_succ]
  refine wpAnyH_ready (rs:=[8]) (by kernel_rfl) (by simp) (AllReadyH.cons (o:=_) rfl (fun K hK=>?_) AllReadyH.nil)
  go_simp
  refine (CF.out _).mono ?_;rintro e' w5 ⟨rfl,hb5⟩;have B5:=(BZ.then A).then hb5;refine hK.out _ _ ⟨hb5.cell y0,hb5.cell y1,hb5.cell yr⟩ (fun hHeld=>?_);clear hK K
  try simp only [Act.put,List.getElem_toArray,List.getElem_cons_zero,List.getElem_cons_succ,List.setIfInBounds_toArray,List.set_cons_zero,List.set_cons_succ]
  refine wpAnyH_take (i:=9) (oi:=_) (v:=?_) rfl (by kernel_rfl) (by kernel_rfl) (by kernel_rfl) (fun _ _ _ h=>h) (Or.inl ⟨by rfl,?_⟩) (by assumption) ?_;rotate_left 1
  ·(intro wS hSw;(try dsimp only at hSw);go_simp;try with_reducible rfl)
  try simp only [Act.put,List.getElem_toArray,List.getElem_cons_zero,List.getElem_cons_succ,List.setIfInBounds_toArray,List.set_cons_zero,List.set_cons_succ]
  refine wpAnyH_take (i:=10) (oi:=_) (v:=?_) rfl (by kernel_rfl) (by kernel_rfl) (by kernel_rfl) (fun _ _ _ h=>h) (Or.inl ⟨by rfl,?_⟩) (by assumption) ?_;rotate_left 1
  ·(intro wS hSw;(try dsimp only at hSw);go_simp;try with_reducible rfl)
  try simp only [Act.put,List.getElem_toArray,List.getElem_cons_zero,List.getElem_cons_succ,List.setIfInBounds_toArray,List.set_cons_zero,List.set_cons_succ]
  refine wpAnyH_done (by kernel_rfl) ?_ _
  (have HF:=Lib.hid (show JA x=G++F by rw [JA,if_pos HI.out,HK.out,← HH.out];rfl);go_wp2;go_ret;exact Ret.str HF.out.symm (B1.then B5))
 ·go_simp
  refine (CF.out _).mono ?_;rintro e' w5 ⟨rfl,hb5⟩;have y0:=hb5.cell z0;have y1:=hb5.cell z1;refine hK.out _ _ ⟨y0,y1⟩ (fun hHeld=>?_);clear hK K
  try simp only [Act.put,List.getElem_toArray,List.getElem_cons_zero,List.getElem_cons_succ,List.setIfInBounds_toArray,List.set_cons_zero,List.set_cons_succ]
  refine wpAnyH_ready (rs:=[0]) (by kernel_rfl) (by simp) (AllReadyH.cons (o:=_) rfl (fun K hK=>?_) AllReadyH.nil)
  go_simp
  have A:Bw w5 (w5.alloc (.cells #[.string ⟨#[108,111,119]⟩,.string ⟨#[104,105,103,104]⟩,.string ⟨#[110,101,97,114]⟩,.string ⟨#[97,109,111,110,103]⟩,.string ⟨#[111,114,100,101,114]⟩] 9)):=(Bw.refl w5).alloc _;replace y0:=A.cell y0;replace y1:=A.cell y1;have yr:(w5.alloc (.cells #[.string ⟨#[108,111,119]⟩,.string ⟨#[104,105,103,104]⟩,.string ⟨#[110,101,97,114]⟩,.string ⟨#[97,109,111,110,103]⟩,.string ⟨#[111,114,100,101,114]⟩] 9)).cell? ⟨w5.heap.size,1,none⟩=some (.string ⟨#[104,105,103,104]⟩):=by go_simp
  have B5:=BZ.then (hb5.then A);refine hK.out _ _ ⟨y0,y1⟩ (fun hHeld=>?_);clear hK K
  try simp only [Act.put,List.getElem_toArray,List.getElem_cons_zero,List.getElem_cons_succ,List.setIfInBounds_toArray,List.set_cons_zero,List.set_cons_succ]
  refine UC (S':=(fun w'=>w'.cell? ⟨w.heap.size,0,none⟩=some (.int .i64 1)∧w'.cell? ⟨w.heap.size,1,none⟩=some (.int .i64 x.field)∧w'.cell? ⟨w5.heap.size,1,none⟩=some (.string ⟨#[104,105,103,104]⟩))) (fun _ h=>⟨h.1,h.2.1⟩) _ _ _ _ ?_;replace hHeld:=And.intro y0 (And.intro y1 yr);refine wpAnyH_take (i:=3) (oi:=_) (v:=?_) rfl (by kernel_rfl) (by kernel_rfl) (by kernel_rfl) (fun _ _ _ h=>h) (Or.inl ⟨by rfl,?_⟩) (by assumption) ?_;rotate_left 1
  ·(intro wS hSw;(try dsimp only at hSw);go_simp;try with_reducible rfl)
  try simp only [Act.put,List.getElem_toArray,List.getElem_cons_zero,List.getElem_cons_succ,List.setIfInBounds_toArray,List.set_cons_zero,List.set_cons_succ]
  refine wpAnyH_take (i:=4) (oi:=_) (v:=?_) rfl (by kernel_rfl) (by kernel_rfl) (by kernel_rfl) (fun _ _ _ h=>h) (Or.inl ⟨by rfl,?_⟩) (by assumption) ?_;rotate_left 1
  ·(intro wS hSw;(try dsimp only at hSw);go_simp;try with_reducible rfl)
  try simp only [Act.put,List.getElem_toArray,List.getElem_cons_zero,List.getElem_cons_succ,List.setIfInBounds_toArray,List.set_cons_zero,List.set_cons_succ]
  refine wpAnyH_take (i:=5) (oi:=_) (v:=?_) rfl (by kernel_rfl) (by kernel_rfl) (by kernel_rfl) (fun _ _ _ h=>h) (Or.inl ⟨by rfl,?_⟩) (by assumption) ?_;rotate_left 1
  ·(intro wS hSw;(try dsimp only at hSw);go_simp;try with_reducible rfl)
  try simp only [Act.put,List.getElem_toArray,List.getElem_cons_zero,List.getElem_cons_succ,List.setIfInBounds_toArray,List.set_cons_zero,List.set_cons_succ]
  refine wpAnyH_take (i:=9) (oi:=_) (v:=?_) rfl (by kernel_rfl) (by kernel_rfl) (by kernel_rfl) (fun _ _ _ h=>h) (Or.inl ⟨by rfl,?_⟩) (by assumption) ?_;rotate_left 1
  ·(intro wS hSw;(try dsimp only at hSw);go_simp;try with_reducible rfl)
  try simp only [Act.put,List.getElem_toArray,List.getElem_cons_zero,List.getElem_cons_succ,List.setIfInBounds_toArray,List.set_cons_zero,List.set_cons_succ]
  refine wpAnyH_take (i:=10) (oi:=_) (v:=?_) rfl (by kernel_rfl) (by kernel_rfl) (by kernel_rfl) (fun _ _ _ h=>h) (Or.inl ⟨by rfl,?_⟩) (by assumption) ?_;rotate_left 1
  ·(intro wS hSw;(try dsimp only at hSw);go_simp;try with_reducible rfl)
  try simp only [Act.put,List.getElem_toArray,List.getElem_cons_zero,List.getElem_cons_succ,List.setIfInBounds_toArray,List.set_cons_zero,List.set_cons_succ]
  refine wpAnyH_done (by kernel_rfl) ?_ _
  (have HF:=Lib.hid (show JA x=G++F by rw [JA,if_pos HI.out,HK.out,← HH.out];rfl);go_wp2;go_ret;exact Ret.str HF.out.symm (B1.then B5))
set_option maxRecDepth 100000 in
set_option maxHeartbeats 6400000 in
theorem pT (w:World) (x:eB) (v u:Value) (h:Rd XA w x.list [v]) (h':Rd RB w x.pairs [u]) (hI:gB x=true) (hK:x.kind=2) :
  Calls Tryz.prog 187 #[.agg #[.int .i64 2,.int .i64 x.field,.int .i64 x.value,v,u]] w (Ret w (.string (JA x))):=by
 obtain ⟨Av,nv,cv,rfl,l1,l2,l3⟩:=iA h;obtain ⟨Au,nu,cu,rfl,l4,l5,l6⟩:=iA h';clear l1 l2 l3 l4 l5 l6;have B0:Bw w (w.alloc (.cells #[.int .i64 2,.int .i64 x.field,.int .i64 x.value,.slice Av nv cv,.slice Au nu cu] 109)):=(Bw.refl w).alloc _;have c1:=fG _ x _ _ (h.bw dA B0) (h'.bw DA B0);rw [hK,hI] at c1;have wf1:=iB (n:=x.field) (by have:=fC hI;omega);have wf2:=iB (n:=x.value) (by have:=gC hI;omega);have cF:=fun W=>OB W x.field wf1
 have hsz:=(OA wf1).2;obtain ⟨F,hF⟩:∃F,F=EA x.field:=⟨_,rfl⟩;rw [← hF] at hsz;simp only [← hF] at cF;have e2:(⟨#[32,102]⟩:ByteArray).size=2:=rfl;have ew:(⟨#[110,101,97,114]⟩:ByteArray).size≤5:=by show _≤_;decide
 have a1:∀W,(Op.stringOp .add ⟨#[110,101,97,114]⟩ ⟨#[32,102]⟩).run Tryz.prog W=.ok (.string (⟨#[110,101,97,114]⟩++⟨#[32,102]⟩)) W:=EB (by omega);obtain ⟨G,hG⟩:∃G:ByteArray,G=⟨#[110,101,97,114]⟩++⟨#[32,102]⟩:=⟨_,rfl⟩;have hGs:G.size≤7:=by rw [hG,cA];omega
 have a2:∀W,(Op.stringOp .add G F).run Tryz.prog W=.ok (.string (G++F)) W:=EB (by omega);have HH:=Lib.hid (show AB x=G++F by rw [AB,hK,hF,hG];rfl);rw [← hG] at a1;clear hG hGs;have CF:=Lib.hid cF;have HI:=Lib.hid hI;have HK:=Lib.hid hK;have HL:=Lib.hid h;have HP:=Lib.hid h';have WF2:=Lib.hid wf2;have HA1:=Lib.hid a1;have HA2:=Lib.hid a2;clear cF hF hsz e2 ew wf1 wf2 hI hK h h' a1 a2;go_enter Tryz.func187,Tryz.ntmps187;go_wp2_with fail;refine (c1).mono ?_;rintro e w1 ⟨rfl,hb1⟩;have p0:w1.cell? ⟨w.heap.size,0,none⟩=some (.int .i64 2):=hb1.cell (by go_simp);have p1:w1.cell? ⟨w.heap.size,1,none⟩=some (.int .i64 x.field):=hb1.cell (by go_simp);have p2:w1.cell? ⟨w.heap.size,2,none⟩=some (.int .i64 x.value):=hb1.cell (by go_simp);have p3:w1.cell? ⟨w.heap.size,3,none⟩=some (.slice Av nv cv):=hb1.cell (by go_simp);have p4:w1.cell? ⟨w.heap.size,4,none⟩=some (.slice Au nu cu):=hb1.cell (by go_simp);have B1:=B0.then hb1;clear c1;go_wp2_with fail;have a1:=HA1.out;have a2:=HA2.out;obtain ⟨Z,hZ⟩:∃Z,Z=w1.drew:=⟨_,rfl⟩;have z0:Z.cell? ⟨w.heap.size,0,none⟩=some (.int .i64 2):=by rw [hZ];exact p0
 have z1:Z.cell? ⟨w.heap.size,1,none⟩=some (.int .i64 x.field):=by rw [hZ];exact p1
 have BZ:Bw w1 Z:=by rw [hZ];exact (Bw.refl w1).drew
 have hws:w.heap.size<w1.heap.size:=World.block_lt_of_cell? _ _ p0;have HZ:=Lib.hid hZ;clear hZ;refine wp_region_held_drew (S:=(fun w'=>w'.cell? ⟨w.heap.size,0,none⟩=some (.int .i64 2)∧w'.cell? ⟨w.heap.size,1,none⟩=some (.int .i64 x.field))) (by kernel_rfl) ?_ (fun hHeld=>?_)
 ·exact ⟨p0,p1⟩
 rw [← HZ.out] at hHeld ⊢;refine wpAnyH_take (i:=1) (oi:=_) (v:=?_) rfl (by kernel_rfl) (by kernel_rfl) (by kernel_rfl) (fun _ _ _ h=>h) (Or.inl ⟨by rfl,?_⟩) (by assumption) ?_;rotate_left 1
 ·(intro wS hSw;(try dsimp only at hSw);go_simp;try with_reducible rfl)
 try simp only [Act.put,List.getElem_toArray,List.getElem_cons_zero,List.getElem_cons_succ,List.setIfInBounds_toArray,List.set_cons_zero,List.set_cons_succ]
 refine wpAnyH_take (i:=2) (oi:=_) (v:=?_) rfl (by kernel_rfl) (by kernel_rfl) (by kernel_rfl) (fun _ _ _ h=>h) (Or.inl ⟨by rfl,?_⟩) (by assumption) ?_;rotate_left 1
 ·(intro wS hSw;(try dsimp only at hSw);go_simp;try with_reducible rfl)
 try simp only [Act.put,List.getElem_toArray,List.getElem_cons_zero,List.getElem_cons_succ,List.setIfInBounds_toArray,List.set_cons_zero,List.set_cons_succ]
 refine wpAnyH_take (i:=6) (oi:=_) (v:=?_) rfl (by kernel_rfl) (by kernel_rfl) (by kernel_rfl) (fun _ _ _ h=>h) (Or.inl ⟨by rfl,?_⟩) (by assumption) ?_;rotate_left 1
 ·(intro wS hSw;(try dsimp only at hSw);go_simp;try with_reducible rfl)
 try simp only [Act.put,List.getElem_toArray,List.getElem_cons_zero,List.getElem_cons_succ,List.setIfInBounds_toArray,List.set_cons_zero,List.set_cons_succ]
 refine wpAnyH_take (i:=7) (oi:=_) (v:=?_) rfl (by kernel_rfl) (by kernel_rfl) (by kernel_rfl) (fun _ _ _ h=>h) (Or.inl ⟨by rfl,?_⟩) (by assumption) ?_;rotate_left 1
 ·(intro wS hSw;(try dsimp only at hSw);go_simp;try with_reducible rfl)
 try simp only [Act.put,List.getElem_toArray,List.getElem_cons_zero,List.getElem_cons_succ,List.setIfInBounds_toArray,List.set_cons_zero,List.set_cons_succ]
 refine wpAnyH_ready (rs:=[0,8]) (by kernel_rfl) (by simp) (AllReadyH.cons (o:=_) rfl (fun K hK=>?_) (AllReadyH.cons (o:=_) rfl (fun K hK=>?_) AllReadyH.nil))
 ·go_simp
  have A:Bw Z (Z.alloc (.cells #[.string ⟨#[108,111,119]⟩,.string ⟨#[104,105,103,104]⟩,.string ⟨#[110,101,97,114]⟩,.string ⟨#[97,109,111,110,103]⟩,.string ⟨#[111,114,100,101,114]⟩] 9)):=(Bw.refl Z).alloc _;have y0:=A.cell z0;have y1:=A.cell z1;have yr:(Z.alloc (.cells #[.string ⟨#[108,111,119]⟩,.string ⟨#[104,105,103,104]⟩,.string ⟨#[110,101,97,114]⟩,.string ⟨#[97,109,111,110,103]⟩,.string ⟨#[111,114,100,101,114]⟩] 9)).cell? ⟨Z.heap.size,2,none⟩=some (.string ⟨#[110,101,97,114]⟩):=by go_simp
  refine hK.out _ _ ⟨y0,y1⟩ (fun hHeld=>?_);clear hK K
  try simp only [Act.put,List.getElem_toArray,List.getElem_cons_zero,List.getElem_cons_succ,List.setIfInBounds_toArray,List.set_cons_zero,List.set_cons_succ]
  refine UC (S':=(fun w'=>w'.cell? ⟨w.heap.size,0,none⟩=some (.int .i64 2)∧w'.cell? ⟨w.heap.size,1,none⟩=some (.int .i64 x.field)∧w'.cell? ⟨Z.heap.size,2,none⟩=some (.string ⟨#[110,101,97,114]⟩))) (fun _ h=>⟨h.1,h.2.1⟩) _ _ _ _ ?_;replace hHeld:=And.intro y0 (And.intro y1 yr);refine wpAnyH_take (i:=3) (oi:=_) (v:=?_) rfl (by kernel_rfl) (by kernel_rfl) (by kernel_rfl) (fun _ _ _ h=>h) (Or.inl ⟨by rfl,?_⟩) (by assumption) ?_;rotate_left 1
  ·(intro wS hSw;(try dsimp only at hSw);go_simp;try with_reducible rfl)
  try simp only [Act.put,List.getElem_toArray,List.getElem_cons_zero,List.getElem_cons_succ,List.setIfInBounds_toArray,List.set_cons_zero,List.set_cons_succ]
  refine wpAnyH_take (i:=4) (oi:=_) (v:=?_) rfl (by kernel_rfl) (by kernel_rfl) (by kernel_rfl) (fun _ _ _ h=>h) (Or.inl ⟨by rfl,?_⟩) (by assumption) ?_;rotate_left 1
  ·(intro wS hSw;(try dsimp only at hSw);go_simp;try with_reducible rfl)
  try simp only [Act.put,List.getElem_toArray,List.getElem_cons_zero,List.getElem_cons_succ,List.setIfInBounds_toArray,List.set_cons_zero,List.set_cons_succ]
  refine wpAnyH_take (i:=5) (oi:=_) (v:=?_) rfl (by kernel_rfl) (by kernel_rfl) (by kernel_rfl) (fun _ _ _ h=>h) (Or.inl ⟨by rfl,?_⟩) (by assumption) ?_;rotate_left 1
  ·(intro wS hSw;(try dsimp only at hSw);go_simp;try with_reducible rfl)
  try simp only [Act.put,List.getElem_toArray,List.getElem_cons_zero,List.getElem_cons_succ,List.setIfInBounds_toArray,List.set_cons_zero,List.set_cons_succ]
  refine wpAnyH_ready (rs:=[8]) (by kernel_rfl) (by simp) (AllReadyH.cons (o:=_) rfl (fun K hK=>?_) AllReadyH.nil)
  go_simp
  refine (CF.out _).mono ?_;rintro e' w5 ⟨rfl,hb5⟩;have B5:=(BZ.then A).then hb5;refine hK.out _ _ ⟨hb5.cell y0,hb5.cell y1,hb5.cell yr⟩ (fun hHeld=>?_);clear hK K
  try simp only [Act.put,List.getElem_toArray,List.getElem_cons_zero,List.getElem_cons_succ,List.setIfInBounds_toArray,List.set_cons_zero,List.set_cons_succ]
  refine wpAnyH_take (i:=9) (oi:=_) (v:=?_) rfl (by kernel_rfl) (by kernel_rfl) (by kernel_rfl) (fun _ _ _ h=>h) (Or.inl ⟨by rfl,?_⟩) (by assumption) ?_;rotate_left 1
  ·(intro wS hSw;(try dsimp only at hSw);go_simp;try with_reducible rfl)
  try simp only [Act.put,List.getElem_toArray,List.getElem_cons_zero,List.getElem_cons_succ,List.setIfInBounds_toArray,List.set_cons_zero,List.set_cons_succ]
  refine wpAnyH_take (i:=10) (oi:=_) (v:=?_) rfl (by kernel_rfl) (by kernel_rfl) (by kernel_rfl) (fun _ _ _ h=>h) (Or.inl ⟨by rfl,?_⟩) (by assumption) ?_;rotate_left 1
  ·(intro wS hSw;(try dsimp only at hSw);go_simp;try with_reducible rfl)
  try simp only [Act.put,List.getElem_toArray,List.getElem_cons_zero,List.getElem_cons_succ,List.setIfInBounds_toArray,List.set_cons_zero,List.set_cons_succ]
  refine wpAnyH_done (by kernel_rfl) ?_ _
  (have t:=B5.cell p2;obtain ⟨V,hV⟩:∃V,V=EA x.value:=⟨_,rfl⟩;have cV:∀W,Bw w W→Calls Tryz.prog 125 #[.int .i64 x.value] W (Ret W (.string V)):=(fun W _=>by rw [hV];exact OB W x.value WF2.out);have hVs:V.size≤400:=(by rw [hV];have:=(OA WF2.out).2;omega);have HGF:(G++F).size≤27:=(by rw [← HH.out];exact (XD HI.out).2);obtain ⟨E,hE⟩:∃E:ByteArray,E=G++F:=⟨_,rfl⟩;rw [← hE] at HGF ⊢;have es:(⟨#[32]⟩:ByteArray).size=1:=rfl;have b1:∀W,(Op.stringOp .add E ⟨#[32]⟩).run Tryz.prog W=.ok (.string (E++⟨#[32]⟩)) W:=EB (by omega);have b2:∀W,(Op.stringOp .add (E++⟨#[32]⟩) V).run Tryz.prog W=.ok (.string (E++⟨#[32]⟩++V)) W:=EB (by rw [cA];omega);have HF:=Lib.hid (show JA x=E++⟨#[32]⟩++V by rw [JA,if_pos HI.out,HK.out,hV,hE,← HH.out]<;>rfl);clear hV hE hVs HGF es a1 a2;go_wp2_with fail;refine (cV _ ((B0.then hb1).then B5)).mono ?_;rintro e' w7 ⟨rfl,hb7⟩;go_wp2;go_ret;exact Ret.str HF.out.symm ((B1.then B5).then hb7))
 ·go_simp
  refine (CF.out _).mono ?_;rintro e' w5 ⟨rfl,hb5⟩;have y0:=hb5.cell z0;have y1:=hb5.cell z1;refine hK.out _ _ ⟨y0,y1⟩ (fun hHeld=>?_);clear hK K
  try simp only [Act.put,List.getElem_toArray,List.getElem_cons_zero,List.getElem_cons_succ,List.setIfInBounds_toArray,List.set_cons_zero,List.set_cons_succ]
  refine wpAnyH_ready (rs:=[0]) (by kernel_rfl) (by simp) (AllReadyH.cons (o:=_) rfl (fun K hK=>?_) AllReadyH.nil)
  go_simp
  have A:Bw w5 (w5.alloc (.cells #[.string ⟨#[108,111,119]⟩,.string ⟨#[104,105,103,104]⟩,.string ⟨#[110,101,97,114]⟩,.string ⟨#[97,109,111,110,103]⟩,.string ⟨#[111,114,100,101,114]⟩] 9)):=(Bw.refl w5).alloc _;replace y0:=A.cell y0;replace y1:=A.cell y1;have yr:(w5.alloc (.cells #[.string ⟨#[108,111,119]⟩,.string ⟨#[104,105,103,104]⟩,.string ⟨#[110,101,97,114]⟩,.string ⟨#[97,109,111,110,103]⟩,.string ⟨#[111,114,100,101,114]⟩] 9)).cell? ⟨w5.heap.size,2,none⟩=some (.string ⟨#[110,101,97,114]⟩):=by go_simp
  have B5:=BZ.then (hb5.then A);refine hK.out _ _ ⟨y0,y1⟩ (fun hHeld=>?_);clear hK K
  try simp only [Act.put,List.getElem_toArray,List.getElem_cons_zero,List.getElem_cons_succ,List.setIfInBounds_toArray,List.set_cons_zero,List.set_cons_succ]
  refine UC (S':=(fun w'=>w'.cell? ⟨w.heap.size,0,none⟩=some (.int .i64 2)∧w'.cell? ⟨w.heap.size,1,none⟩=some (.int .i64 x.field)∧w'.cell? ⟨w5.heap.size,2,none⟩=some (.string ⟨#[110,101,97,114]⟩))) (fun _ h=>⟨h.1,h.2.1⟩) _ _ _ _ ?_;replace hHeld:=And.intro y0 (And.intro y1 yr);refine wpAnyH_take (i:=3) (oi:=_) (v:=?_) rfl (by kernel_rfl) (by kernel_rfl) (by kernel_rfl) (fun _ _ _ h=>h) (Or.inl ⟨by rfl,?_⟩) (by assumption) ?_;rotate_left 1
  ·(intro wS hSw;(try dsimp only at hSw);go_simp;try with_reducible rfl)
  try simp only [Act.put,List.getElem_toArray,List.getElem_cons_zero,List.getElem_cons_succ,List.setIfInBounds_toArray,List.set_cons_zero,List.set_cons_succ]
  refine wpAnyH_take (i:=4) (oi:=_) (v:=?_) rfl (by kernel_rfl) (by kernel_rfl) (by kernel_rfl) (fun _ _ _ h=>h) (Or.inl ⟨by rfl,?_⟩) (by assumption) ?_;rotate_left 1
  ·(intro wS hSw;(try dsimp only at hSw);go_simp;try with_reducible rfl)
  try simp only [Act.put,List.getElem_toArray,List.getElem_cons_zero,List.getElem_cons_succ,List.setIfInBounds_toArray,List.set_cons_zero,List.set_cons_succ]
  refine wpAnyH_take (i:=5) (oi:=_) (v:=?_) rfl (by kernel_rfl) (by kernel_rfl) (by kernel_rfl) (fun _ _ _ h=>h) (Or.inl ⟨by rfl,?_⟩) (by assumption) ?_;rotate_left 1
  ·(intro wS hSw;(try dsimp only at hSw);go_simp;try with_reducible rfl)
  try simp only [Act.put,List.getElem_toArray,List.getElem_cons_zero,List.getElem_cons_succ,List.setIfInBounds_toArray,List.set_cons_zero,List.set_cons_succ]
  refine wpAnyH_take (i:=9) (oi:=_) (v:=?_) rfl (by kernel_rfl) (by kernel_rfl) (by kernel_rfl) (fun _ _ _ h=>h) (Or.inl ⟨by rfl,?_⟩) (by assumption) ?_;rotate_left 1
  ·(intro wS hSw;(try dsimp only at hSw);go_simp;try with_reducible rfl)
  try simp only [Act.put,List.getElem_toArray,List.getElem_cons_zero,List.getElem_cons_succ,List.setIfInBounds_toArray,List.set_cons_zero,List.set_cons_succ]
  refine wpAnyH_take (i:=10) (oi:=_) (v:=?_) rfl (by kernel_rfl) (by kernel_rfl) (by kernel_rfl) (fun _ _ _ h=>h) (Or.inl ⟨by rfl,?_⟩) (by assumption) ?_;rotate_left 1
  ·(intro wS hSw;(try dsimp only at hSw);go_simp;try with_reducible rfl)
  try simp only [Act.put,List.getElem_toArray,List.getElem_cons_zero,List.getElem_cons_succ,List.setIfInBounds_toArray,List.set_cons_zero,List.set_cons_succ]
  refine wpAnyH_done (by kernel_rfl) ?_ _
  (have t:=B5.cell p2;obtain ⟨V,hV⟩:∃V,V=EA x.value:=⟨_,rfl⟩;have cV:∀W,Bw w W→Calls Tryz.prog 125 #[.int .i64 x.value] W (Ret W (.string V)):=(fun W _=>by rw [hV];exact OB W x.value WF2.out);have hVs:V.size≤400:=(by rw [hV];have:=(OA WF2.out).2;omega);have HGF:(G++F).size≤27:=(by rw [← HH.out];exact (XD HI.out).2);obtain ⟨E,hE⟩:∃E:ByteArray,E=G++F:=⟨_,rfl⟩;rw [← hE] at HGF ⊢;have es:(⟨#[32]⟩:ByteArray).size=1:=rfl;have b1:∀W,(Op.stringOp .add E ⟨#[32]⟩).run Tryz.prog W=.ok (.string (E++⟨#[32]⟩)) W:=EB (by omega);have b2:∀W,(Op.stringOp .add (E++⟨#[32]⟩) V).run Tryz.prog W=.ok (.string (E++⟨#[32]⟩++V)) W:=EB (by rw [cA];omega);have HF:=Lib.hid (show JA x=E++⟨#[32]⟩++V by rw [JA,if_pos HI.out,HK.out,hV,hE,← HH.out]<;>rfl);clear hV hE hVs HGF es a1 a2;go_wp2_with fail;refine (cV _ ((B0.then hb1).then B5)).mono ?_;rintro e' w7 ⟨rfl,hb7⟩;go_wp2;go_ret;exact Ret.str HF.out.symm ((B1.then B5).then hb7))
set_option maxRecDepth 100000 in
set_option maxHeartbeats 6400000 in
theorem qT (w:World) (x:eB) (v u:Value) (h:Rd XA w x.list [v]) (h':Rd RB w x.pairs [u]) (hI:gB x=true) (hK:x.kind=3) :
  Calls Tryz.prog 187 #[.agg #[.int .i64 3,.int .i64 x.field,.int .i64 x.value,v,u]] w (Ret w (.string (JA x))):=by
 obtain ⟨Av,nv,cv,rfl,l1,l2,l3⟩:=iA h;obtain ⟨Au,nu,cu,rfl,l4,l5,l6⟩:=iA h';clear l1 l2 l3 l4 l5 l6;have B0:Bw w (w.alloc (.cells #[.int .i64 3,.int .i64 x.field,.int .i64 x.value,.slice Av nv cv,.slice Au nu cu] 109)):=(Bw.refl w).alloc _;have c1:=fG _ x _ _ (h.bw dA B0) (h'.bw DA B0);rw [hK,hI] at c1;have wf1:=iB (n:=x.field) (by have:=fC hI;omega);have wf2:=iB (n:=x.value) (by have:=gC hI;omega);have cF:=fun W=>OB W x.field wf1
 have hsz:=(OA wf1).2;obtain ⟨F,hF⟩:∃F,F=EA x.field:=⟨_,rfl⟩;rw [← hF] at hsz;simp only [← hF] at cF;have e2:(⟨#[32,102]⟩:ByteArray).size=2:=rfl;have ew:(⟨#[97,109,111,110,103]⟩:ByteArray).size≤5:=by show _≤_;decide
 have a1:∀W,(Op.stringOp .add ⟨#[97,109,111,110,103]⟩ ⟨#[32,102]⟩).run Tryz.prog W=.ok (.string (⟨#[97,109,111,110,103]⟩++⟨#[32,102]⟩)) W:=EB (by omega);obtain ⟨G,hG⟩:∃G:ByteArray,G=⟨#[97,109,111,110,103]⟩++⟨#[32,102]⟩:=⟨_,rfl⟩;have hGs:G.size≤7:=by rw [hG,cA];omega
 have a2:∀W,(Op.stringOp .add G F).run Tryz.prog W=.ok (.string (G++F)) W:=EB (by omega);have HH:=Lib.hid (show AB x=G++F by rw [AB,hK,hF,hG];rfl);rw [← hG] at a1;clear hG hGs;have CF:=Lib.hid cF;have HI:=Lib.hid hI;have HK:=Lib.hid hK;have HL:=Lib.hid h;have HP:=Lib.hid h';have WF2:=Lib.hid wf2;have HA1:=Lib.hid a1;have HA2:=Lib.hid a2;clear cF hF hsz e2 ew wf1 wf2 hI hK h h' a1 a2;go_enter Tryz.func187,Tryz.ntmps187;go_wp2_with fail;refine (c1).mono ?_;rintro e w1 ⟨rfl,hb1⟩;have p0:w1.cell? ⟨w.heap.size,0,none⟩=some (.int .i64 3):=hb1.cell (by go_simp);have p1:w1.cell? ⟨w.heap.size,1,none⟩=some (.int .i64 x.field):=hb1.cell (by go_simp);have p2:w1.cell? ⟨w.heap.size,2,none⟩=some (.int .i64 x.value):=hb1.cell (by go_simp);have p3:w1.cell? ⟨w.heap.size,3,none⟩=some (.slice Av nv cv):=hb1.cell (by go_simp);have p4:w1.cell? ⟨w.heap.size,4,none⟩=some (.slice Au nu cu):=hb1.cell (by go_simp);have B1:=B0.then hb1;clear c1;go_wp2_with fail;have a1:=HA1.out;have a2:=HA2.out;obtain ⟨Z,hZ⟩:∃Z,Z=w1.drew:=⟨_,rfl⟩;have z0:Z.cell? ⟨w.heap.size,0,none⟩=some (.int .i64 3):=by rw [hZ];exact p0
 have z1:Z.cell? ⟨w.heap.size,1,none⟩=some (.int .i64 x.field):=by rw [hZ];exact p1
 have BZ:Bw w1 Z:=by rw [hZ];exact (Bw.refl w1).drew
 have hws:w.heap.size<w1.heap.size:=World.block_lt_of_cell? _ _ p0;have HZ:=Lib.hid hZ;clear hZ;refine wp_region_held_drew (S:=(fun w'=>w'.cell? ⟨w.heap.size,0,none⟩=some (.int .i64 3)∧w'.cell? ⟨w.heap.size,1,none⟩=some (.int .i64 x.field))) (by kernel_rfl) ?_ (fun hHeld=>?_)
 ·exact ⟨p0,p1⟩
 rw [← HZ.out] at hHeld ⊢;refine wpAnyH_take (i:=1) (oi:=_) (v:=?_) rfl (by kernel_rfl) (by kernel_rfl) (by kernel_rfl) (fun _ _ _ h=>h) (Or.inl ⟨by rfl,?_⟩) (by assumption) ?_;rotate_left 1
 ·(intro wS hSw;(try dsimp only at hSw);go_simp;try with_reducible rfl)
 try simp only [Act.put,List.getElem_toArray,List.getElem_cons_zero,List.getElem_cons_succ,List.setIfInBounds_toArray,List.set_cons_zero,List.set_cons_succ]
 refine wpAnyH_take (i:=2) (oi:=_) (v:=?_) rfl (by kernel_rfl) (by kernel_rfl) (by kernel_rfl) (fun _ _ _ h=>h) (Or.inl ⟨by rfl,?_⟩) (by assumption) ?_;rotate_left 1
 ·(intro wS hSw;(try dsimp only at hSw);go_simp;try with_reducible rfl)
 try simp only [Act.put,List.getElem_toArray,List.getElem_cons_zero,List.getElem_cons_succ,List.setIfInBounds_toArray,List.set_cons_zero,List.set_cons_succ]
 refine wpAnyH_take (i:=6) (oi:=_) (v:=?_) rfl (by kernel_rfl) (by kernel_rfl) (by kernel_rfl) (fun _ _ _ h=>h) (Or.inl ⟨by rfl,?_⟩) (by assumption) ?_;rotate_left 1
 ·(intro wS hSw;(try dsimp only at hSw);go_simp;try with_reducible rfl)
 try simp only [Act.put,List.getElem_toArray,List.getElem_cons_zero,List.getElem_cons_succ,List.setIfInBounds_toArray,List.set_cons_zero,List.set_cons_succ]
 refine wpAnyH_take (i:=7) (oi:=_) (v:=?_) rfl (by kernel_rfl) (by kernel_rfl) (by kernel_rfl) (fun _ _ _ h=>h) (Or.inl ⟨by rfl,?_⟩) (by assumption) ?_;rotate_left 1
 ·(intro wS hSw;(try dsimp only at hSw);go_simp;try with_reducible rfl)
 try simp only [Act.put,List.getElem_toArray,List.getElem_cons_zero,List.getElem_cons_succ,List.setIfInBounds_toArray,List.set_cons_zero,List.set_cons_succ]
 refine wpAnyH_ready (rs:=[0,8]) (by kernel_rfl) (by simp) (AllReadyH.cons (o:=_) rfl (fun K hK=>?_) (AllReadyH.cons (o:=_) rfl (fun K hK=>?_) AllReadyH.nil))
 ·go_simp
  have A:Bw Z (Z.alloc (.cells #[.string ⟨#[108,111,119]⟩,.string ⟨#[104,105,103,104]⟩,.string ⟨#[110,101,97,114]⟩,.string ⟨#[97,109,111,110,103]⟩,.string ⟨#[111,114,100,101,114]⟩] 9)):=(Bw.refl Z).alloc _;have y0:=A.cell z0;have y1:=A.cell z1;have yr:(Z.alloc (.cells #[.string ⟨#[108,111,119]⟩,.string ⟨#[104,105,103,104]⟩,.string ⟨#[110,101,97,114]⟩,.string ⟨#[97,109,111,110,103]⟩,.string ⟨#[111,114,100,101,114]⟩] 9)).cell? ⟨Z.heap.size,3,none⟩=some (.string ⟨#[97,109,111,110,103]⟩):=by go_simp
  refine hK.out _ _ ⟨y0,y1⟩ (fun hHeld=>?_);clear hK K
  try simp only [Act.put,List.getElem_toArray,List.getElem_cons_zero,List.getElem_cons_succ,List.setIfInBounds_toArray,List.set_cons_zero,List.set_cons_succ]
  refine UC (S':=(fun w'=>w'.cell? ⟨w.heap.size,0,none⟩=some (.int .i64 3)∧w'.cell? ⟨w.heap.size,1,none⟩=some (.int .i64 x.field)∧w'.cell? ⟨Z.heap.size,3,none⟩=some (.string ⟨#[97,109,111,110,103]⟩))) (fun _ h=>⟨h.1,h.2.1⟩) _ _ _ _ ?_;replace hHeld:=And.intro y0 (And.intro y1 yr);refine wpAnyH_take (i:=3) (oi:=_) (v:=?_) rfl (by kernel_rfl) (by kernel_rfl) (by kernel_rfl) (fun _ _ _ h=>h) (Or.inl ⟨by rfl,?_⟩) (by assumption) ?_;rotate_left 1
  ·(intro wS hSw;(try dsimp only at hSw);go_simp;try with_reducible rfl)
  try simp only [Act.put,List.getElem_toArray,List.getElem_cons_zero,List.getElem_cons_succ,List.setIfInBounds_toArray,List.set_cons_zero,List.set_cons_succ]
  refine wpAnyH_take (i:=4) (oi:=_) (v:=?_) rfl (by kernel_rfl) (by kernel_rfl) (by kernel_rfl) (fun _ _ _ h=>h) (Or.inl ⟨by rfl,?_⟩) (by assumption) ?_;rotate_left 1
  ·(intro wS hSw;(try dsimp only at hSw);go_simp;try with_reducible rfl)
  try simp only [Act.put,List.getElem_toArray,List.getElem_cons_zero,List.getElem_cons_succ,List.setIfInBounds_toArray,List.set_cons_zero,List.set_cons_succ]
  refine wpAnyH_take (i:=5) (oi:=_) (v:=?_) rfl (by kernel_rfl) (by kernel_rfl) (by kernel_rfl) (fun _ _ _ h=>h) (Or.inl ⟨by rfl,?_⟩) (by assumption) ?_;rotate_left 1
  ·(intro wS hSw;(try dsimp only at hSw);go_simp;try with_reducible rfl)
  try simp only [Act.put,List.getElem_toArray,List.getElem_cons_zero,List.getElem_cons_succ,List.setIfInBounds_toArray,List.set_cons_zero,List.set_cons_succ]
  refine wpAnyH_ready (rs:=[8]) (by kernel_rfl) (by simp) (AllReadyH.cons (o:=_) rfl (fun K hK=>?_) AllReadyH.nil)
  go_simp
  refine (CF.out _).mono ?_;rintro e' w5 ⟨rfl,hb5⟩;have B5:=(BZ.then A).then hb5;refine hK.out _ _ ⟨hb5.cell y0,hb5.cell y1,hb5.cell yr⟩ (fun hHeld=>?_);clear hK K
  try simp only [Act.put,List.getElem_toArray,List.getElem_cons_zero,List.getElem_cons_succ,List.setIfInBounds_toArray,List.set_cons_zero,List.set_cons_succ]
  refine wpAnyH_take (i:=9) (oi:=_) (v:=?_) rfl (by kernel_rfl) (by kernel_rfl) (by kernel_rfl) (fun _ _ _ h=>h) (Or.inl ⟨by rfl,?_⟩) (by assumption) ?_;rotate_left 1
  ·(intro wS hSw;(try dsimp only at hSw);go_simp;try with_reducible rfl)
  try simp only [Act.put,List.getElem_toArray,List.getElem_cons_zero,List.getElem_cons_succ,List.setIfInBounds_toArray,List.set_cons_zero,List.set_cons_succ]
  refine wpAnyH_take (i:=10) (oi:=_) (v:=?_) rfl (by kernel_rfl) (by kernel_rfl) (by kernel_rfl) (fun _ _ _ h=>h) (Or.inl ⟨by rfl,?_⟩) (by assumption) ?_;rotate_left 1
  ·(intro wS hSw;(try dsimp only at hSw);go_simp;try with_reducible rfl)
  try simp only [Act.put,List.getElem_toArray,List.getElem_cons_zero,List.getElem_cons_succ,List.setIfInBounds_toArray,List.set_cons_zero,List.set_cons_succ]
  refine wpAnyH_done (by kernel_rfl) ?_ _
  (have t:=B5.cell p3;obtain ⟨V,hV⟩:∃V,V=MB x.list ⟨#[44]⟩:=⟨_,rfl⟩;have cV:∀W,Bw w W→Calls Tryz.prog 132 #[.slice Av nv cv,.string ⟨#[44]⟩] W (Ret W (.string V)):=(fun W B=>by rw [hV];exact rI W x.list ⟨#[44]⟩ _ (HL.out.bw dA B) (gI HI.out) (by have:=lG HI.out;omega) (by show 1≤1024;omega));have hVs:V.size≤400:=(by rw [hV];have:=mJ HI.out;omega);have HGF:(G++F).size≤27:=(by rw [← HH.out];exact (XD HI.out).2);obtain ⟨E,hE⟩:∃E:ByteArray,E=G++F:=⟨_,rfl⟩;rw [← hE] at HGF ⊢;have es:(⟨#[32]⟩:ByteArray).size=1:=rfl;have b1:∀W,(Op.stringOp .add E ⟨#[32]⟩).run Tryz.prog W=.ok (.string (E++⟨#[32]⟩)) W:=EB (by omega);have b2:∀W,(Op.stringOp .add (E++⟨#[32]⟩) V).run Tryz.prog W=.ok (.string (E++⟨#[32]⟩++V)) W:=EB (by rw [cA];omega);have HF:=Lib.hid (show JA x=E++⟨#[32]⟩++V by rw [JA,if_pos HI.out,HK.out,hV,hE,← HH.out]<;>rfl);clear hV hE hVs HGF es a1 a2;go_wp2_with fail;refine (cV _ ((B0.then hb1).then B5)).mono ?_;rintro e' w7 ⟨rfl,hb7⟩;go_wp2;go_ret;exact Ret.str HF.out.symm ((B1.then B5).then hb7))
 ·go_simp
  refine (CF.out _).mono ?_;rintro e' w5 ⟨rfl,hb5⟩;have y0:=hb5.cell z0;have y1:=hb5.cell z1;refine hK.out _ _ ⟨y0,y1⟩ (fun hHeld=>?_);clear hK K
  try simp only [Act.put,List.getElem_toArray,List.getElem_cons_zero,List.getElem_cons_succ,List.setIfInBounds_toArray,List.set_cons_zero,List.set_cons_succ]
  refine wpAnyH_ready (rs:=[0]) (by kernel_rfl) (by simp) (AllReadyH.cons (o:=_) rfl (fun K hK=>?_) AllReadyH.nil)
  go_simp
  have A:Bw w5 (w5.alloc (.cells #[.string ⟨#[108,111,119]⟩,.string ⟨#[104,105,103,104]⟩,.string ⟨#[110,101,97,114]⟩,.string ⟨#[97,109,111,110,103]⟩,.string ⟨#[111,114,100,101,114]⟩] 9)):=(Bw.refl w5).alloc _;replace y0:=A.cell y0;replace y1:=A.cell y1;have yr:(w5.alloc (.cells #[.string ⟨#[108,111,119]⟩,.string ⟨#[104,105,103,104]⟩,.string ⟨#[110,101,97,114]⟩,.string ⟨#[97,109,111,110,103]⟩,.string ⟨#[111,114,100,101,114]⟩] 9)).cell? ⟨w5.heap.size,3,none⟩=some (.string ⟨#[97,109,111,110,103]⟩):=by go_simp
  have B5:=BZ.then (hb5.then A);refine hK.out _ _ ⟨y0,y1⟩ (fun hHeld=>?_);clear hK K
  try simp only [Act.put,List.getElem_toArray,List.getElem_cons_zero,List.getElem_cons_succ,List.setIfInBounds_toArray,List.set_cons_zero,List.set_cons_succ]
  refine UC (S':=(fun w'=>w'.cell? ⟨w.heap.size,0,none⟩=some (.int .i64 3)∧w'.cell? ⟨w.heap.size,1,none⟩=some (.int .i64 x.field)∧w'.cell? ⟨w5.heap.size,3,none⟩=some (.string ⟨#[97,109,111,110,103]⟩))) (fun _ h=>⟨h.1,h.2.1⟩) _ _ _ _ ?_;replace hHeld:=And.intro y0 (And.intro y1 yr);refine wpAnyH_take (i:=3) (oi:=_) (v:=?_) rfl (by kernel_rfl) (by kernel_rfl) (by kernel_rfl) (fun _ _ _ h=>h) (Or.inl ⟨by rfl,?_⟩) (by assumption) ?_;rotate_left 1
  ·(intro wS hSw;(try dsimp only at hSw);go_simp;try with_reducible rfl)
  try simp only [Act.put,List.getElem_toArray,List.getElem_cons_zero,List.getElem_cons_succ,List.setIfInBounds_toArray,List.set_cons_zero,List.set_cons_succ]
  refine wpAnyH_take (i:=4) (oi:=_) (v:=?_) rfl (by kernel_rfl) (by kernel_rfl) (by kernel_rfl) (fun _ _ _ h=>h) (Or.inl ⟨by rfl,?_⟩) (by assumption) ?_;rotate_left 1
  ·(intro wS hSw;(try dsimp only at hSw);go_simp;try with_reducible rfl)
  try simp only [Act.put,List.getElem_toArray,List.getElem_cons_zero,List.getElem_cons_succ,List.setIfInBounds_toArray,List.set_cons_zero,List.set_cons_succ]
  refine wpAnyH_take (i:=5) (oi:=_) (v:=?_) rfl (by kernel_rfl) (by kernel_rfl) (by kernel_rfl) (fun _ _ _ h=>h) (Or.inl ⟨by rfl,?_⟩) (by assumption) ?_;rotate_left 1
  ·(intro wS hSw;(try dsimp only at hSw);go_simp;try with_reducible rfl)
  try simp only [Act.put,List.getElem_toArray,List.getElem_cons_zero,List.getElem_cons_succ,List.setIfInBounds_toArray,List.set_cons_zero,List.set_cons_succ]
  refine wpAnyH_take (i:=9) (oi:=_) (v:=?_) rfl (by kernel_rfl) (by kernel_rfl) (by kernel_rfl) (fun _ _ _ h=>h) (Or.inl ⟨by rfl,?_⟩) (by assumption) ?_;rotate_left 1
  ·(intro wS hSw;(try dsimp only at hSw);go_simp;try with_reducible rfl)
  try simp only [Act.put,List.getElem_toArray,List.getElem_cons_zero,List.getElem_cons_succ,List.setIfInBounds_toArray,List.set_cons_zero,List.set_cons_succ]
  refine wpAnyH_take (i:=10) (oi:=_) (v:=?_) rfl (by kernel_rfl) (by kernel_rfl) (by kernel_rfl) (fun _ _ _ h=>h) (Or.inl ⟨by rfl,?_⟩) (by assumption) ?_;rotate_left 1
  ·(intro wS hSw;(try dsimp only at hSw);go_simp;try with_reducible rfl)
  try simp only [Act.put,List.getElem_toArray,List.getElem_cons_zero,List.getElem_cons_succ,List.setIfInBounds_toArray,List.set_cons_zero,List.set_cons_succ]
  refine wpAnyH_done (by kernel_rfl) ?_ _
  (have t:=B5.cell p3;obtain ⟨V,hV⟩:∃V,V=MB x.list ⟨#[44]⟩:=⟨_,rfl⟩;have cV:∀W,Bw w W→Calls Tryz.prog 132 #[.slice Av nv cv,.string ⟨#[44]⟩] W (Ret W (.string V)):=(fun W B=>by rw [hV];exact rI W x.list ⟨#[44]⟩ _ (HL.out.bw dA B) (gI HI.out) (by have:=lG HI.out;omega) (by show 1≤1024;omega));have hVs:V.size≤400:=(by rw [hV];have:=mJ HI.out;omega);have HGF:(G++F).size≤27:=(by rw [← HH.out];exact (XD HI.out).2);obtain ⟨E,hE⟩:∃E:ByteArray,E=G++F:=⟨_,rfl⟩;rw [← hE] at HGF ⊢;have es:(⟨#[32]⟩:ByteArray).size=1:=rfl;have b1:∀W,(Op.stringOp .add E ⟨#[32]⟩).run Tryz.prog W=.ok (.string (E++⟨#[32]⟩)) W:=EB (by omega);have b2:∀W,(Op.stringOp .add (E++⟨#[32]⟩) V).run Tryz.prog W=.ok (.string (E++⟨#[32]⟩++V)) W:=EB (by rw [cA];omega);have HF:=Lib.hid (show JA x=E++⟨#[32]⟩++V by rw [JA,if_pos HI.out,HK.out,hV,hE,← HH.out]<;>rfl);clear hV hE hVs HGF es a1 a2;go_wp2_with fail;refine (cV _ ((B0.then hb1).then B5)).mono ?_;rintro e' w7 ⟨rfl,hb7⟩;go_wp2;go_ret;exact Ret.str HF.out.symm ((B1.then B5).then hb7))
set_option maxRecDepth 100000 in
set_option maxHeartbeats 6400000 in
theorem rT (w:World) (x:eB) (v u:Value) (h:Rd XA w x.list [v]) (h':Rd RB w x.pairs [u]) (hI:gB x=true) (hK:x.kind=4) :
  Calls Tryz.prog 187 #[.agg #[.int .i64 4,.int .i64 x.field,.int .i64 x.value,v,u]] w (Ret w (.string (JA x))):=by
 obtain ⟨Av,nv,cv,rfl,l1,l2,l3⟩:=iA h;obtain ⟨Au,nu,cu,rfl,l4,l5,l6⟩:=iA h';clear l1 l2 l3 l4 l5 l6;have B0:Bw w (w.alloc (.cells #[.int .i64 4,.int .i64 x.field,.int .i64 x.value,.slice Av nv cv,.slice Au nu cu] 109)):=(Bw.refl w).alloc _;have c1:=fG _ x _ _ (h.bw dA B0) (h'.bw DA B0);rw [hK,hI] at c1;have wf1:=iB (n:=x.field) (by have:=fC hI;omega);have wf2:=iB (n:=x.value) (by have:=gC hI;omega);have cF:=fun W=>OB W x.field wf1
 have hsz:=(OA wf1).2;obtain ⟨F,hF⟩:∃F,F=EA x.field:=⟨_,rfl⟩;rw [← hF] at hsz;simp only [← hF] at cF;have e2:(⟨#[32,102]⟩:ByteArray).size=2:=rfl;have ew:(⟨#[111,114,100,101,114]⟩:ByteArray).size≤5:=by show _≤_;decide
 have a1:∀W,(Op.stringOp .add ⟨#[111,114,100,101,114]⟩ ⟨#[32,102]⟩).run Tryz.prog W=.ok (.string (⟨#[111,114,100,101,114]⟩++⟨#[32,102]⟩)) W:=EB (by omega);obtain ⟨G,hG⟩:∃G:ByteArray,G=⟨#[111,114,100,101,114]⟩++⟨#[32,102]⟩:=⟨_,rfl⟩;have hGs:G.size≤7:=by rw [hG,cA];omega
 have a2:∀W,(Op.stringOp .add G F).run Tryz.prog W=.ok (.string (G++F)) W:=EB (by omega);have HH:=Lib.hid (show AB x=G++F by rw [AB,hK,hF,hG];rfl);rw [← hG] at a1;clear hG hGs;have CF:=Lib.hid cF;have HI:=Lib.hid hI;have HK:=Lib.hid hK;have HL:=Lib.hid h;have HP:=Lib.hid h';have WF2:=Lib.hid wf2;have HA1:=Lib.hid a1;have HA2:=Lib.hid a2;clear cF hF hsz e2 ew wf1 wf2 hI hK h h' a1 a2;go_enter Tryz.func187,Tryz.ntmps187;go_wp2_with fail;refine (c1).mono ?_;rintro e w1 ⟨rfl,hb1⟩;have p0:w1.cell? ⟨w.heap.size,0,none⟩=some (.int .i64 4):=hb1.cell (by go_simp);have p1:w1.cell? ⟨w.heap.size,1,none⟩=some (.int .i64 x.field):=hb1.cell (by go_simp);have p2:w1.cell? ⟨w.heap.size,2,none⟩=some (.int .i64 x.value):=hb1.cell (by go_simp);have p3:w1.cell? ⟨w.heap.size,3,none⟩=some (.slice Av nv cv):=hb1.cell (by go_simp);have p4:w1.cell? ⟨w.heap.size,4,none⟩=some (.slice Au nu cu):=hb1.cell (by go_simp);have B1:=B0.then hb1;clear c1;go_wp2_with fail;have a1:=HA1.out;have a2:=HA2.out;obtain ⟨Z,hZ⟩:∃Z,Z=w1.drew:=⟨_,rfl⟩;have z0:Z.cell? ⟨w.heap.size,0,none⟩=some (.int .i64 4):=by rw [hZ];exact p0
 have z1:Z.cell? ⟨w.heap.size,1,none⟩=some (.int .i64 x.field):=by rw [hZ];exact p1
 have BZ:Bw w1 Z:=by rw [hZ];exact (Bw.refl w1).drew
 have hws:w.heap.size<w1.heap.size:=World.block_lt_of_cell? _ _ p0;have HZ:=Lib.hid hZ;clear hZ;refine wp_region_held_drew (S:=(fun w'=>w'.cell? ⟨w.heap.size,0,none⟩=some (.int .i64 4)∧w'.cell? ⟨w.heap.size,1,none⟩=some (.int .i64 x.field))) (by kernel_rfl) ?_ (fun hHeld=>?_)
 ·exact ⟨p0,p1⟩
 rw [← HZ.out] at hHeld ⊢;refine wpAnyH_take (i:=1) (oi:=_) (v:=?_) rfl (by kernel_rfl) (by kernel_rfl) (by kernel_rfl) (fun _ _ _ h=>h) (Or.inl ⟨by rfl,?_⟩) (by assumption) ?_;rotate_left 1
 ·(intro wS hSw;(try dsimp only at hSw);go_simp;try with_reducible rfl)
 try simp only [Act.put,List.getElem_toArray,List.getElem_cons_zero,List.getElem_cons_succ,List.setIfInBounds_toArray,List.set_cons_zero,List.set_cons_succ]
 refine wpAnyH_take (i:=2) (oi:=_) (v:=?_) rfl (by kernel_rfl) (by kernel_rfl) (by kernel_rfl) (fun _ _ _ h=>h) (Or.inl ⟨by rfl,?_⟩) (by assumption) ?_;rotate_left 1
 ·(intro wS hSw;(try dsimp only at hSw);go_simp;try with_reducible rfl)
 try simp only [Act.put,List.getElem_toArray,List.getElem_cons_zero,List.getElem_cons_succ,List.setIfInBounds_toArray,List.set_cons_zero,List.set_cons_succ]
 refine wpAnyH_take (i:=6) (oi:=_) (v:=?_) rfl (by kernel_rfl) (by kernel_rfl) (by kernel_rfl) (fun _ _ _ h=>h) (Or.inl ⟨by rfl,?_⟩) (by assumption) ?_;rotate_left 1
 ·(intro wS hSw;(try dsimp only at hSw);go_simp;try with_reducible rfl)
 try simp only [Act.put,List.getElem_toArray,List.getElem_cons_zero,List.getElem_cons_succ,List.setIfInBounds_toArray,List.set_cons_zero,List.set_cons_succ]
 refine wpAnyH_take (i:=7) (oi:=_) (v:=?_) rfl (by kernel_rfl) (by kernel_rfl) (by kernel_rfl) (fun _ _ _ h=>h) (Or.inl ⟨by rfl,?_⟩) (by assumption) ?_;rotate_left 1
 ·(intro wS hSw;(try dsimp only at hSw);go_simp;try with_reducible rfl)
 try simp only [Act.put,List.getElem_toArray,List.getElem_cons_zero,List.getElem_cons_succ,List.setIfInBounds_toArray,List.set_cons_zero,List.set_cons_succ]
 refine wpAnyH_ready (rs:=[0,8]) (by kernel_rfl) (by simp) (AllReadyH.cons (o:=_) rfl (fun K hK=>?_) (AllReadyH.cons (o:=_) rfl (fun K hK=>?_) AllReadyH.nil))
 ·go_simp
  have A:Bw Z (Z.alloc (.cells #[.string ⟨#[108,111,119]⟩,.string ⟨#[104,105,103,104]⟩,.string ⟨#[110,101,97,114]⟩,.string ⟨#[97,109,111,110,103]⟩,.string ⟨#[111,114,100,101,114]⟩] 9)):=(Bw.refl Z).alloc _;have y0:=A.cell z0;have y1:=A.cell z1;have yr:(Z.alloc (.cells #[.string ⟨#[108,111,119]⟩,.string ⟨#[104,105,103,104]⟩,.string ⟨#[110,101,97,114]⟩,.string ⟨#[97,109,111,110,103]⟩,.string ⟨#[111,114,100,101,114]⟩] 9)).cell? ⟨Z.heap.size,4,none⟩=some (.string ⟨#[111,114,100,101,114]⟩):=by go_simp
  refine hK.out _ _ ⟨y0,y1⟩ (fun hHeld=>?_);clear hK K
  try simp only [Act.put,List.getElem_toArray,List.getElem_cons_zero,List.getElem_cons_succ,List.setIfInBounds_toArray,List.set_cons_zero,List.set_cons_succ]
  refine UC (S':=(fun w'=>w'.cell? ⟨w.heap.size,0,none⟩=some (.int .i64 4)∧w'.cell? ⟨w.heap.size,1,none⟩=some (.int .i64 x.field)∧w'.cell? ⟨Z.heap.size,4,none⟩=some (.string ⟨#[111,114,100,101,114]⟩))) (fun _ h=>⟨h.1,h.2.1⟩) _ _ _ _ ?_;replace hHeld:=And.intro y0 (And.intro y1 yr);refine wpAnyH_take (i:=3) (oi:=_) (v:=?_) rfl (by kernel_rfl) (by kernel_rfl) (by kernel_rfl) (fun _ _ _ h=>h) (Or.inl ⟨by rfl,?_⟩) (by assumption) ?_;rotate_left 1
  ·(intro wS hSw;(try dsimp only at hSw);go_simp;try with_reducible rfl)
  try simp only [Act.put,List.getElem_toArray,List.getElem_cons_zero,List.getElem_cons_succ,List.setIfInBounds_toArray,List.set_cons_zero,List.set_cons_succ]
  refine wpAnyH_take (i:=4) (oi:=_) (v:=?_) rfl (by kernel_rfl) (by kernel_rfl) (by kernel_rfl) (fun _ _ _ h=>h) (Or.inl ⟨by rfl,?_⟩) (by assumption) ?_;rotate_left 1
  ·(intro wS hSw;(try dsimp only at hSw);go_simp;try with_reducible rfl)
  try simp only [Act.put,List.getElem_toArray,List.getElem_cons_zero,List.getElem_cons_succ,List.setIfInBounds_toArray,List.set_cons_zero,List.set_cons_succ]
  refine wpAnyH_take (i:=5) (oi:=_) (v:=?_) rfl (by kernel_rfl) (by kernel_rfl) (by kernel_rfl) (fun _ _ _ h=>h) (Or.inl ⟨by rfl,?_⟩) (by assumption) ?_;rotate_left 1
  ·(intro wS hSw;(try dsimp only at hSw);go_simp;try with_reducible rfl)
  try simp only [Act.put,List.getElem_toArray,List.getElem_cons_zero,List.getElem_cons_succ,List.setIfInBounds_toArray,List.set_cons_zero,List.set_cons_succ]
  refine wpAnyH_ready (rs:=[8]) (by kernel_rfl) (by simp) (AllReadyH.cons (o:=_) rfl (fun K hK=>?_) AllReadyH.nil)
  go_simp
  refine (CF.out _).mono ?_;rintro e' w5 ⟨rfl,hb5⟩;have B5:=(BZ.then A).then hb5;refine hK.out _ _ ⟨hb5.cell y0,hb5.cell y1,hb5.cell yr⟩ (fun hHeld=>?_);clear hK K
  try simp only [Act.put,List.getElem_toArray,List.getElem_cons_zero,List.getElem_cons_succ,List.setIfInBounds_toArray,List.set_cons_zero,List.set_cons_succ]
  refine wpAnyH_take (i:=9) (oi:=_) (v:=?_) rfl (by kernel_rfl) (by kernel_rfl) (by kernel_rfl) (fun _ _ _ h=>h) (Or.inl ⟨by rfl,?_⟩) (by assumption) ?_;rotate_left 1
  ·(intro wS hSw;(try dsimp only at hSw);go_simp;try with_reducible rfl)
  try simp only [Act.put,List.getElem_toArray,List.getElem_cons_zero,List.getElem_cons_succ,List.setIfInBounds_toArray,List.set_cons_zero,List.set_cons_succ]
  refine wpAnyH_take (i:=10) (oi:=_) (v:=?_) rfl (by kernel_rfl) (by kernel_rfl) (by kernel_rfl) (fun _ _ _ h=>h) (Or.inl ⟨by rfl,?_⟩) (by assumption) ?_;rotate_left 1
  ·(intro wS hSw;(try dsimp only at hSw);go_simp;try with_reducible rfl)
  try simp only [Act.put,List.getElem_toArray,List.getElem_cons_zero,List.getElem_cons_succ,List.setIfInBounds_toArray,List.set_cons_zero,List.set_cons_succ]
  refine wpAnyH_done (by kernel_rfl) ?_ _
  (have t:=B5.cell p4;obtain ⟨V,hV⟩:∃V,V=sB x.pairs:=⟨_,rfl⟩;have cV:∀W,Bw w W→Calls Tryz.prog 239 #[.slice Au nu cu] W (Ret W (.string V)):=(fun W B=>by rw [hV];exact JH W x.pairs _ (HP.out.bw DA B));have hVs:V.size≤400:=(by rw [hV];exact cH x.pairs);have HGF:(G++F).size≤27:=(by rw [← HH.out];exact (XD HI.out).2);obtain ⟨E,hE⟩:∃E:ByteArray,E=G++F:=⟨_,rfl⟩;rw [← hE] at HGF ⊢;have es:(⟨#[32]⟩:ByteArray).size=1:=rfl;have b1:∀W,(Op.stringOp .add E ⟨#[32]⟩).run Tryz.prog W=.ok (.string (E++⟨#[32]⟩)) W:=EB (by omega);have b2:∀W,(Op.stringOp .add (E++⟨#[32]⟩) V).run Tryz.prog W=.ok (.string (E++⟨#[32]⟩++V)) W:=EB (by rw [cA];omega);have HF:=Lib.hid (show JA x=E++⟨#[32]⟩++V by rw [JA,if_pos HI.out,HK.out,hV,hE,← HH.out]<;>rfl);clear hV hE hVs HGF es a1 a2;go_wp2_with fail;refine (cV _ ((B0.then hb1).then B5)).mono ?_;rintro e' w7 ⟨rfl,hb7⟩;go_wp2;go_ret;exact Ret.str HF.out.symm ((B1.then B5).then hb7))
 ·go_simp
  refine (CF.out _).mono ?_;rintro e' w5 ⟨rfl,hb5⟩;have y0:=hb5.cell z0;have y1:=hb5.cell z1;refine hK.out _ _ ⟨y0,y1⟩ (fun hHeld=>?_);clear hK K
  try simp only [Act.put,List.getElem_toArray,List.getElem_cons_zero,List.getElem_cons_succ,List.setIfInBounds_toArray,List.set_cons_zero,List.set_cons_succ]
  refine wpAnyH_ready (rs:=[0]) (by kernel_rfl) (by simp) (AllReadyH.cons (o:=_) rfl (fun K hK=>?_) AllReadyH.nil)
  go_simp
  have A:Bw w5 (w5.alloc (.cells #[.string ⟨#[108,111,119]⟩,.string ⟨#[104,105,103,104]⟩,.string ⟨#[110,101,97,114]⟩,.string ⟨#[97,109,111,110,103]⟩,.string ⟨#[111,114,100,101,114]⟩] 9)):=(Bw.refl w5).alloc _;replace y0:=A.cell y0;replace y1:=A.cell y1;have yr:(w5.alloc (.cells #[.string ⟨#[108,111,119]⟩,.string ⟨#[104,105,103,104]⟩,.string ⟨#[110,101,97,114]⟩,.string ⟨#[97,109,111,110,103]⟩,.string ⟨#[111,114,100,101,114]⟩] 9)).cell? ⟨w5.heap.size,4,none⟩=some (.string ⟨#[111,114,100,101,114]⟩):=by go_simp
  have B5:=BZ.then (hb5.then A);refine hK.out _ _ ⟨y0,y1⟩ (fun hHeld=>?_);clear hK K
  try simp only [Act.put,List.getElem_toArray,List.getElem_cons_zero,List.getElem_cons_succ,List.setIfInBounds_toArray,List.set_cons_zero,List.set_cons_succ]
  refine UC (S':=(fun w'=>w'.cell? ⟨w.heap.size,0,none⟩=some (.int .i64 4)∧w'.cell? ⟨w.heap.size,1,none⟩=some (.int .i64 x.field)∧w'.cell? ⟨w5.heap.size,4,none⟩=some (.string ⟨#[111,114,100,101,114]⟩))) (fun _ h=>⟨h.1,h.2.1⟩) _ _ _ _ ?_;replace hHeld:=And.intro y0 (And.intro y1 yr);refine wpAnyH_take (i:=3) (oi:=_) (v:=?_) rfl (by kernel_rfl) (by kernel_rfl) (by kernel_rfl) (fun _ _ _ h=>h) (Or.inl ⟨by rfl,?_⟩) (by assumption) ?_;rotate_left 1
  ·(intro wS hSw;(try dsimp only at hSw);go_simp;try with_reducible rfl)
  try simp only [Act.put,List.getElem_toArray,List.getElem_cons_zero,List.getElem_cons_succ,List.setIfInBounds_toArray,List.set_cons_zero,List.set_cons_succ]
  refine wpAnyH_take (i:=4) (oi:=_) (v:=?_) rfl (by kernel_rfl) (by kernel_rfl) (by kernel_rfl) (fun _ _ _ h=>h) (Or.inl ⟨by rfl,?_⟩) (by assumption) ?_;rotate_left 1
  ·(intro wS hSw;(try dsimp only at hSw);go_simp;try with_reducible rfl)
  try simp only [Act.put,List.getElem_toArray,List.getElem_cons_zero,List.getElem_cons_succ,List.setIfInBounds_toArray,List.set_cons_zero,List.set_cons_succ]
  refine wpAnyH_take (i:=5) (oi:=_) (v:=?_) rfl (by kernel_rfl) (by kernel_rfl) (by kernel_rfl) (fun _ _ _ h=>h) (Or.inl ⟨by rfl,?_⟩) (by assumption) ?_;rotate_left 1
  ·(intro wS hSw;(try dsimp only at hSw);go_simp;try with_reducible rfl)
  try simp only [Act.put,List.getElem_toArray,List.getElem_cons_zero,List.getElem_cons_succ,List.setIfInBounds_toArray,List.set_cons_zero,List.set_cons_succ]
  refine wpAnyH_take (i:=9) (oi:=_) (v:=?_) rfl (by kernel_rfl) (by kernel_rfl) (by kernel_rfl) (fun _ _ _ h=>h) (Or.inl ⟨by rfl,?_⟩) (by assumption) ?_;rotate_left 1
  ·(intro wS hSw;(try dsimp only at hSw);go_simp;try with_reducible rfl)
  try simp only [Act.put,List.getElem_toArray,List.getElem_cons_zero,List.getElem_cons_succ,List.setIfInBounds_toArray,List.set_cons_zero,List.set_cons_succ]
  refine wpAnyH_take (i:=10) (oi:=_) (v:=?_) rfl (by kernel_rfl) (by kernel_rfl) (by kernel_rfl) (fun _ _ _ h=>h) (Or.inl ⟨by rfl,?_⟩) (by assumption) ?_;rotate_left 1
  ·(intro wS hSw;(try dsimp only at hSw);go_simp;try with_reducible rfl)
  try simp only [Act.put,List.getElem_toArray,List.getElem_cons_zero,List.getElem_cons_succ,List.setIfInBounds_toArray,List.set_cons_zero,List.set_cons_succ]
  refine wpAnyH_done (by kernel_rfl) ?_ _
  (have t:=B5.cell p4;obtain ⟨V,hV⟩:∃V,V=sB x.pairs:=⟨_,rfl⟩;have cV:∀W,Bw w W→Calls Tryz.prog 239 #[.slice Au nu cu] W (Ret W (.string V)):=(fun W B=>by rw [hV];exact JH W x.pairs _ (HP.out.bw DA B));have hVs:V.size≤400:=(by rw [hV];exact cH x.pairs);have HGF:(G++F).size≤27:=(by rw [← HH.out];exact (XD HI.out).2);obtain ⟨E,hE⟩:∃E:ByteArray,E=G++F:=⟨_,rfl⟩;rw [← hE] at HGF ⊢;have es:(⟨#[32]⟩:ByteArray).size=1:=rfl;have b1:∀W,(Op.stringOp .add E ⟨#[32]⟩).run Tryz.prog W=.ok (.string (E++⟨#[32]⟩)) W:=EB (by omega);have b2:∀W,(Op.stringOp .add (E++⟨#[32]⟩) V).run Tryz.prog W=.ok (.string (E++⟨#[32]⟩++V)) W:=EB (by rw [cA];omega);have HF:=Lib.hid (show JA x=E++⟨#[32]⟩++V by rw [JA,if_pos HI.out,HK.out,hV,hE,← HH.out]<;>rfl);clear hV hE hVs HGF es a1 a2;go_wp2_with fail;refine (cV _ ((B0.then hb1).then B5)).mono ?_;rintro e' w7 ⟨rfl,hb7⟩;go_wp2;go_ret;exact Ret.str HF.out.symm ((B1.then B5).then hb7))
theorem OF (w:World) (x:eB) (v u:Value) (h:Rd XA w x.list [v]) (h':Rd RB w x.pairs [u]) :
  Calls Tryz.prog 187 #[.agg #[.int .i64 x.kind,.int .i64 x.field,.int .i64 x.value,v,u]] w (Ret w (.string (JA x))):=by
 rcases Bool.eq_false_or_eq_true (gB x) with hI | hI
 ·have hk:=vF hI;rcases (show x.kind=0∨x.kind=1∨x.kind=2∨x.kind=3∨x.kind=4 by omega) with h0 | h0 | h0 | h0 | h0
  ·rw [h0];exact nT w x v u h h' hI h0
  ·rw [h0];exact oT w x v u h h' hI h0
  ·rw [h0];exact pT w x v u h h' hI h0
  ·rw [h0];exact qT w x v u h h' hI h0
  ·rw [h0];exact rT w x v u h h' hI h0
 ·rw [show JA x=⟨#[]⟩ by rw [JA,hI];rfl];exact vQ w x v u h h' hI
end Go.Proofs.YtpihighajaeabaaGreat
