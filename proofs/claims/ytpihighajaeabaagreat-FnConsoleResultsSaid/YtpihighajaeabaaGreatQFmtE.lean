/- Expressions as text, in both programs. -/
import Derived.Test.YtpihighajaeabaaGreatQFmtW
namespace Go.Proofs.YtpihighajaeabaaGreat
open Go.RowKit
set_option linter.unusedVariables false
set_option linter.unusedSimpArgs false
set_option maxRecDepth 100000 in
set_option maxHeartbeats 1600000 in
theorem wQ (w:World) (x:eB) (v u:Value) (h:Rd XA w x.list [v]) (h':Rd RB w x.pairs [u]) (hI:gB x=false) :
  Calls Tryz.prog 143 #[.agg #[.int .i64 x.kind,.int .i64 x.field,.int .i64 x.value,v,u]] w (Ret w (.string ⟨#[]⟩)):=by
 have B0:Bw w (w.alloc (.cells #[.int .i64 x.kind,.int .i64 x.field,.int .i64 x.value,v,u] 109)):=(Bw.refl w).alloc _;have c1:=JI _ x v u (h.bw dA B0) (h'.bw DA B0);rw [hI] at c1;clear hI;go_enter Tryz.func143,Tryz.ntmps143;go_wp2_with fail;refine (c1).mono ?_;rintro e w1 ⟨rfl,hb1⟩;go_wp2;go_ret;exact Ret.str (rfl) (B0.then hb1)
set_option maxRecDepth 100000 in
set_option maxHeartbeats 3200000 in
theorem sT (w:World) (x:eB) (v u:Value) (h:Rd XA w x.list [v]) (h':Rd RB w x.pairs [u]) (hI:gB x=true) (hK:x.kind=0) :
  Calls Tryz.prog 143 #[.agg #[.int .i64 0,.int .i64 x.field,.int .i64 x.value,v,u]] w (Ret w (.string (JA x))):=by
 obtain ⟨Av,nv,cv,rfl,l1,l2,l3⟩:=iA h;obtain ⟨Au,nu,cu,rfl,l4,l5,l6⟩:=iA h';clear l1 l2 l3 l4 l5 l6;have B0:Bw w (w.alloc (.cells #[.int .i64 0,.int .i64 x.field,.int .i64 x.value,.slice Av nv cv,.slice Au nu cu] 109)):=(Bw.refl w).alloc _;have c1:=JI _ x _ _ (h.bw dA B0) (h'.bw DA B0);rw [hK,hI] at c1;have wf1:=iB (n:=x.field) (by have:=fC hI;omega);have wf2:=iB (n:=x.value) (by have:=gC hI;omega);have cF:=fun W=>KC W x.field wf1
 have hsz:=(OA wf1).2;obtain ⟨F,hF⟩:∃F,F=EA x.field:=⟨_,rfl⟩;rw [← hF] at hsz;simp only [← hF] at cF;have e2:(⟨#[32,102]⟩:ByteArray).size=2:=rfl;have ew:(⟨#[108,111,119]⟩:ByteArray).size≤5:=by show _≤_;decide
 obtain ⟨H,hH⟩:∃H:ByteArray,H=⟨#[32,102]⟩++F:=⟨_,rfl⟩;have hHs:H.size≤22:=by rw [hH,cA];omega
 have a1:∀W,(Op.stringOp .add ⟨#[32,102]⟩ F).run Tryz.prog W=.ok (.string H) W:=by rw [hH];exact EB (by omega)
 obtain ⟨E,hE⟩:∃E:ByteArray,E=⟨#[108,111,119]⟩++H:=⟨_,rfl⟩;have hEs:E.size≤27:=by rw [hE,cA];omega
 have a2:∀W,(Op.stringOp .add ⟨#[108,111,119]⟩ H).run Tryz.prog W=.ok (.string E) W:=by rw [hE];exact EB (by omega)
 have hh:AB x=E:=by rw [AB,hK,hE,hH,hF,← xF];rfl
 have HF:=Lib.hid (show JA x=E by rw [JA,if_pos hI,hK,← hh];rfl);have CF:=Lib.hid cF;clear cF hF hsz e2 ew wf1 wf2 hI hK h h' hH hHs hE hEs hh;go_enter Tryz.func143,Tryz.ntmps143;go_wp2_with fail;refine (c1).mono ?_;rintro e w1 ⟨rfl,hb1⟩;have p0:w1.cell? ⟨w.heap.size,0,none⟩=some (.int .i64 0):=hb1.cell (by go_simp);have p1:w1.cell? ⟨w.heap.size,1,none⟩=some (.int .i64 x.field):=hb1.cell (by go_simp);have p2:w1.cell? ⟨w.heap.size,2,none⟩=some (.int .i64 x.value):=hb1.cell (by go_simp);have p3:w1.cell? ⟨w.heap.size,3,none⟩=some (.slice Av nv cv):=hb1.cell (by go_simp);have p4:w1.cell? ⟨w.heap.size,4,none⟩=some (.slice Au nu cu):=hb1.cell (by go_simp);have B1:=B0.then hb1;clear c1;go_wp2_with fail;refine (CF.out _).mono ?_;rintro e' w2 ⟨rfl,hb2⟩;replace p0:=hb2.cell p0;replace p2:=hb2.cell p2;replace p3:=hb2.cell p3;replace p4:=hb2.cell p4;have B2:=B1.then hb2;go_wp2;go_ret;exact Ret.str (HF.out.symm) (B2)
set_option maxRecDepth 100000 in
set_option maxHeartbeats 3200000 in
theorem tT (w:World) (x:eB) (v u:Value) (h:Rd XA w x.list [v]) (h':Rd RB w x.pairs [u]) (hI:gB x=true) (hK:x.kind=1) :
  Calls Tryz.prog 143 #[.agg #[.int .i64 1,.int .i64 x.field,.int .i64 x.value,v,u]] w (Ret w (.string (JA x))):=by
 obtain ⟨Av,nv,cv,rfl,l1,l2,l3⟩:=iA h;obtain ⟨Au,nu,cu,rfl,l4,l5,l6⟩:=iA h';clear l1 l2 l3 l4 l5 l6;have B0:Bw w (w.alloc (.cells #[.int .i64 1,.int .i64 x.field,.int .i64 x.value,.slice Av nv cv,.slice Au nu cu] 109)):=(Bw.refl w).alloc _;have c1:=JI _ x _ _ (h.bw dA B0) (h'.bw DA B0);rw [hK,hI] at c1;have wf1:=iB (n:=x.field) (by have:=fC hI;omega);have wf2:=iB (n:=x.value) (by have:=gC hI;omega);have cF:=fun W=>KC W x.field wf1
 have hsz:=(OA wf1).2;obtain ⟨F,hF⟩:∃F,F=EA x.field:=⟨_,rfl⟩;rw [← hF] at hsz;simp only [← hF] at cF;have e2:(⟨#[32,102]⟩:ByteArray).size=2:=rfl;have ew:(⟨#[104,105,103,104]⟩:ByteArray).size≤5:=by show _≤_;decide
 obtain ⟨H,hH⟩:∃H:ByteArray,H=⟨#[32,102]⟩++F:=⟨_,rfl⟩;have hHs:H.size≤22:=by rw [hH,cA];omega
 have a1:∀W,(Op.stringOp .add ⟨#[32,102]⟩ F).run Tryz.prog W=.ok (.string H) W:=by rw [hH];exact EB (by omega)
 obtain ⟨E,hE⟩:∃E:ByteArray,E=⟨#[104,105,103,104]⟩++H:=⟨_,rfl⟩;have hEs:E.size≤27:=by rw [hE,cA];omega
 have a2:∀W,(Op.stringOp .add ⟨#[104,105,103,104]⟩ H).run Tryz.prog W=.ok (.string E) W:=by rw [hE];exact EB (by omega)
 have hh:AB x=E:=by rw [AB,hK,hE,hH,hF,← xF];rfl
 have HF:=Lib.hid (show JA x=E by rw [JA,if_pos hI,hK,← hh];rfl);have CF:=Lib.hid cF;clear cF hF hsz e2 ew wf1 wf2 hI hK h h' hH hHs hE hEs hh;go_enter Tryz.func143,Tryz.ntmps143;go_wp2_with fail;refine (c1).mono ?_;rintro e w1 ⟨rfl,hb1⟩;have p0:w1.cell? ⟨w.heap.size,0,none⟩=some (.int .i64 1):=hb1.cell (by go_simp);have p1:w1.cell? ⟨w.heap.size,1,none⟩=some (.int .i64 x.field):=hb1.cell (by go_simp);have p2:w1.cell? ⟨w.heap.size,2,none⟩=some (.int .i64 x.value):=hb1.cell (by go_simp);have p3:w1.cell? ⟨w.heap.size,3,none⟩=some (.slice Av nv cv):=hb1.cell (by go_simp);have p4:w1.cell? ⟨w.heap.size,4,none⟩=some (.slice Au nu cu):=hb1.cell (by go_simp);have B1:=B0.then hb1;clear c1;go_wp2_with fail;refine (CF.out _).mono ?_;rintro e' w2 ⟨rfl,hb2⟩;replace p0:=hb2.cell p0;replace p2:=hb2.cell p2;replace p3:=hb2.cell p3;replace p4:=hb2.cell p4;have B2:=B1.then hb2;go_wp2;go_ret;exact Ret.str (HF.out.symm) (B2)
set_option maxRecDepth 100000 in
set_option maxHeartbeats 3200000 in
theorem vT (w:World) (x:eB) (v u:Value) (h:Rd XA w x.list [v]) (h':Rd RB w x.pairs [u]) (hI:gB x=true) (hK:x.kind=2) :
  Calls Tryz.prog 143 #[.agg #[.int .i64 2,.int .i64 x.field,.int .i64 x.value,v,u]] w (Ret w (.string (JA x))):=by
 obtain ⟨Av,nv,cv,rfl,l1,l2,l3⟩:=iA h;obtain ⟨Au,nu,cu,rfl,l4,l5,l6⟩:=iA h';clear l1 l2 l3 l4 l5 l6;have B0:Bw w (w.alloc (.cells #[.int .i64 2,.int .i64 x.field,.int .i64 x.value,.slice Av nv cv,.slice Au nu cu] 109)):=(Bw.refl w).alloc _;have c1:=JI _ x _ _ (h.bw dA B0) (h'.bw DA B0);rw [hK,hI] at c1;have wf1:=iB (n:=x.field) (by have:=fC hI;omega);have wf2:=iB (n:=x.value) (by have:=gC hI;omega);have cF:=fun W=>KC W x.field wf1
 have hsz:=(OA wf1).2;obtain ⟨F,hF⟩:∃F,F=EA x.field:=⟨_,rfl⟩;rw [← hF] at hsz;simp only [← hF] at cF;have e2:(⟨#[32,102]⟩:ByteArray).size=2:=rfl;have ew:(⟨#[110,101,97,114]⟩:ByteArray).size≤5:=by show _≤_;decide
 obtain ⟨H,hH⟩:∃H:ByteArray,H=⟨#[32,102]⟩++F:=⟨_,rfl⟩;have hHs:H.size≤22:=by rw [hH,cA];omega
 have a1:∀W,(Op.stringOp .add ⟨#[32,102]⟩ F).run Tryz.prog W=.ok (.string H) W:=by rw [hH];exact EB (by omega)
 obtain ⟨E,hE⟩:∃E:ByteArray,E=⟨#[110,101,97,114]⟩++H:=⟨_,rfl⟩;have hEs:E.size≤27:=by rw [hE,cA];omega
 have a2:∀W,(Op.stringOp .add ⟨#[110,101,97,114]⟩ H).run Tryz.prog W=.ok (.string E) W:=by rw [hE];exact EB (by omega)
 have hh:AB x=E:=by rw [AB,hK,hE,hH,hF,← xF];rfl
 obtain ⟨V,hV⟩:∃V,V=EA x.value:=⟨_,rfl⟩;have cV:∀W,Bw w W→Calls Tryz.prog 64 #[.int .i64 x.value] W (Ret W (.string V)):=fun W _=>by rw [hV];exact KC W x.value wf2
 have hVs:V.size≤400:=by rw [hV];have:=(OA wf2).2;omega
 have es:(⟨#[32]⟩:ByteArray).size=1:=rfl;have b1:∀W,(Op.stringOp .add E ⟨#[32]⟩).run Tryz.prog W=.ok (.string (E++⟨#[32]⟩)) W:=EB (by omega);have b2:∀W,(Op.stringOp .add (E++⟨#[32]⟩) V).run Tryz.prog W=.ok (.string (E++⟨#[32]⟩++V)) W:=EB (by rw [cA];omega);have HF:=Lib.hid (show JA x=E++⟨#[32]⟩++V by rw [JA,if_pos hI,hK,hV,← hh]<;>rfl);have CV:=Lib.hid cV;clear cV hV hVs es;have CF:=Lib.hid cF;clear cF hF hsz e2 ew wf1 wf2 hI hK h h' hH hHs hE hEs hh;go_enter Tryz.func143,Tryz.ntmps143;go_wp2_with fail;refine (c1).mono ?_;rintro e w1 ⟨rfl,hb1⟩;have p0:w1.cell? ⟨w.heap.size,0,none⟩=some (.int .i64 2):=hb1.cell (by go_simp);have p1:w1.cell? ⟨w.heap.size,1,none⟩=some (.int .i64 x.field):=hb1.cell (by go_simp);have p2:w1.cell? ⟨w.heap.size,2,none⟩=some (.int .i64 x.value):=hb1.cell (by go_simp);have p3:w1.cell? ⟨w.heap.size,3,none⟩=some (.slice Av nv cv):=hb1.cell (by go_simp);have p4:w1.cell? ⟨w.heap.size,4,none⟩=some (.slice Au nu cu):=hb1.cell (by go_simp);have B1:=B0.then hb1;clear c1;go_wp2_with fail;refine (CF.out _).mono ?_;rintro e' w2 ⟨rfl,hb2⟩;replace p0:=hb2.cell p0;replace p2:=hb2.cell p2;replace p3:=hb2.cell p3;replace p4:=hb2.cell p4;have B2:=B1.then hb2;go_wp2_with fail;refine (CV.out _ B2).mono ?_;rintro e' w3 ⟨rfl,hb3⟩;go_wp2;go_ret;exact Ret.str (HF.out.symm) (B2.then hb3)
set_option maxRecDepth 100000 in
set_option maxHeartbeats 3200000 in
theorem wT (w:World) (x:eB) (v u:Value) (h:Rd XA w x.list [v]) (h':Rd RB w x.pairs [u]) (hI:gB x=true) (hK:x.kind=3) :
  Calls Tryz.prog 143 #[.agg #[.int .i64 3,.int .i64 x.field,.int .i64 x.value,v,u]] w (Ret w (.string (JA x))):=by
 obtain ⟨Av,nv,cv,rfl,l1,l2,l3⟩:=iA h;obtain ⟨Au,nu,cu,rfl,l4,l5,l6⟩:=iA h';clear l1 l2 l3 l4 l5 l6;have B0:Bw w (w.alloc (.cells #[.int .i64 3,.int .i64 x.field,.int .i64 x.value,.slice Av nv cv,.slice Au nu cu] 109)):=(Bw.refl w).alloc _;have c1:=JI _ x _ _ (h.bw dA B0) (h'.bw DA B0);rw [hK,hI] at c1;have wf1:=iB (n:=x.field) (by have:=fC hI;omega);have wf2:=iB (n:=x.value) (by have:=gC hI;omega);have cF:=fun W=>KC W x.field wf1
 have hsz:=(OA wf1).2;obtain ⟨F,hF⟩:∃F,F=EA x.field:=⟨_,rfl⟩;rw [← hF] at hsz;simp only [← hF] at cF;have e2:(⟨#[32,102]⟩:ByteArray).size=2:=rfl;have ew:(⟨#[97,109,111,110,103]⟩:ByteArray).size≤5:=by show _≤_;decide
 obtain ⟨H,hH⟩:∃H:ByteArray,H=⟨#[32,102]⟩++F:=⟨_,rfl⟩;have hHs:H.size≤22:=by rw [hH,cA];omega
 have a1:∀W,(Op.stringOp .add ⟨#[32,102]⟩ F).run Tryz.prog W=.ok (.string H) W:=by rw [hH];exact EB (by omega)
 obtain ⟨E,hE⟩:∃E:ByteArray,E=⟨#[97,109,111,110,103]⟩++H:=⟨_,rfl⟩;have hEs:E.size≤27:=by rw [hE,cA];omega
 have a2:∀W,(Op.stringOp .add ⟨#[97,109,111,110,103]⟩ H).run Tryz.prog W=.ok (.string E) W:=by rw [hE];exact EB (by omega)
 have hh:AB x=E:=by rw [AB,hK,hE,hH,hF,← xF];rfl
 obtain ⟨V,hV⟩:∃V,V=MB x.list ⟨#[44]⟩:=⟨_,rfl⟩;have cV:∀W,Bw w W→Calls Tryz.prog 145 #[.slice Av nv cv] W (Ret W (.string V)):=fun W B=>by rw [hV];exact XN W x.list _ (h.bw dA B) (gI hI) (by have:=lG hI;omega)
 have hVs:V.size≤400:=by rw [hV];have:=mJ hI;omega
 have es:(⟨#[32]⟩:ByteArray).size=1:=rfl;have b1:∀W,(Op.stringOp .add E ⟨#[32]⟩).run Tryz.prog W=.ok (.string (E++⟨#[32]⟩)) W:=EB (by omega);have b2:∀W,(Op.stringOp .add (E++⟨#[32]⟩) V).run Tryz.prog W=.ok (.string (E++⟨#[32]⟩++V)) W:=EB (by rw [cA];omega);have HF:=Lib.hid (show JA x=E++⟨#[32]⟩++V by rw [JA,if_pos hI,hK,hV,← hh]<;>rfl);have CV:=Lib.hid cV;clear cV hV hVs es;have CF:=Lib.hid cF;clear cF hF hsz e2 ew wf1 wf2 hI hK h h' hH hHs hE hEs hh;go_enter Tryz.func143,Tryz.ntmps143;go_wp2_with fail;refine (c1).mono ?_;rintro e w1 ⟨rfl,hb1⟩;have p0:w1.cell? ⟨w.heap.size,0,none⟩=some (.int .i64 3):=hb1.cell (by go_simp);have p1:w1.cell? ⟨w.heap.size,1,none⟩=some (.int .i64 x.field):=hb1.cell (by go_simp);have p2:w1.cell? ⟨w.heap.size,2,none⟩=some (.int .i64 x.value):=hb1.cell (by go_simp);have p3:w1.cell? ⟨w.heap.size,3,none⟩=some (.slice Av nv cv):=hb1.cell (by go_simp);have p4:w1.cell? ⟨w.heap.size,4,none⟩=some (.slice Au nu cu):=hb1.cell (by go_simp);have B1:=B0.then hb1;clear c1;go_wp2_with fail;refine (CF.out _).mono ?_;rintro e' w2 ⟨rfl,hb2⟩;replace p0:=hb2.cell p0;replace p2:=hb2.cell p2;replace p3:=hb2.cell p3;replace p4:=hb2.cell p4;have B2:=B1.then hb2;go_wp2_with fail;refine (CV.out _ B2).mono ?_;rintro e' w3 ⟨rfl,hb3⟩;go_wp2;go_ret;exact Ret.str (HF.out.symm) (B2.then hb3)
set_option maxRecDepth 100000 in
set_option maxHeartbeats 3200000 in
theorem xT (w:World) (x:eB) (v u:Value) (h:Rd XA w x.list [v]) (h':Rd RB w x.pairs [u]) (hI:gB x=true) (hK:x.kind=4) :
  Calls Tryz.prog 143 #[.agg #[.int .i64 4,.int .i64 x.field,.int .i64 x.value,v,u]] w (Ret w (.string (JA x))):=by
 obtain ⟨Av,nv,cv,rfl,l1,l2,l3⟩:=iA h;obtain ⟨Au,nu,cu,rfl,l4,l5,l6⟩:=iA h';clear l1 l2 l3 l4 l5 l6;have B0:Bw w (w.alloc (.cells #[.int .i64 4,.int .i64 x.field,.int .i64 x.value,.slice Av nv cv,.slice Au nu cu] 109)):=(Bw.refl w).alloc _;have c1:=JI _ x _ _ (h.bw dA B0) (h'.bw DA B0);rw [hK,hI] at c1;have wf1:=iB (n:=x.field) (by have:=fC hI;omega);have wf2:=iB (n:=x.value) (by have:=gC hI;omega);have cF:=fun W=>KC W x.field wf1
 have hsz:=(OA wf1).2;obtain ⟨F,hF⟩:∃F,F=EA x.field:=⟨_,rfl⟩;rw [← hF] at hsz;simp only [← hF] at cF;have e2:(⟨#[32,102]⟩:ByteArray).size=2:=rfl;have ew:(⟨#[111,114,100,101,114]⟩:ByteArray).size≤5:=by show _≤_;decide
 obtain ⟨H,hH⟩:∃H:ByteArray,H=⟨#[32,102]⟩++F:=⟨_,rfl⟩;have hHs:H.size≤22:=by rw [hH,cA];omega
 have a1:∀W,(Op.stringOp .add ⟨#[32,102]⟩ F).run Tryz.prog W=.ok (.string H) W:=by rw [hH];exact EB (by omega)
 obtain ⟨E,hE⟩:∃E:ByteArray,E=⟨#[111,114,100,101,114]⟩++H:=⟨_,rfl⟩;have hEs:E.size≤27:=by rw [hE,cA];omega
 have a2:∀W,(Op.stringOp .add ⟨#[111,114,100,101,114]⟩ H).run Tryz.prog W=.ok (.string E) W:=by rw [hE];exact EB (by omega)
 have hh:AB x=E:=by rw [AB,hK,hE,hH,hF,← xF];rfl
 obtain ⟨V,hV⟩:∃V,V=sB x.pairs:=⟨_,rfl⟩;have cV:∀W,Bw w W→Calls Tryz.prog 196 #[.slice Au nu cu] W (Ret W (.string V)):=fun W B=>by rw [hV];exact kT W x.pairs _ (h'.bw DA B)
 have hVs:V.size≤400:=by rw [hV];exact cH x.pairs
 have es:(⟨#[32]⟩:ByteArray).size=1:=rfl;have b1:∀W,(Op.stringOp .add E ⟨#[32]⟩).run Tryz.prog W=.ok (.string (E++⟨#[32]⟩)) W:=EB (by omega);have b2:∀W,(Op.stringOp .add (E++⟨#[32]⟩) V).run Tryz.prog W=.ok (.string (E++⟨#[32]⟩++V)) W:=EB (by rw [cA];omega);have HF:=Lib.hid (show JA x=E++⟨#[32]⟩++V by rw [JA,if_pos hI,hK,hV,← hh]<;>rfl);have CV:=Lib.hid cV;clear cV hV hVs es;have CF:=Lib.hid cF;clear cF hF hsz e2 ew wf1 wf2 hI hK h h' hH hHs hE hEs hh;go_enter Tryz.func143,Tryz.ntmps143;go_wp2_with fail;refine (c1).mono ?_;rintro e w1 ⟨rfl,hb1⟩;have p0:w1.cell? ⟨w.heap.size,0,none⟩=some (.int .i64 4):=hb1.cell (by go_simp);have p1:w1.cell? ⟨w.heap.size,1,none⟩=some (.int .i64 x.field):=hb1.cell (by go_simp);have p2:w1.cell? ⟨w.heap.size,2,none⟩=some (.int .i64 x.value):=hb1.cell (by go_simp);have p3:w1.cell? ⟨w.heap.size,3,none⟩=some (.slice Av nv cv):=hb1.cell (by go_simp);have p4:w1.cell? ⟨w.heap.size,4,none⟩=some (.slice Au nu cu):=hb1.cell (by go_simp);have B1:=B0.then hb1;clear c1;go_wp2_with fail;refine (CF.out _).mono ?_;rintro e' w2 ⟨rfl,hb2⟩;replace p0:=hb2.cell p0;replace p2:=hb2.cell p2;replace p3:=hb2.cell p3;replace p4:=hb2.cell p4;have B2:=B1.then hb2;go_wp2_with fail;refine (CV.out _ B2).mono ?_;rintro e' w3 ⟨rfl,hb3⟩;go_wp2;go_ret;exact Ret.str (HF.out.symm) (B2.then hb3)
theorem sV (w:World) (x:eB) (v u:Value) (h:Rd XA w x.list [v]) (h':Rd RB w x.pairs [u]) :
  Calls Tryz.prog 143 #[.agg #[.int .i64 x.kind,.int .i64 x.field,.int .i64 x.value,v,u]] w (Ret w (.string (JA x))):=by
 rcases Bool.eq_false_or_eq_true (gB x) with hI | hI
 ·have hk:=vF hI;rcases (show x.kind=0∨x.kind=1∨x.kind=2∨x.kind=3∨x.kind=4 by omega) with h0 | h0 | h0 | h0 | h0
  ·rw [h0];exact sT w x v u h h' hI h0
  ·rw [h0];exact tT w x v u h h' hI h0
  ·rw [h0];exact vT w x v u h h' hI h0
  ·rw [h0];exact wT w x v u h h' hI h0
  ·rw [h0];exact xT w x v u h h' hI h0
 ·rw [show JA x=⟨#[]⟩ by rw [JA,hI];rfl];exact wQ w x v u h h' hI
end Go.Proofs.YtpihighajaeabaaGreat
namespace Go.Proofs.YtpihighajaeabaaGreat
open Go.RowKit
set_option linter.unusedVariables false
set_option linter.unusedSimpArgs false
def vE (k:Int):ByteArray:=if k=1 then ⟨#[97,110,100]⟩ else if k=2 then ⟨#[116,104,101,110]⟩ else if k=3 then ⟨#[110,111,116]⟩ else if k=4 then ⟨#[98,111,116,104]⟩ else ⟨#[]⟩
def oC (n:kA):ByteArray:=if n.op=0 then JA n.wish else vE n.op
def QB (e:List kA):List ByteArray:=e.map oC
def JB (e:List kA):ByteArray:=if bB e then mE (QB e) ⟨#[59,32]⟩ else ⟨#[]⟩
theorem PP (k:Int):(vE k).size≤4:=by
 unfold vE;repeat' split
 all_goals (show _≤_;decide)
theorem yT (x:eB):(JA x).size≤430:=by
 unfold JA
 split
 ·rename_i h
  have h1:=(XD h).2;have es:(⟨#[32]⟩:ByteArray).size=1:=rfl;have hv:=(OA (iB (n:=x.value) (by have:=gC h;omega))).2;have hl:=mJ h;have hp:=cH x.pairs
  repeat' split
  all_goals (repeat rw [cA]);omega
 ·show 0≤430;omega
theorem AM (n:kA):(oC n).size≤430:=by
 unfold oC
 split
 ·exact yT _
 ·have:=PP n.op;omega
theorem jL:∀(e:List kA),TD ⟨#[59,32]⟩ (QB e)≤432*e.length
 | []=>by simp [QB,TD,NH]
 | n::e=>by
  have h1:=AM n;have h2:=jL e;have e1:TD ⟨#[59,32]⟩ (QB (n::e))=(oC n).size+2+TD ⟨#[59,32]⟩ (QB e):=rfl;rw [e1,List.length_cons];omega
theorem zT {l:List kA} {k:Nat} {x:kA} (h:l[k]? = some x):QB (l.take (k+1))=QB (l.take k)++[oC x]:=by
 unfold QB;rw [List.take_add_one,h];simp
theorem lU:∀ {e:List kA} {d r:Int},KB e d=some r→∀n∈e,0≤n.op∧n.op≤4
 | [],_,_,_,n,hn=>by simp at hn
 | m::e,d,r,h,n,hn=>by
  rw [KB] at h
  split at h
  ·rename_i hk
   rcases List.mem_cons.1 hn with h1 | h1
   ·subst h1;unfold LC at hk;rw [Bool.and_eq_true] at hk;exact qC.1 hk.1
   ·exact lU h n h1
  ·cases h
theorem kL {e:List kA} (h:bB e=true):e.length≤9∧∀n∈e,0≤n.op∧n.op≤4:=by
 unfold bB at h;rw [Bool.and_eq_true,decide_eq_true_eq,decide_eq_true_eq] at h;exact ⟨h.2,lU h.1⟩
set_option maxRecDepth 100000 in
set_option maxHeartbeats 6400000 in
theorem wG (w:World) (e:List kA) (v:Value) (h:Rd RA w e [v]):Calls Tryz.prog 136 #[v] w (Ret w (.string (JB e))):=by
 obtain ⟨i0,hi,hz0,hz1,hz2⟩:=info_parts UK;obtain ⟨T,hT⟩:∃T,T=JB e:=⟨_,rfl⟩;rw [← hT];have HT:=Lib.hid hT;clear hT;obtain ⟨A,n,c,rfl,L0,Lc,Lm⟩:=iA h;unfold maxLen at Lm;have L:=Lib.hid L0;clear L0;go_enter Tryz.func136,Tryz.ntmps136;go_wp2_with fail;refine (ZG _ e _ h).mono ?_;rintro e w1 ⟨rfl,hb1⟩;rcases Bool.eq_false_or_eq_true (bB e) with e1 | e1
 ·have E1:=Lib.hid e1;rw [e1];clear e1;have n9:n≤9:=by rw [L.out];exact (kL E1.out).1
  have HM:=Lib.hid (kL E1.out).2;have HF:=Lib.hid (show T=mE (QB e) ⟨#[59,32]⟩ by rw [HT.out,JB,if_pos E1.out]);have hv0:=PA (e:=9) (sz:=1) (R:=KW) w1;have hs:=hb1.size;have hB0:=hb1.alloc (.cells #[] 9);have HH:=Lib.hid h;clear HT h;go_wp2
  go_loopg [3,12] n (fun g s i w'=>∃(k:Nat) (F:List Nat),k≤n∧g=n-k∧i=.int .i64 k∧GK w' (QB (e.take k)) [s] F∧pA w.heap.size F∧Bw w w')
  case atStart=>exact ⟨0,_,by omega,rfl,rfl,hv0,⟨by simp,by simpa using hs⟩,hB0⟩
  case round=>
   clear hv0 hB0;obtain ⟨k,F,hk,rfl,rfl,hv,hF,hb⟩:=hrel;have h:=HH.out;by_cases hlt:k<n
   ·obtain ⟨x,hx⟩:=rA (xs:=e) (k:=k) (by have:=L.out;omega);obtain ⟨ba,oa,Al,cl,Ap,cp,rfl,_,d0,d1,d2,d3,d4,d5,hi1,hi2⟩:=bE h hx;replace d0:=hb.cell d0;replace d1:=hb.cell d1;replace d2:=hb.cell d2;replace d3:=hb.cell d3;replace d4:=hb.cell d4;replace d5:=hb.cell d5;have i1:(0:Int)≤(k:Int):=by omega
    have i2:(k:Int)<(n:Int):=by omega
    have hop:=HM.out x (List.mem_of_getElem? hx);have HS:=Lib.hid (zT hx);have HLEN:=Lib.hid (show (QB (e.take k)).length≤9 by unfold QB;rw [List.length_map,List.length_take];omega);obtain ⟨N1,hN1⟩:∃N1,N1=x.wish.list.length:=⟨_,rfl⟩;obtain ⟨N2,hN2⟩:∃N2,N2=x.wish.pairs.length:=⟨_,rfl⟩;rw [← hN1] at d4 hi1;rw [← hN2] at d5 hi2;obtain ⟨o,ho⟩:∃o,o=x.op:=⟨_,rfl⟩;rw [← ho] at d0 hop;obtain ⟨W,hW⟩:∃W,W=wr.alloc (.cells #[.int .i64 o,.int .i64 x.wish.kind,.int .i64 x.wish.field,.int .i64 x.wish.value,.slice Al N1 cl,.slice Ap N2 cp] 111):=⟨_,rfl⟩;have D1:Bw wr W:=by rw [hW];exact (Bw.refl wr).alloc _
    have hbd:=hb.then D1;have hvd:=(kB (B:=w.heap.size)).bw D1 hb.size hv;have cw:=fun W2 (B:Bw W W2)=>OF W2 x.wish _ _ (Rd.bw dA hi1 (hbd.then B)) (Rd.bw DA hi2 (hbd.then B))
    have HWI:=Lib.hid (show o=0→oC x=JA x.wish from fun h0=>by rw [oC,← ho,if_pos h0]);have HWO:=Lib.hid (show ¬o=0→oC x=vE o from fun h0=>by rw [oC,← ho,if_neg h0]);obtain ⟨V,hV⟩:∃V,V=JA x.wish:=⟨_,rfl⟩;rw [← hV] at HWI;simp only [← hV] at cw;have CW:=Lib.hid cw;have HW:=Lib.hid hW;have HWS:=Lib.hid (show wr.heap.size+1=W.heap.size by rw [hW];simp);clear hx hi1 hi2 hN1 hN2 ho hV cw hW hv h;by_cases h0:o=0
    ·have HTX:=Lib.hid (HWI.out h0);subst h0;clear HWI HWO hop;go_wp2_with fail;rw [← HW.out];refine (CW.out _ (Bw.refl W)).mono ?_;rintro e' w5 ⟨rfl,hb5⟩;have hbb:=hbd.then hb5;have hv5:=(kB (B:=w.heap.size)).bw hb5 hbd.size hvd;have hFm:=(kB (B:=0)).lt hv5;have hvW:=(kB (B:=w.heap.size)).bw ((Bw.refl w5).alloc (.cells #[.string V] 9)) hbb.size hv5;have hbW:=hbb.alloc (.cells #[.string V] 9);have hcl:=cell_one_new w5 (.string V) 9;have hbs:=hbb.size;clear hv5 hvd CW;go_wp2_with (at_builtin;refine rB _ rfl (.tmp 19) (.tmp 23) 58 rfl w 9 i0 _ 1 16 Tryz.underlying58 hi hz0 hz1 hz2 rfl (by omega) FE _ (QB (e.take k)) F rfl hvW hF ⟨w5.heap.size,0,none⟩ 1 rfl V [.string V] [] hcl ⟨rfl,rfl⟩ rfl w5.heap.size hFm pA.nil hbs (by have:=HLEN.out;omega) (by have:=HLEN.out;omega) hbW ?_;intro v' w' F' hv' hF' hb')
     go_roundg (n-(k+1))
     case measure=>omega
     case rel=>exact ⟨k+1,F',by omega,rfl,by go_num,by rw [HS.out,HTX.out];exact hv',hF',hb'⟩
    ·have HTX:=Lib.hid (HWO.out h0);clear HWI HWO CW;rcases (show o=1∨o=2∨o=3∨o=4 by omega) with h1 | h1 | h1 | h1
     ·subst h1;clear h0 hop;have hA1:Bw W (W.alloc (.cells #[.string ⟨#[97,110,100]⟩,.string ⟨#[116,104,101,110]⟩,.string ⟨#[110,111,116]⟩,.string ⟨#[98,111,116,104]⟩] 9)):=(Bw.refl W).alloc _;have hbb:=hbd.then hA1;have hv5:=(kB (B:=w.heap.size)).bw hA1 hbd.size hvd;have hFm:=(kB (B:=0)).lt hv5;have hA2:=(Bw.refl (W.alloc (.cells #[.string ⟨#[97,110,100]⟩,.string ⟨#[116,104,101,110]⟩,.string ⟨#[110,111,116]⟩,.string ⟨#[98,111,116,104]⟩] 9))).alloc (.cells #[.string ⟨#[97,110,100]⟩] 9);have hvW:=(kB (B:=w.heap.size)).bw hA2 hbb.size hv5;have hbW:=hbb.then hA2;have hcl:=cell_one_new (W.alloc (.cells #[.string ⟨#[97,110,100]⟩,.string ⟨#[116,104,101,110]⟩,.string ⟨#[110,111,116]⟩,.string ⟨#[98,111,116,104]⟩] 9)) (.string ⟨#[97,110,100]⟩) 9;have hbs:=hbb.size;have HWW:=Lib.hid (show vE 1=⟨#[97,110,100]⟩ from rfl);clear hv5 hvd;go_wp2_with (at_builtin;(try rw [← HW.out]);refine rB _ rfl (.tmp 25) (.tmp 32) 58 rfl w 9 i0 _ 1 16 Tryz.underlying58 hi hz0 hz1 hz2 rfl (by omega) FE _ (QB (e.take k)) F rfl hvW hF ⟨(W.alloc (.cells #[.string ⟨#[97,110,100]⟩,.string ⟨#[116,104,101,110]⟩,.string ⟨#[110,111,116]⟩,.string ⟨#[98,111,116,104]⟩] 9)).heap.size,0,none⟩ 1 (by first | rfl | (go_simp;exact HWS.out)) ⟨#[97,110,100]⟩ [.string ⟨#[97,110,100]⟩] [] hcl ⟨rfl,rfl⟩ rfl _ hFm pA.nil hbs (by have:=HLEN.out;omega) (by have:=HLEN.out;omega) hbW ?_;intro v' w' F' hv' hF' hb')
      go_roundg (n-(k+1))
      case measure=>omega
      case rel=>exact ⟨k+1,F',by omega,rfl,by go_num,by rw [HS.out,HTX.out,HWW.out];exact hv',hF',hb'⟩
     ·subst h1;clear h0 hop;have hA1:Bw W (W.alloc (.cells #[.string ⟨#[97,110,100]⟩,.string ⟨#[116,104,101,110]⟩,.string ⟨#[110,111,116]⟩,.string ⟨#[98,111,116,104]⟩] 9)):=(Bw.refl W).alloc _;have hbb:=hbd.then hA1;have hv5:=(kB (B:=w.heap.size)).bw hA1 hbd.size hvd;have hFm:=(kB (B:=0)).lt hv5;have hA2:=(Bw.refl (W.alloc (.cells #[.string ⟨#[97,110,100]⟩,.string ⟨#[116,104,101,110]⟩,.string ⟨#[110,111,116]⟩,.string ⟨#[98,111,116,104]⟩] 9))).alloc (.cells #[.string ⟨#[116,104,101,110]⟩] 9);have hvW:=(kB (B:=w.heap.size)).bw hA2 hbb.size hv5;have hbW:=hbb.then hA2;have hcl:=cell_one_new (W.alloc (.cells #[.string ⟨#[97,110,100]⟩,.string ⟨#[116,104,101,110]⟩,.string ⟨#[110,111,116]⟩,.string ⟨#[98,111,116,104]⟩] 9)) (.string ⟨#[116,104,101,110]⟩) 9;have hbs:=hbb.size;have HWW:=Lib.hid (show vE 2=⟨#[116,104,101,110]⟩ from rfl);clear hv5 hvd;go_wp2_with (at_builtin;(try rw [← HW.out]);refine rB _ rfl (.tmp 25) (.tmp 32) 58 rfl w 9 i0 _ 1 16 Tryz.underlying58 hi hz0 hz1 hz2 rfl (by omega) FE _ (QB (e.take k)) F rfl hvW hF ⟨(W.alloc (.cells #[.string ⟨#[97,110,100]⟩,.string ⟨#[116,104,101,110]⟩,.string ⟨#[110,111,116]⟩,.string ⟨#[98,111,116,104]⟩] 9)).heap.size,0,none⟩ 1 (by first | rfl | (go_simp;exact HWS.out)) ⟨#[116,104,101,110]⟩ [.string ⟨#[116,104,101,110]⟩] [] hcl ⟨rfl,rfl⟩ rfl _ hFm pA.nil hbs (by have:=HLEN.out;omega) (by have:=HLEN.out;omega) hbW ?_;intro v' w' F' hv' hF' hb')
      go_roundg (n-(k+1))
      case measure=>omega
      case rel=>exact ⟨k+1,F',by omega,rfl,by go_num,by rw [HS.out,HTX.out,HWW.out];exact hv',hF',hb'⟩
     ·subst h1;clear h0 hop;have hA1:Bw W (W.alloc (.cells #[.string ⟨#[97,110,100]⟩,.string ⟨#[116,104,101,110]⟩,.string ⟨#[110,111,116]⟩,.string ⟨#[98,111,116,104]⟩] 9)):=(Bw.refl W).alloc _;have hbb:=hbd.then hA1;have hv5:=(kB (B:=w.heap.size)).bw hA1 hbd.size hvd;have hFm:=(kB (B:=0)).lt hv5;have hA2:=(Bw.refl (W.alloc (.cells #[.string ⟨#[97,110,100]⟩,.string ⟨#[116,104,101,110]⟩,.string ⟨#[110,111,116]⟩,.string ⟨#[98,111,116,104]⟩] 9))).alloc (.cells #[.string ⟨#[110,111,116]⟩] 9);have hvW:=(kB (B:=w.heap.size)).bw hA2 hbb.size hv5;have hbW:=hbb.then hA2;have hcl:=cell_one_new (W.alloc (.cells #[.string ⟨#[97,110,100]⟩,.string ⟨#[116,104,101,110]⟩,.string ⟨#[110,111,116]⟩,.string ⟨#[98,111,116,104]⟩] 9)) (.string ⟨#[110,111,116]⟩) 9;have hbs:=hbb.size;have HWW:=Lib.hid (show vE 3=⟨#[110,111,116]⟩ from rfl);clear hv5 hvd;go_wp2_with (at_builtin;(try rw [← HW.out]);refine rB _ rfl (.tmp 25) (.tmp 32) 58 rfl w 9 i0 _ 1 16 Tryz.underlying58 hi hz0 hz1 hz2 rfl (by omega) FE _ (QB (e.take k)) F rfl hvW hF ⟨(W.alloc (.cells #[.string ⟨#[97,110,100]⟩,.string ⟨#[116,104,101,110]⟩,.string ⟨#[110,111,116]⟩,.string ⟨#[98,111,116,104]⟩] 9)).heap.size,0,none⟩ 1 (by first | rfl | (go_simp;exact HWS.out)) ⟨#[110,111,116]⟩ [.string ⟨#[110,111,116]⟩] [] hcl ⟨rfl,rfl⟩ rfl _ hFm pA.nil hbs (by have:=HLEN.out;omega) (by have:=HLEN.out;omega) hbW ?_;intro v' w' F' hv' hF' hb')
      go_roundg (n-(k+1))
      case measure=>omega
      case rel=>exact ⟨k+1,F',by omega,rfl,by go_num,by rw [HS.out,HTX.out,HWW.out];exact hv',hF',hb'⟩
     ·subst h1;clear h0 hop;have hA1:Bw W (W.alloc (.cells #[.string ⟨#[97,110,100]⟩,.string ⟨#[116,104,101,110]⟩,.string ⟨#[110,111,116]⟩,.string ⟨#[98,111,116,104]⟩] 9)):=(Bw.refl W).alloc _;have hbb:=hbd.then hA1;have hv5:=(kB (B:=w.heap.size)).bw hA1 hbd.size hvd;have hFm:=(kB (B:=0)).lt hv5;have hA2:=(Bw.refl (W.alloc (.cells #[.string ⟨#[97,110,100]⟩,.string ⟨#[116,104,101,110]⟩,.string ⟨#[110,111,116]⟩,.string ⟨#[98,111,116,104]⟩] 9))).alloc (.cells #[.string ⟨#[98,111,116,104]⟩] 9);have hvW:=(kB (B:=w.heap.size)).bw hA2 hbb.size hv5;have hbW:=hbb.then hA2;have hcl:=cell_one_new (W.alloc (.cells #[.string ⟨#[97,110,100]⟩,.string ⟨#[116,104,101,110]⟩,.string ⟨#[110,111,116]⟩,.string ⟨#[98,111,116,104]⟩] 9)) (.string ⟨#[98,111,116,104]⟩) 9;have hbs:=hbb.size;have HWW:=Lib.hid (show vE 4=⟨#[98,111,116,104]⟩ from rfl);clear hv5 hvd;go_wp2_with (at_builtin;(try rw [← HW.out]);refine rB _ rfl (.tmp 25) (.tmp 32) 58 rfl w 9 i0 _ 1 16 Tryz.underlying58 hi hz0 hz1 hz2 rfl (by omega) FE _ (QB (e.take k)) F rfl hvW hF ⟨(W.alloc (.cells #[.string ⟨#[97,110,100]⟩,.string ⟨#[116,104,101,110]⟩,.string ⟨#[110,111,116]⟩,.string ⟨#[98,111,116,104]⟩] 9)).heap.size,0,none⟩ 1 (by first | rfl | (go_simp;exact HWS.out)) ⟨#[98,111,116,104]⟩ [.string ⟨#[98,111,116,104]⟩] [] hcl ⟨rfl,rfl⟩ rfl _ hFm pA.nil hbs (by have:=HLEN.out;omega) (by have:=HLEN.out;omega) hbW ?_;intro v' w' F' hv' hF' hb')
      go_roundg (n-(k+1))
      case measure=>omega
      case rel=>exact ⟨k+1,F',by omega,rfl,by go_num,by rw [HS.out,HTX.out,HWW.out];exact hv',hF',hb'⟩
   ·obtain rfl:k=n:=by omega
    rw [List.take_of_length_le (by rw [← L.out];exact Nat.le_refl _)] at hv;have hsz:=jL e;rw [← L.out] at hsz;go_wp2_with fail;refine (FQ _ (QB e) ⟨#[59,32]⟩ _ (PD hv) (by omega) (by show 2≤1024;omega)).mono ?_;rintro e' w3 ⟨rfl,hb3⟩;go_wp2;go_ret;exact Ret.str (by rw [HF.out]) (hb.then hb3)
 ·have HF:=Lib.hid (show T=⟨#[]⟩ by rw [HT.out,JB,e1];rfl);rw [e1];clear e1;go_wp2;go_ret;exact Ret.str (by rw [HF.out]) (hb1)
set_option maxHeartbeats 400000 in
theorem fA4 (w:World) (k:Int) (h:1≤k∧k≤4):Calls Tryz.prog 144 #[.int .i64 k] w (Ret w (.string (vE k))):=by
 rcases (show k=1∨k=2∨k=3∨k=4 by omega) with rfl | rfl | rfl | rfl
 all_goals
  clear h;go_enter Tryz.func144,Tryz.ntmps144;go_wp2;go_ret;exact Ret.str rfl (Bw.refl _)
set_option maxRecDepth 100000 in
set_option maxHeartbeats 6400000 in
theorem YM (w:World) (e:List kA) (v:Value) (h:Rd RA w e [v]):Calls Tryz.prog 61 #[v] w (Ret w (.string (JB e))):=by
 obtain ⟨T,hT⟩:∃T,T=JB e:=⟨_,rfl⟩;rw [← hT];have HT:=Lib.hid hT;clear hT;obtain ⟨A,n,c,rfl,L0,Lc,Lm⟩:=iA h;unfold maxLen at Lm;have L:=Lib.hid L0;clear L0;go_enter Tryz.func61,Tryz.ntmps61;go_wp2_with fail;refine (NI _ e _ h).mono ?_;rintro e w1 ⟨rfl,hb1⟩;rcases Bool.eq_false_or_eq_true (bB e) with e1 | e1
 ·have E1:=Lib.hid e1;rw [e1];clear e1;have n9:n≤9:=by rw [L.out];exact (kL E1.out).1
  have HM:=Lib.hid (kL E1.out).2;have HF:=Lib.hid (show T=mE (QB e) ⟨#[59,32]⟩ by rw [HT.out,JB,if_pos E1.out]);have HH:=Lib.hid h;clear HT h;go_wp2
  go_loopg [3,4] n (fun g s i w'=>∃(k:Nat) (acc:ByteArray),k≤n∧g=n-k∧i=.int .i64 k∧s=.string acc∧Hid (mE (QB e) ⟨#[59,32]⟩=gl ⟨#[59,32]⟩ k acc ((QB e).drop k))∧acc.size≤432*k∧Bw w w')
  case atStart=>exact ⟨0,_,by omega,rfl,rfl,rfl,rfl,Nat.zero_le _,hb1⟩
  case round=>
   clear hb1;obtain ⟨k,acc,hk,rfl,rfl,rfl,HE,g1,hb⟩:=hrel;have h:=HH.out;by_cases hlt:k<n
   ·obtain ⟨x,hx⟩:=rA (xs:=e) (k:=k) (by have:=L.out;omega);obtain ⟨ba,oa,Al,cl,Ap,cp,rfl,_,d0,d1,d2,d3,d4,d5,hi1,hi2⟩:=bE h hx;replace d0:=hb.cell d0;replace d1:=hb.cell d1;replace d2:=hb.cell d2;replace d3:=hb.cell d3;replace d4:=hb.cell d4;replace d5:=hb.cell d5;have i1:(0:Int)≤(k:Int):=by omega
    have i2:(k:Int)<(n:Int):=by omega
    have hop:=HM.out x (List.mem_of_getElem? hx);have hz:=AM x;have HS:=Lib.hid (kV (sep:=⟨#[59,32]⟩) (acc:=acc) (l:=QB e) (k:=k) (t:=oC x) (by unfold QB;rw [List.getElem?_map,hx];rfl));obtain ⟨N1,hN1⟩:∃N1,N1=x.wish.list.length:=⟨_,rfl⟩;obtain ⟨N2,hN2⟩:∃N2,N2=x.wish.pairs.length:=⟨_,rfl⟩;rw [← hN1] at d4 hi1;rw [← hN2] at d5 hi2;obtain ⟨o,ho⟩:∃o,o=x.op:=⟨_,rfl⟩;rw [← ho] at d0 hop;obtain ⟨B,hBt⟩:∃B,B=(if 0<k then acc++⟨#[59,32]⟩ else acc):=⟨_,rfl⟩;obtain ⟨V,hV⟩:∃V,V=oC x:=⟨_,rfl⟩;have ec:(⟨#[59,32]⟩:ByteArray).size=2:=rfl;have hBs:B.size≤432*k+2:=by rw [hBt];split;(rw [cA];omega);omega
    have cw:o=0→∀W2,Bw wr W2→Calls Tryz.prog 143 #[.agg #[.int .i64 x.wish.kind,.int .i64 x.wish.field,.int .i64 x.wish.value,.slice Al N1 cl,.slice Ap N2 cp]] W2 (Ret W2 (.string V)):=fun h0 W2 B2=>by
     rw [hV,oC,← ho,if_pos h0];exact sV W2 x.wish _ _ (Rd.bw dA hi1 (hb.then B2)) (Rd.bw DA hi2 (hb.then B2))
    have co:¬o=0→∀W2,Calls Tryz.prog 144 #[.int .i64 o] W2 (Ret W2 (.string V)):=fun h0 W2=>by
     rw [hV,oC,← ho,if_neg h0];exact fA4 W2 o (by omega)
    rw [← hV] at hz HS;have b0:∀W,(Op.stringOp .add acc ⟨#[59,32]⟩).run Tryz.prog W=.ok (.string (acc++⟨#[59,32]⟩)) W:=EB (by omega);have b1:∀W,(Op.stringOp .add B V).run Tryz.prog W=.ok (.string (B++V)) W:=EB (by omega);have HN:=Lib.hid (show gl ⟨#[59,32]⟩ k acc ((QB e).drop k)=gl ⟨#[59,32]⟩ (k+1) (B++V) ((QB e).drop (k+1)) by rw [HS.out,hBt]);have hNs:(B++V).size≤432*(k+1):=by rw [cA];omega
    have CW:=Lib.hid cw;have CO:=Lib.hid co;clear hx hi1 hi2 hN1 hN2 ho hV cw co ec hBs g1 hz HS h hop;by_cases hk0:0<k
    ·have k0:(0:Int)<(k:Int):=by omega
     rw [if_pos hk0] at hBt;subst hBt;clear hk0;by_cases h0:o=0
     ·have C:=Lib.hid (CW.out h0);subst h0;clear CW CO;go_wp2_with fail;refine (C.out _ (Bw.refl wr)).mono ?_;rintro e' w5 ⟨rfl,hb5⟩;have h:=HH.out;have hbz:=hb.then hb5;go_wp2
      go_roundg (n-(k+1))
      case measure=>omega
      case rel=>exact ⟨k+1,_,by omega,rfl,by go_num,rfl,by show _=_;rw [HE.out,HN.out],hNs,hbz⟩
     ·have C:=Lib.hid (CO.out h0);have f0:(o==0)=false:=by simpa using h0
      clear CW CO h0;go_wp2_with fail;refine (C.out _).mono ?_;rintro e' w5 ⟨rfl,hb5⟩;have h:=HH.out;have hbz:=hb.then hb5;go_wp2
      go_roundg (n-(k+1))
      case measure=>omega
      case rel=>exact ⟨k+1,_,by omega,rfl,by go_num,rfl,by show _=_;rw [HE.out,HN.out],hNs,hbz⟩
    ·have k0:¬(0:Int)<(k:Int):=by omega
     rw [if_neg hk0] at hBt;subst hBt;clear hk0;by_cases h0:o=0
     ·have C:=Lib.hid (CW.out h0);subst h0;clear CW CO;go_wp2_with fail;refine (C.out _ (Bw.refl wr)).mono ?_;rintro e' w5 ⟨rfl,hb5⟩;have h:=HH.out;have hbz:=hb.then hb5;go_wp2
      go_roundg (n-(k+1))
      case measure=>omega
      case rel=>exact ⟨k+1,_,by omega,rfl,by go_num,rfl,by show _=_;rw [HE.out,HN.out],hNs,hbz⟩
     ·have C:=Lib.hid (CO.out h0);have f0:(o==0)=false:=by simpa using h0
      clear CW CO h0;go_wp2_with fail;refine (C.out _).mono ?_;rintro e' w5 ⟨rfl,hb5⟩;have h:=HH.out;have hbz:=hb.then hb5;go_wp2
      go_roundg (n-(k+1))
      case measure=>omega
      case rel=>exact ⟨k+1,_,by omega,rfl,by go_num,rfl,by show _=_;rw [HE.out,HN.out],hNs,hbz⟩
   ·obtain rfl:k=n:=by omega
    have HA:=Lib.hid (show T=acc by rw [HF.out,HE.out,List.drop_of_length_le (by unfold QB;rw [List.length_map,← L.out];exact Nat.le_refl _)];rfl);clear HE g1;go_wp2;go_ret;exact Ret.str (by rw [HA.out]) (hb)
 ·have HF:=Lib.hid (show T=⟨#[]⟩ by rw [HT.out,JB,e1];rfl);rw [e1];clear e1;go_wp2;go_ret;exact Ret.str (by rw [HF.out]) (hb1)
end Go.Proofs.YtpihighajaeabaaGreat
