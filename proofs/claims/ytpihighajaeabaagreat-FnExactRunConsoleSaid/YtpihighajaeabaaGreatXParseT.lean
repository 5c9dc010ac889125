/- Texts that are read as items, pairs, wishes and expressions: what is computed, in plain Lean. -/
import Derived.Test.YtpihighajaeabaaGreatXFmtP
import Derived.Test.YtpihighajaeabaaGreatXExpl
import Derived.Test.YtpihighajaeabaaGreatXWishI
import Derived.Test.YtpihighajaeabaaGreatXWishS
namespace Go.Proofs.YtpihighajaeabaaGreat
open Go.RowKit Go.Proofs.Tryz
set_option linter.all false
set_option maxRecDepth 100000
set_option maxHeartbeats 16000000
def PB (k:Int):ByteArray:=if k=0 then ⟨#[108,111,119]⟩ else if k=1 then ⟨#[104,105,103,104]⟩ else if k=2 then ⟨#[110,101,97,114]⟩ else if k=3 then ⟨#[97,109,111,110,103]⟩ else ⟨#[111,114,100,101,114]⟩
def bE (x:AB):ByteArray:=PB x.kind++⟨#[32,102]⟩++QA x.field
def tB (x:AB):ByteArray:=
 if DB x then (if x.kind=2 then bE x++⟨#[32]⟩++QA x.value else if x.kind=3 then bE x++⟨#[32]⟩++GC x.list ⟨#[44]⟩ else if x.kind=4 then bE x++⟨#[32]⟩++UB x.pairs else bE x) else ⟨#[]⟩
theorem qL (k:Int):1<=(PB k).size/\(PB k).size<=5:=by
 unfold PB;repeat' split
 all_goals (constructor<;>(show _<=_;decide))
theorem kM {x:AB} (h:DB x=true):∀v∈x.list,(Lit.int .i64 v).wf=true:=fun v hv=>by
 unfold DB at h;simp only [Bool.and_eq_true] at h;exact bH (cL h.2.2.2.1 hv)
theorem cAk:∀ {l:List Int} {p:Int},VC (some p) l=true->p<=9->(l.length:Int)<=9-p
 | [],p,_,h=>by simp;omega
 | v::l,p,h,hp=>by
  simp only [VC,Bool.and_eq_true,decide_eq_true_eq] at h;have hv:=pD.1 h.1.1;have:=cAk h.2 hv.2;simp only [List.length_cons];omega
theorem rL {x:AB} (h:DB x=true):x.list.length<=10:=by
 unfold DB at h;simp only [Bool.and_eq_true] at h;have ha:=h.2.2.2.1
 match hl:x.list,ha with
 | [],_=>simp
 | v::l,ha=>
  simp only [VC,Bool.and_eq_true] at ha;have hv:=pD.1 ha.1;have:=cAk ha.2 hv.2;simp only [List.length_cons];omega
theorem fP {x:AB} (h:DB x=true):1<=(bE x).size/\(bE x).size<=27:=by
 have h1:=(mB (bC (n:=x.field) (by have:=NF h;omega))).2;have h2:=qL x.kind;unfold bE;rw [lA,lA];have e:(⟨#[32,102]⟩:ByteArray).size=2:=rfl;omega
theorem ST {x:AB} (h:DB x=true):(GC x.list ⟨#[44]⟩).size<=210:=by
 have h1:=OF ⟨#[44]⟩ (kM h);have h2:=rL h;have e:(⟨#[44]⟩:ByteArray).size=1:=rfl;rw [e] at h1;omega
theorem gP {P:Program} {md:Region.Mode} {ops:Array Oper} {Q:Exit->Act->World->Prop} {S S':World->Prop} (hSS:∀w,S' w->S w):∀(fuel:Nat) (listed:Array Bool) (a:Act) (w:World),wpAnyH P md ops Q S' fuel listed a w->wpAnyH P md ops Q S fuel listed a w
 | 0,_,_,_,h=>h
 | fuel+1,listed,a,w,h=>⟨h.1,fun i hi=>wpOp_mono (fun a' w' h2=>⟨hSS w' h2.1,gP hSS fuel _ a' w' h2.2⟩) (h.2 i hi)⟩
def sE (x:AB):ByteArray:=if x.kind=2 then QA x.value else if x.kind=3 then GC x.list ⟨#[44]⟩ else UB x.pairs
theorem iP {x:AB} (h:DB x=true):(sE x).size<=400:=by
 unfold sE
 split
 ·have:=(mB (bC (n:=x.value) (by have:=aF h;omega))).2;omega
 ·split
  ·have:=ST h;omega
  ·exact mN x.pairs
theorem XQ {x:AB} (h:DB x=true) (hk:x.kind<2):tB x=bE x:=by
 rw [tB,if_pos h,if_neg (by omega),if_neg (by omega),if_neg (by omega)]
theorem jP {x:AB} (h:DB x=true) (hk:2<=x.kind):tB x=bE x++⟨#[32]⟩++sE x:=by
 have:=ZG h;rw [tB,if_pos h,sE];rcases (show x.kind=2\/x.kind=3\/x.kind=4 by omega) with e | e | e<;>rw [e]<;>rfl
theorem TV {x:AB} (h:DB x=true):(x.kind=0/\PB x.kind=⟨#[108,111,119]⟩)\/(x.kind=1/\PB x.kind=⟨#[104,105,103,104]⟩)\/(x.kind=2/\PB x.kind=⟨#[110,101,97,114]⟩)\/(x.kind=3/\PB x.kind=⟨#[97,109,111,110,103]⟩)\/(x.kind=4/\PB x.kind=⟨#[111,114,100,101,114]⟩):=by
 have:=ZG h;rcases (show x.kind=0\/x.kind=1\/x.kind=2\/x.kind=3\/x.kind=4 by omega) with e | e | e | e | e<;>rw [e]<;>simp [PB]
theorem oAa {P:Program} {ops:Array Oper} {Q:Exit->Act->World->Prop} {id:Nat} {a:Act} {w:World} {p q:Addr} {u v:Value} (hm:P.follows .mixedOrders=true) (hp:w.drew.cell? p=some u) (hq:w.drew.cell? q=some v)
  (h:(w.drew.cell? p=some u/\w.drew.cell? q=some v)->wpAnyH P .any ops Q (fun w'=>w'.cell? p=some u/\w'.cell? q=some v) ops.size (Array.replicate ops.size false) a w.drew):(Code.region id ops true).wp P Q a w:=
 wp_region_held_drew (S:=fun w'=>w'.cell? p=some u/\w'.cell? q=some v) hm ⟨hp,hq⟩ h
theorem nAz {P:Program} {md:Region.Mode} {ops:Array Oper} {Q:Exit->Act->World->Prop} {S:World->Prop} {fuel:Nat} {listed:Array Bool} {a:Act} {w:World} {b:Nat} {v0 v1 v2 v3 v4:Value} (hS:S w) (y:C5 w b v0 v1 v2 v3 v4)
  (h:S w/\w.cell? ⟨b,0,none⟩=some v0/\w.cell? ⟨b,1,none⟩=some v1/\w.cell? ⟨b,2,none⟩=some v2/\w.cell? ⟨b,3,none⟩=some v3/\w.cell? ⟨b,4,none⟩=some v4->wpAnyH P md ops Q (fun W=>S W/\W.cell? ⟨b,0,none⟩=some v0/\W.cell? ⟨b,1,none⟩=some v1/\W.cell? ⟨b,2,none⟩=some v2/\W.cell? ⟨b,3,none⟩=some v3/\W.cell? ⟨b,4,none⟩=some v4) fuel listed a w):wpAnyH P md ops Q S fuel listed a w:=
 gP (fun _ h=>h.1) _ _ _ _ (h ⟨hS,y⟩)
theorem Bw.a5 {w W:World} {t:TypeId} {v0 v1 v2 v3 v4:Value} (h:Bw (w.alloc (.cells #[v0,v1,v2,v3,v4] t)) W):C5 W w.heap.size v0 v1 v2 v3 v4:=h.c5 (by unfold C5;go_simp)
theorem cAl (w:World):∃W,W=w.alloc (.cells #[.string ⟨#[108,111,119]⟩,.string ⟨#[104,105,103,104]⟩,.string ⟨#[110,101,97,114]⟩,.string ⟨#[97,109,111,110,103]⟩,.string ⟨#[111,114,100,101,114]⟩] 9)/\Bw w W/\C5 W w.heap.size (.string ⟨#[108,111,119]⟩) (.string ⟨#[104,105,103,104]⟩) (.string ⟨#[110,101,97,114]⟩) (.string ⟨#[97,109,111,110,103]⟩) (.string ⟨#[111,114,100,101,114]⟩):=
 ⟨_,rfl,(Bw.refl w).alloc _,(Bw.refl _).a5⟩
theorem GU (w:World) (x:AB) (v u:Value) (h:Rd aB w x.list [v]) (h':Rd MC w x.pairs [u]) (hI:DB x=false) :
  Calls prog 187 #[.agg #[.int .i64 x.kind,.int .i64 x.field,.int .i64 x.value,v,u]] w (Ret w (.string ⟨#[]⟩)):=by
 have B0:Bw w (w.alloc (.cells #[.int .i64 x.kind,.int .i64 x.field,.int .i64 x.value,v,u] 109)):=(Bw.refl w).alloc _;have c1:=FL _ x v u (h.bw dA B0) (h'.bw RA B0);rw [hI] at c1;clear hI;go_enter func187,ntmps187;go_wp2_with fail;refine (c1).mono ?_;rintro e w1 ⟨rfl,bb⟩;go_wp2;go_ret;exact Ret.str (rfl) (B0.then bb)
theorem PS (w:World) (x:AB) (v u:Value) (h:Rd aB w x.list [v]) (h':Rd MC w x.pairs [u]) (hI:DB x=true) :
  Calls prog 187 #[.agg #[.int .i64 x.kind,.int .i64 x.field,.int .i64 x.value,v,u]] w (Ret w (.string (tB x))):=by
 obtain ⟨Av,nv,cv,rfl,-⟩:=qA h;obtain ⟨Au,nu,cu,rfl,-⟩:=qA h';have B0:Bw w (w.alloc (.cells #[.int .i64 x.kind,.int .i64 x.field,.int .i64 x.value,.slice Av nv cv,.slice Au nu cu] 109)):=(Bw.refl w).alloc _;have c1:=FL _ x _ _ (h.bw dA B0) (h'.bw RA B0);rw [hI] at c1;have bf:=bC (n:=x.field) (by have:=NF hI;omega);have cF:=fun W=>dD W x.field bf
 have c2:x.kind=2->∀W,Bw w W->Calls prog 125 #[.int .i64 x.value] W (Ret W (.string (sE x))):=fun e W _=>by rw [sE,if_pos e];exact dD W x.value (bC (by have:=aF hI;omega))
 have c3:x.kind=3->∀W,Bw w W->Calls prog 132 #[.slice Av nv cv,.string ⟨#[44]⟩] W (Ret W (.string (sE x))):=fun e W B=>by rw [sE,e];exact CL W x.list ⟨#[44]⟩ _ (h.bw dA B) (kM hI) (by have:=rL hI;omega) (by show 1<=1024;omega)
 have c4:x.kind=4->∀W,Bw w W->Calls prog 239 #[.slice Au nu cu] W (Ret W (.string (sE x))):=fun e W B=>by rw [sE,e];exact pL W x.pairs _ (h'.bw RA B)
 have bj:=(mB bf).2;have bg:=iP hI;have h7:=jP hI;have h6:=XQ hI;have ew:=(qL x.kind).2;have kc:=TV hI;unfold bE at h6 h7;obtain ⟨F,hF⟩:=pA7 (QA x.field);obtain ⟨V,hV⟩:=pA7 (sE x);obtain ⟨wd,hw⟩:=pA7 (PB x.kind);obtain ⟨Y,hY⟩:=pA7 (tB x);rw [<-hF] at bj h6 h7;rw [<-hV] at bg h7;rw [<-hw] at ew kc h6 h7;rw [<-hY] at h6 h7 ⊢;simp only [<-hF] at cF;simp only [<-hV] at c2 c3 c4;have e2:(⟨#[32,102]⟩:ByteArray).size=2:=rfl;have es:(⟨#[32]⟩:ByteArray).size=1:=rfl;obtain ⟨H,hH⟩:=pA7 (wd++⟨#[32,102]⟩:ByteArray);have bm:H.size<=7:=by rw [hH,lA];omega
 have a1:∀W,(Op.stringOp .add wd ⟨#[32,102]⟩).run prog W=.ok (.string H) W:=by rw [hH];exact RG (by omega)
 obtain ⟨E,hE⟩:=pA7 (H++F:ByteArray);have bk:E.size<=27:=by rw [hE,lA];omega
 have a2:∀W,(Op.stringOp .add H F).run prog W=.ok (.string E) W:=by rw [hE];exact RG (by omega)
 rw [<-hH,<-hE] at h6 h7;have b1:∀W,(Op.stringOp .add E ⟨#[32]⟩).run prog W=.ok (.string (E++⟨#[32]⟩)) W:=RG (by omega);have b2:∀W,(Op.stringOp .add (E++⟨#[32]⟩) V).run prog W=.ok (.string (E++⟨#[32]⟩++V)) W:=RG (by rw [lA];omega);have CF:=pA6 cF;have C2:=pA6 c2;have C3:=pA6 c3;have C4:=pA6 c4;have H6:=pA6 h6;have H7:=pA6 h7;clear cF c2 c3 c4 h6 h7 hF bj e2 ew bf hI h h' hH bm hE bk hV bg es hw hY;rcases kc with ⟨hK,rfl⟩ | ⟨hK,rfl⟩ | ⟨hK,rfl⟩ | ⟨hK,rfl⟩ | ⟨hK,rfl⟩
 all_goals
  rw [hK] at B0 c1 ⊢;have HK:=pA6 hK;clear hK;go_enter func187,ntmps187;go_wp2_with fail;refine (c1).mono ?_;rintro e w1 ⟨rfl,bd⟩;have B1:=B0.then bd;clear c1;obtain ⟨p0,p1,p2,p3,p4⟩:=bd.a5;go_wp2_with fail;have BZ:Bw w1 w1.drew:=(Bw.refl w1).drew;have z0:=BZ.cell p0;have z1:=BZ.cell p1;refine oAa (by kernel_rfl) z0 z1 (fun hHeld=>?_);obtain ⟨Z,hZ⟩:=pA7 w1.drew;rw [<-hZ] at BZ z0 z1 hHeld ⊢;have hws:w.heap.size<w1.heap.size:=World.block_lt_of_cell? _ _ p0;clear hZ;refine RC 1 (v:=?_) rfl (by kernel_rfl) (by rfl) (by assumption) (fun _ _ _ h=>h) ?_ ?_;rotate_left
  ·(intro wS bb;(try dsimp only at bb);go_simp;try with_reducible rfl)
  try simp only [aE]
  refine RC 2 (v:=?_) rfl (by kernel_rfl) (by rfl) (by assumption) (fun _ _ _ h=>h) ?_ ?_;rotate_left
  ·(intro wS bb;(try dsimp only at bb);go_simp;try with_reducible rfl)
  try simp only [aE]
  refine RC 6 (v:=?_) rfl (by kernel_rfl) (by rfl) (by assumption) (fun _ _ _ h=>h) ?_ ?_;rotate_left
  ·(intro wS bb;(try dsimp only at bb);go_simp;try with_reducible rfl)
  try simp only [aE]
  refine RC 7 (v:=?_) rfl (by kernel_rfl) (by rfl) (by assumption) (fun _ _ _ h=>h) ?_ ?_;rotate_left
  ·(intro wS bb;(try dsimp only at bb);go_simp;try with_reducible rfl)
  try simp only [aE]
  refine wpAnyH_ready (rs:=[0,8]) (by kernel_rfl) (by simp) (AllReadyH.cons (o:=_) rfl (fun K hK=>?_) (AllReadyH.cons (o:=_) rfl (fun K hK=>?_) AllReadyH.nil))
  focus
   go_simp
   obtain ⟨W,hW,A,y5⟩:=cAl Z;rw [<-hW];clear hW;refine hK.out _ _ ⟨A.cell z0,A.cell z1⟩ (fun hHeld=>?_);clear hK K
   try simp only [aE]
   refine nAz hHeld y5 (fun hHeld=>?_);refine RC 3 (v:=?_) rfl (by kernel_rfl) (by rfl) (by assumption) (fun _ _ _ h=>h) ?_ ?_;rotate_left
   ·(intro wS bb;(try dsimp only at bb);go_simp;try with_reducible rfl)
   try simp only [aE]
   refine RC 4 (v:=?_) rfl (by kernel_rfl) (by rfl) (by assumption) (fun _ _ _ h=>h) ?_ ?_;rotate_left
   ·(intro wS bb;(try dsimp only at bb);go_simp;try with_reducible rfl)
   try simp only [aE]
   refine RC 5 (v:=?_) rfl (by kernel_rfl) (by rfl) (by assumption) (fun _ _ _ h=>h) ?_ ?_;rotate_left
   ·(intro wS bb;(try dsimp only at bb);go_simp;try with_reducible rfl)
   try simp only [aE]
   refine wpAnyH_ready (rs:=[8]) (by kernel_rfl) (by simp) (AllReadyH.cons (o:=_) rfl (fun K hK=>?_) AllReadyH.nil)
   go_simp
   refine (CF.out _).mono ?_;rintro e' w5 ⟨rfl,bc⟩;refine hK.out _ _ ⟨⟨bc.cell (A.cell z0),bc.cell (A.cell z1)⟩,bc.c5 y5⟩ (fun hHeld=>?_);clear hK K
   try simp only [aE]
   refine RC 9 (v:=?_) rfl (by kernel_rfl) (by rfl) (by assumption) (fun _ _ _ h=>h) ?_ ?_;rotate_left
   ·(intro wS bb;(try dsimp only at bb);go_simp;try with_reducible rfl)
   try simp only [aE]
   refine RC 10 (v:=?_) rfl (by kernel_rfl) (by rfl) (by assumption) (fun _ _ _ h=>h) ?_ ?_;rotate_left
   ·(intro wS bb;(try dsimp only at bb);go_simp;try with_reducible rfl)
   try simp only [aE]
   have B5:=(BZ.then A).then bc
  rotate_left
  focus
   go_simp
   refine (CF.out _).mono ?_;rintro e' w5 ⟨rfl,bc⟩;refine hK.out _ _ ⟨bc.cell z0,bc.cell z1⟩ (fun hHeld=>?_);clear hK K
   try simp only [aE]
   refine wpAnyH_ready (rs:=[0]) (by kernel_rfl) (by simp) (AllReadyH.cons (o:=_) rfl (fun K hK=>?_) AllReadyH.nil)
   go_simp
   obtain ⟨W,hW,A,y5⟩:=cAl w5;rw [<-hW];clear hW;refine hK.out _ _ ⟨A.cell (bc.cell z0),A.cell (bc.cell z1)⟩ (fun hHeld=>?_);clear hK K
   try simp only [aE]
   refine nAz hHeld y5 (fun hHeld=>?_);refine RC 3 (v:=?_) rfl (by kernel_rfl) (by rfl) (by assumption) (fun _ _ _ h=>h) ?_ ?_;rotate_left
   ·(intro wS bb;(try dsimp only at bb);go_simp;try with_reducible rfl)
   try simp only [aE]
   refine RC 4 (v:=?_) rfl (by kernel_rfl) (by rfl) (by assumption) (fun _ _ _ h=>h) ?_ ?_;rotate_left
   ·(intro wS bb;(try dsimp only at bb);go_simp;try with_reducible rfl)
   try simp only [aE]
   refine RC 5 (v:=?_) rfl (by kernel_rfl) (by rfl) (by assumption) (fun _ _ _ h=>h) ?_ ?_;rotate_left
   ·(intro wS bb;(try dsimp only at bb);go_simp;try with_reducible rfl)
   try simp only [aE]
   refine RC 9 (v:=?_) rfl (by kernel_rfl) (by rfl) (by assumption) (fun _ _ _ h=>h) ?_ ?_;rotate_left
   ·(intro wS bb;(try dsimp only at bb);go_simp;try with_reducible rfl)
   try simp only [aE]
   refine RC 10 (v:=?_) rfl (by kernel_rfl) (by rfl) (by assumption) (fun _ _ _ h=>h) ?_ ?_;rotate_left
   ·(intro wS bb;(try dsimp only at bb);go_simp;try with_reducible rfl)
   try simp only [aE]
   have B5:=BZ.then (bc.then A)
  rotate_right
  all_goals
   refine wpAnyH_done (by kernel_rfl) ?_ _;replace p0:=B5.cell p0;replace p2:=B5.cell p2;replace p3:=B5.cell p3;replace p4:=B5.cell p4;clear hHeld y5;have B6:=B0.then (bd.then B5)
   first
    | (go_wp2;go_ret;exact Ret.str (H6.out (by rw [HK.out];decide)).symm B6)
    | (go_wp2_with fail;(first | refine (C2.out HK.out _ B6).mono ?_ | refine (C3.out HK.out _ B6).mono ?_ | refine (C4.out HK.out _ B6).mono ?_);rintro e' w7 ⟨rfl,bn⟩;go_wp2;go_ret;exact Ret.str (H7.out (by rw [HK.out];decide)).symm (B6.then bn))
theorem qH (w:World) (x:AB) (v u:Value) (h:Rd aB w x.list [v]) (h':Rd MC w x.pairs [u]) :
  Calls prog 187 #[.agg #[.int .i64 x.kind,.int .i64 x.field,.int .i64 x.value,v,u]] w (Ret w (.string (tB x))):=by
 rcases pA8 (DB x) with hI | hI
 ·exact PS w x v u h h' hI
 ·rw [show tB x=⟨#[]⟩ by rw [tB,hI];rfl];exact GU w x v u h h' hI
theorem IU (w:World) (x:AB) (v u:Value) (h:Rd aB w x.list [v]) (h':Rd MC w x.pairs [u]) (hI:DB x=false) :
  Calls prog 143 #[.agg #[.int .i64 x.kind,.int .i64 x.field,.int .i64 x.value,v,u]] w (Ret w (.string ⟨#[]⟩)):=by
 have B0:Bw w (w.alloc (.cells #[.int .i64 x.kind,.int .i64 x.field,.int .i64 x.value,v,u] 109)):=(Bw.refl w).alloc _;have c1:=tV _ x v u (h.bw dA B0) (h'.bw RA B0);rw [hI] at c1;clear hI;go_enter func143,ntmps143;go_wp2_with fail;refine (c1).mono ?_;rintro e w1 ⟨rfl,bb⟩;go_wp2;go_ret;exact Ret.str (rfl) (B0.then bb)
theorem QS (w:World) (x:AB) (v u:Value) (h:Rd aB w x.list [v]) (h':Rd MC w x.pairs [u]) (hI:DB x=true) :
  Calls prog 143 #[.agg #[.int .i64 x.kind,.int .i64 x.field,.int .i64 x.value,v,u]] w (Ret w (.string (tB x))):=by
 obtain ⟨Av,nv,cv,rfl,-⟩:=qA h;obtain ⟨Au,nu,cu,rfl,-⟩:=qA h';have B0:Bw w (w.alloc (.cells #[.int .i64 x.kind,.int .i64 x.field,.int .i64 x.value,.slice Av nv cv,.slice Au nu cu] 109)):=(Bw.refl w).alloc _;have c1:=tV _ x _ _ (h.bw dA B0) (h'.bw RA B0);rw [hI] at c1;have bc:=bC (n:=x.field) (by have:=NF hI;omega);have cF:=fun W=>yC W x.field bc
 have c2:x.kind=2->∀W,Bw w W->Calls prog 64 #[.int .i64 x.value] W (Ret W (.string (sE x))):=fun e W _=>by rw [sE,if_pos e];exact yC W x.value (bC (by have:=aF hI;omega))
 have c3:x.kind=3->∀W,Bw w W->Calls prog 145 #[.slice Av nv cv] W (Ret W (.string (sE x))):=fun e W B=>by rw [sE,e];exact WQ W x.list _ (h.bw dA B) (kM hI) (by have:=rL hI;omega)
 have c4:x.kind=4->∀W,Bw w W->Calls prog 196 #[.slice Au nu cu] W (Ret W (.string (sE x))):=fun e W B=>by rw [sE,e];exact bP W x.pairs _ (h'.bw RA B)
 have bg:=(mB bc).2;have bd:=iP hI;have h7:=jP hI;have h6:=XQ hI;have ew:=(qL x.kind).2;have kc:=TV hI;unfold bE at h6 h7;obtain ⟨F,hF⟩:=pA7 (QA x.field);obtain ⟨V,hV⟩:=pA7 (sE x);obtain ⟨wd,hw⟩:=pA7 (PB x.kind);obtain ⟨Y,hY⟩:=pA7 (tB x);rw [<-hF] at bg h6 h7;rw [<-hV] at bd h7;rw [<-hw] at ew kc h6 h7;rw [<-hY] at h6 h7 ⊢;simp only [<-hF] at cF;simp only [<-hV] at c2 c3 c4;have e2:(⟨#[32,102]⟩:ByteArray).size=2:=rfl;have es:(⟨#[32]⟩:ByteArray).size=1:=rfl;obtain ⟨H,hH⟩:=pA7 (⟨#[32,102]⟩++F:ByteArray);have bk:H.size<=22:=by rw [hH,lA];omega
 have a1:∀W,(Op.stringOp .add ⟨#[32,102]⟩ F).run prog W=.ok (.string H) W:=by rw [hH];exact RG (by omega)
 obtain ⟨E,hE⟩:=pA7 (wd++H:ByteArray);have bj:E.size<=27:=by rw [hE,lA];omega
 have a2:∀W,(Op.stringOp .add wd H).run prog W=.ok (.string E) W:=by rw [hE];exact RG (by omega)
 rw [kN wd,<-hH,<-hE] at h6 h7;have b1:∀W,(Op.stringOp .add E ⟨#[32]⟩).run prog W=.ok (.string (E++⟨#[32]⟩)) W:=RG (by omega);have b2:∀W,(Op.stringOp .add (E++⟨#[32]⟩) V).run prog W=.ok (.string (E++⟨#[32]⟩++V)) W:=RG (by rw [lA];omega);have CF:=pA6 cF;have C2:=pA6 c2;have C3:=pA6 c3;have C4:=pA6 c4;have H6:=pA6 h6;have H7:=pA6 h7;clear cF c2 c3 c4 h6 h7 hF bg e2 ew bc hI h h' hH bk hE bj hV bd es hw hY;rcases kc with ⟨hK,rfl⟩ | ⟨hK,rfl⟩ | ⟨hK,rfl⟩ | ⟨hK,rfl⟩ | ⟨hK,rfl⟩
 all_goals
  rw [hK] at B0 c1 ⊢;have HK:=pA6 hK;clear hK;go_enter func143,ntmps143;go_wp2_with fail;refine (c1).mono ?_;rintro e w1 ⟨rfl,bf⟩;have B1:=B0.then bf;clear c1;obtain ⟨p0,p1,p2,p3,p4⟩:=bf.a5;go_wp2_with fail;refine (CF.out _).mono ?_;rintro e' w2 ⟨rfl,bb⟩;have B2:=B1.then bb;replace p0:=bb.cell p0;replace p2:=bb.cell p2;replace p3:=bb.cell p3;replace p4:=bb.cell p4
  first
   | (go_wp2;go_ret;exact Ret.str (H6.out (by rw [HK.out];decide)).symm B2)
   | (go_wp2_with fail;(first | refine (C2.out HK.out _ B2).mono ?_ | refine (C3.out HK.out _ B2).mono ?_ | refine (C4.out HK.out _ B2).mono ?_);rintro e' w3 ⟨rfl,bm⟩;go_wp2;go_ret;exact Ret.str (H7.out (by rw [HK.out];decide)).symm (B2.then bm))
theorem cE (w:World) (x:AB) (v u:Value) (h:Rd aB w x.list [v]) (h':Rd MC w x.pairs [u]) :
  Calls prog 143 #[.agg #[.int .i64 x.kind,.int .i64 x.field,.int .i64 x.value,v,u]] w (Ret w (.string (tB x))):=by
 rcases pA8 (DB x) with hI | hI
 ·exact QS w x v u h h' hI
 ·rw [show tB x=⟨#[]⟩ by rw [tB,hI];rfl];exact IU w x v u h h' hI
def GE (k:Int):ByteArray:=if k=1 then ⟨#[97,110,100]⟩ else if k=2 then ⟨#[116,104,101,110]⟩ else if k=3 then ⟨#[110,111,116]⟩ else if k=4 then ⟨#[98,111,116,104]⟩ else ⟨#[]⟩
def kD (n:mA):ByteArray:=if n.op=0 then tB n.wish else GE n.op
def KC (e:List mA):List ByteArray:=e.map kD
def fC (e:List mA):ByteArray:=if pB e then dF (KC e) ⟨#[59,32]⟩ else ⟨#[]⟩
theorem cAm (k:Int):(GE k).size<=4:=by
 unfold GE;repeat' split
 all_goals (show _<=_;decide)
theorem cY (x:AB):(tB x).size<=430:=by
 unfold tB
 split
 ·rename_i h
  have h1:=(fP h).2;have es:(⟨#[32]⟩:ByteArray).size=1:=rfl;have hv:=(mB (bC (n:=x.value) (by have:=aF h;omega))).2;have hl:=ST h;have hp:=mN x.pairs
  repeat' split
  all_goals (repeat rw [lA]);omega
 ·show 0<=430;omega
theorem kP (n:mA):(kD n).size<=430:=by
 unfold kD
 split
 ·exact cY _
 ·have:=cAm n.op;omega
theorem rN:∀(e:List mA),wE ⟨#[59,32]⟩ (KC e)<=432*e.length
 | []=>by simp [KC,wE,JH]
 | n::e=>by
  have h1:=kP n;have h2:=rN e;have e1:wE ⟨#[59,32]⟩ (KC (n::e))=(kD n).size+2+wE ⟨#[59,32]⟩ (KC e):=rfl;rw [e1,List.length_cons];omega
theorem dY {l:List mA} {k:Nat} {x:mA} (h:l[k]? = some x):KC (l.take (k+1))=KC (l.take k)++[kD x]:=by
 unfold KC;rw [List.take_add_one,h];simp
theorem fZ:∀ {e:List mA} {d r:Int},qC e d=some r->∀n∈e,0<=n.op/\n.op<=4
 | [],_,_,_,n,hn=>by simp at hn
 | m::e,d,r,h,n,hn=>by
  rw [qC] at h
  split at h
  ·rename_i hk
   rcases List.mem_cons.1 hn with h1 | h1
   ·subst h1;unfold vD at hk;rw [Bool.and_eq_true] at hk;exact pD.1 hk.1
   ·exact fZ h n h1
  ·cases h
theorem sN {e:List mA} (h:pB e=true):e.length<=9/\∀n∈e,0<=n.op/\n.op<=4:=by
 unfold pB at h;rw [Bool.and_eq_true,decide_eq_true_eq,decide_eq_true_eq] at h;exact ⟨h.2,fZ h.1⟩
theorem VH (w:World) (e:List mA) (v:Value) (h:Rd OA w e [v]):Calls prog 136 #[v] w (Ret w (.string (fC e))):=by
 obtain ⟨i0,hi,cd,cf,cg⟩:=info_parts wK;obtain ⟨T,hT⟩:=pA7 (fC e);rw [<-hT];have HT:=pA6 hT;clear hT;obtain ⟨A,n,c,rfl,L,Lc,Lm⟩:=yA h;go_enter func136,ntmps136;go_wp2_with fail;refine (CI _ e _ h).mono ?_;rintro e w1 ⟨rfl,cn⟩;rcases pA8 (pB e) with e1 | e1
 ·have E1:=pA6 e1;rw [e1];clear e1;have n9:n<=9:=by rw [L.out];exact (sN E1.out).1
  have HM:=pA6 (sN E1.out).2;have HF:=pA6 (show T=dF (KC e) ⟨#[59,32]⟩ by rw [HT.out,fC,if_pos E1.out]);have db:=MA (e:=9) (sz:=1) (R:=RX) w1;have hs:=cn.size;have ct:=cn.alloc (.cells #[] 9);have HH:=pA6 h;clear HT h;go_wp2
  go_loopg [3,12] n (fun g s i w'=>∃(k:Nat) (F:List Nat),k<=n/\g=n-k/\i=.int .i64 k/\RJ w' (KC (e.take k)) [s] F/\sA w.heap.size F/\Bw w w')
  ·exact ⟨0,_,by omega,rfl,rfl,db,⟨by simp,by simpa using hs⟩,ct⟩
  ·clear db ct;obtain ⟨k,F,hk,rfl,rfl,hv,hF,hb⟩:=hrel;have h:=HH.out;by_cases hlt:k<n
   ·obtain ⟨x,hx⟩:=tA (xs:=e) (k:=k) (by have:=L.out;omega);obtain ⟨ba,oa,Al,cl,Ap,cp,rfl,_,d0,d1,d2,d3,d4,d5,cq,cs⟩:=mE h hx;replace d0:=hb.cell d0;replace d1:=hb.cell d1;replace d2:=hb.cell d2;replace d3:=hb.cell d3;replace d4:=hb.cell d4;replace d5:=hb.cell d5;have i1:(0:Int)<=(k:Int):=by omega
    have i2:(k:Int)<(n:Int):=by omega
    have cc:=HM.out x (List.mem_of_getElem? hx);have HS:=pA6 (dY hx);have bb:=pA6 (show (KC (e.take k)).length<=9 by unfold KC;rw [List.length_map,List.length_take];omega);obtain ⟨N1,cv⟩:=pA7 x.wish.list.length;obtain ⟨N2,cx⟩:=pA7 x.wish.pairs.length;rw [<-cv] at d4 cq;rw [<-cx] at d5 cs;obtain ⟨o,ho⟩:=pA7 x.op;rw [<-ho] at d0 cc;obtain ⟨W,hW⟩:=pA7 (wr.alloc (.cells #[.int .i64 o,.int .i64 x.wish.kind,.int .i64 x.wish.field,.int .i64 x.wish.value,.slice Al N1 cl,.slice Ap N2 cp] 111));have D1:Bw wr W:=by rw [hW];exact (Bw.refl wr).alloc _
    have bf:=hb.then D1;have bk:=(iB (B:=w.heap.size)).bw D1 hb.size hv;have cw:=fun W2 (B:Bw W W2)=>qH W2 x.wish _ _ (Rd.bw dA cq (bf.then B)) (Rd.bw RA cs (bf.then B))
    have cj:=pA6 (show o=0->kD x=tB x.wish from fun h0=>by rw [kD,<-ho,if_pos h0]);have cm:=pA6 (show ¬o=0->kD x=GE o from fun h0=>by rw [kD,<-ho,if_neg h0]);obtain ⟨V,hV⟩:=pA7 (tB x.wish);rw [<-hV] at cj;simp only [<-hV] at cw;have CW:=pA6 cw;have HW:=pA6 hW;have ck:=pA6 (show wr.heap.size+1=W.heap.size by rw [hW];simp);clear hx cq cs cv cx ho hV cw hW hv h;by_cases h0:o=0
    ·have cb:=pA6 (cj.out h0);subst h0;clear cj cm cc;go_wp2_with fail;rw [<-HW.out];refine (CW.out _ (Bw.refl W)).mono ?_;rintro e' w5 ⟨rfl,cz⟩;have bc:=bf.then cz;have bd:=(iB (B:=w.heap.size)).bw cz bf.size bk;have bn:=(iB (B:=0)).lt bd;have bx:=(iB (B:=w.heap.size)).bw ((Bw.refl w5).alloc (.cells #[.string V] 9)) bc.size bd;have bq:=bc.alloc (.cells #[.string V] 9);have bt:=cell_one_new w5 (.string V) 9;have bs:=bc.size;clear bd bk CW;go_wp2_with (at_builtin;refine lB _ rfl (.tmp 19) (.tmp 23) 58 rfl w 9 i0 _ 1 16 underlying58 hi cd cf cg rfl (by omega) JE _ (KC (e.take k)) F rfl bx hF ⟨w5.heap.size,0,none⟩ 1 rfl V [.string V] [] bt ⟨rfl,rfl⟩ rfl w5.heap.size bn sA.nil bs (by have:=bb.out;omega) (by have:=bb.out;omega) bq ?_;intro v' w' F' bv bm bp)
     go_roundg (n-(k+1))
     ·exact ⟨k+1,F',by omega,rfl,by go_num,by rw [HS.out,cb.out];exact bv,bm,bp⟩
     ·omega
    ·have cb:=pA6 (cm.out h0);clear cj cm CW;rcases (show o=1\/o=2\/o=3\/o=4 by omega) with h1 | h1 | h1 | h1
     ·subst h1;clear h0 cc;have bg:Bw W (W.alloc (.cells #[.string ⟨#[97,110,100]⟩,.string ⟨#[116,104,101,110]⟩,.string ⟨#[110,111,116]⟩,.string ⟨#[98,111,116,104]⟩] 9)):=(Bw.refl W).alloc _;have bc:=bf.then bg;have bd:=(iB (B:=w.heap.size)).bw bg bf.size bk;have bn:=(iB (B:=0)).lt bd;have bj:=(Bw.refl (W.alloc (.cells #[.string ⟨#[97,110,100]⟩,.string ⟨#[116,104,101,110]⟩,.string ⟨#[110,111,116]⟩,.string ⟨#[98,111,116,104]⟩] 9))).alloc (.cells #[.string ⟨#[97,110,100]⟩] 9);have bx:=(iB (B:=w.heap.size)).bw bj bc.size bd;have bq:=bc.then bj;have bt:=cell_one_new (W.alloc (.cells #[.string ⟨#[97,110,100]⟩,.string ⟨#[116,104,101,110]⟩,.string ⟨#[110,111,116]⟩,.string ⟨#[98,111,116,104]⟩] 9)) (.string ⟨#[97,110,100]⟩) 9;have bs:=bc.size;have bz:=pA6 (show GE 1=⟨#[97,110,100]⟩ from rfl);clear bd bk;go_wp2_with (at_builtin;(try rw [<-HW.out]);refine lB _ rfl (.tmp 25) (.tmp 32) 58 rfl w 9 i0 _ 1 16 underlying58 hi cd cf cg rfl (by omega) JE _ (KC (e.take k)) F rfl bx hF ⟨(W.alloc (.cells #[.string ⟨#[97,110,100]⟩,.string ⟨#[116,104,101,110]⟩,.string ⟨#[110,111,116]⟩,.string ⟨#[98,111,116,104]⟩] 9)).heap.size,0,none⟩ 1 (by first | rfl | (go_simp;exact ck.out)) ⟨#[97,110,100]⟩ [.string ⟨#[97,110,100]⟩] [] bt ⟨rfl,rfl⟩ rfl _ bn sA.nil bs (by have:=bb.out;omega) (by have:=bb.out;omega) bq ?_;intro v' w' F' bv bm bp)
      go_roundg (n-(k+1))
      ·exact ⟨k+1,F',by omega,rfl,by go_num,by rw [HS.out,cb.out,bz.out];exact bv,bm,bp⟩
      ·omega
     ·subst h1;clear h0 cc;have bg:Bw W (W.alloc (.cells #[.string ⟨#[97,110,100]⟩,.string ⟨#[116,104,101,110]⟩,.string ⟨#[110,111,116]⟩,.string ⟨#[98,111,116,104]⟩] 9)):=(Bw.refl W).alloc _;have bc:=bf.then bg;have bd:=(iB (B:=w.heap.size)).bw bg bf.size bk;have bn:=(iB (B:=0)).lt bd;have bj:=(Bw.refl (W.alloc (.cells #[.string ⟨#[97,110,100]⟩,.string ⟨#[116,104,101,110]⟩,.string ⟨#[110,111,116]⟩,.string ⟨#[98,111,116,104]⟩] 9))).alloc (.cells #[.string ⟨#[116,104,101,110]⟩] 9);have bx:=(iB (B:=w.heap.size)).bw bj bc.size bd;have bq:=bc.then bj;have bt:=cell_one_new (W.alloc (.cells #[.string ⟨#[97,110,100]⟩,.string ⟨#[116,104,101,110]⟩,.string ⟨#[110,111,116]⟩,.string ⟨#[98,111,116,104]⟩] 9)) (.string ⟨#[116,104,101,110]⟩) 9;have bs:=bc.size;have bz:=pA6 (show GE 2=⟨#[116,104,101,110]⟩ from rfl);clear bd bk;go_wp2_with (at_builtin;(try rw [<-HW.out]);refine lB _ rfl (.tmp 25) (.tmp 32) 58 rfl w 9 i0 _ 1 16 underlying58 hi cd cf cg rfl (by omega) JE _ (KC (e.take k)) F rfl bx hF ⟨(W.alloc (.cells #[.string ⟨#[97,110,100]⟩,.string ⟨#[116,104,101,110]⟩,.string ⟨#[110,111,116]⟩,.string ⟨#[98,111,116,104]⟩] 9)).heap.size,0,none⟩ 1 (by first | rfl | (go_simp;exact ck.out)) ⟨#[116,104,101,110]⟩ [.string ⟨#[116,104,101,110]⟩] [] bt ⟨rfl,rfl⟩ rfl _ bn sA.nil bs (by have:=bb.out;omega) (by have:=bb.out;omega) bq ?_;intro v' w' F' bv bm bp)
      go_roundg (n-(k+1))
      ·exact ⟨k+1,F',by omega,rfl,by go_num,by rw [HS.out,cb.out,bz.out];exact bv,bm,bp⟩
      ·omega
     ·subst h1;clear h0 cc;have bg:Bw W (W.alloc (.cells #[.string ⟨#[97,110,100]⟩,.string ⟨#[116,104,101,110]⟩,.string ⟨#[110,111,116]⟩,.string ⟨#[98,111,116,104]⟩] 9)):=(Bw.refl W).alloc _;have bc:=bf.then bg;have bd:=(iB (B:=w.heap.size)).bw bg bf.size bk;have bn:=(iB (B:=0)).lt bd;have bj:=(Bw.refl (W.alloc (.cells #[.string ⟨#[97,110,100]⟩,.string ⟨#[116,104,101,110]⟩,.string ⟨#[110,111,116]⟩,.string ⟨#[98,111,116,104]⟩] 9))).alloc (.cells #[.string ⟨#[110,111,116]⟩] 9);have bx:=(iB (B:=w.heap.size)).bw bj bc.size bd;have bq:=bc.then bj;have bt:=cell_one_new (W.alloc (.cells #[.string ⟨#[97,110,100]⟩,.string ⟨#[116,104,101,110]⟩,.string ⟨#[110,111,116]⟩,.string ⟨#[98,111,116,104]⟩] 9)) (.string ⟨#[110,111,116]⟩) 9;have bs:=bc.size;have bz:=pA6 (show GE 3=⟨#[110,111,116]⟩ from rfl);clear bd bk;go_wp2_with (at_builtin;(try rw [<-HW.out]);refine lB _ rfl (.tmp 25) (.tmp 32) 58 rfl w 9 i0 _ 1 16 underlying58 hi cd cf cg rfl (by omega) JE _ (KC (e.take k)) F rfl bx hF ⟨(W.alloc (.cells #[.string ⟨#[97,110,100]⟩,.string ⟨#[116,104,101,110]⟩,.string ⟨#[110,111,116]⟩,.string ⟨#[98,111,116,104]⟩] 9)).heap.size,0,none⟩ 1 (by first | rfl | (go_simp;exact ck.out)) ⟨#[110,111,116]⟩ [.string ⟨#[110,111,116]⟩] [] bt ⟨rfl,rfl⟩ rfl _ bn sA.nil bs (by have:=bb.out;omega) (by have:=bb.out;omega) bq ?_;intro v' w' F' bv bm bp)
      go_roundg (n-(k+1))
      ·exact ⟨k+1,F',by omega,rfl,by go_num,by rw [HS.out,cb.out,bz.out];exact bv,bm,bp⟩
      ·omega
     ·subst h1;clear h0 cc;have bg:Bw W (W.alloc (.cells #[.string ⟨#[97,110,100]⟩,.string ⟨#[116,104,101,110]⟩,.string ⟨#[110,111,116]⟩,.string ⟨#[98,111,116,104]⟩] 9)):=(Bw.refl W).alloc _;have bc:=bf.then bg;have bd:=(iB (B:=w.heap.size)).bw bg bf.size bk;have bn:=(iB (B:=0)).lt bd;have bj:=(Bw.refl (W.alloc (.cells #[.string ⟨#[97,110,100]⟩,.string ⟨#[116,104,101,110]⟩,.string ⟨#[110,111,116]⟩,.string ⟨#[98,111,116,104]⟩] 9))).alloc (.cells #[.string ⟨#[98,111,116,104]⟩] 9);have bx:=(iB (B:=w.heap.size)).bw bj bc.size bd;have bq:=bc.then bj;have bt:=cell_one_new (W.alloc (.cells #[.string ⟨#[97,110,100]⟩,.string ⟨#[116,104,101,110]⟩,.string ⟨#[110,111,116]⟩,.string ⟨#[98,111,116,104]⟩] 9)) (.string ⟨#[98,111,116,104]⟩) 9;have bs:=bc.size;have bz:=pA6 (show GE 4=⟨#[98,111,116,104]⟩ from rfl);clear bd bk;go_wp2_with (at_builtin;(try rw [<-HW.out]);refine lB _ rfl (.tmp 25) (.tmp 32) 58 rfl w 9 i0 _ 1 16 underlying58 hi cd cf cg rfl (by omega) JE _ (KC (e.take k)) F rfl bx hF ⟨(W.alloc (.cells #[.string ⟨#[97,110,100]⟩,.string ⟨#[116,104,101,110]⟩,.string ⟨#[110,111,116]⟩,.string ⟨#[98,111,116,104]⟩] 9)).heap.size,0,none⟩ 1 (by first | rfl | (go_simp;exact ck.out)) ⟨#[98,111,116,104]⟩ [.string ⟨#[98,111,116,104]⟩] [] bt ⟨rfl,rfl⟩ rfl _ bn sA.nil bs (by have:=bb.out;omega) (by have:=bb.out;omega) bq ?_;intro v' w' F' bv bm bp)
      go_roundg (n-(k+1))
      ·exact ⟨k+1,F',by omega,rfl,by go_num,by rw [HS.out,cb.out,bz.out];exact bv,bm,bp⟩
      ·omega
   ·obtain rfl:k=n:=by omega
    rw [List.take_of_length_le (by rw [<-L.out];exact Nat.le_refl _)] at hv;have dd:=rN e;rw [<-L.out] at dd;go_wp2_with fail;refine (TU _ (KC e) ⟨#[59,32]⟩ _ (DC hv) (by omega) (by show 2<=1024;omega)).mono ?_;rintro e' w3 ⟨rfl,dc⟩;go_wp2;go_ret;exact Ret.str (by rw [HF.out]) (hb.then dc)
 ·have HF:=pA6 (show T=⟨#[]⟩ by rw [HT.out,fC,e1];rfl);rw [e1];clear e1;go_wp2;go_ret;exact Ret.str (by rw [HF.out]) (cn)
theorem cAn (w:World) (k:Int) (h:1<=k/\k<=4):Calls prog 144 #[.int .i64 k] w (Ret w (.string (GE k))):=by
 rcases (show k=1\/k=2\/k=3\/k=4 by omega) with rfl | rfl | rfl | rfl
 all_goals
  clear h;go_enter func144,ntmps144;go_wp2;go_ret;exact Ret.str rfl (Bw.refl _)
theorem xE (w:World) (e:List mA) (v:Value) (h:Rd OA w e [v]):Calls prog 61 #[v] w (Ret w (.string (fC e))):=by
 obtain ⟨T,hT⟩:=pA7 (fC e);rw [<-hT];have HT:=pA6 hT;clear hT;obtain ⟨A,n,c,rfl,L,Lc,Lm⟩:=yA h;go_enter func61,ntmps61;go_wp2_with fail;refine (aH _ e _ h).mono ?_;rintro e w1 ⟨rfl,bc⟩;rcases pA8 (pB e) with e1 | e1
 ·have E1:=pA6 e1;rw [e1];clear e1;have n9:n<=9:=by rw [L.out];exact (sN E1.out).1
  have HM:=pA6 (sN E1.out).2;have HF:=pA6 (show T=dF (KC e) ⟨#[59,32]⟩ by rw [HT.out,fC,if_pos E1.out]);have HH:=pA6 h;clear HT h;go_wp2
  go_loopg [3,4] n (fun g s i w'=>∃(k:Nat) (acc:ByteArray),k<=n/\g=n-k/\i=.int .i64 k/\s=.string acc/\Hid (dF (KC e) ⟨#[59,32]⟩=gl ⟨#[59,32]⟩ k acc ((KC e).drop k))/\acc.size<=432*k/\Bw w w')
  ·exact ⟨0,_,by omega,rfl,rfl,rfl,rfl,Nat.zero_le _,bc⟩
  ·clear bc;obtain ⟨k,acc,hk,rfl,rfl,rfl,HE,g1,hb⟩:=hrel;have h:=HH.out;by_cases hlt:k<n
   ·obtain ⟨x,hx⟩:=tA (xs:=e) (k:=k) (by have:=L.out;omega);obtain ⟨ba,oa,Al,cl,Ap,cp,rfl,_,d0,d1,d2,d3,d4,d5,bd,bf⟩:=mE h hx;replace d0:=hb.cell d0;replace d1:=hb.cell d1;replace d2:=hb.cell d2;replace d3:=hb.cell d3;replace d4:=hb.cell d4;replace d5:=hb.cell d5;have i1:(0:Int)<=(k:Int):=by omega
    have i2:(k:Int)<(n:Int):=by omega
    have bk:=HM.out x (List.mem_of_getElem? hx);have hz:=kP x;have HS:=pA6 (SU (sep:=⟨#[59,32]⟩) (acc:=acc) (l:=KC e) (k:=k) (t:=kD x) (by unfold KC;rw [List.getElem?_map,hx];rfl));obtain ⟨N1,bg⟩:=pA7 x.wish.list.length;obtain ⟨N2,bj⟩:=pA7 x.wish.pairs.length;rw [<-bg] at d4 bd;rw [<-bj] at d5 bf;obtain ⟨o,ho⟩:=pA7 x.op;rw [<-ho] at d0 bk;obtain ⟨B,bb⟩:=pA7 ((if 0<k then acc++⟨#[59,32]⟩ else acc));obtain ⟨V,hV⟩:=pA7 (kD x);have ec:(⟨#[59,32]⟩:ByteArray).size=2:=rfl;have bm:B.size<=432*k+2:=by rw [bb];split;(rw [lA];omega);omega
    have cw:o=0->∀W2,Bw wr W2->Calls prog 143 #[.agg #[.int .i64 x.wish.kind,.int .i64 x.wish.field,.int .i64 x.wish.value,.slice Al N1 cl,.slice Ap N2 cp]] W2 (Ret W2 (.string V)):=fun h0 W2 B2=>by
     rw [hV,kD,<-ho,if_pos h0];exact cE W2 x.wish _ _ (Rd.bw dA bd (hb.then B2)) (Rd.bw RA bf (hb.then B2))
    have co:¬o=0->∀W2,Calls prog 144 #[.int .i64 o] W2 (Ret W2 (.string V)):=fun h0 W2=>by
     rw [hV,kD,<-ho,if_neg h0];exact cAn W2 o (by omega)
    rw [<-hV] at hz HS;have b0:∀W,(Op.stringOp .add acc ⟨#[59,32]⟩).run prog W=.ok (.string (acc++⟨#[59,32]⟩)) W:=RG (by omega);have b1:∀W,(Op.stringOp .add B V).run prog W=.ok (.string (B++V)) W:=RG (by omega);have HN:=pA6 (show gl ⟨#[59,32]⟩ k acc ((KC e).drop k)=gl ⟨#[59,32]⟩ (k+1) (B++V) ((KC e).drop (k+1)) by rw [HS.out,bb]);have bn:(B++V).size<=432*(k+1):=by rw [lA];omega
    have CW:=pA6 cw;have CO:=pA6 co;clear hx bd bf bg bj ho hV cw co ec bm g1 hz HS h bk;by_cases hk0:0<k;rotate_left
    focus
     have k0:¬(0:Int)<(k:Int):=by omega
     rw [if_neg hk0] at bb
    rotate_right
    focus
     have k0:(0:Int)<(k:Int):=by omega
     rw [if_pos hk0] at bb
    all_goals
     subst bb;clear hk0;by_cases h0:o=0;rotate_left
     focus
      have C:=pA6 (CO.out h0);have f0:(o==0)=false:=by simpa using h0
      clear CW CO h0;go_wp2_with fail;refine (C.out _).mono ?_
     rotate_right
     focus
      have C:=pA6 (CW.out h0);subst h0;clear CW CO;go_wp2_with fail;refine (C.out _ (Bw.refl wr)).mono ?_
     all_goals
      rintro e' w5 ⟨rfl,bp⟩;have h:=HH.out;have bq:=hb.then bp;go_wp2
      go_roundg (n-(k+1))
      ·exact ⟨k+1,_,by omega,rfl,by go_num,rfl,by show _=_;rw [HE.out,HN.out],bn,bq⟩
      ·omega
   ·obtain rfl:k=n:=by omega
    have HA:=pA6 (show T=acc by rw [HF.out,HE.out,List.drop_of_length_le (by unfold KC;rw [List.length_map,<-L.out];exact Nat.le_refl _)];rfl);clear HE g1;go_wp2;go_ret;exact Ret.str (by rw [HA.out]) (hb)
 ·have HF:=pA6 (show T=⟨#[]⟩ by rw [HT.out,fC,e1];rfl);rw [e1];clear e1;go_wp2;go_ret;exact Ret.str (by rw [HF.out]) (bc)
def bl (s:ByteArray):List UInt8:=s.data.toList
def mkS (l:List UInt8):ByteArray:=⟨l.toArray⟩
theorem RS (l:List UInt8):bl (mkS l)=l:=by simp [bl,mkS]
theorem nJ (s:ByteArray):mkS (bl s)=s:=by cases s;simp [bl,mkS]
theorem EH {a b:ByteArray} (h:bl a=bl b):a=b:=by rw [<-nJ a,h,nJ]
theorem RB (s:ByteArray):(bl s).length=s.size:=by unfold bl;rw [Array.length_toList];rfl
theorem IB (a b:ByteArray):bl (a++b)=bl a++bl b:=by simp [bl,ByteArray.data_append]
theorem jD (s:ByteArray) (a b:Nat):bl (s.extract a b)=((bl s).take b).drop a:=by
 unfold bl;rw [ByteArray.data_extract,Array.toList_extract,List.extract_eq_take_drop,List.drop_take]
theorem qO (s:ByteArray):s.toList=bl s:=ByteArray.toList_eq s
theorem fAt (s:ByteArray) (k:Nat) (h:k<s.size):(bl s)[k]? = some s[k]:=by
 unfold bl;rw [Array.getElem?_toList];exact Array.getElem?_eq_getElem h
theorem nA4 (s:ByteArray) {k:Nat} (h:k<s.size):(bl s).drop k=s[k]::(bl s).drop (k+1):=nC (fAt s k h)
theorem nA5 (s:ByteArray) {k:Nat} (h:k<s.size):(bl s).take (k+1)=(bl s).take k++[s[k]]:=by rw [List.take_add_one,fAt s k h];rfl
theorem IJ (l:List UInt8):(mkS l).size=l.length:=by rw [<-RB,RS]
theorem DK {s:ByteArray}:bl s=[]↔s.size=0:=by rw [<-RB];exact List.length_eq_zero_iff.symm
def u8 (n:Int):UInt8:=UInt8.ofNat n.toNat
theorem cAo (l:List Int):bl (strOfNums l)=l.map u8:=rfl
def UC (c:UInt8):Bool:=decide (48<=c.toNat/\c.toNat<=57)
def dvi (n:Int) (l:List UInt8):Int:=l.foldl (fun n c=>n*10+((c.toNat:Int)-48)) n
theorem UV (n:Int) (l:List UInt8) (c:UInt8):dvi n (l++[c])=dvi n l*10+((c.toNat:Int)-48):=by unfold dvi;rw [List.foldl_append];rfl
theorem cAp {d:Int} (h:0<=d/\d<=255):((u8 d).toNat:Int)=d:=by
 unfold u8;rw [UInt8.toNat_ofNat'];have:d.toNat % 2 ^ 8=d.toNat:=Nat.mod_eq_of_lt (by omega);rw [this];omega
theorem oAb {d:Int} (h:48<=d/\d<=57):UC (u8 d)=true:=by
 have:=cAp (d:=d) (by omega);unfold UC;rw [decide_eq_true_eq];omega
theorem cAq:∀(f m:Nat) (acc:List Int),(∀d∈acc,48<=d/\d<=57)->∀d∈KG f m acc,48<=d/\d<=57
 | 0,_,acc,h=>h
 | f+1,m,acc,h=>by
  rw [KG];by_cases hm:m=0
  ·rw [if_pos hm];exact h
  ·rw [if_neg hm];refine cAq f (m / 10) _ (fun d hd=>?_);rcases List.mem_cons.1 hd with rfl | hd
   ·omega
   ·exact h d hd
theorem cAr:∀(f m:Nat) (acc:List Int),m<=f->dvi 0 ((KG f m acc).map u8)=dvi m (acc.map u8)
 | 0,m,acc,h=>by
  obtain rfl:m=0:=by omega
  rfl
 | f+1,m,acc,h=>by
  rw [KG];by_cases hm:m=0
  ·rw [if_pos hm,hm];rfl
  ·rw [if_neg hm,cAr f (m / 10) _ (by omega)];have h1:=cAp (d:=48+(m:Int) % 10) (by omega);show dvi (((m / 10:Nat):Int)*10+(((u8 (48+(m:Int) % 10)).toNat:Int)-48)) (acc.map u8)=dvi m (acc.map u8)
   rw [h1]
   congr 1
   omega
theorem iA1:∀(f m:Nat) (acc:List Int),acc.length<=(KG f m acc).length
 | 0,_,acc=>Nat.le_refl _
 | f+1,m,acc=>by
  rw [KG]
  split
  ·exact Nat.le_refl _
  ·have:=iA1 f (m / 10) ((48+(m:Int) % 10)::acc);simp only [List.length_cons] at this;omega
theorem SS (n:Int):∃ds:List UInt8,ds≠[]/\(∀c∈ds,UC c=true)/\dvi 0 ds=(n.natAbs:Int)/\bl (QA n)=if n<0 then 45::ds else ds:=by
 have bb:∀l:List Int,(∀d∈l,48<=d/\d<=57)->∀c∈l.map u8,UC c=true:=fun l h c hc=>by
  obtain ⟨d,hd,rfl⟩:=List.mem_map.1 hc;exact oAb (h d hd)
 have bc:∀m:Nat,0<m->(KG m m []).map u8≠[]:=fun m hm h=>by
  have h1:=iA1 (m-1) (m / 10) [48+(m:Int) % 10];rw [<-ZH m m [] hm (Nat.le_refl _)] at h1;have h2:=congrArg List.length h;simp at h1 h2;rw [h2] at h1;simp at h1
 unfold QA bAz;rw [cAo];by_cases h0:n=0
 ·subst h0;exact ⟨[48],by simp,by simp [UC],by decide,by simp [u8]⟩
 ·rw [if_neg h0];refine ⟨(KG n.natAbs n.natAbs []).map u8,bc _ (by omega),bb _ (cAq _ _ [] (by simp)),by rw [cAr _ _ _ (Nat.le_refl _)];rfl,?_⟩;by_cases h:n<0
  ·rw [if_pos h,if_pos h];rfl
  ·rw [if_neg h,if_neg h]
def dg (s:ByteArray):List UInt8:=((bl s).take 11).filter UC
def RO (s:ByteArray):Int:=if (bl s).head? = some 45 then -(dvi 0 (dg s)) else dvi 0 (dg s)
def okI (s:ByteArray):Bool:=decide ((dg s).length<=9) && (decide (s.size<=10) && decide (QA (RO s)=s))
def pI (s:ByteArray):Int×Bool:=if okI s then (RO s,true) else (0,false)
theorem eL {ds:List UInt8} (h:∀c∈ds,UC c=true):ds.filter UC=ds:=List.filter_eq_self.2 h
def sL (s:ByteArray) (ds:List UInt8):Prop:=ds≠[]/\ds.length<=9/\(∀c∈ds,UC c=true)/\(bl s=45::ds\/bl s=ds)
theorem cAs {c:UInt8} (h:UC c=true):c≠45:=fun e=>by subst e;simp [UC] at h
theorem sL.head {s:ByteArray} {ds:List UInt8} (h:sL s ds):(bl s).head? = some 45↔bl s=45::ds:=by
 obtain ⟨h1,_,h3,h4⟩:=h;constructor
 ·intro he;rcases h4 with h4 | h4
  ·exact h4
  ·rw [h4] at he
   cases ds with
   | nil=>simp at he
   | cons c l=>
    simp at he;exact absurd he (cAs (h3 c (by simp)))
 ·intro he;rw [he];rfl
theorem sL.dg {s:ByteArray} {ds:List UInt8} (h:sL s ds):dg s=ds:=by
 obtain ⟨h1,h2,h3,h4⟩:=h;unfold Proofs.YtpihighajaeabaaGreat.dg;rcases h4 with h4 | h4
 ·rw [h4,List.take_of_length_le (by simp;omega),List.filter_cons];have:UC 45=false:=by decide
  rw [this,if_neg (by simp),eL h3]
 ·rw [h4,List.take_of_length_le (by omega),eL h3]
theorem fAu {s:ByteArray} (h:okI s=true):∃ds,sL s ds:=by
 unfold okI at h;simp only [Bool.and_eq_true,decide_eq_true_iff] at h;obtain ⟨h1,h2,h3⟩:=h;obtain ⟨ds,d1,d2,_,d4⟩:=SS (RO s);rw [h3] at d4;have hl:(bl s).length<=10:=by rw [RB];exact h2
 have bb:Proofs.YtpihighajaeabaaGreat.dg s=ds:=by
  unfold Proofs.YtpihighajaeabaaGreat.dg;rw [List.take_of_length_le (by omega),d4]
  split
  ·rw [List.filter_cons];have:UC 45=false:=by decide
   rw [this,if_neg (by simp),eL d2]
  ·exact eL d2
 rw [bb] at h1;refine ⟨ds,d1,h1,d2,?_⟩;by_cases hn:RO s<0
 ·rw [if_pos hn] at d4;exact .inl d4
 ·rw [if_neg hn] at d4;exact .inr d4
theorem oAm {s:ByteArray} (h:∀ds,¬sL s ds):pI s=(0,false):=by
 unfold pI
 cases hk:okI s with
 | false=>rfl
 | true=>obtain ⟨ds,hd⟩:=fAu hk;exact absurd hd (h ds)
theorem TS {s:ByteArray} {ds:List UInt8} (h:sL s ds):pI s=if QA (if bl s=45::ds then -(dvi 0 ds) else dvi 0 ds)=s then (if bl s=45::ds then -(dvi 0 ds) else dvi 0 ds,true) else (0,false):=by
 have hd:=h.dg;have hr:RO s=if bl s=45::ds then -(dvi 0 ds) else dvi 0 ds:=by
  unfold RO;rw [hd];by_cases hh:bl s=45::ds
  ·rw [if_pos (h.head.2 hh),if_pos hh]
  ·rw [if_neg (fun e=>hh (h.head.1 e)),if_neg hh]
 have bb:s.size<=10:=by
  rw [<-RB];rcases h.2.2.2 with e | e<;>rw [e]<;>have:=h.2.1
  ·simp;omega
  ·omega
 unfold pI okI;rw [hd,decide_eq_true h.2.1,decide_eq_true bb,hr,Bool.true_and,Bool.true_and];by_cases hf:QA (if bl s=45::ds then -(dvi 0 ds) else dvi 0 ds)=s
 ·rw [decide_eq_true hf,if_pos rfl,if_pos hf]
 ·rw [decide_eq_false hf,if_neg (by simp),if_neg hf]
theorem nA6 {n:Int} (h:0<=n/\n<=99):(bl (QA n)).length<=2:=by
 obtain ⟨m,rfl⟩:∃m:Nat,n=(m:Int):=⟨n.toNat,by omega⟩;unfold QA bAz;rw [cAo,List.length_map,Int.natAbs_natCast];by_cases h0:(m:Int)=0
 ·rw [if_pos h0];simp
 ·rw [if_neg h0,if_neg (by omega),ZH _ _ _ (by omega) (Nat.le_refl _)];by_cases h1:m / 10=0
  ·rw [h1,jK];simp
  ·rw [ZH _ _ _ (by omega) (by omega)];have h2:m / 10 / 10=0:=by omega
   rw [h2,jK];simp
theorem VV {n:Int} (h:0<=n/\n<=99):∃ds,sL (QA n) ds/\bl (QA n)=ds/\dvi 0 ds=n:=by
 obtain ⟨ds,d1,d2,d3,d4⟩:=SS n;rw [if_neg (by omega)] at d4;have h1:=nA6 h;rw [d4] at h1;exact ⟨ds,⟨d1,by omega,d2,.inr d4⟩,d4,by rw [d3];omega⟩
theorem lA6 {n:Int} (h:0<=n/\n<=99):pI (QA n)=(n,true):=by
 obtain ⟨ds,d1,d2,d3⟩:=VV h;have hne:¬bl (QA n)=45::ds:=fun e=>by
  rw [d2] at e;have:=congrArg List.length e;simp at this
 rw [TS d1,if_neg hne,d3,if_pos rfl]
theorem II {n:Int} (h:0<=n/\n<=99):∀c∈bl (QA n),UC c=true:=by
 obtain ⟨ds,d1,d2,d3⟩:=VV h;rw [d2];exact d1.2.2.1
def xI (sep:List UInt8):Nat->List UInt8->List UInt8->List (List UInt8)
 | 0,pre,l=>[pre++l]
 | f+1,pre,l=>if sep.length<=l.length then (if l.take sep.length=sep then pre::xI sep f [] (l.drop sep.length) else xI sep f (pre++l.take 1) (l.drop 1)) else [pre++l]
def rH (s sep:ByteArray):List ByteArray:=(xI (bl sep) (s.size+1) [] (bl s)).map mkS
def TD (c:UInt8):List UInt8->List UInt8->List (List UInt8)
 | pre,[]=>[pre]
 | pre,x::l=>if x=c then pre::TD c [] l else TD c (pre++[x]) l
def MD (s:ByteArray) (c:UInt8):List ByteArray:=(TD c [] (bl s)).map mkS
theorem US (c:UInt8):∀(f:Nat) (pre l:List UInt8),l.length<f->xI [c] f pre l=TD c pre l
 | 0,_,_,h=>by omega
 | f+1,pre,[],h=>by simp [xI,TD]
 | f+1,pre,x::l,h=>by
  have hl:l.length<f:=by simp at h;omega
  rw [xI,if_pos (by simp),TD];by_cases hx:x=c
  ·rw [if_pos (by simp [hx]),if_pos hx];show pre::xI [c] f [] l=_
   rw [US c f [] l hl]
  ·rw [if_neg (by simp [hx]),if_neg hx];show xI [c] f (pre++[x]) l=_
   rw [US c f _ l hl]
theorem IL (s:ByteArray) (c:UInt8):rH s ⟨#[c]⟩=MD s c:=by
 unfold rH MD;have e:bl ⟨#[c]⟩=[c]:=rfl;rw [e,US c _ _ _ (by rw [RB];omega)]
theorem VS {c:UInt8}:∀(p pre l:List UInt8),(∀x∈p,x≠c)->TD c pre (p++l)=TD c (pre++p) l
 | [],pre,l,_=>by simp
 | x::p,pre,l,h=>by
  rw [List.cons_append,TD,if_neg (h x (by simp)),VS p _ l (fun y hy=>h y (by simp [hy]))];simp
theorem YQ {c:UInt8} {p pre:List UInt8} (h:∀x∈p,x≠c):TD c pre p=[pre++p]:=by
 have:=VS p pre [] h;rw [List.append_nil] at this;rw [this,TD]
theorem JL {c:UInt8} {p pre l:List UInt8} (h:∀x∈p,x≠c):TD c pre (p++c::l)=(pre++p)::TD c [] l:=by
 rw [VS p pre _ h,TD,if_pos rfl]
def glL (sep:List UInt8):List (List UInt8)->List UInt8
 | []=>[]
 | [p]=>p
 | p::q::l=>p++sep++glL sep (q::l)
theorem cAt {c:UInt8}:∀(p:List UInt8) (ps:List (List UInt8)) (pre:List UInt8),(∀q∈p::ps,∀x∈q,x≠c)->TD c pre (glL [c] (p::ps))=(pre++p)::ps
 | p,[],pre,h=>by rw [glL];exact YQ (h p (by simp))
 | p,q::ps,pre,h=>by
  rw [glL,List.append_assoc];show TD c pre (p++c::glL [c] (q::ps))=_
  rw [JL (h p (by simp)),cAt q ps [] (fun r hr=>h r (by simp only [List.mem_cons] at hr ⊢;exact .inr hr))];rfl
theorem gZ {c d:UInt8} (hcd:d≠c):∀(p:List UInt8) (ps:List (List UInt8)) (pre:List UInt8),(∀q∈p::ps,∀x∈q,x≠c)->TD c pre (glL [c,d] (p::ps))=(pre++p)::ps.map (fun q=>d::q)
 | p,[],pre,h=>by rw [glL];exact YQ (h p (by simp))
 | p,q::ps,pre,h=>by
  rw [glL,List.append_assoc];show TD c pre (p++c::(d::glL [c,d] (q::ps)))=_
  rw [JL (h p (by simp)),TD,if_neg hcd,gZ hcd q ps _ (fun r hr=>h r (by simp only [List.mem_cons] at hr ⊢;exact .inr hr))];rfl
theorem iZ {c:UInt8} {r:List UInt8}:∀(p:List UInt8) (f:Nat) (pre l:List UInt8),(∀x∈p,x≠c)->(c::r).length<=(p++l).length-p.length->xI (c::r) (f+p.length) pre (p++l)=xI (c::r) f (pre++p) l
 | [],f,pre,l,_,_=>by simp
 | x::p,f,pre,l,h,hl=>by
  have hl':(c::r).length<=l.length:=by simpa using hl
  have e:f+(x::p).length=(f+p.length)+1:=by simp;omega
  rw [e,xI,if_pos (by simp only [List.cons_append,List.length_cons,List.length_append] at hl' ⊢;omega)];have hx:x≠c:=h x (by simp);rw [if_neg (by
   intro e2;simp only [List.cons_append,List.length_cons,List.take_succ_cons,List.cons.injEq] at e2;exact hx e2.1)]
  show xI (c::r) (f+p.length) (pre++[x]) (p++l)=_
  rw [iZ p f _ l (fun y hy=>h y (by simp [hy])) (by simpa using hl')];simp
theorem cAu {c:UInt8} {r:List UInt8}:∀(p:List UInt8) (f:Nat) (pre:List UInt8),(∀x∈p,x≠c)->xI (c::r) f pre p=[pre++p]
 | p,0,pre,_=>rfl
 | [],f+1,pre,_=>by rw [xI,if_neg (by simp)]
 | x::p,f+1,pre,h=>by
  rw [xI]
  split
  ·rw [if_neg (by
    intro e2;simp only [List.length_cons,List.take_succ_cons,List.cons.injEq] at e2;exact h x (by simp) e2.1)]
   show xI (c::r) f (pre++[x]) p=_
   rw [cAu p f _ (fun y hy=>h y (by simp [hy]))];simp
  ·rfl
theorem cAv {c:UInt8} {r:List UInt8}:∀(p:List UInt8) (ps:List (List UInt8)) (f:Nat) (pre:List UInt8),(∀q∈p::ps,∀x∈q,x≠c)->(glL (c::r) (p::ps)).length<f->xI (c::r) f pre (glL (c::r) (p::ps))=(pre++p)::ps
 | p,[],f,pre,h,_=>by rw [glL];exact cAu p f pre (h p (by simp))
 | p,q::ps,f,pre,h,hf=>by
  rw [glL,List.append_assoc] at hf ⊢;obtain ⟨g,rfl⟩:∃g,f=g+1+p.length:=⟨f-p.length-1,by simp only [List.length_append] at hf;omega⟩;rw [iZ p (g+1) pre _ (h p (by simp)) (by simp)];rw [xI,if_pos (by simp),if_pos (by simp)];have e:((c::r)++glL (c::r) (q::ps)).drop (c::r).length=glL (c::r) (q::ps):=by simp
  rw [e,cAv q ps g [] (fun r hr=>h r (by simp only [List.mem_cons] at hr ⊢;exact .inr hr)) (by simp only [List.length_append] at hf;simp only [List.length_cons] at hf;omega)];rfl
theorem ZQ (c:UInt8):∀(pre l:List UInt8),TD c pre l≠[]
 | _,[]=>by simp [TD]
 | pre,x::l=>by
  rw [TD]
  split
  ·simp
  ·exact ZQ c _ l
theorem oA0 (sep:ByteArray):∀(l:List ByteArray) (i:Nat) (acc:ByteArray),0<i->bl (gl sep i acc l)=bl acc++(l.map fun t=>bl sep++bl t).flatten
 | [],_,acc,_=>by simp [gl]
 | t::ts,i,acc,h=>by
  rw [gl,if_pos h,oA0 sep ts (i+1) _ (by omega),IB,IB];simp
theorem cAw (sep:List UInt8):∀(p:List UInt8) (ps:List (List UInt8)),glL sep (p::ps)=p++(ps.map fun q=>sep++q).flatten
 | p,[]=>by simp [glL]
 | p,q::ps=>by
  rw [glL,cAw sep q ps];simp
theorem EK (sep:ByteArray) (l:List ByteArray):bl (dF l sep)=glL (bl sep) (l.map bl):=by
 cases l with
 | nil=>rfl
 | cons t ts=>
  unfold dF;rw [gl,if_neg (by omega),oA0 sep ts 1 _ (by omega),List.map_cons,cAw,IB];have e:bl (⟨#[]⟩:ByteArray)=[]:=rfl;rw [e,List.nil_append,List.map_map];rfl
theorem WV (l:List ByteArray):(l.map bl).map mkS=l:=by
 rw [List.map_map];have:(mkS ∘ bl)=id:=by funext s;exact nJ s
 rw [this,List.map_id]
theorem XV {sep:ByteArray} {c:UInt8} {r:List UInt8} (hs:bl sep=c::r) {l:List ByteArray} (hl:l≠[]) (h:∀t∈l,∀x∈bl t,x≠c):rH (dF l sep) sep=l:=by
 unfold rH;obtain ⟨t,ts,rfl⟩:∃t ts,l=t::ts:=by cases l with | nil=>exact absurd rfl hl | cons t ts=>exact ⟨t,ts,rfl⟩
 rw [<-RB,EK,hs,List.map_cons];rw [cAv _ _ _ _ (fun q hq x hx=>by
  rw [<-List.map_cons] at hq;obtain ⟨u,hu,rfl⟩:=List.mem_map.1 hq;exact h u hu x hx) (by omega),List.nil_append,<-List.map_cons,WV]
theorem YV {sep:ByteArray} {c:UInt8} (hs:bl sep=[c]) {l:List ByteArray} (hl:l≠[]) (h:∀t∈l,∀x∈bl t,x≠c):MD (dF l sep) c=l:=by
 unfold MD;obtain ⟨t,ts,rfl⟩:∃t ts,l=t::ts:=by cases l with | nil=>exact absurd rfl hl | cons t ts=>exact ⟨t,ts,rfl⟩
 rw [EK,hs,List.map_cons];rw [cAt _ _ _ (fun q hq x hx=>by
  rw [<-List.map_cons] at hq;obtain ⟨u,hu,rfl⟩:=List.mem_map.1 hq;exact h u hu x hx),List.nil_append,<-List.map_cons,WV]
def oJ (s:ByteArray):Int:=(pI s).1
def tG (s:ByteArray):Int:=if (pI s).2 then (pI s).1 else -100000
def JJ (s:ByteArray):List Int:=(rH s ⟨#[44]⟩).map oJ
def lP (s:ByteArray):List Int:=(MD s 44).map tG
def pOf {α:Type} (T:α->ByteArray) (r:ByteArray->Option α) (z:α) (s:ByteArray):α×Bool:=
 match r s with
 | some x=>if s.size≠0/\T x=s then (x,true) else (z,false)
 | none=>(z,false)
theorem ZV {α:Type} {T:α->ByteArray} {r:ByteArray->Option α} {z x:α} (hx:(T x).size≠0) (h:r (T x)=some x):pOf T r z (T x)=(x,true):=by
 unfold pOf;rw [h];exact if_pos ⟨hx,rfl⟩
theorem WS {α:Type} {T:α->ByteArray} {r:ByteArray->Option α} {z:α} {s:ByteArray} (h:(pOf T r z s).2=true):s.size≠0/\T (pOf T r z s).1=s:=by
 unfold pOf at h ⊢
 cases hr:r s with
 | none=>rw [hr] at h;cases h
 | some x=>
  rw [hr] at h;dsimp only at h ⊢
  split at h
  ·rename_i hc;rw [if_pos hc];exact hc
  ·cases h
theorem cAx {α:Type} {T:α->ByteArray} {r:ByteArray->Option α} {z:α} {s:ByteArray} (h:(pOf T r z s).2=false):pOf T r z s=(z,false):=by
 unfold pOf at h ⊢
 cases hr:r s with
 | none=>rfl
 | some x=>
  rw [hr] at h;dsimp only at h ⊢
  split at h
  ·cases h
  ·rename_i hc;rw [if_neg hc]
theorem aAi {α:Type} {T:α->ByteArray} {V:α->Prop} {r r':ByteArray->Option α} {z:α} (hV:∀x,(T x).size≠0->V x) (h:∀x,V x->r (T x)=some x) (h':∀x,V x->r' (T x)=some x) (s:ByteArray):pOf T r' z s=pOf T r z s:=by
 have bb:∀(r1 r2:ByteArray->Option α),(∀x,V x->r2 (T x)=some x)->(pOf T r1 z s).2=true->pOf T r2 z s=((pOf T r1 z s).1,true):=by
  intro r1 r2 h2 hk;obtain ⟨h3,h4⟩:=WS hk;have h5:=ZV (z:=z) (r:=r2) (by rw [h4];exact h3) (h2 _ (hV _ (by rw [h4];exact h3)))
  rwa [h4] at h5
 cases h1:(pOf T r' z s).2 with
 | true=>
  rw [bb r' r h h1];exact Prod.ext rfl h1
 | false=>
  cases h2:(pOf T r z s).2 with
  | true=>
   have:=bb r r' h' h2;rw [this] at h1;cases h1
  | false=>rw [cAx h1,cAx h2]
theorem KL {n:Int} (h:0<=n/\n<=99):oJ (QA n)=n:=by unfold oJ;rw [lA6 h]
theorem ML {n:Int} (h:0<=n/\n<=99):tG (QA n)=n:=by unfold tG;rw [lA6 h];rfl
theorem JI {c d:UInt8} (h:UC c=true) (hd:UC d=false):c≠d:=fun e=>by rw [e,hd] at h;cases h
theorem jZ {l:List Int} (h:∀v∈l,0<=v/\v<=99):∀t∈UD l,∀x∈bl t,UC x=true:=fun t ht x hx=>by
 obtain ⟨v,hv,rfl⟩:=List.mem_map.1 ht;exact II (h v hv) x hx
theorem WP {l:List Int} (hl:l≠[]) (h:∀v∈l,0<=v/\v<=99):JJ (GC l ⟨#[44]⟩)=l/\lP (GC l ⟨#[44]⟩)=l:=by
 have bb:UD l≠[]:=fun e=>hl (List.map_eq_nil_iff.1 e)
 have hp:∀t∈UD l,∀x∈bl t,x≠44:=fun t ht x hx=>JI (jZ h t ht x hx) (by decide)
 unfold JJ lP GC;rw [XV (c:=44) (r:=[]) rfl bb hp,YV (c:=44) rfl bb hp];unfold UD;rw [List.map_map,List.map_map];exact ⟨(List.map_congr_left (fun v hv=>KL (h v hv))).trans (List.map_id _),(List.map_congr_left (fun v hv=>ML (h v hv))).trans (List.map_id _)⟩
theorem aR {sep:List UInt8}:∀ {ps:List (List UInt8)} {x:UInt8},x∈glL sep ps->x∈sep\/∃p∈ps,x∈p
 | [],x,h=>by simp [glL] at h
 | [p],x,h=>.inr ⟨p,by simp,h⟩
 | p::q::l,x,h=>by
  rw [glL,List.mem_append,List.mem_append] at h;rcases h with (h | h) | h
  ·exact .inr ⟨p,by simp,h⟩
  ·exact .inl h
  ·rcases aR h with h | ⟨r,hr,hx⟩
   ·exact .inl h
   ·exact .inr ⟨r,List.mem_cons_of_mem _ hr,hx⟩
theorem tL {l:List Int} (h:∀v∈l,0<=v/\v<=99):∀x∈bl (GC l ⟨#[44]⟩),UC x=true\/x=44:=fun x hx=>by
 unfold GC at hx;rw [EK] at hx;rcases aR hx with h1 | ⟨p,hp,hx⟩
 ·have e:bl ⟨#[44]⟩=[44]:=rfl;rw [e,List.mem_singleton] at h1;exact .inr h1
 ·obtain ⟨t,ht,rfl⟩:=List.mem_map.1 hp;exact .inl (jZ h t ht x hx)
theorem XS {a b:ByteArray} {c:UInt8} (ha:∀x∈bl a,x≠c) (hb:∀x∈bl b,x≠c):MD (a++⟨#[c]⟩++b) c=[a,b]:=by
 unfold MD;have e:bl (a++⟨#[c]⟩++b)=bl a++c::bl b:=by
  rw [IB,IB,List.append_assoc];rfl
 rw [e,JL ha,YQ hb];simp [nJ]
theorem cAy {a b d:ByteArray} {c:UInt8} (ha:∀x∈bl a,x≠c) (hb:∀x∈bl b,x≠c) (hd:∀x∈bl d,x≠c):MD (a++⟨#[c]⟩++b++⟨#[c]⟩++d) c=[a,b,d]:=by
 unfold MD;have e:bl (a++⟨#[c]⟩++b++⟨#[c]⟩++d)=bl a++c::(bl b++c::bl d):=by
  rw [IB,IB,IB,IB];have e2:bl ⟨#[c]⟩=[c]:=rfl;rw [e2];simp
 rw [e,JL ha,JL hb,YQ hd];simp [nJ]
def FC (x:iA):ByteArray:=if gB x then QA x.id++⟨#[58]⟩++GC x.vals ⟨#[44]⟩ else ⟨#[]⟩
def QJ:iA:=⟨0,[]⟩
def XP (s:ByteArray):Option iA:=match rH s ⟨#[58]⟩ with | [a,b]=>some ⟨oJ a,JJ b⟩ | _=>none
def vL (s:ByteArray):Option iA:=some (match MD s 58 with | [a,b]=>⟨tG a,lP b⟩ | a::_=>⟨tG a,[]⟩ | []=>QJ)
def YF (s:ByteArray):iA×Bool:=pOf FC XP QJ s
theorem tN (x:iA) (h:(FC x).size≠0):gB x=true:=by
 cases hx:gB x with
 | true=>rfl
 | false=>unfold FC at h;rw [hx,if_neg (by simp)] at h;exact absurd rfl h
theorem cAz {x:iA} (h:gB x=true):MD (FC x) 58=[QA x.id,GC x.vals ⟨#[44]⟩]:=by
 unfold FC;rw [if_pos h];refine XS (fun y hy=>JI (II (lE h) y hy) (by decide)) (fun y hy=>?_);rcases tL (fun v hv=>by have:=QE h hv;omega) y hy with h1 | rfl
 ·exact JI h1 (by decide)
 ·decide
theorem iA2 {x:iA} (h:gB x=true):x.vals≠[]:=fun e=>by have:=jB h;rw [e] at this;simp at this
theorem dA0 (x:iA) (h:gB x=true):XP (FC x)=some x:=by
 unfold XP;rw [IL,cAz h];dsimp only;rw [KL (lE h),(WP (iA2 h) (fun v hv=>by have:=QE h hv;omega)).1]
theorem dA1 (x:iA) (h:gB x=true):vL (FC x)=some x:=by
 unfold vL;rw [cAz h];dsimp only;rw [ML (lE h),(WP (iA2 h) (fun v hv=>by have:=QE h hv;omega)).2]
theorem nA7 (s:ByteArray):pOf FC vL QJ s=YF s:=aAi tN dA0 dA1 s
theorem lA7 {s:ByteArray} (h:(YF s).2=true):gB (YF s).1=true/\FC (YF s).1=s:=by
 obtain ⟨h1,h2⟩:=WS h;exact ⟨tN _ (by rw [show FC (YF s).1=s from h2];exact h1),h2⟩
def mP (t:ByteArray):Option EB:=match rH t ⟨#[62]⟩ with | [a,b]=>some ⟨oJ a,oJ b⟩ | _=>none
def nP (t:ByteArray):Option EB:=match MD t 62 with | [a,b]=>some ⟨tG a,tG b⟩ | _=>none
def oP:ByteArray:=⟨#[110,111,110,101]⟩
def gI {α β:Type} (f:α->Option β):List α->Option (List β)
 | []=>some []
 | x::l=>match f x with | none=>none | some y=>match gI f l with | none=>none | some ys=>some (y::ys)
theorem aT {α β:Type} {f:α->Option β} {g:β->α}:∀ {l:List β},(∀y∈l,f (g y)=some y)->gI f (l.map g)=some l
 | [],_=>rfl
 | y::l,h=>by
  rw [List.map_cons,gI,h y (by simp)];dsimp only;rw [aT (fun z hz=>h z (by simp [hz]))]
def SH (s:ByteArray):Option (List EB):=if s=oP then some [] else gI mP (rH s ⟨#[44]⟩)
def MI (s:ByteArray):Option (List EB):=if s=oP then some [] else gI nP (MD s 44)
def yE (s:ByteArray):List EB×Bool:=pOf UB SH [] s
theorem JU (l:List EB) (h:(UB l).size≠0):ZB l=true:=by
 cases hx:ZB l with
 | true=>rfl
 | false=>unfold UB at h;rw [hx,if_neg (by simp)] at h;exact absurd rfl h
theorem OL {l:List EB} (h:ZB l=true):∀p∈l,(0<=p.fst/\p.fst<=99)/\0<=p.snd/\p.snd<=99:=fun p hp=>by
 have h1:=dI h;unfold pE at h1;have h2:=List.all_eq_true.1 h1 p hp;unfold aAc at h2;rw [Bool.and_eq_true] at h2;have h3:=pD.1 h2.1;have h4:=pD.1 h2.2;omega
theorem FK {p:EB} (h:(0<=p.fst/\p.fst<=99)/\0<=p.snd/\p.snd<=99):∀x∈bl (WE p),UC x=true\/x=62:=fun x hx=>by
 unfold WE at hx;rw [IB,IB,List.mem_append,List.mem_append] at hx;rcases hx with (hx | hx) | hx
 ·exact .inl (II h.1 x hx)
 ·have e:bl ⟨#[62]⟩=[62]:=rfl;rw [e,List.mem_singleton] at hx;exact .inr hx
 ·exact .inl (II h.2 x hx)
theorem aW {p:EB} (h:(0<=p.fst/\p.fst<=99)/\0<=p.snd/\p.snd<=99):mP (WE p)=some p/\nP (WE p)=some p:=by
 have hc:MD (WE p) 62=[QA p.fst,QA p.snd]:=by
  unfold WE;exact XS (fun y hy=>JI (II h.1 y hy) (by decide)) (fun y hy=>JI (II h.2 y hy) (by decide))
 unfold mP nP;rw [IL,hc];dsimp only;rw [KL h.1,KL h.2,ML h.1,ML h.2];exact ⟨rfl,rfl⟩
theorem pP {l:List EB} (h:ZB l=true) (hl:l≠[]):dF (SC l) ⟨#[44]⟩≠oP:=fun e=>by
 have hb:bl (dF (SC l) ⟨#[44]⟩)=bl oP:=by rw [e]
 rw [EK] at hb;have hm:(110:UInt8)∈bl oP:=by decide
 rw [<-hb] at hm;rcases aR hm with h1 | ⟨p,hp,h1⟩
 ·revert h1;decide
 ·obtain ⟨t,ht,rfl⟩:=List.mem_map.1 hp;obtain ⟨q,hq,rfl⟩:=List.mem_map.1 ht;rcases FK (OL h q hq) _ h1 with h2 | h2<;>revert h2<;>decide
theorem kZ {l:List EB} (h:ZB l=true) (hl:l≠[]):MD (dF (SC l) ⟨#[44]⟩) 44=SC l:=
 YV (c:=44) rfl (fun e=>hl (List.map_eq_nil_iff.1 e)) (fun t ht x hx=>by
  obtain ⟨q,hq,rfl⟩:=List.mem_map.1 ht;rcases FK (OL h q hq) x hx with h2 | rfl
  ·exact JI h2 (by decide)
  ·decide)
theorem fR (l:List EB) (h:ZB l=true):SH (UB l)=some l:=by
 unfold SH UB;rw [if_pos h];by_cases hl:l=[]
 ·subst hl;rfl
 ·rw [if_neg hl,if_neg (pP h hl),IL,kZ h hl];exact aT (fun y hy=>(aW (OL h y hy)).1)
theorem iR (l:List EB) (h:ZB l=true):MI (UB l)=some l:=by
 unfold MI UB;rw [if_pos h];by_cases hl:l=[]
 ·subst hl;rfl
 ·rw [if_neg hl,if_neg (pP h hl),kZ h hl];exact aT (fun y hy=>(aW (OL h y hy)).2)
theorem dA2 (s:ByteArray):pOf UB MI [] s=yE s:=aAi JU fR iR s
theorem QM {l:List EB} (h:ZB l=true):∀x∈bl (UB l),UC x=true\/x=62\/x=44\/x∈bl oP:=fun x hx=>by
 unfold UB at hx;rw [if_pos h] at hx;by_cases hl:l=[]
 ·rw [if_pos hl] at hx;exact .inr (.inr (.inr hx))
 ·rw [if_neg hl,EK] at hx;rcases aR hx with h1 | ⟨p,hp,h1⟩
  ·have e:bl ⟨#[44]⟩=[44]:=rfl;rw [e,List.mem_singleton] at h1;exact .inr (.inr (.inl h1))
  ·obtain ⟨t,ht,rfl⟩:=List.mem_map.1 hp;obtain ⟨q,hq,rfl⟩:=List.mem_map.1 ht;rcases FK (OL h q hq) _ h1 with h2 | h2
   ·exact .inl h2
   ·exact .inr (.inl h2)
theorem aAj {l:List EB} (h:ZB l=true):(UB l).size≠0:=fun e=>by
 have h1:=iR l h;have h2:UB l=⟨#[]⟩:=EH (by rw [DK.2 e];rfl);rw [h2] at h1
 revert h1
 have:MI ⟨#[]⟩=none:=by decide
 rw [this];simp
theorem dA3 {l:List EB} (h:ZB l=true):yE (UB l)=(l,true):=ZV (aAj h) (fR l h)
end Go.Proofs.YtpihighajaeabaaGreat
