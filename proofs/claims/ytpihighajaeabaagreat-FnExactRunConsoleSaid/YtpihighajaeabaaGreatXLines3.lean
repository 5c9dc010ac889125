/- Lines on standings in both programs. -/
import Derived.Test.YtpihighajaeabaaGreatXBestS
import Derived.Test.YtpihighajaeabaaGreatXLines
namespace Go.Proofs.YtpihighajaeabaaGreat
open Go.RowKit Go.Proofs.Tryz
set_option linter.all false
set_option maxRecDepth 100000
set_option maxHeartbeats 16000000
theorem oL {l:List iA} {e:List mA} (h:kB l e=true):eB l e=wD l e:=by rw [eB,if_pos h]
theorem rG (w:World) (x:zA) (va vb vc:Value) (ha:Rd LA w x.items [va]) (hb:Rd OA w x.wanted [vb]) (hc:Rd aB w x.best [vc]) :
  Calls prog 16 #[.agg #[va,vb,vc,.int .i64 x.tests]] w (Ret w (.bool (JB x))):=by
 have B0:Bw w (w.alloc (.cells #[va,vb,vc,.int .i64 x.tests] 28)).drew:=((Bw.refl w).alloc _).drew;have q0:(w.alloc (.cells #[va,vb,vc,.int .i64 x.tests] 28)).drew.cell? ⟨w.heap.size,0,none⟩=some va:=by go_simp
 have q1:(w.alloc (.cells #[va,vb,vc,.int .i64 x.tests] 28)).drew.cell? ⟨w.heap.size,1,none⟩=some vb:=by go_simp
 have q2:(w.alloc (.cells #[va,vb,vc,.int .i64 x.tests] 28)).drew.cell? ⟨w.heap.size,2,none⟩=some vc:=by go_simp
 have q3:(w.alloc (.cells #[va,vb,vc,.int .i64 x.tests] 28)).drew.cell? ⟨w.heap.size,3,none⟩=some (.int .i64 x.tests):=by go_simp
 have ka:=ha.bw gA B0;have kb:=hb.bw jA B0;have kc:=hc.bw dA B0;clear ha hb hc;rcases pA8 (kB x.items x.wanted) with e1 | e1
 ·by_cases e2:x.best=wD x.items x.wanted
  ·have d2:decide (x.best=wD x.items x.wanted)=true:=by simpa using e2
   have E1:=pA6 e1;have D2:=pA6 d2;obtain ⟨t,ht⟩:=pA7 (JB x);rw [<-ht];rcases pA8 (inB x.tests 0 1000000) with e3 | e3
   all_goals
    rw [JB,e1,d2,e3] at ht;have HF:=pA6 ht;clear ht;clear e2;go_enter func16,ntmps16;go_wp2_with fail
    go_region_held3 (fun w'=>w'.cell? ⟨w.heap.size,0,none⟩=some va/\w'.cell? ⟨w.heap.size,1,none⟩=some vb/\w'.cell? ⟨w.heap.size,2,none⟩=some vc/\w'.cell? ⟨w.heap.size,3,none⟩=some (.int .i64 x.tests)) (first | go_keep | exact ⟨q0,q1,q2,q3⟩)
     (first
      | (go_at_call 92;refine (rC (KE _ x.items x.wanted _ _ ka kb) (congrArg Value.bool e1)).mono ?_;rintro e w1 ⟨rfl,bc⟩;replace q0:=bc.cell q0;replace q1:=bc.cell q1;replace q2:=bc.cell q2;replace q3:=bc.cell q3;have B1:=B0.then bc;replace ka:=ka.bw gA bc;replace kb:=kb.bw jA bc;replace kc:=kc.bw dA bc)
      | (go_at_call 37;refine (fI _ x.items x.wanted _ _ ka kb).mono ?_;rintro e w2 ⟨v2,rfl,⟨F2,o2,f2⟩,bd⟩;rw [oL E1.out] at o2;replace q0:=bd.cell q0;replace q1:=bd.cell q1;replace q2:=bd.cell q2;replace q3:=bd.cell q3;have B2:=B1.then bd;replace kc:=kc.bw dA bd)
      | (go_at_call 93;refine (rC (OG _ x.best (wD x.items x.wanted) _ _ kc (xA o2)) (congrArg Value.bool d2)).mono ?_;rintro e w3 ⟨rfl,bf⟩;replace q0:=bf.cell q0;replace q1:=bf.cell q1;replace q2:=bf.cell q2;replace q3:=bf.cell q3;have B3:=B2.then bf)
      | (go_at_call 94;refine (rC (rD _ _ _ _) (congrArg Value.bool e3)).mono ?_;rintro e w4 ⟨rfl,bg⟩;replace q0:=bg.cell q0;replace q1:=bg.cell q1;replace q2:=bg.cell q2;replace q3:=bg.cell q3;have B4:=B3.then bg))
    go_wp2;go_ret;exact Ret.bool HF.out.symm B4
  ·have d2:decide (x.best=wD x.items x.wanted)=false:=by simpa using e2
   have E1:=pA6 e1;have HF:=pA6 (show JB x=false by rw [JB,e1,d2];rfl);clear e2;go_enter func16,ntmps16;go_wp2_with fail;refine wp_region_noPanic ?_;refine wp_region_held_drew (S:=(fun w'=>w'.cell? ⟨w.heap.size,0,none⟩=some va/\w'.cell? ⟨w.heap.size,1,none⟩=some vb/\w'.cell? ⟨w.heap.size,2,none⟩=some vc/\w'.cell? ⟨w.heap.size,3,none⟩=some (.int .i64 x.tests))) (by kernel_rfl) ?_ (fun hHeld=>?_)
   ·exact ⟨q0,q1,q2,q3⟩
   refine RC 0 (v:=?_) rfl (by kernel_rfl) (by rfl) (by assumption) (fun _ _ _ h=>h) ?_ ?_;rotate_left
   ·(intro wS bb;(try dsimp only at bb);go_simp;try with_reducible rfl)
   try simp only [aE]
   refine RC 1 (v:=?_) rfl (by kernel_rfl) (by rfl) (by assumption) (fun _ _ _ h=>h) ?_ ?_;rotate_left
   ·(intro wS bb;(try dsimp only at bb);go_simp;try with_reducible rfl)
   try simp only [aE]
   refine RC 2 (v:=?_) rfl (by kernel_rfl) (by rfl) (by assumption) (fun _ _ _ h=>h) ?_ ?_;rotate_left
   ·(intro wS bb;(try dsimp only at bb);go_simp;try with_reducible rfl)
   try simp only [aE]
   refine RC 3 (v:=?_) rfl (by kernel_rfl) (by rfl) (by assumption) (fun _ _ _ h=>h) ?_ ?_;rotate_left
   ·(intro wS bb;(try dsimp only at bb);go_simp;try with_reducible rfl)
   try simp only [aE]
   refine wpAnyH_ready (rs:=[4]) (by kernel_rfl) (by simp) (AllReadyH.cons (o:=_) rfl (fun K hK=>?_) AllReadyH.nil)
   go_simp
   refine (rC (KE _ x.items x.wanted _ _ ka kb) (congrArg Value.bool e1)).mono ?_;rintro e w1 ⟨rfl,bc⟩;replace q0:=bc.cell q0;replace q1:=bc.cell q1;replace q2:=bc.cell q2;replace q3:=bc.cell q3;have B1:=B0.then bc;replace ka:=ka.bw gA bc;replace kb:=kb.bw jA bc;replace kc:=kc.bw dA bc;refine hK.out _ _ ⟨q0,q1,q2,q3⟩ (fun hHeld=>?_);clear hK K
   try simp only [aE]
   refine RC 5 (v:=?_) rfl (by kernel_rfl) (by rfl) (by assumption) (fun _ _ _ h=>h) ?_ ?_;rotate_left
   ·(intro wS bb;(try dsimp only at bb);go_simp;try with_reducible rfl)
   try simp only [aE]
   refine RC 6 (v:=?_) rfl (by kernel_rfl) (by rfl) (by assumption) (fun _ _ _ h=>h) ?_ ?_;rotate_left
   ·(intro wS bb;(try dsimp only at bb);go_simp;try with_reducible rfl)
   try simp only [aE]
   refine RC 7 (v:=?_) rfl (by kernel_rfl) (by rfl) (by assumption) (fun _ _ _ h=>h) ?_ ?_;rotate_left
   ·(intro wS bb;(try dsimp only at bb);go_simp;try with_reducible rfl)
   try simp only [aE]
   refine RC 8 (v:=?_) rfl (by kernel_rfl) (by rfl) (by assumption) (fun _ _ _ h=>h) ?_ ?_;rotate_left
   ·(intro wS bb;(try dsimp only at bb);go_simp;try with_reducible rfl)
   try simp only [aE]
   refine RC 9 (v:=?_) rfl (by kernel_rfl) (by rfl) (by assumption) (fun _ _ _ h=>h) ?_ ?_;rotate_left
   ·(intro wS bb;(try dsimp only at bb);go_simp;try with_reducible rfl)
   try simp only [aE]
   refine RC 10 (v:=?_) rfl (by kernel_rfl) (by rfl) (by assumption) (fun _ _ _ h=>h) ?_ ?_;rotate_left
   ·(intro wS bb;(try dsimp only at bb);go_simp;try with_reducible rfl)
   try simp only [aE]
   refine RC 11 (v:=?_) rfl (by kernel_rfl) (by rfl) (by assumption) (fun _ _ _ h=>h) ?_ ?_;rotate_left
   ·(intro wS bb;(try dsimp only at bb);go_simp;try with_reducible rfl)
   try simp only [aE]
   refine wpAnyH_ready (rs:=[12]) (by kernel_rfl) (by simp) (AllReadyH.cons (o:=_) rfl (fun K hK=>?_) AllReadyH.nil)
   go_simp
   refine (fI _ x.items x.wanted _ _ ka kb).mono ?_;rintro e w2 ⟨v2,rfl,⟨F2,o2,f2⟩,bd⟩;rw [oL E1.out] at o2;replace q0:=bd.cell q0;replace q1:=bd.cell q1;replace q2:=bd.cell q2;replace q3:=bd.cell q3;have B2:=B1.then bd;replace kc:=kc.bw dA bd;refine hK.out _ _ ⟨q0,q1,q2,q3⟩ (fun hHeld=>?_);clear hK K
   try simp only [aE]
   refine wpAnyH_ready (rs:=[13]) (by kernel_rfl) (by simp) (AllReadyH.cons (o:=_) rfl (fun K hK=>?_) AllReadyH.nil)
   go_simp
   refine (rC (OG _ x.best (wD x.items x.wanted) _ _ kc (xA o2)) (congrArg Value.bool d2)).mono ?_;rintro e w3 ⟨rfl,bf⟩;replace q0:=bf.cell q0;replace q1:=bf.cell q1;replace q2:=bf.cell q2;replace q3:=bf.cell q3;have B3:=B2.then bf;refine hK.out _ _ ⟨q0,q1,q2,q3⟩ (fun hHeld=>?_);clear hK K
   try simp only [aE]
   refine RC 14 (v:=?_) rfl (by kernel_rfl) (by rfl) (by assumption) (fun _ _ _ h=>h) ?_ ?_;rotate_left
   ·(intro wS bb;(try dsimp only at bb);go_simp;try with_reducible rfl)
   try simp only [aE]
   refine RC 15 (v:=?_) rfl (by kernel_rfl) (by rfl) (by assumption) (fun _ _ _ h=>h) ?_ ?_;rotate_left
   ·(intro wS bb;(try dsimp only at bb);go_simp;try with_reducible rfl)
   try simp only [aE]
   refine wpAnyH_take (i:=16) (oi:=_) (v:=undef) rfl (by kernel_rfl) (by kernel_rfl) (by kernel_rfl) (fun _ _ _ h=>h) (Or.inr ⟨by rfl,rfl⟩) (by assumption) ?_
   try simp only [aE]
   refine wpAnyH_take (i:=17) (oi:=_) (v:=undef) rfl (by kernel_rfl) (by kernel_rfl) (by kernel_rfl) (fun _ _ _ h=>h) (Or.inr ⟨by rfl,rfl⟩) (by assumption) ?_
   try simp only [aE]
   refine wpAnyH_take (i:=18) (oi:=_) (v:=undef) rfl (by kernel_rfl) (by kernel_rfl) (by kernel_rfl) (fun _ _ _ h=>h) (Or.inr ⟨by rfl,rfl⟩) (by assumption) ?_
   try simp only [aE]
   refine RC 19 (v:=?_) rfl (by kernel_rfl) (by rfl) (by assumption) (fun _ _ _ h=>h) ?_ ?_;rotate_left
   ·(intro wS bb;(try dsimp only at bb);go_simp;try with_reducible rfl)
   try simp only [aE]
   refine RC 20 (v:=?_) rfl (by kernel_rfl) (by rfl) (by assumption) (fun _ _ _ h=>h) ?_ ?_;rotate_left
   ·(intro wS bb;(try dsimp only at bb);go_simp;try with_reducible rfl)
   try simp only [aE]
   refine wpAnyH_done (by kernel_rfl) ?_ _;refine NoPanic.normal ?_;go_wp2;go_ret;exact Ret.bool HF.out.symm B3
 ·have HF:=pA6 (show JB x=false by rw [JB,e1];rfl);have A0:Bw w (w.alloc (.cells #[va,vb,vc,.int .i64 x.tests] 28)):=(Bw.refl w).alloc _;have s0:=pA (show (w.alloc (.cells #[va,vb,vc,.int .i64 x.tests] 28)).cell? ⟨w.heap.size,0,none⟩=some va from q0);have s1:=pA (show (w.alloc (.cells #[va,vb,vc,.int .i64 x.tests] 28)).cell? ⟨w.heap.size,1,none⟩=some vb from q1);have bj:Rd LA (w.alloc (.cells #[va,vb,vc,.int .i64 x.tests] 28)) x.items [va]:=ka;have bk:Rd OA (w.alloc (.cells #[va,vb,vc,.int .i64 x.tests] 28)) x.wanted [vb]:=kb;clear q0 q1 q2 q3;go_enter func16,ntmps16;go_wp2;refine IA (by kernel_rfl) ?_
  repeat (first | go_big_quiet_skip | (go_big_quiet_want;go_big_quiet_op;first | go_big_quiet_on | (apply Exists.intro;refine ⟨fun _=>?_,?_⟩;(· (((first | (go_at_call 92;exact DA (rC (KE _ x.items x.wanted _ _ (bj.bw gA (eC.bw _)) (bk.bw jA (eC.bw _))) (congrArg Value.bool e1)))))));go_big_quiet_on)))
  refine JA fun wq hbq=>?_
  try dsimp only at *
  go_wp2;go_ret;exact Ret.bool HF.out.symm (A0.then hbq)
theorem sG (w:World) (x:zA) (va vb vc:Value) (ha:Rd LA w x.items [va]) (hb:Rd OA w x.wanted [vb]) (hc:Rd aB w x.best [vc]) :
  Calls prog 21 #[.agg #[va,vb,vc,.int .i64 x.tests]] w (Ret w (.bool (JB x))):=by
 have B0:Bw w (w.alloc (.cells #[va,vb,vc,.int .i64 x.tests] 28)).drew:=((Bw.refl w).alloc _).drew;have q0:(w.alloc (.cells #[va,vb,vc,.int .i64 x.tests] 28)).drew.cell? ⟨w.heap.size,0,none⟩=some va:=by go_simp
 have q1:(w.alloc (.cells #[va,vb,vc,.int .i64 x.tests] 28)).drew.cell? ⟨w.heap.size,1,none⟩=some vb:=by go_simp
 have q2:(w.alloc (.cells #[va,vb,vc,.int .i64 x.tests] 28)).drew.cell? ⟨w.heap.size,2,none⟩=some vc:=by go_simp
 have q3:(w.alloc (.cells #[va,vb,vc,.int .i64 x.tests] 28)).drew.cell? ⟨w.heap.size,3,none⟩=some (.int .i64 x.tests):=by go_simp
 have ka:=ha.bw gA B0;have kb:=hb.bw jA B0;have kc:=hc.bw dA B0;clear ha hb hc;rcases pA8 (kB x.items x.wanted) with e1 | e1
 ·by_cases e2:x.best=wD x.items x.wanted
  ·have d2:decide (x.best=wD x.items x.wanted)=true:=by simpa using e2
   have E1:=pA6 e1;have D2:=pA6 d2;obtain ⟨t,ht⟩:=pA7 (JB x);rw [<-ht];rcases pA8 (inB x.tests 0 1000000) with e3 | e3
   all_goals
    rw [JB,e1,d2,e3] at ht;have HF:=pA6 ht;clear ht;clear e2;go_enter func21,ntmps21;go_wp2_with fail
    go_region_held3 (fun w'=>w'.cell? ⟨w.heap.size,0,none⟩=some va/\w'.cell? ⟨w.heap.size,1,none⟩=some vb/\w'.cell? ⟨w.heap.size,2,none⟩=some vc/\w'.cell? ⟨w.heap.size,3,none⟩=some (.int .i64 x.tests)) (first | go_keep | exact ⟨q0,q1,q2,q3⟩)
     (first
      | (go_at_call 102;refine (rC (EE _ x.items x.wanted _ _ ka kb) (congrArg Value.bool e1)).mono ?_;rintro e w1 ⟨rfl,bc⟩;replace q0:=bc.cell q0;replace q1:=bc.cell q1;replace q2:=bc.cell q2;replace q3:=bc.cell q3;have B1:=B0.then bc;replace ka:=ka.bw gA bc;replace kb:=kb.bw jA bc;replace kc:=kc.bw dA bc)
      | (go_at_call 101;refine (AK _ x.items x.wanted _ _ ka kb (AA E1.out) (yB E1.out)).mono ?_;rintro e w2 ⟨v2,rfl,⟨F2,o2,f2⟩,bd⟩;skip;replace q0:=bd.cell q0;replace q1:=bd.cell q1;replace q2:=bd.cell q2;replace q3:=bd.cell q3;have B2:=B1.then bd;replace kc:=kc.bw dA bd)
      | (go_at_call 91;refine (rC (DQ _ x.best (wD x.items x.wanted) _ _ kc (xA o2)) (congrArg Value.bool d2)).mono ?_;rintro e w3 ⟨rfl,bf⟩;replace q0:=bf.cell q0;replace q1:=bf.cell q1;replace q2:=bf.cell q2;replace q3:=bf.cell q3;have B3:=B2.then bf)
      | (go_at_call 103;refine (rC (UH _ _ _ _) (congrArg Value.bool e3)).mono ?_;rintro e w4 ⟨rfl,bg⟩;replace q0:=bg.cell q0;replace q1:=bg.cell q1;replace q2:=bg.cell q2;replace q3:=bg.cell q3;have B4:=B3.then bg))
    go_wp2;go_ret;exact Ret.bool HF.out.symm B4
  ·have d2:decide (x.best=wD x.items x.wanted)=false:=by simpa using e2
   have E1:=pA6 e1;have HF:=pA6 (show JB x=false by rw [JB,e1,d2];rfl);clear e2;go_enter func21,ntmps21;go_wp2_with fail;refine wp_region_noPanic ?_;refine wp_region_held_drew (S:=(fun w'=>w'.cell? ⟨w.heap.size,0,none⟩=some va/\w'.cell? ⟨w.heap.size,1,none⟩=some vb/\w'.cell? ⟨w.heap.size,2,none⟩=some vc/\w'.cell? ⟨w.heap.size,3,none⟩=some (.int .i64 x.tests))) (by kernel_rfl) ?_ (fun hHeld=>?_)
   ·exact ⟨q0,q1,q2,q3⟩
   refine RC 0 (v:=?_) rfl (by kernel_rfl) (by rfl) (by assumption) (fun _ _ _ h=>h) ?_ ?_;rotate_left
   ·(intro wS bb;(try dsimp only at bb);go_simp;try with_reducible rfl)
   try simp only [aE]
   refine RC 1 (v:=?_) rfl (by kernel_rfl) (by rfl) (by assumption) (fun _ _ _ h=>h) ?_ ?_;rotate_left
   ·(intro wS bb;(try dsimp only at bb);go_simp;try with_reducible rfl)
   try simp only [aE]
   refine RC 2 (v:=?_) rfl (by kernel_rfl) (by rfl) (by assumption) (fun _ _ _ h=>h) ?_ ?_;rotate_left
   ·(intro wS bb;(try dsimp only at bb);go_simp;try with_reducible rfl)
   try simp only [aE]
   refine RC 3 (v:=?_) rfl (by kernel_rfl) (by rfl) (by assumption) (fun _ _ _ h=>h) ?_ ?_;rotate_left
   ·(intro wS bb;(try dsimp only at bb);go_simp;try with_reducible rfl)
   try simp only [aE]
   refine wpAnyH_ready (rs:=[4]) (by kernel_rfl) (by simp) (AllReadyH.cons (o:=_) rfl (fun K hK=>?_) AllReadyH.nil)
   go_simp
   refine (rC (EE _ x.items x.wanted _ _ ka kb) (congrArg Value.bool e1)).mono ?_;rintro e w1 ⟨rfl,bc⟩;replace q0:=bc.cell q0;replace q1:=bc.cell q1;replace q2:=bc.cell q2;replace q3:=bc.cell q3;have B1:=B0.then bc;replace ka:=ka.bw gA bc;replace kb:=kb.bw jA bc;replace kc:=kc.bw dA bc;refine hK.out _ _ ⟨q0,q1,q2,q3⟩ (fun hHeld=>?_);clear hK K
   try simp only [aE]
   refine RC 5 (v:=?_) rfl (by kernel_rfl) (by rfl) (by assumption) (fun _ _ _ h=>h) ?_ ?_;rotate_left
   ·(intro wS bb;(try dsimp only at bb);go_simp;try with_reducible rfl)
   try simp only [aE]
   refine RC 6 (v:=?_) rfl (by kernel_rfl) (by rfl) (by assumption) (fun _ _ _ h=>h) ?_ ?_;rotate_left
   ·(intro wS bb;(try dsimp only at bb);go_simp;try with_reducible rfl)
   try simp only [aE]
   refine RC 7 (v:=?_) rfl (by kernel_rfl) (by rfl) (by assumption) (fun _ _ _ h=>h) ?_ ?_;rotate_left
   ·(intro wS bb;(try dsimp only at bb);go_simp;try with_reducible rfl)
   try simp only [aE]
   refine RC 8 (v:=?_) rfl (by kernel_rfl) (by rfl) (by assumption) (fun _ _ _ h=>h) ?_ ?_;rotate_left
   ·(intro wS bb;(try dsimp only at bb);go_simp;try with_reducible rfl)
   try simp only [aE]
   refine RC 9 (v:=?_) rfl (by kernel_rfl) (by rfl) (by assumption) (fun _ _ _ h=>h) ?_ ?_;rotate_left
   ·(intro wS bb;(try dsimp only at bb);go_simp;try with_reducible rfl)
   try simp only [aE]
   refine RC 10 (v:=?_) rfl (by kernel_rfl) (by rfl) (by assumption) (fun _ _ _ h=>h) ?_ ?_;rotate_left
   ·(intro wS bb;(try dsimp only at bb);go_simp;try with_reducible rfl)
   try simp only [aE]
   refine RC 11 (v:=?_) rfl (by kernel_rfl) (by rfl) (by assumption) (fun _ _ _ h=>h) ?_ ?_;rotate_left
   ·(intro wS bb;(try dsimp only at bb);go_simp;try with_reducible rfl)
   try simp only [aE]
   refine wpAnyH_ready (rs:=[12]) (by kernel_rfl) (by simp) (AllReadyH.cons (o:=_) rfl (fun K hK=>?_) AllReadyH.nil)
   go_simp
   refine (AK _ x.items x.wanted _ _ ka kb (AA E1.out) (yB E1.out)).mono ?_;rintro e w2 ⟨v2,rfl,⟨F2,o2,f2⟩,bd⟩
   skip
   replace q0:=bd.cell q0;replace q1:=bd.cell q1;replace q2:=bd.cell q2;replace q3:=bd.cell q3;have B2:=B1.then bd;replace kc:=kc.bw dA bd;refine hK.out _ _ ⟨q0,q1,q2,q3⟩ (fun hHeld=>?_);clear hK K
   try simp only [aE]
   refine wpAnyH_ready (rs:=[13]) (by kernel_rfl) (by simp) (AllReadyH.cons (o:=_) rfl (fun K hK=>?_) AllReadyH.nil)
   go_simp
   refine (rC (DQ _ x.best (wD x.items x.wanted) _ _ kc (xA o2)) (congrArg Value.bool d2)).mono ?_;rintro e w3 ⟨rfl,bf⟩;replace q0:=bf.cell q0;replace q1:=bf.cell q1;replace q2:=bf.cell q2;replace q3:=bf.cell q3;have B3:=B2.then bf;refine hK.out _ _ ⟨q0,q1,q2,q3⟩ (fun hHeld=>?_);clear hK K
   try simp only [aE]
   refine RC 14 (v:=?_) rfl (by kernel_rfl) (by rfl) (by assumption) (fun _ _ _ h=>h) ?_ ?_;rotate_left
   ·(intro wS bb;(try dsimp only at bb);go_simp;try with_reducible rfl)
   try simp only [aE]
   refine RC 15 (v:=?_) rfl (by kernel_rfl) (by rfl) (by assumption) (fun _ _ _ h=>h) ?_ ?_;rotate_left
   ·(intro wS bb;(try dsimp only at bb);go_simp;try with_reducible rfl)
   try simp only [aE]
   refine wpAnyH_take (i:=16) (oi:=_) (v:=undef) rfl (by kernel_rfl) (by kernel_rfl) (by kernel_rfl) (fun _ _ _ h=>h) (Or.inr ⟨by rfl,rfl⟩) (by assumption) ?_
   try simp only [aE]
   refine wpAnyH_take (i:=17) (oi:=_) (v:=undef) rfl (by kernel_rfl) (by kernel_rfl) (by kernel_rfl) (fun _ _ _ h=>h) (Or.inr ⟨by rfl,rfl⟩) (by assumption) ?_
   try simp only [aE]
   refine wpAnyH_take (i:=18) (oi:=_) (v:=undef) rfl (by kernel_rfl) (by kernel_rfl) (by kernel_rfl) (fun _ _ _ h=>h) (Or.inr ⟨by rfl,rfl⟩) (by assumption) ?_
   try simp only [aE]
   refine RC 19 (v:=?_) rfl (by kernel_rfl) (by rfl) (by assumption) (fun _ _ _ h=>h) ?_ ?_;rotate_left
   ·(intro wS bb;(try dsimp only at bb);go_simp;try with_reducible rfl)
   try simp only [aE]
   refine RC 20 (v:=?_) rfl (by kernel_rfl) (by rfl) (by assumption) (fun _ _ _ h=>h) ?_ ?_;rotate_left
   ·(intro wS bb;(try dsimp only at bb);go_simp;try with_reducible rfl)
   try simp only [aE]
   refine wpAnyH_done (by kernel_rfl) ?_ _;refine NoPanic.normal ?_;go_wp2;go_ret;exact Ret.bool HF.out.symm B3
 ·have HF:=pA6 (show JB x=false by rw [JB,e1];rfl);have A0:Bw w (w.alloc (.cells #[va,vb,vc,.int .i64 x.tests] 28)):=(Bw.refl w).alloc _;have s0:=pA (show (w.alloc (.cells #[va,vb,vc,.int .i64 x.tests] 28)).cell? ⟨w.heap.size,0,none⟩=some va from q0);have s1:=pA (show (w.alloc (.cells #[va,vb,vc,.int .i64 x.tests] 28)).cell? ⟨w.heap.size,1,none⟩=some vb from q1);have bj:Rd LA (w.alloc (.cells #[va,vb,vc,.int .i64 x.tests] 28)) x.items [va]:=ka;have bk:Rd OA (w.alloc (.cells #[va,vb,vc,.int .i64 x.tests] 28)) x.wanted [vb]:=kb;clear q0 q1 q2 q3;go_enter func21,ntmps21;go_wp2;refine IA (by kernel_rfl) ?_
  repeat (first | go_big_quiet_skip | (go_big_quiet_want;go_big_quiet_op;first | go_big_quiet_on | (apply Exists.intro;refine ⟨fun _=>?_,?_⟩;(· (((first | (go_at_call 102;exact DA (rC (EE _ x.items x.wanted _ _ (bj.bw gA (eC.bw _)) (bk.bw jA (eC.bw _))) (congrArg Value.bool e1)))))));go_big_quiet_on)))
  refine JA fun wq hbq=>?_
  try dsimp only at *
  go_wp2;go_ret;exact Ret.bool HF.out.symm (A0.then hbq)
def NE (x:zA):ByteArray:=
 if JB x then ⟨#[105,116,101,109,115,32]⟩++QA x.items.length++⟨#[32,98,101,115,116,32]⟩++fD x.best++⟨#[32,116,101,115,116,115,32]⟩++QA x.tests else ⟨#[]⟩
theorem bC {n:Int} (h:0<=n/\n<=1000000000):(Lit.int .i64 n).wf=true:=by
 simp [Lit.wf,IntKind.min,IntKind.max,IntKind.signed,IntKind.bits];omega
theorem lK {l:List iA} {e:List mA} (h:dB l=true):∀v∈wD l e,0<=v/\v<=99:=fun v hv=>by
 unfold wD at hv;obtain ⟨x,hx,rfl⟩:=List.mem_map.1 hv;exact lE (TA h (List.mem_filter.1 hx).1)
theorem FJ {l:List Int} (hw:∀x∈l,(Lit.int .i64 x).wf=true):(fD l).size<=4+l.length*21:=by
 unfold fD
 split
 ·show 4<=_;omega
 ·unfold GC dF;have h1:=bM ⟨#[32]⟩ (UD l) 0 ⟨#[]⟩;have h2:=cM (l:=l) ⟨#[32]⟩ hw;have e:(⟨#[32]⟩:ByteArray).size=1:=rfl;have e0:(⟨#[]⟩:ByteArray).size=0:=rfl;rw [e] at h2;omega
theorem MV (w:World) (x:zA) (va vb vc:Value) (ha:Rd LA w x.items [va]) (hb:Rd OA w x.wanted [vb]) (hc:Rd aB w x.best [vc]) :
  Calls prog 59 #[.agg #[va,vb,vc,.int .i64 x.tests]] w (Ret w (.string (NE x))):=by
 obtain ⟨A,n,c,rfl,L,Lc,Lm⟩:=yA ha;have B0:Bw w (w.alloc (.cells #[.slice A n c,vb,vc,.int .i64 x.tests] 28)):=(Bw.refl w).alloc _;go_enter func59,ntmps59;go_wp2_with fail;refine (rG _ x _ _ _ (ha.bw gA B0) (hb.bw jA B0) (hc.bw dA B0)).mono ?_;rintro e w2 ⟨rfl,bf⟩;obtain ⟨p0,p1,p2,p3⟩:C4 w2 w.heap.size (.slice A n c) vb vc (.int .i64 x.tests):=bf.c4 (by unfold C4;go_simp);have B2:=B0.then bf;rcases pA8 (JB x) with e1 | e1
 ·have E1:=pA6 e1;rw [e1];clear e1;have bd:=E1.out;unfold JB at bd;simp only [Bool.and_eq_true,decide_eq_true_iff] at bd;obtain ⟨h1,h2,h3⟩:=bd;have hI:=AA h1;have bc:=VA hI;rw [<-L.out] at bc;have ht:=pD.1 h3;have bb:∀v∈x.best,(Lit.int .i64 v).wf=true:=fun v hv=>bC (by rw [h2] at hv;have:=lK hI v hv;omega)
  have bg:x.best.length<=16:=by rw [h2];have:=jJ x.items x.wanted;rw [<-L.out] at this;omega
  have bj:=FJ bb;have HF:=pA6 (show ⟨#[105,116,101,109,115,32]⟩++QA x.items.length++⟨#[32,98,101,115,116,32]⟩++fD x.best++⟨#[32,116,101,115,116,115,32]⟩++QA x.tests=NE x by rw [NE,if_pos E1.out]);rw [<-L.out] at HF;have wn:=bC (n:=(n:Int)) (by omega);have wt:=bC (n:=x.tests) (by omega);have k2:=hc.bw dA B2;obtain ⟨P,hP⟩:=pA7 (QA n);obtain ⟨Q,hQ⟩:=pA7 (QA x.tests);obtain ⟨C,hC⟩:=pA7 (fD x.best);have bm:P.size<=20:=by rw [hP];exact (mB wn).2
  have bn:Q.size<=20:=by rw [hQ];exact (mB wt).2
  have bk:C.size<=400:=by rw [hC];omega
  have cP:∀W,Calls prog 125 #[.int .i64 (n:Int)] W (Ret W (.string P)):=fun W=>by rw [hP];exact dD W n wn
  have cQ:∀W,Calls prog 125 #[.int .i64 x.tests] W (Ret W (.string Q)):=fun W=>by rw [hQ];exact dD W x.tests wt
  have cC:∀s:eC w2,Calls prog 51 #[vc] s.1 (Ret s.1 (.string C)):=fun s=>by rw [hC];exact bN s.1 x.best vc (k2.bw dA s.bw) bb (by omega)
  rw [<-hP,<-hQ,<-hC] at HF;have a1:∀W,(Op.stringOp .add ⟨#[105,116,101,109,115,32]⟩ P).run prog W=.ok (.string (⟨#[105,116,101,109,115,32]⟩++P)) W:=fun W=>run_string_add_sum W _ _ (by have:(⟨#[105,116,101,109,115,32]⟩:ByteArray).size=6:=rfl;omega)
  have a2:∀W,(Op.stringOp .add (⟨#[105,116,101,109,115,32]⟩++P) ⟨#[32,98,101,115,116,32]⟩).run prog W=.ok (.string (⟨#[105,116,101,109,115,32]⟩++P++⟨#[32,98,101,115,116,32]⟩)) W:=fun W=>run_string_add_sum W _ _ (by have:(⟨#[105,116,101,109,115,32]⟩:ByteArray).size=6:=rfl;have:(⟨#[32,98,101,115,116,32]⟩:ByteArray).size=6:=rfl;rw [lA];omega)
  have a3:∀W,(Op.stringOp .add (⟨#[105,116,101,109,115,32]⟩++P++⟨#[32,98,101,115,116,32]⟩) C).run prog W=.ok (.string (⟨#[105,116,101,109,115,32]⟩++P++⟨#[32,98,101,115,116,32]⟩++C)) W:=fun W=>run_string_add_sum W _ _ (by have:(⟨#[105,116,101,109,115,32]⟩:ByteArray).size=6:=rfl;have:(⟨#[32,98,101,115,116,32]⟩:ByteArray).size=6:=rfl;rw [lA,lA];omega)
  have a4:∀W,(Op.stringOp .add (⟨#[105,116,101,109,115,32]⟩++P++⟨#[32,98,101,115,116,32]⟩++C) ⟨#[32,116,101,115,116,115,32]⟩).run prog W=.ok (.string (⟨#[105,116,101,109,115,32]⟩++P++⟨#[32,98,101,115,116,32]⟩++C++⟨#[32,116,101,115,116,115,32]⟩)) W:=fun W=>run_string_add_sum W _ _ (by have:(⟨#[105,116,101,109,115,32]⟩:ByteArray).size=6:=rfl;have:(⟨#[32,98,101,115,116,32]⟩:ByteArray).size=6:=rfl;have:(⟨#[32,116,101,115,116,115,32]⟩:ByteArray).size=7:=rfl;rw [lA,lA,lA];omega)
  have a5:∀W,(Op.stringOp .add (⟨#[105,116,101,109,115,32]⟩++P++⟨#[32,98,101,115,116,32]⟩++C++⟨#[32,116,101,115,116,115,32]⟩) Q).run prog W=.ok (.string (⟨#[105,116,101,109,115,32]⟩++P++⟨#[32,98,101,115,116,32]⟩++C++⟨#[32,116,101,115,116,115,32]⟩++Q)) W:=fun W=>run_string_add_sum W _ _ (by have:(⟨#[105,116,101,109,115,32]⟩:ByteArray).size=6:=rfl;have:(⟨#[32,98,101,115,116,32]⟩:ByteArray).size=6:=rfl;have:(⟨#[32,116,101,115,116,115,32]⟩:ByteArray).size=7:=rfl;rw [lA,lA,lA,lA];omega)
  have s0:=pA p0;have s2:=pA p2;have s3:=pA p3;clear p0 p1 p2 p3 hP hQ hC bm bn bk h1 h2 h3 hI bc ht bb bg bj wn wt k2;go_wp2;refine IA (by kernel_rfl) ?_
  repeat (first | go_big_quiet_skip | (go_big_quiet_want;go_big_quiet_op;first | go_big_quiet_on | (apply Exists.intro;refine ⟨fun _=>?_,?_⟩;(· (((first | (go_at_call 125;first | (with_reducible exact DA (cP _)) | (with_reducible exact DA (cQ _))) | (go_at_call 51;exact DA (cC _))))));go_big_quiet_on)))
  refine JA fun wq hbq=>?_
  try dsimp only at *
  go_wp2;go_ret;exact Ret.str HF.out (B2.then hbq)
 ·have E1:=pA6 e1;rw [e1];clear e1;go_wp2;go_ret;exact Ret.str (by rw [NE,E1.out];rfl) (B2)
theorem NV (w:World) (x:zA) (va vb vc:Value) (ha:Rd LA w x.items [va]) (hb:Rd OA w x.wanted [vb]) (hc:Rd aB w x.best [vc]) :
  Calls prog 60 #[.agg #[va,vb,vc,.int .i64 x.tests]] w (Ret w (.string (NE x))):=by
 obtain ⟨A,n,c,rfl,L,Lc,Lm⟩:=yA ha;have B0:Bw w (w.alloc (.cells #[.slice A n c,vb,vc,.int .i64 x.tests] 28)):=(Bw.refl w).alloc _;go_enter func60,ntmps60;go_wp2_with fail;refine (sG _ x _ _ _ (ha.bw gA B0) (hb.bw jA B0) (hc.bw dA B0)).mono ?_;rintro e w2 ⟨rfl,bf⟩;obtain ⟨p0,p1,p2,p3⟩:C4 w2 w.heap.size (.slice A n c) vb vc (.int .i64 x.tests):=bf.c4 (by unfold C4;go_simp);have B2:=B0.then bf;rcases pA8 (JB x) with e1 | e1
 ·have E1:=pA6 e1;rw [e1];clear e1;have bd:=E1.out;unfold JB at bd;simp only [Bool.and_eq_true,decide_eq_true_iff] at bd;obtain ⟨h1,h2,h3⟩:=bd;have hI:=AA h1;have bc:=VA hI;rw [<-L.out] at bc;have ht:=pD.1 h3;have bb:∀v∈x.best,(Lit.int .i64 v).wf=true:=fun v hv=>bC (by rw [h2] at hv;have:=lK hI v hv;omega)
  have bg:x.best.length<=16:=by rw [h2];have:=jJ x.items x.wanted;rw [<-L.out] at this;omega
  have bj:=FJ bb;have HF:=pA6 (show ⟨#[105,116,101,109,115,32]⟩++QA x.items.length++⟨#[32,98,101,115,116,32]⟩++fD x.best++⟨#[32,116,101,115,116,115,32]⟩++QA x.tests=NE x by rw [NE,if_pos E1.out]);rw [<-L.out] at HF;have wn:=bC (n:=(n:Int)) (by omega);have wt:=bC (n:=x.tests) (by omega);have k2:=hc.bw dA B2;obtain ⟨P,hP⟩:=pA7 (QA n);obtain ⟨Q,hQ⟩:=pA7 (QA x.tests);obtain ⟨C,hC⟩:=pA7 (fD x.best);have bm:P.size<=20:=by rw [hP];exact (mB wn).2
  have bn:Q.size<=20:=by rw [hQ];exact (mB wt).2
  have bk:C.size<=400:=by rw [hC];omega
  have cP:∀W,Calls prog 64 #[.int .i64 (n:Int)] W (Ret W (.string P)):=fun W=>by rw [hP];exact yC W n wn
  have cQ:∀W,Calls prog 64 #[.int .i64 x.tests] W (Ret W (.string Q)):=fun W=>by rw [hQ];exact yC W x.tests wt
  have cC:∀s:eC w2,Calls prog 52 #[vc] s.1 (Ret s.1 (.string C)):=fun s=>by rw [hC];exact cN s.1 x.best vc (k2.bw dA s.bw) bb (by omega)
  rw [<-hP,<-hQ,<-hC] at HF;have a1:∀W,(Op.stringOp .add ⟨#[105,116,101,109,115,32]⟩ P).run prog W=.ok (.string (⟨#[105,116,101,109,115,32]⟩++P)) W:=fun W=>run_string_add_sum W _ _ (by have:(⟨#[105,116,101,109,115,32]⟩:ByteArray).size=6:=rfl;omega)
  have a2:∀W,(Op.stringOp .add (⟨#[105,116,101,109,115,32]⟩++P) ⟨#[32,98,101,115,116,32]⟩).run prog W=.ok (.string (⟨#[105,116,101,109,115,32]⟩++P++⟨#[32,98,101,115,116,32]⟩)) W:=fun W=>run_string_add_sum W _ _ (by have:(⟨#[105,116,101,109,115,32]⟩:ByteArray).size=6:=rfl;have:(⟨#[32,98,101,115,116,32]⟩:ByteArray).size=6:=rfl;rw [lA];omega)
  have a3:∀W,(Op.stringOp .add (⟨#[105,116,101,109,115,32]⟩++P++⟨#[32,98,101,115,116,32]⟩) C).run prog W=.ok (.string (⟨#[105,116,101,109,115,32]⟩++P++⟨#[32,98,101,115,116,32]⟩++C)) W:=fun W=>run_string_add_sum W _ _ (by have:(⟨#[105,116,101,109,115,32]⟩:ByteArray).size=6:=rfl;have:(⟨#[32,98,101,115,116,32]⟩:ByteArray).size=6:=rfl;rw [lA,lA];omega)
  have a4:∀W,(Op.stringOp .add (⟨#[105,116,101,109,115,32]⟩++P++⟨#[32,98,101,115,116,32]⟩++C) ⟨#[32,116,101,115,116,115,32]⟩).run prog W=.ok (.string (⟨#[105,116,101,109,115,32]⟩++P++⟨#[32,98,101,115,116,32]⟩++C++⟨#[32,116,101,115,116,115,32]⟩)) W:=fun W=>run_string_add_sum W _ _ (by have:(⟨#[105,116,101,109,115,32]⟩:ByteArray).size=6:=rfl;have:(⟨#[32,98,101,115,116,32]⟩:ByteArray).size=6:=rfl;have:(⟨#[32,116,101,115,116,115,32]⟩:ByteArray).size=7:=rfl;rw [lA,lA,lA];omega)
  have a5:∀W,(Op.stringOp .add (⟨#[105,116,101,109,115,32]⟩++P++⟨#[32,98,101,115,116,32]⟩++C++⟨#[32,116,101,115,116,115,32]⟩) Q).run prog W=.ok (.string (⟨#[105,116,101,109,115,32]⟩++P++⟨#[32,98,101,115,116,32]⟩++C++⟨#[32,116,101,115,116,115,32]⟩++Q)) W:=fun W=>run_string_add_sum W _ _ (by have:(⟨#[105,116,101,109,115,32]⟩:ByteArray).size=6:=rfl;have:(⟨#[32,98,101,115,116,32]⟩:ByteArray).size=6:=rfl;have:(⟨#[32,116,101,115,116,115,32]⟩:ByteArray).size=7:=rfl;rw [lA,lA,lA,lA];omega)
  have s0:=pA p0;have s2:=pA p2;have s3:=pA p3;clear p0 p1 p2 p3 hP hQ hC bm bn bk h1 h2 h3 hI bc ht bb bg bj wn wt k2;go_wp2;refine IA (by kernel_rfl) ?_
  repeat (first | go_big_quiet_skip | (go_big_quiet_want;go_big_quiet_op;first | go_big_quiet_on | (apply Exists.intro;refine ⟨fun _=>?_,?_⟩;(· (((first | (go_at_call 64;first | (with_reducible exact DA (cP _)) | (with_reducible exact DA (cQ _))) | (go_at_call 52;exact DA (cC _))))));go_big_quiet_on)))
  refine JA fun wq hbq=>?_
  try dsimp only at *
  go_wp2;go_ret;exact Ret.str HF.out (B2.then hbq)
 ·have E1:=pA6 e1;rw [e1];clear e1;go_wp2;go_ret;exact Ret.str (by rw [NE,E1.out];rfl) (B2)
end Go.Proofs.YtpihighajaeabaaGreat
