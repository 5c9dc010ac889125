/- The console in the program: the answer to a line. -/
import Derived.Test.YtpihighajaeabaaGreatQConB
import Derived.Test.YtpihighajaeabaaGreatQConW
import Derived.Deep.RegionHeld3
namespace Go.Proofs.YtpihighajaeabaaGreat
open Go.RowKit
set_option linter.unusedVariables false
set_option linter.unusedSimpArgs false
noncomputable def iAg (m:CS) (p q:ByteArray) (E:List kA×Bool):ByteArray×CS:=if p=EL∧E.2=true then (wOk,⟨SE m.s.items E.1,true,m.voters⟩) else if m.on=false then (CE,m) else tH m p q
noncomputable def gAc (m:CS) (l:ByteArray):ByteArray×CS:=if m.on=false then (CE,m) else (eJ m l,m)
theorem PU {m:CS} {l p q:ByteArray} (h:zG (bl l)=some (bl p,bl q)):oI m l=iAg m p q (GF q):=by
 unfold oI iAg;rw [h];simp only [BJ]
theorem eA0 {m:CS} {l:ByteArray} (h:zG (bl l)=none):oI m l=gAc m l:=by unfold oI gAc;rw [h]
theorem NS:∀ {l:List UInt8} {k:Nat},l[k]? = some 32→(∀c∈l.take k,¬c=32)→zG l=some (l.take k,l.drop (k+1))
 | [],_,h,_=>by simp at h
 | x::l,0,h,_=>by
  simp at h;rw [zG,if_pos h];rfl
 | x::l,k+1,h,hn=>by
  rw [zG,if_neg (hn x (by simp)),NS (l:=l) (k:=k) (by simpa using h) (fun c hc=>hn c (by simp [hc]))];rfl
theorem OS:∀ {l:List UInt8},(∀c∈l,¬c=32)→zG l=none
 | [],_=>rfl
 | x::l,h=>by rw [zG,if_neg (h x (by simp)),OS (l:=l) (fun c hc=>h c (by simp [hc]))];rfl
theorem jA4 {s:ByteArray} {b:Nat} (hb:b≤s.size) (W:World):(Instr.slice 9 (.string s) none (some (.int .i64 (b:Int))) none).run Tryz.prog W=.ok (.string (s.extract 0 b)) W:=by
 rw [run_slice_string_to_if W 9 s .i64 b Tryz.underlying9,if_pos ⟨by omega,by omega⟩];rfl
theorem ID.from {L:Lay} {b:Nat} {w W:World} {r:ByteArray×CS} {e:Ending} {W':World} (h:ID L b W r e W') (hb:Bw w W) (hlt:b<w.heap.size):ID L b w r e W':=⟨h.1,h.2.1,(Below.mono hb (Nat.le_of_lt hlt)).trans h.2.2⟩
theorem eA3 {m:CS} {l:ByteArray} (h:l=bAw):eJ m l=if m.voters=[] then KU else KF m.s.items m.voters:=by unfold eJ;rw [if_pos h]
theorem eA4 {m:CS} {l:ByteArray} (h:l=lQ):eJ m l=nC m.s.best:=by subst h;unfold eJ;rw [if_neg (by decide),if_pos rfl]
theorem WY {m:CS} {l:ByteArray} (h:l=LQ):eJ m l=if EH m.s.items m.s.wanted=[] then iAf else mE (EH m.s.items m.s.wanted) ⟨#[59,32]⟩:=by subst h;unfold eJ;rw [if_neg (by decide),if_neg (by decide),if_pos rfl]
theorem OT {m:CS} {l:ByteArray} (h:l=kM):eJ m l=nC (MK m.s.items m.s.wanted):=by subst h;unfold eJ;rw [if_neg (by decide),if_neg (by decide),if_neg (by decide),if_pos rfl]
theorem bA3 {m:CS} {l:ByteArray} (h:l=tW):eJ m l=JG m.s:=by subst h;unfold eJ;rw [if_neg (by decide),if_neg (by decide),if_neg (by decide),if_neg (by decide),if_pos rfl]
theorem eA5 {m:CS} {l:ByteArray} (h:l=EL):eJ m l=JB m.s.wanted:=by subst h;unfold eJ;rw [if_neg (by decide),if_neg (by decide),if_neg (by decide),if_neg (by decide),if_neg (by decide),if_pos rfl]
theorem XY {m:CS} {l:ByteArray} (h:l=MQ):eJ m l=JB (EU m.s.wanted):=by subst h;unfold eJ;rw [if_neg (by decide),if_neg (by decide),if_neg (by decide),if_neg (by decide),if_neg (by decide),if_neg (by decide),if_pos rfl]
theorem eA6 {m:CS} {l:ByteArray} (h1:¬l=bAw) (h2:¬l=lQ) (h3:¬l=LQ) (h4:¬l=kM) (h5:¬l=tW) (h6:¬l=EL) (h7:¬l=MQ):eJ m l=PG:=by
 unfold eJ;rw [if_neg h1,if_neg h2,if_neg h3,if_neg h4,if_neg h5,if_neg h6,if_neg h7]
set_option maxRecDepth 100000 in
set_option maxHeartbeats 3200000 in
theorem YY (w:World) (b:Nat) (m:CS) (l:ByteArray) (h:StP LI b w m) (hl:l.size≤1048576) :
  Calls Tryz.prog 148 #[.pointer (some ⟨b,0,none⟩),.string l] w (ID LI b w (oI m l)):=by
 obtain ⟨S,FV,vi,vw,vb,vv,h0⟩:=h;obtain ⟨A1,n1,c1,rfl,l1,_⟩:=iA h0.items;obtain ⟨A2,n2,c2,rfl,l2,_⟩:=iA h0.wanted;obtain ⟨A3,n3,c3,rfl,l3,_⟩:=iA h0.best;obtain ⟨A4,n4,c4,rfl,l4,_⟩:=iA h0.vote;have L4:=Lib.hid l4;clear l1 l2 l3 l4;obtain ⟨R,hR⟩:∃R,R=oI m l:=⟨_,rfl⟩;rw [← hR];have H0:=Lib.hid h0;have HR:=Lib.hid hR;clear hR h0;go_enter Tryz.func148,Tryz.ntmps148;go_wp2
 go_loopg [5,6,7,8] (l.size+1) (fun gg wd rs hs i w'=>∃k:Nat,k≤l.size∧gg=l.size-k+1∧i=.int .i64 (k:Int)∧Bw w w'∧((hs=.bool false∧wd=.string l∧rs=.string ⟨#[]⟩∧Hid (∀c∈(bl l).take k,¬c=32))∨(∃p q,hs=.bool true∧wd=.string p∧rs=.string q∧Hid (zG (bl l)=some (bl p,bl q))∧Hid (q.size≤1048576))))
 case atStart=>exact ⟨0,by omega,by omega,rfl,Bw.refl _,.inl ⟨rfl,rfl,rfl,Lib.hid (by simp)⟩⟩
 case round=>
  obtain ⟨k,hk,rfl,rfl,hb,hcase⟩:=hrel;rcases hcase with ⟨rfl,rfl,rfl,HNS⟩ | ⟨p,q,rfl,rfl,rfl,HS,HQ⟩
  ·by_cases hlt:k<l.size
   ·obtain ⟨x,hx⟩:=rA (xs:=bl l) (k:=k) (by rw [VC];exact hlt);have hidx:=GQ hx;obtain ⟨xi,hxi⟩:∃xi:Int,xi=(x.toNat:Int):=⟨_,rfl⟩;rw [← hxi] at hidx;have i1:(k:Int)<(l.size:Int):=by omega
    by_cases he:x=32
    ·have e1:(xi==32)=true:=by rw [hxi,he];rfl
     have h1:=jA4 (s:=l) (b:=k) hk;have h2:∀W,(Instr.slice 9 (.string l) (some (.int .i64 ((k:Int)+1))) none none).run Tryz.prog W=.ok (.string (l.extract (k+1) l.size)) W:=fun W=>by
      have:=GV (s:=l) (a:=k+1) (by omega) W
      rwa [Int.natCast_add] at this
     have hwk:IntKind.i64.wrap ((k:Int)+1)=(k:Int)+1:=by simp [IntKind.wrap,IntKind.bits,IntKind.signed];omega
     obtain ⟨p,hp⟩:∃p,p=l.extract 0 k:=⟨_,rfl⟩;obtain ⟨q,hq⟩:∃q,q=l.extract (k+1) l.size:=⟨_,rfl⟩;rw [← hp] at h1;simp only [← hq] at h2;have HS:=Lib.hid (show zG (bl l)=some (bl p,bl q) from by
      rw [hp,hq,BF,BF,List.drop_zero,List.take_of_length_le (i:=l.size) (by rw [VC];omega)];exact NS (by rw [hx,he]) HNS.out)
     have HQ:=Lib.hid (show q.size≤1048576 from by rw [hq];simp;omega);clear hx hxi he hp hq;go_wp2_with fail
     go_region_held3 (fun w'=>True) (exact trivial) (fail)
     go_wp2
     go_roundg (l.size-(k+1)+1)
     case measure=>omega
     case rel=>exact ⟨k+1,by omega,rfl,by go_num,hb.then (Bw.refl wr).drew,.inr ⟨p,q,rfl,rfl,rfl,HS,HQ⟩⟩
    ·have e1:(xi==32)=false:=by
      rw [hxi];have:x.toNat≠(32:UInt8).toNat:=fun e=>he (UInt8.toNat_inj.1 e)
      simp at this ⊢;omega
     have HN2:=Lib.hid (show ∀c∈(bl l).take (k+1),¬c=32 from fun c hc=>by
      rw [List.take_add_one,hx] at hc;rcases List.mem_append.1 hc with hc | hc
      ·exact HNS.out c hc
      ·rw [Option.toList_some,List.mem_singleton] at hc;rw [hc];exact he)
     clear hx hxi he;go_wp2
     go_roundg (l.size-(k+1)+1)
     case measure=>omega
     case rel=>exact ⟨k+1,by omega,rfl,by go_num,hb,.inl ⟨rfl,rfl,rfl,HN2⟩⟩
   ·have i1:¬(k:Int)<(l.size:Int):=by omega
    have hR:=HR.out.trans (eA0 (OS (l:=bl l) (fun c hc=>HNS.out c (by rw [List.take_of_length_le (by rw [VC];omega)];exact hc))));clear hlt HNS;unfold gAc at hR
    cases hm:m.on with
    | false=>
     have HS7:=Lib.hid (show ID LI b w R (.returned (.string CE)) wr from by rw [hR,if_pos hm];exact H0.out.same hb _);have bx:=(H0.out.bw hb).box;rw [hm] at bx;have x0:=bx.c 0 _ rfl;have x1:=bx.c 1 _ rfl;have x2:=bx.c 2 _ rfl;have x3:=bx.c 3 _ rfl;have x4:=bx.c 4 _ rfl;have x5:=bx.c 5 _ rfl;have xf:=bx.fr;clear bx hm hR;rcases Bool.eq_false_or_eq_true (l.toList==[119,105,115,104]) with e1 | e1
     all_goals
      go_wp2;go_ret;exact HS7.out
    | true=>
     have HV:=Lib.hid (fun W (h:Bw w W) s (hs:eJ m l=s)=>show ID LI b w R (.returned (.string s)) W from by rw [hR,if_neg (by rw [hm];decide),hs];exact H0.out.same h _);have HB:=Lib.hid (fun W (h:Bw w W)=>show Box W b [.bool true,.slice A1 n1 c1,.slice A2 n2 c2,.slice A3 n3 c3,.int .i64 m.s.tests,.slice A4 n4 c4] from by have:=(H0.out.bw h).box;rwa [hm] at this);have bx:=HB.out wr hb;have x0:=bx.c 0 _ rfl;have x1:=bx.c 1 _ rfl;have x2:=bx.c 2 _ rfl;have x3:=bx.c 3 _ rfl;have x4:=bx.c 4 _ rfl;have x5:=bx.c 5 _ rfl;have xf:=bx.fr;have s1:=qA x1;have s2:=qA x2;clear bx hm hR;by_cases h1:l=bAw
     ·skip
      have e1:(l.toList==[118,111,116,101])=true:=aG h1;have e2:(l.toList==[98,101,115,116])=false:=jB h1 (by decide);have e3:(l.toList==[108,97,121,101,114,115])=false:=jB h1 (by decide);have e4:(l.toList==[112,114,111,103,114,101,115,115])=false:=jB h1 (by decide);have e5:(l.toList==[115,116,97,116,101])=false:=jB h1 (by decide);have e6:(l.toList==[119,105,115,104])=false:=jB h1 (by decide);have e7:(l.toList==[110,111,114,109,97,108])=false:=jB h1 (by decide);have hv:=eA3 (m:=m) h1;clear h1;have HVV:=Lib.hid hv;clear hv;go_wp2_with fail;refine mA (by kernel_rfl) (by kernel_rfl) ?_
      repeat (first | go_big_quiet_skip | (go_big_quiet_want;go_big_quiet_op;first | go_big_quiet_on | (apply Exists.intro;refine ⟨fun _=>?_,?_⟩;(· ((fail)));go_big_quiet_on)))
      refine wpQuiet_nil ?_;rintro ⟨wq,hbq⟩;dsimp only at *;have Bq:=hb.then hbq;have hq:=H0.out.bw Bq;have bq:=HB.out wq Bq;have hv:=HVV.out;have y0:=bq.c 0 _ rfl;have y1:=bq.c 1 _ rfl;have y2:=bq.c 2 _ rfl;have y3:=bq.c 3 _ rfl;have y4:=bq.c 4 _ rfl;have y5:=bq.c 5 _ rfl;have yf:=bq.fr;by_cases h0n:n4=0
      ·have i2:((n4:Int)==0)=true:=beq_iff_eq.2 (by omega);have hnil:m.voters=[]:=List.eq_nil_of_length_eq_zero (L4.out.symm.trans h0n);rw [if_pos hnil] at hv;have HS7:=Lib.hid (HV.out _ Bq _ hv);clear hv hnil h0n hq bq;go_wp2;go_ret;exact HS7.out
      ·have i2:((n4:Int)==0)=false:=beq_eq_false_iff_ne.2 (by omega);have hnil:¬m.voters=[]:=fun h=>h0n (L4.out.trans (by rw [h];rfl))
       rw [if_neg hnil] at hv;have hc:=aAx wq m.s.items m.voters _ _ hq.items hq.vote;have HS7:=Lib.hid (fun W (h:Bw wq W)=>HV.out W (Bq.then h) _ hv);clear hnil h0n;clear hq bq hv;go_wp2_with fail;refine hc.mono ?_;rintro e w8 ⟨rfl,hb8⟩;have HS8:=Lib.hid (HS7.out w8 hb8);clear hc;go_wp2;go_ret;exact HS8.out
     by_cases h2:l=lQ
     ·skip
      have e1:(l.toList==[118,111,116,101])=false:=jB h2 (by decide);have e2:(l.toList==[98,101,115,116])=true:=aG h2;have e3:(l.toList==[108,97,121,101,114,115])=false:=jB h2 (by decide);have e4:(l.toList==[112,114,111,103,114,101,115,115])=false:=jB h2 (by decide);have e5:(l.toList==[115,116,97,116,101])=false:=jB h2 (by decide);have e6:(l.toList==[119,105,115,104])=false:=jB h2 (by decide);have e7:(l.toList==[110,111,114,109,97,108])=false:=jB h2 (by decide);have hv:=eA4 (m:=m) h2;clear h1 h2;have HVV:=Lib.hid hv;clear hv;go_wp2_with fail;refine mA (by kernel_rfl) (by kernel_rfl) ?_
      repeat (first | go_big_quiet_skip | (go_big_quiet_want;go_big_quiet_op;first | go_big_quiet_on | (apply Exists.intro;refine ⟨fun _=>?_,?_⟩;(· ((fail)));go_big_quiet_on)))
      refine wpQuiet_nil ?_;rintro ⟨wq,hbq⟩;dsimp only at *;have Bq:=hb.then hbq;have hq:=H0.out.bw Bq;have bq:=HB.out wq Bq;have hv:=HVV.out;have y0:=bq.c 0 _ rfl;have y1:=bq.c 1 _ rfl;have y2:=bq.c 2 _ rfl;have y3:=bq.c 3 _ rfl;have y4:=bq.c 4 _ rfl;have y5:=bq.c 5 _ rfl;have yf:=bq.fr;have hc:=VK wq m.s.best _ hq.best (fun x hx=>cI (hq.small.ids x hx)) (Nat.le_trans hq.small.len (by decide));have HS7:=Lib.hid (fun W (h:Bw wq W)=>HV.out W (Bq.then h) _ hv);clear hq bq hv;go_wp2_with fail;refine hc.mono ?_;rintro e w8 ⟨rfl,hb8⟩;have HS8:=Lib.hid (HS7.out w8 hb8);clear hc;go_wp2;go_ret;exact HS8.out
     by_cases h3:l=LQ
     ·skip
      have e1:(l.toList==[118,111,116,101])=false:=jB h3 (by decide);have e2:(l.toList==[98,101,115,116])=false:=jB h3 (by decide);have e3:(l.toList==[108,97,121,101,114,115])=true:=aG h3;have e4:(l.toList==[112,114,111,103,114,101,115,115])=false:=jB h3 (by decide);have e5:(l.toList==[115,116,97,116,101])=false:=jB h3 (by decide);have e6:(l.toList==[119,105,115,104])=false:=jB h3 (by decide);have e7:(l.toList==[110,111,114,109,97,108])=false:=jB h3 (by decide);have hv:=WY (m:=m) h3;clear h1 h2 h3;have HVV:=Lib.hid hv;clear hv;go_wp2_with fail;refine mA (by kernel_rfl) (by kernel_rfl) ?_
      repeat (first | go_big_quiet_skip | (go_big_quiet_want;go_big_quiet_op;first | go_big_quiet_on | (apply Exists.intro;refine ⟨fun _=>?_,?_⟩;(· ((fail)));go_big_quiet_on)))
      refine wpQuiet_nil ?_;rintro ⟨wq,hbq⟩;dsimp only at *;have Bq:=hb.then hbq;have hq:=H0.out.bw Bq;have bq:=HB.out wq Bq;have hv:=HVV.out;have y0:=bq.c 0 _ rfl;have y1:=bq.c 1 _ rfl;have y2:=bq.c 2 _ rfl;have y3:=bq.c 3 _ rfl;have y4:=bq.c 4 _ rfl;have y5:=bq.c 5 _ rfl;have yf:=bq.fr;have hc:=mW wq m.s.items m.s.wanted _ _ hq.items hq.wanted;have hg:=SY m.s.items m.s.wanted;obtain ⟨Z,hZ⟩:∃Z,Z=EH m.s.items m.s.wanted:=⟨_,rfl⟩;rw [← hZ] at hc hg hv;have HV2:=Lib.hid hv;clear hq bq hv hZ;go_wp2_with fail;refine hc.mono ?_;rintro e w7 ⟨v7,rfl,⟨F7,o7,f7⟩,hb7⟩;have r7:=PD o7;obtain ⟨A7,n7,c7,rfl,l7,_⟩:=iA r7;clear hc;by_cases h0n:n7=0
      ·have i2:¬(0:Int)<(n7:Int):=by omega
       have hnil:Z=[]:=List.eq_nil_of_length_eq_zero (l7.symm.trans h0n);have HS7:=Lib.hid (HV.out _ (Bq.then hb7) _ (HV2.out.trans (if_pos hnil)));clear hnil h0n l7 r7 o7;go_wp2;go_ret;exact HS7.out
      ·have i2:(0:Int)<(n7:Int):=by omega
       have hnil:¬Z=[]:=fun h=>h0n (l7.trans (by rw [h];rfl))
       have hc2:=FQ w7 Z ⟨#[59,32]⟩ _ r7 (by omega) (by decide);have HS7:=Lib.hid (fun W (h:Bw w7 W)=>HV.out W ((Bq.then hb7).then h) _ (HV2.out.trans (if_neg hnil)));clear hnil h0n l7 r7 o7;go_wp2_with fail;refine hc2.mono ?_;rintro e w8 ⟨rfl,hb8⟩;have HS8:=Lib.hid (HS7.out w8 hb8);clear hc2;go_wp2;go_ret;exact HS8.out
     by_cases h4:l=kM
     ·skip
      have e1:(l.toList==[118,111,116,101])=false:=jB h4 (by decide);have e2:(l.toList==[98,101,115,116])=false:=jB h4 (by decide);have e3:(l.toList==[108,97,121,101,114,115])=false:=jB h4 (by decide);have e4:(l.toList==[112,114,111,103,114,101,115,115])=true:=aG h4;have e5:(l.toList==[115,116,97,116,101])=false:=jB h4 (by decide);have e6:(l.toList==[119,105,115,104])=false:=jB h4 (by decide);have e7:(l.toList==[110,111,114,109,97,108])=false:=jB h4 (by decide);have hv:=OT (m:=m) h4;clear h1 h2 h3 h4;have HVV:=Lib.hid hv;clear hv;go_wp2_with fail;refine mA (by kernel_rfl) (by kernel_rfl) ?_
      repeat (first | go_big_quiet_skip | (go_big_quiet_want;go_big_quiet_op;first | go_big_quiet_on | (apply Exists.intro;refine ⟨fun _=>?_,?_⟩;(· ((fail)));go_big_quiet_on)))
      refine wpQuiet_nil ?_;rintro ⟨wq,hbq⟩;dsimp only at *;have Bq:=hb.then hbq;have hq:=H0.out.bw Bq;have bq:=HB.out wq Bq;have hv:=HVV.out;have y0:=bq.c 0 _ rfl;have y1:=bq.c 1 _ rfl;have y2:=bq.c 2 _ rfl;have y3:=bq.c 3 _ rfl;have y4:=bq.c 4 _ rfl;have y5:=bq.c 5 _ rfl;have yf:=bq.fr;have hc:=pO wq m.s.items m.s.wanted _ _ hq.items hq.wanted;have hi:=OU (l:=m.s.items) (e:=m.s.wanted);have hl2:=CU m.s.items m.s.wanted;obtain ⟨Z,hZ⟩:∃Z,Z=MK m.s.items m.s.wanted:=⟨_,rfl⟩;rw [← hZ] at hc hi hv hl2;have HV2:=Lib.hid hv;have KI:=Lib.hid (fun W v (h:Rd XA W Z [v])=>VK W Z v h (fun x hx=>cI (hi x hx)) (Nat.le_trans hl2 (by decide)));clear hq bq hv hZ hi hl2;go_wp2_with fail;refine hc.mono ?_;rintro e w7 ⟨v7,rfl,⟨F7,o7,f7⟩,hb7⟩;have hc2:=KI.out w7 _ (AA o7);clear hc;go_wp2_with fail;refine hc2.mono ?_;rintro e w8 ⟨rfl,hb8⟩;have HS8:=Lib.hid (HV.out w8 (Bq.then (hb7.then hb8)) _ HV2.out);clear hc2 o7;go_wp2;go_ret;exact HS8.out
     by_cases h5:l=tW
     ·skip
      have e1:(l.toList==[118,111,116,101])=false:=jB h5 (by decide);have e2:(l.toList==[98,101,115,116])=false:=jB h5 (by decide);have e3:(l.toList==[108,97,121,101,114,115])=false:=jB h5 (by decide);have e4:(l.toList==[112,114,111,103,114,101,115,115])=false:=jB h5 (by decide);have e5:(l.toList==[115,116,97,116,101])=true:=aG h5;have e6:(l.toList==[119,105,115,104])=false:=jB h5 (by decide);have e7:(l.toList==[110,111,114,109,97,108])=false:=jB h5 (by decide);have hv:=bA3 (m:=m) h5;clear h1 h2 h3 h4 h5;have HVV:=Lib.hid hv;clear hv;go_wp2_with fail;refine mA (by kernel_rfl) (by kernel_rfl) ?_
      repeat (first | go_big_quiet_skip | (go_big_quiet_want;go_big_quiet_op;first | go_big_quiet_on | (apply Exists.intro;refine ⟨fun _=>?_,?_⟩;(· ((fail)));go_big_quiet_on)))
      refine wpQuiet_nil ?_;rintro ⟨wq,hbq⟩;dsimp only at *;have Bq:=hb.then hbq;have hq:=H0.out.bw Bq;have bq:=HB.out wq Bq;have hv:=HVV.out;have y0:=bq.c 0 _ rfl;have y1:=bq.c 1 _ rfl;have y2:=bq.c 2 _ rfl;have y3:=bq.c 3 _ rfl;have y4:=bq.c 4 _ rfl;have y5:=bq.c 5 _ rfl;have yf:=bq.fr;have hc:=lR wq m.s _ _ _ hq.items hq.wanted hq.best;have HS7:=Lib.hid (fun W (h:Bw wq W)=>HV.out W (Bq.then h) _ hv);clear hq bq hv;go_wp2_with fail;refine hc.mono ?_;rintro e w8 ⟨rfl,hb8⟩;have HS8:=Lib.hid (HS7.out w8 hb8);clear hc;go_wp2;go_ret;exact HS8.out
     by_cases h6:l=EL
     ·skip
      have e1:(l.toList==[118,111,116,101])=false:=jB h6 (by decide);have e2:(l.toList==[98,101,115,116])=false:=jB h6 (by decide);have e3:(l.toList==[108,97,121,101,114,115])=false:=jB h6 (by decide);have e4:(l.toList==[112,114,111,103,114,101,115,115])=false:=jB h6 (by decide);have e5:(l.toList==[115,116,97,116,101])=false:=jB h6 (by decide);have e6:(l.toList==[119,105,115,104])=true:=aG h6;have e7:(l.toList==[110,111,114,109,97,108])=false:=jB h6 (by decide);have hv:=eA5 (m:=m) h6;clear h1 h2 h3 h4 h5 h6;have HVV:=Lib.hid hv;clear hv;go_wp2_with fail;refine mA (by kernel_rfl) (by kernel_rfl) ?_
      repeat (first | go_big_quiet_skip | (go_big_quiet_want;go_big_quiet_op;first | go_big_quiet_on | (apply Exists.intro;refine ⟨fun _=>?_,?_⟩;(· ((fail)));go_big_quiet_on)))
      refine wpQuiet_nil ?_;rintro ⟨wq,hbq⟩;dsimp only at *;have Bq:=hb.then hbq;have hq:=H0.out.bw Bq;have bq:=HB.out wq Bq;have hv:=HVV.out;have y0:=bq.c 0 _ rfl;have y1:=bq.c 1 _ rfl;have y2:=bq.c 2 _ rfl;have y3:=bq.c 3 _ rfl;have y4:=bq.c 4 _ rfl;have y5:=bq.c 5 _ rfl;have yf:=bq.fr;have hc:=wG wq m.s.wanted _ hq.wanted;have HS7:=Lib.hid (fun W (h:Bw wq W)=>HV.out W (Bq.then h) _ hv);clear hq bq hv;go_wp2_with fail;refine hc.mono ?_;rintro e w8 ⟨rfl,hb8⟩;have HS8:=Lib.hid (HS7.out w8 hb8);clear hc;go_wp2;go_ret;exact HS8.out
     by_cases h7:l=MQ
     ·skip
      have e1:(l.toList==[118,111,116,101])=false:=jB h7 (by decide);have e2:(l.toList==[98,101,115,116])=false:=jB h7 (by decide);have e3:(l.toList==[108,97,121,101,114,115])=false:=jB h7 (by decide);have e4:(l.toList==[112,114,111,103,114,101,115,115])=false:=jB h7 (by decide);have e5:(l.toList==[115,116,97,116,101])=false:=jB h7 (by decide);have e6:(l.toList==[119,105,115,104])=false:=jB h7 (by decide);have e7:(l.toList==[110,111,114,109,97,108])=true:=aG h7;have hv:=XY (m:=m) h7;clear h1 h2 h3 h4 h5 h6 h7;have HVV:=Lib.hid hv;clear hv;go_wp2_with fail;refine mA (by kernel_rfl) (by kernel_rfl) ?_
      repeat (first | go_big_quiet_skip | (go_big_quiet_want;go_big_quiet_op;first | go_big_quiet_on | (apply Exists.intro;refine ⟨fun _=>?_,?_⟩;(· ((fail)));go_big_quiet_on)))
      refine wpQuiet_nil ?_;rintro ⟨wq,hbq⟩;dsimp only at *;have Bq:=hb.then hbq;have hq:=H0.out.bw Bq;have bq:=HB.out wq Bq;have hv:=HVV.out;have y0:=bq.c 0 _ rfl;have y1:=bq.c 1 _ rfl;have y2:=bq.c 2 _ rfl;have y3:=bq.c 3 _ rfl;have y4:=bq.c 4 _ rfl;have y5:=bq.c 5 _ rfl;have yf:=bq.fr;have hc:=PK wq m.s.wanted _ hq.wanted hq.small.1.2.1;obtain ⟨Z,hZ⟩:∃Z,Z=EU m.s.wanted:=⟨_,rfl⟩;rw [← hZ] at hc hv;have HV2:=Lib.hid hv;clear hq bq hv hZ;go_wp2_with fail;refine hc.mono ?_;rintro e w7 ⟨v7,rfl,⟨F7,o7,f7⟩,hb7⟩;have hc2:=wG w7 Z _ (lC o7);clear hc;go_wp2_with fail;refine hc2.mono ?_;rintro e w8 ⟨rfl,hb8⟩;have HS8:=Lib.hid (HV.out w8 (Bq.then (hb7.then hb8)) _ HV2.out);clear hc2 o7;go_wp2;go_ret;exact HS8.out
     have e1:(l.toList==[118,111,116,101])=false:=EF h1;have e2:(l.toList==[98,101,115,116])=false:=EF h2;have e3:(l.toList==[108,97,121,101,114,115])=false:=EF h3;have e4:(l.toList==[112,114,111,103,114,101,115,115])=false:=EF h4;have e5:(l.toList==[115,116,97,116,101])=false:=EF h5;have e6:(l.toList==[119,105,115,104])=false:=EF h6;have e7:(l.toList==[110,111,114,109,97,108])=false:=EF h7;have hv:=eA6 (m:=m) h1 h2 h3 h4 h5 h6 h7;clear h1 h2 h3 h4 h5 h6 h7;have HVV:=Lib.hid hv;clear hv;go_wp2_with fail;refine mA (by kernel_rfl) (by kernel_rfl) ?_
     repeat (first | go_big_quiet_skip | (go_big_quiet_want;go_big_quiet_op;first | go_big_quiet_on | (apply Exists.intro;refine ⟨fun _=>?_,?_⟩;(· ((fail)));go_big_quiet_on)))
     refine wpQuiet_nil ?_;rintro ⟨wq,hbq⟩;dsimp only at *;have Bq:=hb.then hbq;have hq:=H0.out.bw Bq;have bq:=HB.out wq Bq;have hv:=HVV.out;have y0:=bq.c 0 _ rfl;have y1:=bq.c 1 _ rfl;have y2:=bq.c 2 _ rfl;have y3:=bq.c 3 _ rfl;have y4:=bq.c 4 _ rfl;have y5:=bq.c 5 _ rfl;have yf:=bq.fr;have HS7:=Lib.hid (HV.out _ Bq _ hv);clear hv;go_wp2;go_ret;exact HS7.out
  ·by_cases hlt:k<l.size
   ·have i1:(k:Int)<(l.size:Int):=by omega
    clear hlt;obtain ⟨E,hE⟩:∃E,E=GF q:=⟨_,rfl⟩;have k3:=oH wr q HQ.out;have hR:=HR.out.trans (PU HS.out);rw [← hE] at k3 hR;have he:E.2=true→tC E.1≤171:=fun h=>YI (iS (s:=q) (by rw [← hE];exact h)).1 |> (by rw [hE];exact ·)
    obtain ⟨ee,pe⟩:=E;dsimp only at k3 he;have HRR:=Lib.hid hR;have HEE:=Lib.hid he;clear hE hR he;by_cases hp:p=EL
    ·have e1:(p.toList==[119,105,115,104])=true:=aG hp;have HP:=Lib.hid hp;clear hp;go_wp2_with fail;refine k3.mono ?_;rintro e w5 ⟨v5,rfl,⟨v5,rfl,F5,o5,f5⟩,hb5⟩;obtain ⟨A8,n8,c8,rfl,l8,_⟩:=iA (lC o5);have B5:=hb.then hb5;clear k3 l8
     cases pe with
     | true=>
      have HK:=Lib.hid (show R=(wOk,⟨SE m.s.items ee,true,m.voters⟩) from by rw [HRR.out];exact if_pos ⟨HP.out,rfl⟩);have h5:=H0.out.bw B5;have hc:=GM w5 m.s.items ee _ _ h5.items (lC o5) h5.small.1.1 (Nat.le_trans (HEE.out rfl) (by decide));have hok:okS (SE m.s.items ee):=bAz h5.small.1.1 (Nat.le_trans (HEE.out rfl) (by decide));have HOK:=Lib.hid hok;have bx:=h5.box;have x0:=bx.c 0 _ rfl;have x1:=bx.c 1 _ rfl;have x2:=bx.c 2 _ rfl;have x3:=bx.c 3 _ rfl;have x4:=bx.c 4 _ rfl;have x5:=bx.c 5 _ rfl;have xf:=bx.fr;clear h5 bx hok;go_wp2_with fail;refine hc.mono ?_;rintro e w6 ⟨v6,rfl,⟨cs6,rfl,F6,⟨va6,vb6,vc6,Fa6,Fb6,Fc6,rfl,g1,g2,g3,g4⟩,f6⟩,hb6⟩;clear x0 x1 x2 x3 x4 x5 xf;clear hc;obtain ⟨A5,n5,d5,rfl,l5,_⟩:=iA (vC g1);obtain ⟨A6,n6,d6,rfl,l6,_⟩:=iA (lC g2);obtain ⟨A7,n7,d7,rfl,l7,_⟩:=iA (AA g3);have o6:aC w6 (SE m.s.items ee) _ F6:=⟨_,_,_,Fa6,Fb6,Fc6,rfl,g1,g2,g3,g4⟩;clear l5 l6 l7 g1 g2 g3 g4;have B6:=B5.then hb6;have bx:=(H0.out.bw B6).box;have x0:=bx.c 0 _ rfl;have x1:=bx.c 1 _ rfl;have x2:=bx.c 2 _ rfl;have x3:=bx.c 3 _ rfl;have x4:=bx.c 4 _ rfl;have x5:=bx.c 5 _ rfl;have xf:=bx.fr;clear bx;go_wp2;go_ret;rw [HK.out];have bx6:=(H0.out.bw B6).box;have hO:=(nM w6 b 1 (.slice A5 n5 d5) (.slice A6 n6 d6) (.slice A7 n7 d7) (.int .i64 (SE m.s.items ee).tests)).two (KA b 0 _ (.bool true));have hbx:=(GS (k:=1) (a0:=.slice A5 n5 d5) (a1:=.slice A6 n6 d6) (a2:=.slice A7 n7 d7) (a3:=.int .i64 (SE m.s.items ee).tests) bx6 (by simp)).set (j:=0) (by simp) (.bool true)
      have hst:=H0.out.stand B6 o6 (f6.mono B5.size) HOK.out hO hbx;exact ⟨rfl,⟨_,_,_,_,_,_,hst⟩,((Below.mono B6 (Nat.le_of_lt H0.out.box.lt)).trans (tN w6 b 1 _ _ _ _)).setCell (p:=⟨b,0,none⟩) (Nat.le_refl _) _⟩
     | false=>
      have HN:=Lib.hid (show R=if m.on=false then (CE,m) else tH m p q from by rw [HRR.out];exact if_neg (fun h=>absurd h.2 Bool.false_ne_true));have hx:=H0.out.bw B5;have bx:=hx.box
      cases hm:m.on with
      | false=>
       rw [hm] at bx;have x0:=bx.c 0 _ rfl;have x1:=bx.c 1 _ rfl;have x2:=bx.c 2 _ rfl;have x3:=bx.c 3 _ rfl;have x4:=bx.c 4 _ rfl;have x5:=bx.c 5 _ rfl;have xf:=bx.fr;have HS7:=Lib.hid (show ID LI b w R (.returned (.string CE)) w5 from by rw [HN.out,if_pos hm];exact H0.out.same B5 _);clear bx hx hm;go_wp2;go_ret;exact HS7.out
      | true=>
       rw [hm] at bx;have x0:=bx.c 0 _ rfl;have x1:=bx.c 1 _ rfl;have x2:=bx.c 2 _ rfl;have x3:=bx.c 3 _ rfl;have x4:=bx.c 4 _ rfl;have x5:=bx.c 5 _ rfl;have xf:=bx.fr;have hc:=xW w5 b m p q ⟨_,_,_,_,_,_,hx⟩ HQ.out;have HS7:=Lib.hid (fun e W' (h:ID LI b w5 (tH m p q) e W')=>show ID LI b w R e W' from by rw [HN.out,if_neg (by rw [hm];decide)];exact h.from B5 H0.out.box.lt);clear bx hx hm;go_wp2_with fail;refine hc.mono ?_;rintro e w7 hh;have HS8:=Lib.hid (HS7.out _ _ hh);obtain ⟨rfl,_,_⟩:=hh;clear hc;go_wp2;go_ret;exact HS8.out
    ·have e1:(p.toList==[119,105,115,104])=false:=EF hp;have HN:=Lib.hid (show R=if m.on=false then (CE,m) else tH m p q from by rw [HRR.out];exact if_neg (fun h=>hp h.1));clear hp k3;have hx:=H0.out.bw hb;have bx:=hx.box
     cases hm:m.on with
     | false=>
      rw [hm] at bx;have x0:=bx.c 0 _ rfl;have x1:=bx.c 1 _ rfl;have x2:=bx.c 2 _ rfl;have x3:=bx.c 3 _ rfl;have x4:=bx.c 4 _ rfl;have x5:=bx.c 5 _ rfl;have xf:=bx.fr;have HS7:=Lib.hid (show ID LI b w R (.returned (.string CE)) wr from by rw [HN.out,if_pos hm];exact H0.out.same hb _);clear bx hx hm;go_wp2;go_ret;exact HS7.out
     | true=>
      rw [hm] at bx;have x0:=bx.c 0 _ rfl;have x1:=bx.c 1 _ rfl;have x2:=bx.c 2 _ rfl;have x3:=bx.c 3 _ rfl;have x4:=bx.c 4 _ rfl;have x5:=bx.c 5 _ rfl;have xf:=bx.fr;have hc:=xW wr b m p q ⟨_,_,_,_,_,_,hx⟩ HQ.out;have HS7:=Lib.hid (fun e W' (h:ID LI b wr (tH m p q) e W')=>show ID LI b w R e W' from by rw [HN.out,if_neg (by rw [hm];decide)];exact h.from hb H0.out.box.lt);clear bx hx hm;go_wp2_with fail;refine hc.mono ?_;rintro e w7 hh;have HS8:=Lib.hid (HS7.out _ _ hh);obtain ⟨rfl,_,_⟩:=hh;clear hc;go_wp2;go_ret;exact HS8.out
   ·have i1:¬(k:Int)<(l.size:Int):=by omega
    clear hlt;obtain ⟨E,hE⟩:∃E,E=GF q:=⟨_,rfl⟩;have k3:=oH wr q HQ.out;have hR:=HR.out.trans (PU HS.out);rw [← hE] at k3 hR;have he:E.2=true→tC E.1≤171:=fun h=>YI (iS (s:=q) (by rw [← hE];exact h)).1 |> (by rw [hE];exact ·)
    obtain ⟨ee,pe⟩:=E;dsimp only at k3 he;have HRR:=Lib.hid hR;have HEE:=Lib.hid he;clear hE hR he;by_cases hp:p=EL
    ·have e1:(p.toList==[119,105,115,104])=true:=aG hp;have HP:=Lib.hid hp;clear hp;go_wp2_with fail;refine k3.mono ?_;rintro e w5 ⟨v5,rfl,⟨v5,rfl,F5,o5,f5⟩,hb5⟩;obtain ⟨A8,n8,c8,rfl,l8,_⟩:=iA (lC o5);have B5:=hb.then hb5;clear k3 l8
     cases pe with
     | true=>
      have HK:=Lib.hid (show R=(wOk,⟨SE m.s.items ee,true,m.voters⟩) from by rw [HRR.out];exact if_pos ⟨HP.out,rfl⟩);have h5:=H0.out.bw B5;have hc:=GM w5 m.s.items ee _ _ h5.items (lC o5) h5.small.1.1 (Nat.le_trans (HEE.out rfl) (by decide));have hok:okS (SE m.s.items ee):=bAz h5.small.1.1 (Nat.le_trans (HEE.out rfl) (by decide));have HOK:=Lib.hid hok;have bx:=h5.box;have x0:=bx.c 0 _ rfl;have x1:=bx.c 1 _ rfl;have x2:=bx.c 2 _ rfl;have x3:=bx.c 3 _ rfl;have x4:=bx.c 4 _ rfl;have x5:=bx.c 5 _ rfl;have xf:=bx.fr;clear h5 bx hok;go_wp2_with fail;refine hc.mono ?_;rintro e w6 ⟨v6,rfl,⟨cs6,rfl,F6,⟨va6,vb6,vc6,Fa6,Fb6,Fc6,rfl,g1,g2,g3,g4⟩,f6⟩,hb6⟩;clear x0 x1 x2 x3 x4 x5 xf;clear hc;obtain ⟨A5,n5,d5,rfl,l5,_⟩:=iA (vC g1);obtain ⟨A6,n6,d6,rfl,l6,_⟩:=iA (lC g2);obtain ⟨A7,n7,d7,rfl,l7,_⟩:=iA (AA g3);have o6:aC w6 (SE m.s.items ee) _ F6:=⟨_,_,_,Fa6,Fb6,Fc6,rfl,g1,g2,g3,g4⟩;clear l5 l6 l7 g1 g2 g3 g4;have B6:=B5.then hb6;have bx:=(H0.out.bw B6).box;have x0:=bx.c 0 _ rfl;have x1:=bx.c 1 _ rfl;have x2:=bx.c 2 _ rfl;have x3:=bx.c 3 _ rfl;have x4:=bx.c 4 _ rfl;have x5:=bx.c 5 _ rfl;have xf:=bx.fr;clear bx;go_wp2;go_ret;rw [HK.out];have bx6:=(H0.out.bw B6).box;have hO:=(nM w6 b 1 (.slice A5 n5 d5) (.slice A6 n6 d6) (.slice A7 n7 d7) (.int .i64 (SE m.s.items ee).tests)).two (KA b 0 _ (.bool true));have hbx:=(GS (k:=1) (a0:=.slice A5 n5 d5) (a1:=.slice A6 n6 d6) (a2:=.slice A7 n7 d7) (a3:=.int .i64 (SE m.s.items ee).tests) bx6 (by simp)).set (j:=0) (by simp) (.bool true)
      have hst:=H0.out.stand B6 o6 (f6.mono B5.size) HOK.out hO hbx;exact ⟨rfl,⟨_,_,_,_,_,_,hst⟩,((Below.mono B6 (Nat.le_of_lt H0.out.box.lt)).trans (tN w6 b 1 _ _ _ _)).setCell (p:=⟨b,0,none⟩) (Nat.le_refl _) _⟩
     | false=>
      have HN:=Lib.hid (show R=if m.on=false then (CE,m) else tH m p q from by rw [HRR.out];exact if_neg (fun h=>absurd h.2 Bool.false_ne_true));have hx:=H0.out.bw B5;have bx:=hx.box
      cases hm:m.on with
      | false=>
       rw [hm] at bx;have x0:=bx.c 0 _ rfl;have x1:=bx.c 1 _ rfl;have x2:=bx.c 2 _ rfl;have x3:=bx.c 3 _ rfl;have x4:=bx.c 4 _ rfl;have x5:=bx.c 5 _ rfl;have xf:=bx.fr;have HS7:=Lib.hid (show ID LI b w R (.returned (.string CE)) w5 from by rw [HN.out,if_pos hm];exact H0.out.same B5 _);clear bx hx hm;go_wp2;go_ret;exact HS7.out
      | true=>
       rw [hm] at bx;have x0:=bx.c 0 _ rfl;have x1:=bx.c 1 _ rfl;have x2:=bx.c 2 _ rfl;have x3:=bx.c 3 _ rfl;have x4:=bx.c 4 _ rfl;have x5:=bx.c 5 _ rfl;have xf:=bx.fr;have hc:=xW w5 b m p q ⟨_,_,_,_,_,_,hx⟩ HQ.out;have HS7:=Lib.hid (fun e W' (h:ID LI b w5 (tH m p q) e W')=>show ID LI b w R e W' from by rw [HN.out,if_neg (by rw [hm];decide)];exact h.from B5 H0.out.box.lt);clear bx hx hm;go_wp2_with fail;refine hc.mono ?_;rintro e w7 hh;have HS8:=Lib.hid (HS7.out _ _ hh);obtain ⟨rfl,_,_⟩:=hh;clear hc;go_wp2;go_ret;exact HS8.out
    ·have e1:(p.toList==[119,105,115,104])=false:=EF hp;have HN:=Lib.hid (show R=if m.on=false then (CE,m) else tH m p q from by rw [HRR.out];exact if_neg (fun h=>hp h.1));clear hp k3;have hx:=H0.out.bw hb;have bx:=hx.box
     cases hm:m.on with
     | false=>
      rw [hm] at bx;have x0:=bx.c 0 _ rfl;have x1:=bx.c 1 _ rfl;have x2:=bx.c 2 _ rfl;have x3:=bx.c 3 _ rfl;have x4:=bx.c 4 _ rfl;have x5:=bx.c 5 _ rfl;have xf:=bx.fr;have HS7:=Lib.hid (show ID LI b w R (.returned (.string CE)) wr from by rw [HN.out,if_pos hm];exact H0.out.same hb _);clear bx hx hm;go_wp2;go_ret;exact HS7.out
     | true=>
      rw [hm] at bx;have x0:=bx.c 0 _ rfl;have x1:=bx.c 1 _ rfl;have x2:=bx.c 2 _ rfl;have x3:=bx.c 3 _ rfl;have x4:=bx.c 4 _ rfl;have x5:=bx.c 5 _ rfl;have xf:=bx.fr;have hc:=xW wr b m p q ⟨_,_,_,_,_,_,hx⟩ HQ.out;have HS7:=Lib.hid (fun e W' (h:ID LI b wr (tH m p q) e W')=>show ID LI b w R e W' from by rw [HN.out,if_neg (by rw [hm];decide)];exact h.from hb H0.out.box.lt);clear bx hx hm;go_wp2_with fail;refine hc.mono ?_;rintro e w7 hh;have HS8:=Lib.hid (HS7.out _ _ hh);obtain ⟨rfl,_,_⟩:=hh;clear hc;go_wp2;go_ret;exact HS8.out
end Go.Proofs.YtpihighajaeabaaGreat
