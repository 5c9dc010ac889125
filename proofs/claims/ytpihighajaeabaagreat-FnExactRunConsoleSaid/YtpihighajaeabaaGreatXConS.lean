/- The console in the reference: words of a line, and a line of one word. -/
import Derived.Test.YtpihighajaeabaaGreatXConW
import Derived.Deep.RegionHeld3
namespace Go.Proofs.YtpihighajaeabaaGreat
open Go.RowKit Go.Proofs.Tryz
set_option linter.all false
set_option maxRecDepth 100000
set_option maxHeartbeats 16000000
noncomputable def oA4 (m:CS) (p q:ByteArray) (E:List mA×Bool):ByteArray×CS:=if p=dJ/\E.2=true then (wOk,⟨iF m.s.items E.1,true,m.voters⟩) else if m.on=false then (qE,m) else ZI m p q
noncomputable def mAf (m:CS) (l:ByteArray):ByteArray×CS:=if m.on=false then (qE,m) else (ED m l,m)
theorem VZ {m:CS} {l p q:ByteArray} (h:BF (bl l)=some (bl p,bl q)):PJ m l=oA4 m p q (jF q):=by
 unfold PJ oA4;rw [h];simp only [nJ]
theorem kAf {m:CS} {l:ByteArray} (h:BF (bl l)=none):PJ m l=mAf m l:=by unfold PJ mAf;rw [h]
theorem yQ:∀ {l:List UInt8} {k:Nat},l[k]? = some 32->(∀c∈l.take k,¬c=32)->BF l=some (l.take k,l.drop (k+1))
 | [],_,h,_=>by simp at h
 | x::l,0,h,_=>by
  simp at h;rw [BF,if_pos h];rfl
 | x::l,k+1,h,hn=>by
  rw [BF,if_neg (hn x (by simp)),yQ (l:=l) (k:=k) (by simpa using h) (fun c hc=>hn c (by simp [hc]))];rfl
theorem fA1:∀ {l:List UInt8},(∀c∈l,¬c=32)->BF l=none
 | [],_=>rfl
 | x::l,h=>by rw [BF,if_neg (h x (by simp)),fA1 (l:=l) (fun c hc=>h c (by simp [hc]))];rfl
theorem iAd {s:ByteArray} {b:Nat} (hb:b<=s.size) (W:World):(Instr.slice 9 (.string s) none (some (.int .i64 (b:Int))) none).run prog W=.ok (.string (s.extract 0 b)) W:=by
 rw [run_slice_string_to_if W 9 s .i64 b underlying9,if_pos ⟨by omega,by omega⟩];rfl
theorem gC.from {L:Lay} {b:Nat} {w W:World} {r:ByteArray×CS} {e:Ending} {W':World} (h:gC L b W r e W') (hb:Bw w W) (hlt:b<w.heap.size):gC L b w r e W':=⟨h.1,h.2.1,(Below.mono hb (Nat.le_of_lt hlt)).trans h.2.2⟩
theorem WZ {m:CS} {l:ByteArray} (h:l=eAv):ED m l=if m.voters=[] then vT else vE m.s.items m.voters:=by unfold ED;rw [if_pos h]
theorem XZ {m:CS} {l:ByteArray} (h:l=eAw):ED m l=fD m.s.best:=by subst h;unfold ED;rw [if_neg (by decide),if_pos rfl]
theorem sU {m:CS} {l:ByteArray} (h:l=ZR):ED m l=if mG m.s.items m.s.wanted=[] then mAa else dF (mG m.s.items m.s.wanted) ⟨#[59,32]⟩:=by subst h;unfold ED;rw [if_neg (by decide),if_neg (by decide),if_pos rfl]
theorem IP {m:CS} {l:ByteArray} (h:l=TL):ED m l=fD (NJ m.s.items m.s.wanted):=by subst h;unfold ED;rw [if_neg (by decide),if_neg (by decide),if_neg (by decide),if_pos rfl]
theorem yX {m:CS} {l:ByteArray} (h:l=qX):ED m l=NE m.s:=by subst h;unfold ED;rw [if_neg (by decide),if_neg (by decide),if_neg (by decide),if_neg (by decide),if_pos rfl]
theorem YZ {m:CS} {l:ByteArray} (h:l=dJ):ED m l=fC m.s.wanted:=by subst h;unfold ED;rw [if_neg (by decide),if_neg (by decide),if_neg (by decide),if_neg (by decide),if_neg (by decide),if_pos rfl]
theorem tU {m:CS} {l:ByteArray} (h:l=aS):ED m l=fC (FR m.s.wanted):=by subst h;unfold ED;rw [if_neg (by decide),if_neg (by decide),if_neg (by decide),if_neg (by decide),if_neg (by decide),if_neg (by decide),if_pos rfl]
theorem yT {m:CS} {l:ByteArray} (h1:¬l=eAv) (h2:¬l=eAw) (h3:¬l=ZR) (h4:¬l=TL) (h5:¬l=qX) (h6:¬l=dJ) (h7:¬l=aS):ED m l=lH:=by
 unfold ED;rw [if_neg h1,if_neg h2,if_neg h3,if_neg h4,if_neg h5,if_neg h6,if_neg h7]
theorem fA2 (w:World) (b:Nat) (m:CS) (l:ByteArray) (h:StP LI b w m) (hl:l.size<=1048576) :
  Calls prog 148 #[.pointer (some ⟨b,0,none⟩),.string l] w (gC LI b w (PJ m l)):=by
 obtain ⟨S,FV,vi,vw,vb,vv,h0⟩:=h;obtain ⟨A1,n1,c1,rfl,l1,_⟩:=qA h0.items;obtain ⟨A2,n2,c2,rfl,l2,_⟩:=qA h0.wanted;obtain ⟨A3,n3,c3,rfl,l3,_⟩:=qA h0.best;obtain ⟨A4,n4,c4,rfl,l4,_⟩:=qA h0.vote;have L4:=pA6 l4;clear l1 l2 l3 l4;obtain ⟨R,hR⟩:=pA7 (PJ m l);rw [<-hR];have H0:=pA6 h0;have HR:=pA6 hR;clear hR h0;go_enter func148,ntmps148;go_wp2
 go_loopg [5,6,7,8] (l.size+1) (fun gg wd rs hs i w'=>∃k:Nat,k<=l.size/\gg=l.size-k+1/\i=.int .i64 (k:Int)/\Bw w w'/\((hs=.bool false/\wd=.string l/\rs=.string ⟨#[]⟩/\Hid (∀c∈(bl l).take k,¬c=32))\/(∃p q,hs=.bool true/\wd=.string p/\rs=.string q/\Hid (BF (bl l)=some (bl p,bl q))/\Hid (q.size<=1048576))))
 ·exact ⟨0,by omega,by omega,rfl,Bw.refl _,.inl ⟨rfl,rfl,rfl,pA6 (by simp)⟩⟩
 ·obtain ⟨k,hk,rfl,rfl,hb,bn⟩:=hrel;rcases bn with ⟨rfl,rfl,rfl,bs⟩ | ⟨p,q,rfl,rfl,rfl,HS,HQ⟩
  ·by_cases hlt:k<l.size
   ·obtain ⟨x,hx⟩:=tA (xs:=bl l) (k:=k) (by rw [RB];exact hlt);have bv:=TH hx;obtain ⟨xi,bp⟩:=pA7 ((x.toNat:Int):Int);rw [<-bp] at bv;have i1:(k:Int)<(l.size:Int):=by omega
    by_cases he:x=32
    ·have e1:(xi==32)=true:=by rw [bp,he];rfl
     have h1:=iAd (s:=l) (b:=k) hk;have h2:∀W,(Instr.slice 9 (.string l) (some (.int .i64 ((k:Int)+1))) none none).run prog W=.ok (.string (l.extract (k+1) l.size)) W:=fun W=>by
      have:=fL (s:=l) (a:=k+1) (by omega) W
      rwa [Int.natCast_add] at this
     have hwk:IntKind.i64.wrap ((k:Int)+1)=(k:Int)+1:=by simp [IntKind.wrap,IntKind.bits,IntKind.signed];omega
     obtain ⟨p,hp⟩:=pA7 (l.extract 0 k);obtain ⟨q,hq⟩:=pA7 (l.extract (k+1) l.size);rw [<-hp] at h1;simp only [<-hq] at h2;have HS:=pA6 (show BF (bl l)=some (bl p,bl q) from by
      rw [hp,hq,jD,jD,List.drop_zero,List.take_of_length_le (i:=l.size) (by rw [RB];omega)];exact yQ (by rw [hx,he]) bs.out)
     have HQ:=pA6 (show q.size<=1048576 from by rw [hq];simp;omega);clear hx bp he hp hq;go_wp2_with fail
     go_region_held3 (fun w'=>True) (exact trivial) (fail)
     go_wp2
     go_roundg (l.size-(k+1)+1)
     ·exact ⟨k+1,by omega,rfl,by go_num,hb.then (Bw.refl wr).drew,.inr ⟨p,q,rfl,rfl,rfl,HS,HQ⟩⟩
     ·omega
    ·have e1:(xi==32)=false:=by
      rw [bp];have:x.toNat≠(32:UInt8).toNat:=fun e=>he (UInt8.toNat_inj.1 e)
      simp at this ⊢;omega
     have cj:=pA6 (show ∀c∈(bl l).take (k+1),¬c=32 from fun c hc=>by
      rw [List.take_add_one,hx] at hc;rcases List.mem_append.1 hc with hc | hc
      ·exact bs.out c hc
      ·rw [Option.toList_some,List.mem_singleton] at hc;rw [hc];exact he)
     clear hx bp he;go_wp2
     go_roundg (l.size-(k+1)+1)
     ·exact ⟨k+1,by omega,rfl,by go_num,hb,.inl ⟨rfl,rfl,rfl,cj⟩⟩
     ·omega
   ·have i1:¬(k:Int)<(l.size:Int):=by omega
    have hR:=HR.out.trans (kAf (fA1 (l:=bl l) (fun c hc=>bs.out c (by rw [List.take_of_length_le (by rw [RB];omega)];exact hc))));clear hlt bs;unfold mAf at hR
    cases hm:m.on with
    | false=>
     have bb:=pA6 (show gC LI b w R (.returned (.string qE)) wr from by rw [hR,if_pos hm];exact H0.out.same hb _);have bx:=(H0.out.bw hb).box;rw [hm] at bx;obtain ⟨x0,x1,x2,x3,x4,x5,xf⟩:=bx.a6;clear bx hm hR;rcases pA8 (l.toList==[119,105,115,104]) with e1 | e1
     all_goals
      go_wp2;go_ret;exact bb.out
    | true=>
     have HV:=pA6 (fun W (h:Bw w W) s (hs:ED m l=s)=>show gC LI b w R (.returned (.string s)) W from by rw [hR,if_neg (by rw [hm];decide),hs];exact H0.out.same h _);have HB:=pA6 (fun W (h:Bw w W)=>show Box W b [.bool true,.slice A1 n1 c1,.slice A2 n2 c2,.slice A3 n3 c3,.int .i64 m.s.tests,.slice A4 n4 c4] from by have:=(H0.out.bw h).box;rwa [hm] at this);have bx:=HB.out wr hb;obtain ⟨x0,x1,x2,x3,x4,x5,xf⟩:=bx.a6;have s1:=pA x1;have s2:=pA x2;clear bx hm hR;by_cases h1:l=eAv
     ·skip
      obtain ⟨e1,e2,e3,e4,e5,e6,e7⟩:E7 l true false false false false false false:=pAj (by rw [h1];decide);have hv:=WZ (m:=m) h1;clear h1;have bf:=pA6 hv;clear hv;go_wp2_with fail;refine IA (by kernel_rfl) ?_
      repeat (first | go_big_quiet_skip | (go_big_quiet_want;go_big_quiet_op;go_big_quiet_on))
      refine JA fun wq hbq=>?_
      try dsimp only at *
      have Bq:=hb.then hbq;have hq:=H0.out.bw Bq;have bq:=HB.out wq Bq;have hv:=bf.out;obtain ⟨y0,y1,y2,y3,y4,y5,yf⟩:=bq.a6;by_cases h0n:n4=0
      ·have i2:((n4:Int)==0)=true:=beq_iff_eq.2 (by omega);have bc:m.voters=[]:=List.eq_nil_of_length_eq_zero (L4.out.symm.trans h0n);rw [if_pos bc] at hv;have bb:=pA6 (HV.out _ Bq _ hv);clear hv bc h0n hq bq;go_wp2;go_ret;exact bb.out
      ·have i2:((n4:Int)==0)=false:=beq_eq_false_iff_ne.2 (by omega);have bc:¬m.voters=[]:=fun h=>h0n (L4.out.trans (by rw [h];rfl))
       rw [if_neg bc] at hv;have hc:=hAc wq m.s.items m.voters _ _ hq.items hq.vote;have bb:=pA6 (fun W (h:Bw wq W)=>HV.out W (Bq.then h) _ hv);clear bc h0n;clear hq bq hv;go_wp2_with fail;refine hc.mono ?_;rintro e w8 ⟨rfl,bg⟩;have bd:=pA6 (bb.out w8 bg);clear hc;go_wp2;go_ret;exact bd.out
     by_cases h2:l=eAw
     ·skip
      obtain ⟨e1,e2,e3,e4,e5,e6,e7⟩:E7 l false true false false false false false:=pAj (by rw [h2];decide);have hv:=XZ (m:=m) h2;clear h1 h2;have bf:=pA6 hv;clear hv;go_wp2_with fail;refine IA (by kernel_rfl) ?_
      repeat (first | go_big_quiet_skip | (go_big_quiet_want;go_big_quiet_op;go_big_quiet_on))
      refine JA fun wq hbq=>?_
      try dsimp only at *
      have Bq:=hb.then hbq;have hq:=H0.out.bw Bq;have bq:=HB.out wq Bq;have hv:=bf.out;obtain ⟨y0,y1,y2,y3,y4,y5,yf⟩:=bq.a6;have hc:=bN wq m.s.best _ hq.best (fun x hx=>GP (hq.small.ids x hx)) (Nat.le_trans hq.small.len (by decide));have bb:=pA6 (fun W (h:Bw wq W)=>HV.out W (Bq.then h) _ hv);clear hq bq hv;go_wp2_with fail;refine hc.mono ?_;rintro e w8 ⟨rfl,bg⟩;have bd:=pA6 (bb.out w8 bg);clear hc;go_wp2;go_ret;exact bd.out
     by_cases h3:l=ZR
     ·skip
      obtain ⟨e1,e2,e3,e4,e5,e6,e7⟩:E7 l false false true false false false false:=pAj (by rw [h3];decide);have hv:=sU (m:=m) h3;clear h1 h2 h3;have bf:=pA6 hv;clear hv;go_wp2_with fail;refine IA (by kernel_rfl) ?_
      repeat (first | go_big_quiet_skip | (go_big_quiet_want;go_big_quiet_op;go_big_quiet_on))
      refine JA fun wq hbq=>?_
      try dsimp only at *
      have Bq:=hb.then hbq;have hq:=H0.out.bw Bq;have bq:=HB.out wq Bq;have hv:=bf.out;obtain ⟨y0,y1,y2,y3,y4,y5,yf⟩:=bq.a6;have hc:=bAj wq m.s.items m.s.wanted _ _ hq.items hq.wanted;have hg:=wX m.s.items m.s.wanted;obtain ⟨Z,hZ⟩:=pA7 (mG m.s.items m.s.wanted);rw [<-hZ] at hc hg hv;have bk:=pA6 hv;clear hq bq hv hZ;go_wp2_with fail;refine hc.mono ?_;rintro e w7 ⟨v7,rfl,⟨F7,o7,f7⟩,bm⟩;have r7:=DC o7;obtain ⟨A7,n7,c7,rfl,l7,_⟩:=qA r7;clear hc;by_cases h0n:n7=0
      ·have i2:¬(0:Int)<(n7:Int):=by omega
       have bc:Z=[]:=List.eq_nil_of_length_eq_zero (l7.symm.trans h0n);have bb:=pA6 (HV.out _ (Bq.then bm) _ (bk.out.trans (if_pos bc)));clear bc h0n l7 r7 o7;go_wp2;go_ret;exact bb.out
      ·have i2:(0:Int)<(n7:Int):=by omega
       have bc:¬Z=[]:=fun h=>h0n (l7.trans (by rw [h];rfl))
       have bj:=TU w7 Z ⟨#[59,32]⟩ _ r7 (by omega) (by decide);have bb:=pA6 (fun W (h:Bw w7 W)=>HV.out W ((Bq.then bm).then h) _ (bk.out.trans (if_neg bc)));clear bc h0n l7 r7 o7;go_wp2_with fail;refine bj.mono ?_;rintro e w8 ⟨rfl,bg⟩;have bd:=pA6 (bb.out w8 bg);clear bj;go_wp2;go_ret;exact bd.out
     by_cases h4:l=TL
     ·skip
      obtain ⟨e1,e2,e3,e4,e5,e6,e7⟩:E7 l false false false true false false false:=pAj (by rw [h4];decide);have hv:=IP (m:=m) h4;clear h1 h2 h3 h4;have bf:=pA6 hv;clear hv;go_wp2_with fail;refine IA (by kernel_rfl) ?_
      repeat (first | go_big_quiet_skip | (go_big_quiet_want;go_big_quiet_op;go_big_quiet_on))
      refine JA fun wq hbq=>?_
      try dsimp only at *
      have Bq:=hb.then hbq;have hq:=H0.out.bw Bq;have bq:=HB.out wq Bq;have hv:=bf.out;obtain ⟨y0,y1,y2,y3,y4,y5,yf⟩:=bq.a6;have hc:=BR wq m.s.items m.s.wanted _ _ hq.items hq.wanted;have hi:=xT (l:=m.s.items) (e:=m.s.wanted);have bz:=yO m.s.items m.s.wanted;obtain ⟨Z,hZ⟩:=pA7 (NJ m.s.items m.s.wanted);rw [<-hZ] at hc hi hv bz;have bk:=pA6 hv;have KI:=pA6 (fun W v (h:Rd aB W Z [v])=>bN W Z v h (fun x hx=>GP (hi x hx)) (Nat.le_trans bz (by decide)));clear hq bq hv hZ hi bz;go_wp2_with fail;refine hc.mono ?_;rintro e w7 ⟨v7,rfl,⟨F7,o7,f7⟩,bm⟩;have bj:=KI.out w7 _ (xA o7);clear hc;go_wp2_with fail;refine bj.mono ?_;rintro e w8 ⟨rfl,bg⟩;have bd:=pA6 (HV.out w8 (Bq.then (bm.then bg)) _ bk.out);clear bj o7;go_wp2;go_ret;exact bd.out
     by_cases h5:l=qX
     ·skip
      obtain ⟨e1,e2,e3,e4,e5,e6,e7⟩:E7 l false false false false true false false:=pAj (by rw [h5];decide);have hv:=yX (m:=m) h5;clear h1 h2 h3 h4 h5;have bf:=pA6 hv;clear hv;go_wp2_with fail;refine IA (by kernel_rfl) ?_
      repeat (first | go_big_quiet_skip | (go_big_quiet_want;go_big_quiet_op;go_big_quiet_on))
      refine JA fun wq hbq=>?_
      try dsimp only at *
      have Bq:=hb.then hbq;have hq:=H0.out.bw Bq;have bq:=HB.out wq Bq;have hv:=bf.out;obtain ⟨y0,y1,y2,y3,y4,y5,yf⟩:=bq.a6;have hc:=MV wq m.s _ _ _ hq.items hq.wanted hq.best;have bb:=pA6 (fun W (h:Bw wq W)=>HV.out W (Bq.then h) _ hv);clear hq bq hv;go_wp2_with fail;refine hc.mono ?_;rintro e w8 ⟨rfl,bg⟩;have bd:=pA6 (bb.out w8 bg);clear hc;go_wp2;go_ret;exact bd.out
     by_cases h6:l=dJ
     ·skip
      obtain ⟨e1,e2,e3,e4,e5,e6,e7⟩:E7 l false false false false false true false:=pAj (by rw [h6];decide);have hv:=YZ (m:=m) h6;clear h1 h2 h3 h4 h5 h6;have bf:=pA6 hv;clear hv;go_wp2_with fail;refine IA (by kernel_rfl) ?_
      repeat (first | go_big_quiet_skip | (go_big_quiet_want;go_big_quiet_op;go_big_quiet_on))
      refine JA fun wq hbq=>?_
      try dsimp only at *
      have Bq:=hb.then hbq;have hq:=H0.out.bw Bq;have bq:=HB.out wq Bq;have hv:=bf.out;obtain ⟨y0,y1,y2,y3,y4,y5,yf⟩:=bq.a6;have hc:=VH wq m.s.wanted _ hq.wanted;have bb:=pA6 (fun W (h:Bw wq W)=>HV.out W (Bq.then h) _ hv);clear hq bq hv;go_wp2_with fail;refine hc.mono ?_;rintro e w8 ⟨rfl,bg⟩;have bd:=pA6 (bb.out w8 bg);clear hc;go_wp2;go_ret;exact bd.out
     by_cases h7:l=aS
     ·skip
      obtain ⟨e1,e2,e3,e4,e5,e6,e7⟩:E7 l false false false false false false true:=pAj (by rw [h7];decide);have hv:=tU (m:=m) h7;clear h1 h2 h3 h4 h5 h6 h7;have bf:=pA6 hv;clear hv;go_wp2_with fail;refine IA (by kernel_rfl) ?_
      repeat (first | go_big_quiet_skip | (go_big_quiet_want;go_big_quiet_op;go_big_quiet_on))
      refine JA fun wq hbq=>?_
      try dsimp only at *
      have Bq:=hb.then hbq;have hq:=H0.out.bw Bq;have bq:=HB.out wq Bq;have hv:=bf.out;obtain ⟨y0,y1,y2,y3,y4,y5,yf⟩:=bq.a6;have hc:=VM wq m.s.wanted _ hq.wanted hq.small.1.2.1;obtain ⟨Z,hZ⟩:=pA7 (FR m.s.wanted);rw [<-hZ] at hc hv;have bk:=pA6 hv;clear hq bq hv hZ;go_wp2_with fail;refine hc.mono ?_;rintro e w7 ⟨v7,rfl,⟨F7,o7,f7⟩,bm⟩;have bj:=VH w7 Z _ (bB o7);clear hc;go_wp2_with fail;refine bj.mono ?_;rintro e w8 ⟨rfl,bg⟩;have bd:=pA6 (HV.out w8 (Bq.then (bm.then bg)) _ bk.out);clear bj o7;go_wp2;go_ret;exact bd.out
     obtain ⟨e1,e2,e3,e4,e5,e6,e7⟩:E7 l false false false false false false false:=pAj (by simp only [h1,h2,h3,h4,h5,h6,h7,decide_false]);have hv:=yT (m:=m) h1 h2 h3 h4 h5 h6 h7;clear h1 h2 h3 h4 h5 h6 h7;have bf:=pA6 hv;clear hv;go_wp2_with fail;refine IA (by kernel_rfl) ?_
     repeat (first | go_big_quiet_skip | (go_big_quiet_want;go_big_quiet_op;go_big_quiet_on))
     refine JA fun wq hbq=>?_
     try dsimp only at *
     have Bq:=hb.then hbq;have hq:=H0.out.bw Bq;have bq:=HB.out wq Bq;have hv:=bf.out;obtain ⟨y0,y1,y2,y3,y4,y5,yf⟩:=bq.a6;have bb:=pA6 (HV.out _ Bq _ hv);clear hv;go_wp2;go_ret;exact bb.out
  ·by_cases hlt:k<l.size
   focus (have i1:(k:Int)<(l.size:Int):=by omega)
   rotate_left
   focus (have i1:¬(k:Int)<(l.size:Int):=by omega)
   rotate_right
   all_goals
    clear hlt;obtain ⟨E,hE⟩:=pA7 (jF q);have k3:=PI wr q HQ.out;have hR:=HR.out.trans (VZ HS.out);rw [<-hE] at k3 hR;have he:E.2=true->sB E.1<=171:=fun h=>wF (CN (s:=q) (by rw [<-hE];exact h)).1 |> (by rw [hE];exact ·)
    obtain ⟨ee,pe⟩:=E;dsimp only at k3 he;have bt:=pA6 hR;have cb:=pA6 he;clear hE hR he;by_cases hp:p=dJ
    ·have e1:(p.toList==[119,105,115,104])=true:=ND hp;have HP:=pA6 hp;clear hp;go_wp2_with fail;refine k3.mono ?_;rintro e w5 ⟨v5,rfl,⟨v5,rfl,F5,o5,f5⟩,cn⟩;obtain ⟨A8,n8,c8,rfl,l8,_⟩:=qA (bB o5);have B5:=hb.then cn;clear k3 l8
     cases pe with
     | true=>
      have HK:=pA6 (show R=(wOk,⟨iF m.s.items ee,true,m.voters⟩) from by rw [bt.out];exact if_pos ⟨HP.out,rfl⟩);have h5:=H0.out.bw B5;have hc:=wP w5 m.s.items ee _ _ h5.items (bB o5) h5.small.1.1 (Nat.le_trans (cb.out rfl) (by decide));have cc:okS (iF m.s.items ee):=eV h5.small.1.1 (Nat.le_trans (cb.out rfl) (by decide));have ck:=pA6 cc;have bx:=h5.box;obtain ⟨x0,x1,x2,x3,x4,x5,xf⟩:=bx.a6;clear h5 bx cc;go_wp2_with fail;refine hc.mono ?_;rintro e w6 ⟨v6,rfl,⟨cs6,rfl,F6,⟨va6,vb6,vc6,cd,cf,cg,rfl,g1,g2,g3,g4⟩,f6⟩,cp⟩;clear x0 x1 x2 x3 x4 x5 xf;clear hc;obtain ⟨A5,n5,d5,rfl,l5,_⟩:=qA (pC g1);obtain ⟨A6,n6,d6,rfl,l6,_⟩:=qA (bB g2);obtain ⟨A7,n7,d7,rfl,l7,_⟩:=qA (xA g3);have o6:GB w6 (iF m.s.items ee) _ F6:=⟨_,_,_,cd,cf,cg,rfl,g1,g2,g3,g4⟩;clear l5 l6 l7 g1 g2 g3 g4;have B6:=B5.then cp;have bx:=(H0.out.bw B6).box;obtain ⟨x0,x1,x2,x3,x4,x5,xf⟩:=bx.a6;clear bx;go_wp2;go_ret;rw [HK.out];have cm:=(H0.out.bw B6).box;have hO:=(vJ w6 b 1 (.slice A5 n5 d5) (.slice A6 n6 d6) (.slice A7 n7 d7) (.int .i64 (iF m.s.items ee).tests)).two (GA b 0 _ (.bool true));have cq:=(jS (k:=1) (a0:=.slice A5 n5 d5) (a1:=.slice A6 n6 d6) (a2:=.slice A7 n7 d7) (a3:=.int .i64 (iF m.s.items ee).tests) cm (by simp)).set (j:=0) (by simp) (.bool true);have cs:=H0.out.stand B6 o6 (f6.mono B5.size) ck.out hO cq;exact ⟨rfl,⟨_,_,_,_,_,_,cs⟩,((Below.mono B6 (Nat.le_of_lt H0.out.box.lt)).trans (KM w6 b 1 _ _ _ _)).setCell (p:=⟨b,0,none⟩) (Nat.le_refl _) _⟩
     | false=>
      have HN:=pA6 (show R=if m.on=false then (qE,m) else ZI m p q from by rw [bt.out];exact if_neg (fun h=>absurd h.2 Bool.false_ne_true));have hx:=H0.out.bw B5;have bx:=hx.box
      cases hm:m.on with
      | false=>
       rw [hm] at bx;obtain ⟨x0,x1,x2,x3,x4,x5,xf⟩:=bx.a6;have bb:=pA6 (show gC LI b w R (.returned (.string qE)) w5 from by rw [HN.out,if_pos hm];exact H0.out.same B5 _);clear bx hx hm;go_wp2;go_ret;exact bb.out
      | true=>
       rw [hm] at bx;obtain ⟨x0,x1,x2,x3,x4,x5,xf⟩:=bx.a6;have hc:=bAq w5 b m p q ⟨_,_,_,_,_,_,hx⟩ HQ.out;have bb:=pA6 (fun e W' (h:gC LI b w5 (ZI m p q) e W')=>show gC LI b w R e W' from by rw [HN.out,if_neg (by rw [hm];decide)];exact h.from B5 H0.out.box.lt);clear bx hx hm;go_wp2_with fail;refine hc.mono ?_;rintro e w7 hh;have bd:=pA6 (bb.out _ _ hh);obtain ⟨rfl,_,_⟩:=hh;clear hc;go_wp2;go_ret;exact bd.out
    ·have e1:(p.toList==[119,105,115,104])=false:=KD hp;have HN:=pA6 (show R=if m.on=false then (qE,m) else ZI m p q from by rw [bt.out];exact if_neg (fun h=>hp h.1));clear hp k3;have hx:=H0.out.bw hb;have bx:=hx.box
     cases hm:m.on with
     | false=>
      rw [hm] at bx;obtain ⟨x0,x1,x2,x3,x4,x5,xf⟩:=bx.a6;have bb:=pA6 (show gC LI b w R (.returned (.string qE)) wr from by rw [HN.out,if_pos hm];exact H0.out.same hb _);clear bx hx hm;go_wp2;go_ret;exact bb.out
     | true=>
      rw [hm] at bx;obtain ⟨x0,x1,x2,x3,x4,x5,xf⟩:=bx.a6;have hc:=bAq wr b m p q ⟨_,_,_,_,_,_,hx⟩ HQ.out;have bb:=pA6 (fun e W' (h:gC LI b wr (ZI m p q) e W')=>show gC LI b w R e W' from by rw [HN.out,if_neg (by rw [hm];decide)];exact h.from hb H0.out.box.lt);clear bx hx hm;go_wp2_with fail;refine hc.mono ?_;rintro e w7 hh;have bd:=pA6 (bb.out _ _ hh);obtain ⟨rfl,_,_⟩:=hh;clear hc;go_wp2;go_ret;exact bd.out
def st0:CS:=⟨⟨[],[],[],0⟩,false,[]⟩
def qD (text:ByteArray):List ByteArray:=match (MD text 10).getLast? with
 | some t=>if t.size=0 then (MD text 10).dropLast else MD text 10
 | none=>MD text 10
noncomputable def yI (text:ByteArray):ByteArray:=if 3000<text.size then ⟨#[]⟩ else if 60<(qD text).length then ⟨#[]⟩ else XF st0 (qD text)
theorem fA3:okS ⟨[],[],[],0⟩:=⟨⟨by decide,by decide,by decide⟩,.inr rfl⟩
theorem fA4 (W:World) (S:JC):LA W S [] [.slice none 0 0]:=⟨none,0,rfl,Nat.le_refl _,Nat.zero_le _,fun k x hx=>by simp at hx⟩
theorem fA5 (W:World) (S:JC):OA W S [] [.slice none 0 0]:=⟨none,0,rfl,Nat.le_refl _,Nat.zero_le _,fun k x hx=>by simp at hx⟩
theorem hAk (W:World) (S:JC):aB W S [] [.slice none 0 0]:=⟨none,0,rfl,Nat.le_refl _,Nat.zero_le _,fun k x hx=>by simp at hx⟩
theorem StP.zero {L:Lay} {b:Nat} {W:World} (hb:Box W b (L (.slice none 0 0) (.slice none 0 0) (.slice none 0 0) (.int .i64 0) (.bool false) (.slice none 0 0))):StP L b W st0:=
 ⟨fun _=>False,[],_,_,_,_,hb,fun _ h=>h.elim,fA4 _ _,fA5 _ _,hAk _ _,XB W,sA.nil,by simp,fA3,by decide⟩
theorem StP.facts {L:Lay} {b:Nat} {W:World} {m:CS} (h:StP L b W m):okS m.s/\m.voters.length<=5/\b<W.heap.size:=by
 obtain ⟨S,FV,_,_,_,_,h⟩:=h;exact ⟨h.small,h.five,h.box.lt⟩
theorem StP.bw {L:Lay} {b:Nat} {W W':World} {m:CS} (h:StP L b W m) (hb:Bw W W'):StP L b W' m:=by
 obtain ⟨S,FV,vi,vw,vb,vv,h⟩:=h;exact ⟨S,FV,vi,vw,vb,vv,h.bw hb⟩
theorem KO {m:CS} {ls:List ByteArray} {k:Nat} {t:ByteArray} (h:ls[k]? = some t) (ht:t.size=0):XF m (ls.drop k)=XF m (ls.drop (k+1)):=by rw [nC h,XF,if_pos ht]
theorem LO {m:CS} {ls:List ByteArray} {k:Nat} {t:ByteArray} (h:ls[k]? = some t) (ht:¬t.size=0):XF m (ls.drop k)=(PJ m t).1++⟨#[10]⟩++XF (PJ m t).2 (ls.drop (k+1)):=by rw [nC h,XF,if_neg ht]
theorem WL (s:ByteArray):⟨#[]⟩++s=s:=EH (by rw [IB];rfl)
theorem bAr (s:ByteArray):s++⟨#[]⟩=s:=EH (by rw [IB];exact List.append_nil _)
theorem MO (a b c d:ByteArray):a++(b++c++d)=a++b++c++d:=EH (by simp only [IB,List.append_assoc])
theorem NO {text t:ByteArray} (h:t∈qD text):t.size<=text.size:=by
 unfold qD at h
 split at h
 ·split at h
  ·exact iH (by rw [List.dropLast_eq_take] at h;exact List.mem_of_mem_take h)
  ·exact iH h
 ·exact iH h
theorem wU {text t:ByteArray} {n:Nat} (hn:n=(MD text 10).length) (h:(MD text 10)[n-1]? = some t):qD text=if t.size=0 then (MD text 10).take (n-1) else MD text 10:=by
 unfold qD;rw [List.getLast?_eq_getElem?,<-hn,h,List.dropLast_eq_take,<-hn]
theorem mS (w:World) (text:ByteArray):Calls prog 65 #[.string text] w (Ret w (.string (yI text))):=by
 obtain ⟨Y,hY⟩:=pA7 (yI text);rw [<-hY];by_cases h3:3000<text.size
 ·have i1:(3000:Int)<(text.size:Int):=by omega
  have HY:=pA6 (show ⟨#[]⟩=Y from by rw [hY];unfold yI;rw [if_pos h3]);clear hY h3;go_enter func65,ntmps65;go_wp2;go_ret;exact Ret.str HY.out (Bw.refl _)
 have i1:¬(3000:Int)<(text.size:Int):=by omega
 by_cases h0:text.size=0
 ·have e0:=vG h0;have HY:=pA6 (show ⟨#[]⟩=Y from by
   have:qD text=[]:=by unfold qD;rw [pW h0];rfl
   rw [hY];unfold yI;rw [if_neg h3,this];rfl)
  clear hY h3 h0;go_enter func65,ntmps65;go_wp2;go_ret;exact Ret.str HY.out (Bw.refl _)
 have e0:text.toList.isEmpty=false:=LG (by omega);have k1:=fW w text ⟨#[10]⟩ (by omega) (by decide) (by decide);rw [IL] at k1;obtain ⟨X,hX⟩:=pA7 (MD text 10);rw [<-hX] at k1;have HX:=pA6 hX;have cg:=pA6 hY;have H3:=pA6 h3;clear hX hY h0 h3;go_enter func65,ntmps65;go_wp2_with fail;refine k1.mono ?_;rintro e w1 ⟨v1,rfl,⟨F1,o1,f1⟩,bt⟩;clear k1;have r1:=DC o1;obtain ⟨A,n,c,rfl,l1,hc1,cj⟩:=qA r1;unfold maxLen at cj;have hpos:0<n:=by
  rw [l1,HX.out];unfold MD;rw [List.length_map];exact List.length_pos_iff.2 (ZQ _ _ _)
 obtain ⟨q,rfl⟩:∃q,n=q+1:=⟨n-1,by omega⟩;obtain ⟨t,ht⟩:=tA (xs:=X) (k:=q) (by omega);obtain ⟨ba,oa,rfl,_,hct⟩:=BC r1 ht;have bn:=wU (text:=text) (n:=q+1) (by rw [<-HX.out];exact l1) (by rw [<-HX.out];exact ht);rw [<-HX.out] at bn;have L1:=pA6 l1;have cf:=pA6 bn;clear l1 ht bn o1;have hwq:IntKind.i64.wrap (((q+1:Nat):Int)-1)=(q:Int):=by simp [IntKind.wrap,IntKind.bits,IntKind.signed];omega
 have i2:(0:Int)<=(q:Int):=by omega
 have i3:(q:Int)<((q+1:Nat):Int):=by omega
 have i4:(q:Int)<=(c:Int):=by omega
 have hY:=cg.out;have h3:=H3.out;by_cases ht0:t.size=0
 ·have e1:=vG ht0;have bc:qD text=X.take q:=by rw [cf.out,if_pos ht0];rfl
  have r2:Rd DT w1 (X.take q) [.slice (some ⟨ba,oa,none⟩) q c]:=by
   have:=RF (i:=0) (k:=q) r1 L1.out (show X=[]++(X.take q++X.drop q) by simp) (by simp) (by rw [List.length_take,<-L1.out];simp);rw [Nat.zero_mul,Nat.add_zero,Nat.sub_zero,Nat.sub_zero] at this;exact this
  have LL:=pA6 (show q=(X.take q).length from by rw [List.length_take,<-L1.out];omega);obtain ⟨P,hP⟩:=pA7 (X.take q);rw [<-hP] at r2 LL bc;clear hP ht0 r1;have bv:=pA6 (show ∀t∈P,t.size<=1048576 from fun t ht=>by have:=NO (text:=text) (t:=t) (bc▸ht);omega);by_cases h60:60<q
  ·have i6:(60:Int)<((q:Nat):Int):=by omega
   have bm:=pA6 (show ⟨#[]⟩=Y from by rw [hY];unfold yI;rw [if_neg h3,bc,if_pos (by rw [<-LL.out];exact h60)]);clear hY bc h60 h3;go_wp2;go_ret;exact Ret.str bm.out bt
  ·have i6:¬(60:Int)<((q:Nat):Int):=by omega
   have bm:=pA6 (show Y=XF st0 P from by rw [hY];unfold yI;rw [if_neg h3,bc,if_neg (by rw [<-LL.out];exact h60)]);have HN:=pA6 (show q<=60 from by omega);clear hY bc h60 h3;go_wp2;have B0:Bw w1 ((w1.alloc (.cells #[.bool false,.slice none 0 0,.slice none 0 0,.slice none 0 0,.int .i64 0,.slice none 0 0] 141))):=(Bw.refl w1).alloc _;have bg:=StP.zero (L:=LI) (Box.new w1 #[.bool false,.slice none 0 0,.slice none 0 0,.slice none 0 0,.int .i64 0,.slice none 0 0] 141)
   go_loopg [5,7,36] (q+1) (fun gg o l7 i w'=>∃(k:Nat) (out:ByteArray) (m:CS),k<=q/\gg=q-k+1/\o=.string out/\i=.int .i64 (k:Int)/\StP LI w1.heap.size w' m/\Bw w1 w'/\out.size<=10001*k/\Hid (Y=out++XF m (P.drop k)))
   ·exact ⟨0,⟨#[]⟩,st0,by omega,by omega,rfl,rfl,bg,B0,by decide,pA6 (by rw [bm.out,List.drop_zero];exact (WL _).symm)⟩
   ·obtain ⟨k,out,m,hk,rfl,rfl,rfl,bf,hb,cd,HI⟩:=hrel;clear bg B0;by_cases hlt:k<q
    ·have i7:(k:Int)<((q:Nat):Int):=by omega
     have i8:(0:Int)<=(k:Int):=by omega
     obtain ⟨x,hx⟩:=tA (xs:=P) (k:=k) (by rw [<-LL.out];exact hlt);obtain ⟨b2,o2,e2,_,ck⟩:=BC (r2.bw pF hb) hx;simp at e2;obtain ⟨rfl,rfl⟩:=e2;by_cases hz:x.size=0
     ·have e3:=vG hz;have bd:=pA6 (show Y=out++XF m (P.drop (k+1)) from by rw [HI.out,KO hx hz]);clear hz hx;go_wp2
      go_roundg (q-(k+1)+1)
      ·exact ⟨k+1,out,m,by omega,rfl,rfl,by go_num,bf,hb,by omega,bd⟩
      ·omega
     ·have e3:x.toList.isEmpty=false:=LG (by omega);have hc:=fA2 wr w1.heap.size m x bf (bv.out x (List.mem_of_getElem? hx));have bk:=LO (m:=m) hx hz;obtain ⟨bs,bb,_⟩:=bf.facts;have bp:=YN m x bs bb;obtain ⟨RR,bq⟩:=pA7 (PJ m x);rw [<-bq] at hc bk bp;obtain ⟨Z,m2⟩:=RR;dsimp only at hc bk bp;have bx:=HN.out;have a1:∀W,(Op.stringOp .add out Z).run prog W=.ok (.string (out++Z)) W:=fun W=>run_string_add_sum W _ _ (by omega)
      have z1:(⟨#[10]⟩:ByteArray).size=1:=rfl;have a2:∀W,(Op.stringOp .add (out++Z) ⟨#[10]⟩).run prog W=.ok (.string (out++Z++⟨#[10]⟩)) W:=fun W=>run_string_add_sum W _ _ (by rw [lA,z1];omega)
      have bd:=pA6 (show Y=out++Z++⟨#[10]⟩++XF m2 (P.drop (k+1)) from by rw [HI.out,bk];exact MO _ _ _ _);have bz:=pA6 (show (out++Z++⟨#[10]⟩:ByteArray).size<=10001*(k+1) from by rw [lA,lA,z1];omega);clear hz hx bk bp bq bs bb cd bx z1 bf;go_wp2_with fail;refine hc.mono ?_;rintro e w5 ⟨rfl,bj,cb⟩;clear hc;dsimp only at bj ⊢;have cc:Bw w1 w5:=Below.trans hb cb;go_wp2
      go_roundg (q-(k+1)+1)
      ·exact ⟨k+1,out++Z++⟨#[10]⟩,m2,by omega,rfl,rfl,by go_num,bj,cc,bz.out,bd⟩
      ·omega
    ·have i7:¬(k:Int)<((q:Nat):Int):=by omega
     have bd:=pA6 (show out=Y from by rw [HI.out,List.drop_of_length_le (by rw [<-LL.out];omega),XF];exact (bAr _).symm);clear hlt bf;go_wp2;go_ret;exact Ret.str bd.out (bt.then hb)
 ·have e1:t.toList.isEmpty=false:=LG (by omega);have bc:qD text=X:=by rw [cf.out,if_neg ht0]
  have r2:=r1;have LL:=L1;clear ht0 r1;have bv:=pA6 (show ∀t∈X,t.size<=1048576 from fun t ht=>by have:=NO (text:=text) (t:=t) (bc▸ht);omega);by_cases h60:60<(q+1)
  ·have i6:(60:Int)<(((q+1):Nat):Int):=by omega
   have bm:=pA6 (show ⟨#[]⟩=Y from by rw [hY];unfold yI;rw [if_neg h3,bc,if_pos (by rw [<-LL.out];exact h60)]);clear hY bc h60 h3;go_wp2;go_ret;exact Ret.str bm.out bt
  ·have i6:¬(60:Int)<(((q+1):Nat):Int):=by omega
   have bm:=pA6 (show Y=XF st0 X from by rw [hY];unfold yI;rw [if_neg h3,bc,if_neg (by rw [<-LL.out];exact h60)]);have HN:=pA6 (show (q+1)<=60 from by omega);clear hY bc h60 h3;go_wp2;have B0:Bw w1 ((w1.alloc (.cells #[.bool false,.slice none 0 0,.slice none 0 0,.slice none 0 0,.int .i64 0,.slice none 0 0] 141))):=(Bw.refl w1).alloc _;have bg:=StP.zero (L:=LI) (Box.new w1 #[.bool false,.slice none 0 0,.slice none 0 0,.slice none 0 0,.int .i64 0,.slice none 0 0] 141)
   go_loopg [5,7,36] ((q+1)+1) (fun gg o l7 i w'=>∃(k:Nat) (out:ByteArray) (m:CS),k<=(q+1)/\gg=(q+1)-k+1/\o=.string out/\i=.int .i64 (k:Int)/\StP LI w1.heap.size w' m/\Bw w1 w'/\out.size<=10001*k/\Hid (Y=out++XF m (X.drop k)))
   ·exact ⟨0,⟨#[]⟩,st0,by omega,by omega,rfl,rfl,bg,B0,by decide,pA6 (by rw [bm.out,List.drop_zero];exact (WL _).symm)⟩
   ·obtain ⟨k,out,m,hk,rfl,rfl,rfl,bf,hb,cd,HI⟩:=hrel;clear bg B0;by_cases hlt:k<(q+1)
    ·have i7:(k:Int)<(((q+1):Nat):Int):=by omega
     have i8:(0:Int)<=(k:Int):=by omega
     obtain ⟨x,hx⟩:=tA (xs:=X) (k:=k) (by rw [<-LL.out];exact hlt);obtain ⟨b2,o2,e2,_,ck⟩:=BC (r2.bw pF hb) hx;simp at e2;obtain ⟨rfl,rfl⟩:=e2;by_cases hz:x.size=0
     ·have e3:=vG hz;have bd:=pA6 (show Y=out++XF m (X.drop (k+1)) from by rw [HI.out,KO hx hz]);clear hz hx;go_wp2
      go_roundg ((q+1)-(k+1)+1)
      ·exact ⟨k+1,out,m,by omega,rfl,rfl,by go_num,bf,hb,by omega,bd⟩
      ·omega
     ·have e3:x.toList.isEmpty=false:=LG (by omega);have hc:=fA2 wr w1.heap.size m x bf (bv.out x (List.mem_of_getElem? hx));have bk:=LO (m:=m) hx hz;obtain ⟨bs,bb,_⟩:=bf.facts;have bp:=YN m x bs bb;obtain ⟨RR,bq⟩:=pA7 (PJ m x);rw [<-bq] at hc bk bp;obtain ⟨Z,m2⟩:=RR;dsimp only at hc bk bp;have bx:=HN.out;have a1:∀W,(Op.stringOp .add out Z).run prog W=.ok (.string (out++Z)) W:=fun W=>run_string_add_sum W _ _ (by omega)
      have z1:(⟨#[10]⟩:ByteArray).size=1:=rfl;have a2:∀W,(Op.stringOp .add (out++Z) ⟨#[10]⟩).run prog W=.ok (.string (out++Z++⟨#[10]⟩)) W:=fun W=>run_string_add_sum W _ _ (by rw [lA,z1];omega)
      have bd:=pA6 (show Y=out++Z++⟨#[10]⟩++XF m2 (X.drop (k+1)) from by rw [HI.out,bk];exact MO _ _ _ _);have bz:=pA6 (show (out++Z++⟨#[10]⟩:ByteArray).size<=10001*(k+1) from by rw [lA,lA,z1];omega);clear hz hx bk bp bq bs bb cd bx z1 bf;go_wp2_with fail;refine hc.mono ?_;rintro e w5 ⟨rfl,bj,cb⟩;clear hc;dsimp only at bj ⊢;have cc:Bw w1 w5:=Below.trans hb cb;go_wp2
      go_roundg ((q+1)-(k+1)+1)
      ·exact ⟨k+1,out++Z++⟨#[10]⟩,m2,by omega,rfl,rfl,by go_num,bj,cc,bz.out,bd⟩
      ·omega
    ·have i7:¬(k:Int)<(((q+1):Nat):Int):=by omega
     have bd:=pA6 (show out=Y from by rw [HI.out,List.drop_of_length_le (by rw [<-LL.out];omega),XF];exact (bAr _).symm);clear hlt bf;go_wp2;go_ret;exact Ret.str bd.out (bt.then hb)
def QC (l word:ByteArray):ByteArray×Bool:=match BF (bl l) with
 | some (a,r)=>if a=bl word then (mkS r,true) else (⟨#[]⟩,false)
 | none=>(⟨#[]⟩,false)
theorem gK:∀ {l a r:List UInt8},BF l=some (a,r)->l=a++32::r/\∀c∈a,¬c=32
 | [],_,_,h=>by simp [BF] at h
 | x::l,a,r,h=>by
  rw [BF] at h
  split at h
  ·rename_i hx
   injection h with h;injection h with h1 h2;subst h1 h2;exact ⟨by rw [hx];rfl,fun c hc=>by cases hc⟩
  ·rename_i hx
   cases hs:BF l with
   | none=>rw [hs] at h;cases h
   | some p=>
    obtain ⟨a2,r2⟩:=p;rw [hs] at h;simp only [Option.map_some] at h;injection h with h;injection h with h1 h2;subst h1 h2;obtain ⟨e,hn⟩:=gK hs;refine ⟨by rw [e];rfl,fun c hc=>?_⟩;rcases List.mem_cons.1 hc with rfl | hc
    ·exact hx
    ·exact hn c hc
theorem kAg {l word:ByteArray} (hw:∀c∈bl word,¬c=32) (h1:word.size<l.size) (h2:l.extract 0 word.size=word) (h3:(bl l)[word.size]? = some 32):QC l word=(l.extract (word.size+1) l.size,true):=by
 have e:(bl l).take word.size=bl word:=by rw [<-congrArg bl h2,jD,List.drop_zero]
 have hs:=yQ h3 (by rw [e];exact hw);unfold QC;rw [hs,e];dsimp only;rw [if_pos rfl];refine Prod.ext (EH ?_) rfl;rw [RS,jD,List.take_of_length_le (i:=l.size) (by rw [RB];omega)]
theorem AX {l word:ByteArray} (h:¬(word.size<l.size/\l.extract 0 word.size=word/\(bl l)[word.size]? = some 32)):QC l word=(⟨#[]⟩,false):=by
 unfold QC
 cases hs:BF (bl l) with
 | none=>rfl
 | some p=>
  obtain ⟨a,r⟩:=p;dsimp only;rw [if_neg];rintro rfl;obtain ⟨e,_⟩:=gK hs;have hl:=congrArg List.length e;rw [RB,List.length_append,List.length_cons,RB] at hl;refine h ⟨by omega,EH ?_,?_⟩
  ·rw [jD,List.drop_zero,e,List.take_left' (RB word)]
  ·rw [e,List.getElem?_append_right (by rw [RB];omega),RB];simp
theorem XH (l word:ByteArray):(QC l word).1.size<=l.size:=by
 unfold QC
 split
 ·rename_i a r hs
  split
  ·obtain ⟨e,_⟩:=gK hs;have hl:=congrArg List.length e;rw [RB,List.length_append,List.length_cons] at hl;rw [IJ];omega
  ·exact Nat.zero_le _
 ·exact Nat.zero_le _
theorem hAm {l u v:ByteArray} (h:(QC l u).2=true) (huv:¬u=v):(QC l v).2=false:=by
 unfold QC at h ⊢
 split at h
 ·rename_i a r hs
  split at h
  ·rename_i ha
   rw [if_neg (fun e=>huv (EH (ha.symm.trans e)))]
  ·cases h
 ·cases h
theorem YH (w:World) (l word:ByteArray) (hl:l.size<=1048576) (hw:∀c∈bl word,¬c=32) (hw2:word.size<=1024) :
  Calls prog 199 #[.string l,.string word] w (Ret w (.tuple #[.string (QC l word).1,.bool (QC l word).2])):=by
 obtain ⟨Y,hY⟩:=pA7 (QC l word);rw [<-hY];obtain ⟨n,hn⟩:=pA7 word.size;by_cases h1:word.size<l.size
 ·have i1:(word.size:Int)<(l.size:Int):=by omega
  have s1:=iAd (s:=l) (b:=word.size) (by omega);obtain ⟨p,hp⟩:=pA7 (l.extract 0 word.size);rw [<-hp] at s1;by_cases h2:p=word
  ·have e2:=JD h2;obtain ⟨x,hx⟩:=tA (xs:=bl l) (k:=word.size) (by rw [RB];exact h1);have bc:=TH hx;obtain ⟨xi,bb⟩:=pA7 ((x.toNat:Int):Int);rw [<-bb] at bc;by_cases h3:x=32
   ·have e3:(xi==32)=true:=by rw [bb,h3];rfl
    have hwk:IntKind.i64.wrap ((word.size:Int)+1)=(word.size:Int)+1:=by simp [IntKind.wrap,IntKind.bits,IntKind.signed];omega
    have s2:∀W,(Instr.slice 9 (.string l) (some (.int .i64 ((word.size:Int)+1))) none none).run prog W=.ok (.string (l.extract (word.size+1) l.size)) W:=fun W=>by
     have:=fL (s:=l) (a:=word.size+1) (by omega) W
     rwa [Int.natCast_add] at this
    have HY:=pA6 (show Y=(l.extract (word.size+1) l.size,true) from by rw [hY];exact kAg hw h1 (hp▸h2) (by rw [hx,h3]));obtain ⟨q,hq⟩:=pA7 (l.extract (word.size+1) l.size);rw [<-hq] at HY;simp only [<-hq] at s2;clear hY hn h1 hp h2 hx bb h3 hq;go_enter func199,ntmps199;go_wp2;refine bodyPost_ret (v:=.tuple #[.string q,.bool true]) (by simp [results,results199,go_sem]) rfl ?_;rw [HY.out];exact ⟨rfl,Bw.refl _⟩
   ·have e3:(xi==32)=false:=by
     rw [bb];have:x.toNat≠(32:UInt8).toNat:=fun e=>h3 (UInt8.toNat_inj.1 e)
     simp at this ⊢;omega
    have HY:=pA6 (show Y=(⟨#[]⟩,false) from by rw [hY];exact AX (fun h=>h3 (by rw [hx] at h;exact Option.some.inj h.2.2)));clear hY hn h1 hp h2 hx bb h3;go_enter func199,ntmps199;go_wp2;refine bodyPost_ret (v:=.tuple #[.string ⟨#[]⟩,.bool false]) (by simp [results,results199,go_sem]) rfl ?_;rw [HY.out];exact ⟨rfl,Bw.refl _⟩
  ·have e2:=WC h2;have HY:=pA6 (show Y=(⟨#[]⟩,false) from by rw [hY];exact AX (fun h=>h2 (hp.trans h.2.1)));clear hY hn h1 hp h2;go_enter func199,ntmps199;go_wp2;refine bodyPost_ret (v:=.tuple #[.string ⟨#[]⟩,.bool false]) (by simp [results,results199,go_sem]) rfl ?_;rw [HY.out];exact ⟨rfl,Bw.refl _⟩
 ·have i1:¬(word.size:Int)<(l.size:Int):=by omega
  have HY:=pA6 (show Y=(⟨#[]⟩,false) from by rw [hY];exact AX (fun h=>h1 h.1));clear hY hn h1;go_enter func199,ntmps199;go_wp2;refine bodyPost_ret (v:=.tuple #[.string ⟨#[]⟩,.bool false]) (by simp [results,results199,go_sem]) rfl ?_;rw [HY.out];exact ⟨rfl,Bw.refl _⟩
end Go.Proofs.YtpihighajaeabaaGreat
