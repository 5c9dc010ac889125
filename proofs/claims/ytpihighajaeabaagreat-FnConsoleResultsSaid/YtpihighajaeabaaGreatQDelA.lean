/- Appending a whole list in a region that draws its order: what was not nil is not nil behind it. -/
import Derived.Test.YtpihighajaeabaaGreatQDelW
import Derived.Test.YtpihighajaeabaaGreatQSortT
import Derived.Deep.RegionLaw
import Derived.IntWalk
import Derived.Test.YtpihighajaeabaaGreatQCopies
import Derived.Test.YtpihighajaeabaaGreatQFind
namespace Go.Proofs.YtpihighajaeabaaGreat
open Go.RowKit
set_option linter.unusedVariables false
set_option linter.unusedSimpArgs false
set_option maxRecDepth 100000 in
set_option maxHeartbeats 6400000 in
theorem tP (w:World) (s:tA) (id:Int) (va vb vc:Value) (ha:Rd MA w s.items [va]) (hb:Rd RA w s.wanted [vb]) (hc:Rd XA w s.best [vc]) (t1:eC s.items≤1048576) (t2:tC s.wanted≤1048576) (t3:s.best.length≤1048576) (hok:oF s id=true) (hno:s.best.contains id=false) :
  Calls Tryz.prog 18 #[.agg #[va,vb,vc,.int .i64 s.tests],.int .i64 id] w (BC w (xQ aC w.heap.size (xL s id) (.bool true))):=by
 obtain ⟨E1,hfx,hts⟩:=VH hok;have HST:=Lib.hid E1;have HI:=Lib.hid (sA (ZB E1).1);obtain ⟨j0,ji,jz0,jz1,jz2⟩:=info_parts ZE;obtain ⟨kk,hkk,hkl⟩:∃kk:Nat,UA s.items id=(kk:Int)∧kk<s.items.length:=by
  rcases PB s.items id with ⟨h,_⟩ | ⟨j,x,h1,h2,_⟩
  ·omega
  ·exact ⟨j,h1,(List.getElem?_eq_some_iff.1 h2).1⟩
 have HK:=Lib.hid hkk.symm;have HKK:=Lib.hid hkl;have HY:=Lib.hid (show xL s id=⟨WB s.items [id] false,s.wanted,s.best,s.tests⟩ by unfold xL;rw [hno];rfl);clear hkk hkl hfx E1 hok;obtain ⟨A,n,c,rfl,L0,Lc,Lm⟩:=iA ha;unfold maxLen at Lm;have L:=Lib.hid L0;clear L0;obtain ⟨B,m,c4,rfl,M0,Mc,Mm⟩:=iA hc;unfold maxLen at Mm;have M:=Lib.hid M0;clear M0;obtain ⟨W0,hW0⟩:∃W0,W0=(w.alloc (.cells #[.slice A n c,vb,.slice B m c4,.int .i64 s.tests] 28)).alloc (.cells #[.slice none 0 0,.slice none 0 0,.slice none 0 0,.int .i64 0] 28):=⟨_,rfl⟩;have A0:Bw w W0:=by rw [hW0];exact ((Bw.refl w).alloc _).alloc _
 have bS:Box W0 w.heap.size [.slice A n c,vb,.slice B m c4,.int .i64 s.tests]:=by rw [hW0];exact (Box.new w #[.slice A n c,vb,.slice B m c4,.int .i64 s.tests] 28).bw ((Bw.refl _).alloc _)
 have bR:Box W0 (w.heap.size+1) [.slice none 0 0,.slice none 0 0,.slice none 0 0,.int .i64 0]:=by
  have:=Box.new (w.alloc (.cells #[.slice A n c,vb,.slice B m c4,.int .i64 s.tests] 28)) #[.slice none 0 0,.slice none 0 0,.slice none 0 0,.int .i64 0] 28;rw [show (w.alloc (.cells #[.slice A n c,vb,.slice B m c4,.int .i64 s.tests] 28)).heap.size=w.heap.size+1 from by simp] at this;rw [hW0];exact this
 have z0:W0.heap.size=w.heap.size+2:=by rw [hW0];simp
 have hcopy:=ED W0 s _ vb _ (ha.bw jA A0) (hb.bw lA A0) (hc.bw dA A0) t1 t2 t3;have HW0:=Lib.hid hW0;clear hW0;go_enter Tryz.func18,Tryz.ntmps18;go_wp2_with fail;rw [← HW0.out];refine hcopy.mono ?_;rintro e w1 ⟨cs,F0,rfl,oS,fS,hb1⟩;obtain ⟨A1,c1,A2,c2,A3,c3,rfl⟩:=NC oS;obtain ⟨F1,F2,F3,o1,o2,o3,rfl⟩:=XC oS;obtain ⟨m1,hm1⟩:∃m,m=s.items.length:=⟨_,rfl⟩;obtain ⟨m2,hm2⟩:∃m,m=s.wanted.length:=⟨_,rfl⟩;obtain ⟨m3,hm3⟩:∃m,m=s.best.length:=⟨_,rfl⟩;rw [← hm1] at o1;rw [← hm2] at o2;rw [← hm3] at o3;dsimp only;rw [← hm1,← hm2,← hm3];have bS1:=(bS.bw hb1).bw ((Bw.refl w1).alloc (.cells #[.slice A1 m1 c1,.slice A2 m2 c2,.slice A3 m3 c3,.int .i64 s.tests] 28));have y0:=bS1.c 0 _ rfl;have y1:=bS1.c 1 _ rfl;have y2:=bS1.c 2 _ rfl;have y3:=bS1.c 3 _ rfl;have HM1:=Lib.hid hm1;have HM2:=Lib.hid hm2;have HM3:=Lib.hid hm3;clear hm1 hm2 hm3;go_wp2_with fail;obtain ⟨V,hV⟩:∃V,V=w1.alloc (.cells #[.slice A1 m1 c1,.slice A2 m2 c2,.slice A3 m3 c3,.int .i64 s.tests] 28):=⟨_,rfl⟩;have A1':Bw w1 V:=by rw [hV];exact (Bw.refl w1).alloc _
 have bO:Box V w1.heap.size [.slice A1 m1 c1,.slice A2 m2 c2,.slice A3 m3 c3,.int .i64 s.tests]:=by rw [hV];exact Box.new w1 #[.slice A1 m1 c1,.slice A2 m2 c2,.slice A3 m3 c3,.int .i64 s.tests] 28
 have zV:V.heap.size=w1.heap.size+1:=by rw [hV];simp
 have BV:Bw w V:=A0.then (hb1.then A1');replace bS:=bS.bw (hb1.then A1');replace bR:=bR.bw (hb1.then A1');have zw:w.heap.size+2≤w1.heap.size:=by have:=hb1.size;omega
 have lS:=(oD (B:=0)).lt oS;replace o1:=xA A1' yA o1;replace o2:=xA A1' nA o2;replace o3:=xA A1' aA o3;have fV:pA (w.heap.size+2) (F1++(F2++F3)):=fS.mono (by omega);have HLS:=Lib.hid lS;have HV:=Lib.hid hV;have k1:=Lib.hid (fun W (B:Bw V W)=>VE W s _ vb _ (ha.bw jA (BV.then B)) (hb.bw lA (BV.then B)) (hc.bw dA (BV.then B)));have k3:=Lib.hid (fun W (B:Bw V W)=>QC W s.items id _ (ha.bw jA (BV.then B)));obtain ⟨b6,hb6⟩:∃b,b=w1.heap.size:=⟨_,rfl⟩;rw [← hb6] at bO zV zw lS;have HB6:=Lib.hid hb6;rw [← HV.out,← HB6.out];clear hV oS fS hcopy hb1 A0 hb6 lS y0 y1 y2 y3 bS1;have hcall:=k3.out _ (Bw.refl V);rw [← HK.out] at hcall;have y0:=bS.c 0 _ rfl;go_wp2_with fail;refine hcall.mono ?_;rintro e w2 ⟨rfl,hb2⟩;clear y0;have bS2:=bS.bw hb2;have y0:=bS2.c 0 _ rfl;have y1:=bS2.c 1 _ rfl;have y2:=bS2.c 2 _ rfl;have y3:=bS2.c 3 _ rfl;have yf:=bS2.fr;have hcall:=k1.out _ hb2;rw [HST.out] at hcall;clear bS2;go_wp2_with fail;refine hcall.mono ?_;rintro e w3 ⟨rfl,hb3⟩;have hB3:=hb2.then hb3;clear y0 y1 y2 y3 yf;have hK1:¬((kk:Nat):Int)<(0:Int):=by omega
 have ht1:¬(999900:Int)<s.tests:=by omega
 have hne:b6≠w.heap.size∧b6≠w.heap.size+1:=by omega
 obtain ⟨hne1,hne2⟩:=hne;have hne4:=hne1.symm;have hne5:=hne2.symm;have hkm:kk<m1:=by have h1:=HKK.out;have h2:=HM1.out;omega
 obtain ⟨g1,hg1,hm1',hgF⟩:=OH o1 (by have:=HM1.out;omega);subst hg1;clear hm1';have Lc1:=(UG (vC o1)).2.1;have Lm1:=(UG (vC o1)).2.2;unfold maxLen at Lm1;have i1:(0:Int)≤(kk:Int):=by omega
 have i2:(kk:Int)≤(m1:Int):=by omega
 have i3:(kk:Int)+1≤(m1:Int):=by omega
 have i4:(kk:Int)≤(c1:Int):=by omega
 have i5:(kk:Int)≤(kk:Int)+1:=by omega
 have i6:(0:Int)≤(kk:Int)+1:=by omega
 have i7:((kk:Int)+1).toNat=kk+1:=by omega
 have i8:IntKind.i64.wrap ((kk:Int)+1)=(kk:Int)+1:=IntWalk.i64_in _ (by omega);have i9:(m1:Int)≤(c1:Int):=by omega
 have D1:Bw w3 w3.drew:=(Bw.refl w3).drew;have hBD:=hB3.then D1;have bO3:=bO.bw hBD;have bS3:=bS.bw hBD;have bR3:=bR.bw hBD;have vW:=xA hBD yA o1;have hbW:=BV.then hBD;have hF1:pA w.heap.size F1:=⟨(List.nodup_append.1 fV.nodup).1,fun b hb=>by have:=fV.ge b (List.mem_append_left _ hb);omega⟩;have hls:=HLS.out;rw [← HB6.out] at hls;have nb1:b6∉F1:=fun h=>by have:=hls b6 (List.mem_append_left _ h);omega
 have ns1:w.heap.size∉F1:=fun h=>by have:=fV.ge _ (List.mem_append_left _ h);omega
 have nr1:w.heap.size+1∉F1:=fun h=>by have:=fV.ge _ (List.mem_append_left _ h);omega
 have HM16:=Lib.hid (show m1≤16 by rw [HM1.out];exact VA HI.out);have bO3':=bO.bw hB3;have bS3':=bS.bw hB3;have y0:=bS3'.c 0 _ rfl;have y1:=bS3'.c 1 _ rfl;have y2:=bS3'.c 2 _ rfl;have y3:=bS3'.c 3 _ rfl;have yf:=bS3'.fr;have x0:=bO3'.c 0 _ rfl;have x1:=bO3'.c 1 _ rfl;have x2:=bO3'.c 2 _ rfl;have x3:=bO3'.c 3 _ rfl;have xf:=bO3'.fr;clear bO3' bS3';by_cases hcap:c1=kk+1
 ·subst hcap;go_wp2_with fail
  go_region_law (refine nI _ (by rfl) (.tmp 32) (.tmp 37) 24 (by rfl) w 30 j0 _ 2 32 Tryz.underlying24 ji jz0 jz1 jz2 rfl (by omega) YB g1 m1 _ s.items F1 vW hF1 kk hkm (by rfl) _ _ _ (by rfl) (by omega) (fun h=>by exfalso;omega) (by have:=HM16.out;omega) (by have:=HM16.out;omega) hbW ?_;intro v' w' F' hv' hF' hb' hO' hs';rw [← qG HI.out HK.out.symm] at hv';obtain ⟨A5,c5,rfl,_⟩:=aB (vC hv');obtain ⟨n5,hn5⟩:∃n,n=(WB s.items [id] false).length:=⟨_,rfl⟩;rw [← hn5] at hv' ⊢;have HN5:=Lib.hid hn5;clear hn5;have eP:=bO3.only hO' nb1;have e0:=eP.c 0 _ rfl;have ef:=eP.fr)
  all_goals
   obtain ⟨X,hX⟩:∃X,X=w'.setCell ⟨b6,0,none⟩ (.slice A5 n5 c5):=⟨_,rfl⟩;rw [← hX];clear y0 y1 y2 y3 yf;clear x0 x1 x2 x3 xf;have n2:b6∉F2:=fun h=>by have:=hls b6 (List.mem_append_right _ (List.mem_append_left _ h));omega
   have n3:b6∉F3:=fun h=>by have:=hls b6 (List.mem_append_right _ (List.mem_append_right _ h));omega
   have l23:∀c∈F2++F3,c<b6:=fun c h=>hls c (List.mem_append_right _ h)
   have b6W:b6<w3.drew.heap.size:=bO3.lt;have mF:∀b∈F',b∉F2++F3∧b≠b6∧w.heap.size+2≤b:=by
    intro b hb;rcases hs' b hb with h | h
    ·exact ⟨fun h2=>(List.nodup_append.1 fV.nodup).2.2 b h b h2 rfl,fun e=>nb1 (e▸h),fV.ge b (List.mem_append_left _ h)⟩
    ·exact ⟨fun h2=>by have:=l23 b h2;omega,by omega,by omega⟩
   have BX:Bw w X:=by rw [hX];exact hb'.set (by dsimp only;omega) _
   have cO:Box X b6 [.slice A5 n5 c5,.slice A2 m2 c2,.slice A3 m3 c3,.int .i64 s.tests]:=by rw [hX];exact eP.set (by simp) _
   have cS:Box X w.heap.size [.slice A n c,vb,.slice B m c4,.int .i64 s.tests]:=by rw [hX];exact (bS3.only hO' ns1).only (KA _ _ _ _) (by simp;omega)
   have cR:Box X (w.heap.size+1) [.slice none 0 0,.slice none 0 0,.slice none 0 0,.int .i64 0]:=by rw [hX];exact (bR3.only hO' nr1).only (KA _ _ _ _) (by simp;omega)
   have p1:fD X (WB s.items [id] false) [.slice A5 n5 c5] F':=by rw [hX];exact QA yA hv' (fun h=>(mF _ h).2.1 rfl)
   have p2:EC X s.wanted [.slice A2 m2 c2] F2:=by rw [hX];exact QA nA (hO'.keeps nA (xA hBD nA o2) (fun c h h2=>(List.nodup_append.1 fV.nodup).2.2 c h2 c (List.mem_append_left _ h) rfl)) n2
   have p3:ZA X s.best [.slice A3 m3 c3] F3:=by rw [hX];exact QA aA (hO'.keeps aA (xA hBD aA o3) (fun c h h2=>(List.nodup_append.1 fV.nodup).2.2 c h2 c (List.mem_append_right _ h) rfl)) n3
   have hcall:=lF X s.best id _ (hc.bw dA BX);have hcon:=gG id s.best 0;obtain ⟨K2,hK2⟩:∃K,K=zJ id s.best 0:=⟨_,rfl⟩;rw [← hK2] at hcall hcon;have HK2:=Lib.hid hK2;have HX:=Lib.hid hX;have nF':=hF'.nodup;clear hX hK2 e0 ef i1 i2 i3 i4 i5 i6 i7 i8 i9 eP hv' hO' hs' hb' vW;have y0:=cS.c 0 _ rfl;have y1:=cS.c 1 _ rfl;have y2:=cS.c 2 _ rfl;have y3:=cS.c 3 _ rfl;have yf:=cS.fr;go_wp2_with fail;refine hcall.mono ?_;rintro e w6 ⟨rfl,hb6⟩;clear hcall;clear y0 y1 y2 y3 yf;rw [hno] at hcon;have hi0:¬(0:Int)≤K2:=by simpa using hcon
   have cO6:=cO.bw hb6;have cR6:=cR.bw hb6;have B6:=BX.then hb6;have q0:=cO6.c 0 _ rfl;have q1:=cO6.c 1 _ rfl;have q2:=cO6.c 2 _ rfl;have q3:=cO6.c 3 _ rfl;have qf:=cO6.fr;have r0:=cR6.c 0 _ rfl;have r1:=cR6.c 1 _ rfl;have r2:=cR6.c 2 _ rfl;have r3:=cR6.c 3 _ rfl;have rf:=cR6.fr;clear hcon hno;go_wp2;rw [HY.out];refine bodyPost_ret (v:=.tuple #[.agg #[.slice A5 n5 c5,.slice A2 m2 c2,.slice A3 m3 c3,.int .i64 s.tests],.bool true]) (by simp [results,Tryz.results18,go_sem,q0,q1,q2,q3,r0,r1,r2,r3,hne2,hne5]) rfl ?_;exact cD (y:=⟨WB s.items [id] false,s.wanted,s.best,s.tests⟩) (F:=F') (G:=F2) (H:=F3) (xA hb6 yA p1) (xA hb6 nA p2) (xA hb6 aA p3) ⟨List.nodup_append.2 ⟨nF',(List.nodup_append.1 fV.nodup).2.1,fun a ha b hb e=>(mF a ha).1 (e▸hb)⟩,fun b hb=>(List.mem_append.1 hb).elim (fun h=>by have:=(mF b h).2.2;omega) (fun h=>fV.ge b (List.mem_append_right _ h))⟩ (by omega) B6
 ·have hcap2:=hcap;go_wp2_with fail
  go_region_law (refine nI _ (by rfl) (.tmp 32) (.tmp 37) 24 (by rfl) w 30 j0 _ 2 32 Tryz.underlying24 ji jz0 jz1 jz2 rfl (by omega) YB g1 m1 _ s.items F1 vW hF1 kk hkm (by rfl) _ _ _ (by rfl) (by omega) (fun h=>rfl) (by have:=HM16.out;omega) (by have:=HM16.out;omega) hbW ?_;intro v' w' F' hv' hF' hb' hO' hs';rw [← qG HI.out HK.out.symm] at hv';obtain ⟨A5,c5,rfl,_⟩:=aB (vC hv');obtain ⟨n5,hn5⟩:∃n,n=(WB s.items [id] false).length:=⟨_,rfl⟩;rw [← hn5] at hv' ⊢;have HN5:=Lib.hid hn5;clear hn5;have eP:=bO3.only hO' nb1;have e0:=eP.c 0 _ rfl;have ef:=eP.fr)
  all_goals
   obtain ⟨X,hX⟩:∃X,X=w'.setCell ⟨b6,0,none⟩ (.slice A5 n5 c5):=⟨_,rfl⟩;rw [← hX];clear y0 y1 y2 y3 yf;clear x0 x1 x2 x3 xf;have n2:b6∉F2:=fun h=>by have:=hls b6 (List.mem_append_right _ (List.mem_append_left _ h));omega
   have n3:b6∉F3:=fun h=>by have:=hls b6 (List.mem_append_right _ (List.mem_append_right _ h));omega
   have l23:∀c∈F2++F3,c<b6:=fun c h=>hls c (List.mem_append_right _ h)
   have b6W:b6<w3.drew.heap.size:=bO3.lt;have mF:∀b∈F',b∉F2++F3∧b≠b6∧w.heap.size+2≤b:=by
    intro b hb;rcases hs' b hb with h | h
    ·exact ⟨fun h2=>(List.nodup_append.1 fV.nodup).2.2 b h b h2 rfl,fun e=>nb1 (e▸h),fV.ge b (List.mem_append_left _ h)⟩
    ·exact ⟨fun h2=>by have:=l23 b h2;omega,by omega,by omega⟩
   have BX:Bw w X:=by rw [hX];exact hb'.set (by dsimp only;omega) _
   have cO:Box X b6 [.slice A5 n5 c5,.slice A2 m2 c2,.slice A3 m3 c3,.int .i64 s.tests]:=by rw [hX];exact eP.set (by simp) _
   have cS:Box X w.heap.size [.slice A n c,vb,.slice B m c4,.int .i64 s.tests]:=by rw [hX];exact (bS3.only hO' ns1).only (KA _ _ _ _) (by simp;omega)
   have cR:Box X (w.heap.size+1) [.slice none 0 0,.slice none 0 0,.slice none 0 0,.int .i64 0]:=by rw [hX];exact (bR3.only hO' nr1).only (KA _ _ _ _) (by simp;omega)
   have p1:fD X (WB s.items [id] false) [.slice A5 n5 c5] F':=by rw [hX];exact QA yA hv' (fun h=>(mF _ h).2.1 rfl)
   have p2:EC X s.wanted [.slice A2 m2 c2] F2:=by rw [hX];exact QA nA (hO'.keeps nA (xA hBD nA o2) (fun c h h2=>(List.nodup_append.1 fV.nodup).2.2 c h2 c (List.mem_append_left _ h) rfl)) n2
   have p3:ZA X s.best [.slice A3 m3 c3] F3:=by rw [hX];exact QA aA (hO'.keeps aA (xA hBD aA o3) (fun c h h2=>(List.nodup_append.1 fV.nodup).2.2 c h2 c (List.mem_append_right _ h) rfl)) n3
   have hcall:=lF X s.best id _ (hc.bw dA BX);have hcon:=gG id s.best 0;obtain ⟨K2,hK2⟩:∃K,K=zJ id s.best 0:=⟨_,rfl⟩;rw [← hK2] at hcall hcon;have HK2:=Lib.hid hK2;have HX:=Lib.hid hX;have nF':=hF'.nodup;clear hX hK2 e0 ef i1 i2 i3 i4 i5 i6 i7 i8 i9 eP hv' hO' hs' hb' vW;have y0:=cS.c 0 _ rfl;have y1:=cS.c 1 _ rfl;have y2:=cS.c 2 _ rfl;have y3:=cS.c 3 _ rfl;have yf:=cS.fr;go_wp2_with fail;refine hcall.mono ?_;rintro e w6 ⟨rfl,hb6⟩;clear hcall;clear y0 y1 y2 y3 yf;rw [hno] at hcon;have hi0:¬(0:Int)≤K2:=by simpa using hcon
   have cO6:=cO.bw hb6;have cR6:=cR.bw hb6;have B6:=BX.then hb6;have q0:=cO6.c 0 _ rfl;have q1:=cO6.c 1 _ rfl;have q2:=cO6.c 2 _ rfl;have q3:=cO6.c 3 _ rfl;have qf:=cO6.fr;have r0:=cR6.c 0 _ rfl;have r1:=cR6.c 1 _ rfl;have r2:=cR6.c 2 _ rfl;have r3:=cR6.c 3 _ rfl;have rf:=cR6.fr;clear hcon hno;go_wp2;rw [HY.out];refine bodyPost_ret (v:=.tuple #[.agg #[.slice A5 n5 c5,.slice A2 m2 c2,.slice A3 m3 c3,.int .i64 s.tests],.bool true]) (by simp [results,Tryz.results18,go_sem,q0,q1,q2,q3,r0,r1,r2,r3,hne2,hne5]) rfl ?_;exact cD (y:=⟨WB s.items [id] false,s.wanted,s.best,s.tests⟩) (F:=F') (G:=F2) (H:=F3) (xA hb6 yA p1) (xA hb6 nA p2) (xA hb6 aA p3) ⟨List.nodup_append.2 ⟨nF',(List.nodup_append.1 fV.nodup).2.1,fun a ha b hb e=>(mF a ha).1 (e▸hb)⟩,fun b hb=>(List.mem_append.1 hb).elim (fun h=>by have:=(mF b h).2.2;omega) (fun h=>fV.ge b (List.mem_append_right _ h))⟩ (by omega) B6
end Go.Proofs.YtpihighajaeabaaGreat
namespace Go.Proofs.YtpihighajaeabaaGreat
open Go.RowKit
set_option linter.unusedVariables false
theorem zL {α:Type} {P:Program} {o:Oper} {a:Act} {K:Act→World→Prop} {Q:Exit→Act→World→Prop} (W:World) (s x:Operand) (t:TypeId)
  (ho:o.op=.call { callee:=.builtin .append,args:=#[s,x],argTypes:=#[t,t] })
  (w0:World) (e:TypeId) (i:TypeInfo) (z:Value) (sz bytes:Nat) (ht:P.underlying t=some (.slice e)) (hi:P.info? e=some i) (hz:i.zero=some z)
  (hsize:i.size=sz) (hby:i.bytes=bytes) (hzs:z.cells.size=sz) (hsz:0<sz)
  {R:Fp α} (hR:VB w0.heap.size R) (v:Value) (xs:List α) (F:List Nat) (hs:a.eval s=v) (hv:fSl e sz R W xs [v] F) (hF:pA w0.heap.size F)
  (sv:Value) (hx:a.eval x=sv) {R':Rep α} {S:XB} (ys:List α) (hsrc:rSl sz R' W S ys [sv]) (hRR:∀y u,R' W S y u→R W y u [])
  (hbytes:(xs.length+ys.length)*bytes≤140737488355328) (hlen:xs.length+ys.length<4611686018427387904) (hbw:Bw w0 W)
  (h:∀v' w' F',fSl e sz R w' (xs++ys) [v'] F'→pA w0.heap.size F'→Bw w0 w'→SB F W w'→(∀b∈F',b∈F∨W.heap.size≤b)→(v'=.slice none 0 0→v=.slice none 0 0)→K (a.put o.dst v') w'):o.wp P a W K Q:=by
 obtain ⟨v0,us,Fs,hv0,hown,hall,hFe⟩:=hv;injection hv0 with hv0;subst hv0;obtain ⟨A,c,hsv,hc1,hc2,hk⟩:=hsrc;injection hsv with hsv;subst hsv;have hl:=EE hall;have hvg:∀k,v.ownBlock=some k→w0.heap.size≤k:=fun k hk=>hF.ge k (by rw [hFe];simp [hk])
 by_cases hy0:ys=[]∧A=none
 ·obtain ⟨rfl,rfl⟩:=hy0;have hrun:=iF (P:=P) W 0 t o.type e i sz ht hi v xs.length us.flatten hown c;unfold Oper.wp execOp;simp only [ho,resolve,invoke,builtin,Sem.run_bind,Sem.run_pure,Result.andThen_ok,List.map_toArray,List.map_cons,List.map_nil,hs,hx];rw [show (List.length ([]:List α))=0 from rfl,hrun];exact (h v W F (by rw [List.append_nil];exact ⟨v,us,Fs,rfl,hown,hall,hFe⟩) hF hbw (SB.refl F W) (fun b hb=>.inl hb) (fun e=>e))
 ·obtain ⟨vs,hvl,hvs⟩:=gJ (P:=fun k y u=>∃b o,A=some ⟨b,o,none⟩∧u.length=sz∧(∀j t,u[j]? = some t→W.cell? ⟨b,o+k*sz+j,none⟩=some t)∧R' W S y u) (ys:=ys) (fun k y hy=>by
   obtain ⟨b,o,u,e,_,hul,hcl,hr⟩:=hk k y hy;exact ⟨u,b,o,e,hul,hcl,hr⟩)
  have hvsl:∀u∈vs,u.length=sz:=fun u hu=>by
   obtain ⟨k,hku⟩:=List.mem_iff_getElem?.1 hu;obtain ⟨y,hy⟩:∃y,ys[k]? = some y:=⟨_,List.getElem?_eq_getElem (by rw [← hvl];exact (List.getElem?_eq_some_iff.1 hku).1)⟩;obtain ⟨u',hu',_,_,_,hul,_⟩:=hvs k y hy;rw [hku] at hu';injection hu' with hu';rw [hu'];exact hul
  have hR0:∀k y u,ys[k]? = some y→vs[k]? = some u→R W y u []:=fun k y u hy hu=>by
   obtain ⟨u',hu',_,_,_,_,_,hr⟩:=hvs k y hy;rw [hu] at hu';injection hu' with hu';subst hu';exact hRR _ _ hr
  obtain ⟨ad,had⟩:∃ad,A=some ad:=by
   cases hA:A with
   | some ad=>exact ⟨ad,rfl⟩
   | none=>
    exfalso
    apply hy0;refine ⟨?_,hA⟩
    cases hys:ys with
    | nil=>rfl
    | cons y l=>
     obtain ⟨b,o,_,e,_⟩:=hk 0 y (by rw [hys];rfl);rw [hA] at e;cases e
  have hnews:∀j u,vs.flatten[j]? = some u→W.cell? (ad.add j)=some u:=by
   intro j u hj;have hjl:j<vs.length*sz:=by rw [← GE hvsl];exact (List.getElem?_eq_some_iff.1 hj).1
   have hkk:j / sz<vs.length:=Nat.div_lt_of_lt_mul (by rw [Nat.mul_comm];exact hjl);obtain ⟨y,hy⟩:∃y,ys[j / sz]? = some y:=⟨_,List.getElem?_eq_getElem (by rw [← hvl];exact hkk)⟩;obtain ⟨u',hu',b,o,e,hul,hcl,_⟩:=hvs _ y hy;have hm:j % sz<sz:=Nat.mod_lt _ hsz;have hf:=sF hvsl hu' hm;have hdm:j / sz*sz+j % sz=j:=by rw [Nat.mul_comm];exact Nat.div_add_mod j sz
   rw [hdm,hj] at hf;have:=hcl _ _ hf.symm;rw [e] at had;injection had with had;subst had;have ea:(⟨b,o,none⟩:Addr).add j=⟨b,o+j / sz*sz+j % sz,none⟩:=by
    unfold Addr.add
    split
    ·rename_i h0;subst h0;simp
    ·simp only [Addr.mk.injEq,true_and,and_true];omega
   rw [ea];exact this
  have hone:∀u∈vs.flatten,u.oneCell'=true:=fun u hu=>by
   obtain ⟨l,hl',hul⟩:=List.mem_flatten.1 hu;obtain ⟨k,hku⟩:=List.mem_iff_getElem?.1 hl';obtain ⟨y,hy⟩:∃y,ys[k]? = some y:=⟨_,List.getElem?_eq_getElem (by rw [← hvl];exact (List.getElem?_eq_some_iff.1 hku).1)⟩;exact hR.one (hR0 k y l hy hku) u hul
  obtain ⟨v',w',hrun,hown',hgrow,hnil,hat⟩:=run_append_own_at (P:=P) W 0 t o.type e i z sz bytes ht hi hz hsize hby hzs hsz v xs.length us.flatten hown ad ys.length c vs.flatten (by rw [GE hvsl,hvl]) hnews hone
   (by simp only [maxLen];omega) hbytes (Nat.zero_le _)
  have hbw':Bw w0 w':=hbw.grown hgrow hvg;have hvF:∀b,b∈Fs.flatten→some b≠v.ownBlock:=by
   intro b hb e;have hn:=hF.nodup;rw [hFe,List.nodup_append] at hn;exact hn.2.2 b (by simp [← e]) b hb rfl
  have hlts:∀b∈Fs.flatten,b<W.heap.size:=fun b hb=>(xB hR).lt (⟨v,us,Fs,rfl,hown,hall,rfl⟩:fSl e sz R W xs [v] _) b (List.mem_append_right _ hb)
  have hold:∀b,b<w0.heap.size→w'.heap[b]? = W.heap[b]?:=fun b hb=>hgrow.block b (Nat.lt_of_lt_of_le hb hbw.size) (fun e=>by have:=hvg b e.symm;omega)
  unfold Oper.wp execOp;simp only [ho,resolve,invoke,builtin,Sem.run_bind,Sem.run_pure,Result.andThen_ok,List.map_toArray,List.map_cons,List.map_nil,hs,hx,had,hrun];have hrep:(List.replicate ys.length ([]:List Nat)).flatten=[]:=by simp
  refine (h v' w' (v'.ownBlock.toList++(Fs++List.replicate ys.length []).flatten) ⟨v',us++vs,Fs++List.replicate ys.length [],rfl,?_,?_,rfl⟩ ⟨?_,?_⟩ hbw' ⟨hgrow.size,fun b hb hn=>hgrow.block b hb (fun e=>hn (by rw [hFe];simp [← e]))⟩ ?_ (fun e=>(hnil.1 e).1))
  ·rw [List.length_append,List.flatten_append];exact hown'
  ·refine AG (rF (fun x u f' hf' hx=>⟨hR.step (fun b hb=>?_) hx.1,hx.2⟩) hall) (EQ (by rw [hvl]) fun k y u hy hu=>⟨hR.step (fun b hb=>?_) (hR0 k y u hy hu),hvsl u (List.mem_iff_getElem?.2 ⟨k,hu⟩)⟩)
   ·rcases hb with hb | hb
    ·have hb':b∈Fs.flatten:=List.mem_flatten.2 ⟨_,hf',hb⟩;exact hgrow.block b (hlts b hb') (hvF b hb')
    ·exact hold b hb
   ·rcases hb with hb | hb
    ·simp at hb
    ·exact hold b hb
  ·rw [List.flatten_append,hrep,List.append_nil,List.nodup_append];have hn:=hF.nodup;rw [hFe,List.nodup_append] at hn;refine ⟨by cases v'.ownBlock<;>simp,hn.2.1,fun p hp q hq e=>?_⟩;subst e;have hp':v'.ownBlock=some p:=by simpa using hp
   rcases hat with e | e
   ·exact hvF p hq (by rw [← e,hp'])
   ·rw [hp'] at e;injection e with e;have:=hlts p hq;omega
  ·intro b hb;rcases List.mem_append.1 hb with hb | hb
   ·have hb':v'.ownBlock=some b:=by simpa using hb
    rcases hat with e | e
    ·exact hvg b (by rw [← e,hb'])
    ·rw [hb'] at e;injection e with e;have:=hbw.size;omega
   ·rw [List.flatten_append,hrep,List.append_nil] at hb;exact hF.ge b (by rw [hFe];exact List.mem_append_right _ hb)
  ·intro b hb;rcases List.mem_append.1 hb with hb | hb
   ·have hb':v'.ownBlock=some b:=by simpa using hb
    rcases hat with e | e
    ·exact .inl (by rw [hFe];simp [← e,hb'])
    ·rw [hb'] at e;injection e with e;exact .inr (by omega)
   ·rw [List.flatten_append,hrep,List.append_nil] at hb;exact .inl (by rw [hFe];exact List.mem_append_right _ hb)
theorem SF {α:Type} {P:Program} {ops:Array Oper} {o:Oper} {a:Act} {K:Act→World→Prop} {Q:Exit→Act→World→Prop} {E:Prop} (W:World) (hgd:o.guard=none) (s x:Operand) (t:TypeId)
  (ho:o.op=.call { callee:=.builtin .append,args:=#[s,x],argTypes:=#[t,t] })
  (w0:World) (e:TypeId) (i:TypeInfo) (z:Value) (sz bytes:Nat) (ht:P.underlying t=some (.slice e)) (hi:P.info? e=some i) (hz:i.zero=some z)
  (hsize:i.size=sz) (hby:i.bytes=bytes) (hzs:z.cells.size=sz) (hsz:0<sz)
  {R:Fp α} (hR:VB w0.heap.size R) (v:Value) (xs:List α) (F:List Nat) (hs:a.eval s=v) (hv:fSl e sz R W xs [v] F) (hF:pA w0.heap.size F)
  (sv:Value) (hx:a.eval x=sv) {R':Rep α} {S:XB} (ys:List α) (hsrc:rSl sz R' W S ys [sv]) (hRR:∀y u,R' W S y u→R W y u [])
  (hbytes:(xs.length+ys.length)*bytes≤140737488355328) (hlen:xs.length+ys.length<4611686018427387904) (hbw:Bw w0 W)
  (h:∀v' w' F',fSl e sz R w' (xs++ys) [v'] F'→pA w0.heap.size F'→Bw w0 w'→SB F W w'→(∀b∈F',b∈F∨W.heap.size≤b)→(v'=.slice none 0 0→v=.slice none 0 0)→K (a.put o.dst v') w'):if Region.wanted o (yielded ops a.tmps)=true then Oper.wp P o a W K Q else E:=by
 have hw:Region.wanted o (yielded ops a.tmps)=true:=by simp [Region.wanted,hgd]
 rw [if_pos hw];exact zL W s x t ho w0 e i z sz bytes ht hi hz hsize hby hzs hsz hR v xs F hs hv hF sv hx ys hsrc hRR hbytes hlen hbw h
theorem nN {α:Type} {P:Program} {ops:Array Oper} {rest:List Oper} {o:Oper} {a:Act} {Q:Exit→Act→World→Prop} (W:World) (hgd:o.guard=none) (s x:Operand) (t:TypeId)
  (ho:o.op=.call { callee:=.builtin .append,args:=#[s,x],argTypes:=#[t,t] })
  (w0:World) (e:TypeId) (i:TypeInfo) (z:Value) (sz bytes:Nat) (ht:P.underlying t=some (.slice e)) (hi:P.info? e=some i) (hz:i.zero=some z)
  (hsize:i.size=sz) (hby:i.bytes=bytes) (hzs:z.cells.size=sz) (hsz:0<sz)
  {R:Fp α} (hR:VB w0.heap.size R) (v:Value) (xs:List α) (F:List Nat) (hs:a.eval s=v) (hv:fSl e sz R W xs [v] F) (hF:pA w0.heap.size F)
  (sv:Value) (hx:a.eval x=sv) {R':Rep α} {S:XB} (ys:List α) (hsrc:rSl sz R' W S ys [sv]) (hRR:∀y u,R' W S y u→R W y u [])
  (hbytes:(xs.length+ys.length)*bytes≤140737488355328) (hlen:xs.length+ys.length<4611686018427387904) (hbw:Bw w0 W)
  (h:∀v' w' F',fSl e sz R w' (xs++ys) [v'] F'→pA w0.heap.size F'→Bw w0 w'→SB F W w'→(∀b∈F',b∈F∨W.heap.size≤b)→(v'=.slice none 0 0→v=.slice none 0 0)→wpList P ops Q rest (a.put o.dst v') w'):wpList P ops Q (o::rest) a W:=
 wpList_plain hgd fun _ hK=>zL W s x t ho w0 e i z sz bytes ht hi hz hsize hby hzs hsz hR v xs F hs hv hF sv hx ys hsrc hRR hbytes hlen hbw fun v' w' F' h1 h2 h3 h4 h5 h6=>hK _ _ (h v' w' F' h1 h2 h3 h4 h5 h6)
theorem BS {w:World} {xs:List Int} {v:Value} {F:List Nat} (h:ZA w xs [v] F) (hn:v≠.slice none 0 0):∃g c,v=.slice (some ⟨g,0,none⟩) xs.length c:=by
 obtain ⟨v0,us,Fs,e,hown,_,_⟩:=h;injection e with e;subst e;rcases hown.2 with ⟨h0,_⟩ | ⟨g,cap,cur,rfl,_⟩
 ·exact absurd h0 hn
 ·exact ⟨g,cap,rfl⟩
theorem iQ (w:World) (xs:List Int) (v:Value) (h:Rd XA w xs [v]) (hn:xs.length≤1048576):Calls Tryz.prog 96 #[v] w (BC w (fun w' v'=>pF ZA w.heap.size xs w' v'∧v'≠.slice none 0 0)):=by
 obtain ⟨i0,hi,hz0,hz1,hz2⟩:=info_parts PC;have hv0:=PA (e:=3) (sz:=1) (R:=RG) w;have B0:Bw w (w.alloc (.cells #[] 3)):=(Bw.refl w).alloc _;have hs:=h.bw dA B0;have hF0:pA w.heap.size [w.heap.size]:=⟨by simp,by simp⟩;go_enter Tryz.func96,Tryz.ntmps96;go_wp2_with (at_builtin;refine nN _ rfl (.tmp 3) (.tmp 4) 26 rfl w 3 i0 _ 1 8 Tryz.underlying26 hi hz0 hz1 hz2 rfl (by omega) nB _ [] [w.heap.size] rfl hv0 hF0 _ rfl xs hs (fun y u h=>⟨h,rfl⟩) (by simp;omega) (by simp;omega) B0 ?_;intro v' w' F' hv' hF' hb' hO' hs' hnn;have HNN:=Lib.hid hnn;clear hnn);go_ret;exact ⟨_,rfl,⟨⟨F',by simpa using hv',hF'⟩,fun e=>by have:=HNN.out e;cases this⟩,hb'⟩
end Go.Proofs.YtpihighajaeabaaGreat
