/- Draws: items and an expression. -/
import Derived.Test.YtpihighajaeabaaGreatQHoles
import Derived.Test.YtpihighajaeabaaGreatQApply
import Derived.Test.YtpihighajaeabaaGreatQReach
import Derived.Test.YtpihighajaeabaaGreatQDrawE
namespace Go.Proofs.YtpihighajaeabaaGreat
open Go.RowKit
set_option linter.unusedVariables false
set_option linter.unusedSimpArgs false
set_option maxRecDepth 100000 in
set_option maxHeartbeats 6400000 in
theorem iA6 (w0 w:World) (p:Nat) (hA:At w0 p w):Calls Tryz.prog 231 #[.pointer (some ⟨p,0,none⟩)] w
  (fJ w0 p w (cK w.heap.size ML)):=by
 obtain ⟨i0,hi,hz0,hz1,hz2⟩:=info_parts PC;have D0:=Dn.start hA;have hlt:=hA.lt;have D1:=D0.alloc (.cells #[.int .i64 0,.int .i64 0,.int .i64 0,.slice none 0 0,.slice none 0 0] 109);have bR:=Box.new w #[.int .i64 0,.int .i64 0,.int .i64 0,.slice none 0 0,.slice none 0 0] 109;have hcall:=aT w0 _ p D1.at';go_enter Tryz.func231,Tryz.ntmps231;go_wp2_with fail;refine hcall.mono ?_;rintro e w1 ⟨v1,rfl,⟨⟨kd,fd,va,l,ps⟩,u,t,F,G,rfl,o1,o2,hF,hx⟩,hO1,hA1⟩;dsimp only at o1 o2;have D2:=D1.call hO1 hA1;replace bR:=bR.only hO1 (by simp;omega);have hw1:w.heap.size<(w.alloc (.cells #[.int .i64 0,.int .i64 0,.int .i64 0,.slice none 0 0,.slice none 0 0] 109)).heap.size:=by simp
 obtain ⟨m1,hz1'⟩:∃m1,m1=(w.alloc (.cells #[.int .i64 0,.int .i64 0,.int .i64 0,.slice none 0 0,.slice none 0 0] 109)).heap.size:=⟨_,rfl⟩;rw [← hz1'] at hF hw1;have hz1w:m1≤w1.heap.size:=by rw [hz1'];exact hO1.1
 clear hz1';obtain ⟨Al,nl,cl,rfl,l1,_⟩:=iA (AA o1);obtain ⟨Ap,np,cp,rfl,l2,_⟩:=iA (TC o2);have HL1:=Lib.hid l1;have HL2:=Lib.hid l2;have HX:=Lib.hid hx;have bX:=Box.new w1 #[.int .i64 kd,.int .i64 fd,.int .i64 va,.slice Al nl cl,.slice Ap np cp] 109;have D4:=D2.alloc (.cells #[.int .i64 kd,.int .i64 fd,.int .i64 va,.slice Al nl cl,.slice Ap np cp] 109);have hFlt:=(aA (B:=0)).lt o1;have hGlt:=(zA (B:=0)).lt o2;have hAl:=(Bw.refl w1).alloc (.cells #[.int .i64 kd,.int .i64 fd,.int .i64 va,.slice Al nl cl,.slice Ap np cp] 109);replace o1:=xA hAl aA o1;replace o2:=xA hAl zA o2;replace bR:=bR.bw hAl;obtain ⟨b,hb⟩:∃b,b=w1.heap.size:=⟨_,rfl⟩;obtain ⟨W,hW⟩:∃W,W=w1.alloc (.cells #[.int .i64 kd,.int .i64 fd,.int .i64 va,.slice Al nl cl,.slice Ap np cp] 109):=⟨_,rfl⟩;rw [← hW] at D4 bX bR o1 o2;rw [← hb] at bX hFlt hGlt hz1w;have HW:=Lib.hid hW;have HB:=Lib.hid hb;have hcall2:=pC w0 W p D4.at' 10 (by omega) (by omega);clear hcall hW hb D1 D2 hO1 hA1 hAl hx l1 l2;have hne1:b≠w.heap.size:=by omega
 have hne2:w.heap.size≠b:=by omega
 go_wp2_with fail;rw [← HW.out];refine hcall2.mono ?_;rintro e w3 ⟨v3,rfl,⟨sw,rfl,s1,s2⟩,hO3,hA3⟩;have D5:=D4.call hO3 hA3;replace bX:=bX.only hO3 (by simp;omega);replace bR:=bR.only hO3 (by simp;omega);replace o1:=D4.keep hO3 aA o1 (fun c hc=>by have:=hF.ge c (List.mem_append_left _ hc);omega);replace o2:=D4.keep hO3 zA o2 (fun c hc=>by have:=hF.ge c (List.mem_append_right _ hc);omega);rw [← HB.out];clear hcall2 hO3 D4;have nbF:b∉F:=fun h=>by have:=hFlt _ h;omega
 have nbG:b∉G:=fun h=>by have:=hGlt _ h;omega
 by_cases h0:sw=0
 ·subst h0;have hcall:=pC w0 w3 p hA3 7 (by omega) (by omega);clear hA3;go_wp2_with fail;refine hcall.mono ?_;rintro e w4 ⟨v4,rfl,⟨y,rfl,y1,y2⟩,hO4,hA4⟩;have D6:=D5.call hO4 hA4;have bX6:=bX.only hO4 (by simp;omega);have bR6:=bR.only hO4 (by simp;omega);have p1:=QA (b:=b) (o:=0) (u:=.int .i64 (y-1)) aA (D5.keep hO4 aA o1 (fun c hc=>by have:=hF.ge c (List.mem_append_left _ hc);omega)) nbF;have p2:=QA (b:=b) (o:=0) (u:=.int .i64 (y-1)) zA (D5.keep hO4 zA o2 (fun c hc=>by have:=hF.ge c (List.mem_append_right _ hc);omega)) nbG;have D7:=D6.set (b:=b) (o:=0) (by omega) (.int .i64 (y-1));have HQ:=Lib.hid (show ML ⟨y-1,fd,va,l,ps⟩ from ⟨⟨by dsimp only;omega,by dsimp only;omega⟩,HX.out.a.2⟩);clear hcall D6 hO4 hA4 bX bR o1 o2;have x0:=bX6.c 0 _ rfl;have x1:=bX6.c 1 _ rfl;have x2:=bX6.c 2 _ rfl;have x3:=bX6.c 3 _ rfl;have x4:=bX6.c 4 _ rfl;have xf:=bX6.fr;have r0:=bR6.c 0 _ rfl;have r1:=bR6.c 1 _ rfl;have r2:=bR6.c 2 _ rfl;have r3:=bR6.c 3 _ rfl;have r4:=bR6.c 4 _ rfl;have rf:=bR6.fr;go_wp2;refine bodyPost_ret (v:=.agg #[.int .i64 (y-1),.int .i64 fd,.int .i64 va,.slice Al nl cl,.slice Ap np cp]) (by simp [results,Tryz.results231,go_sem,r0,r1,r2,r3,r4,hne1,hne2]) rfl ?_;exact (D7.set5 (Nat.le_refl _)).ret (cK.mk (gE aA p1 (fun h=>by have:=hF.ge _ (List.mem_append_left _ h);omega)) (gE zA p2 (fun h=>by have:=hF.ge _ (List.mem_append_right _ h);omega)) (hF.mono (by omega)) HQ.out)
 ·by_cases h1:sw=1
  ·subst h1;have DW:=D5.alloc (.cells #[.int .i64 (-1),.int .i64 3] 3);have hAl:=(Bw.refl w3).alloc (.cells #[.int .i64 (-1),.int .i64 3] 3);have hl:=eAc w3 (-1) 3;have hz3:=bX.lt;have hcall:=QG w0 _ p DW.at' [-1,3] _ _ hl (by simp;omega) (by decide) (by decide);clear hl h0;go_wp2_with fail;refine hcall.mono ?_;rintro e w4 ⟨v4,rfl,⟨y,hy,rfl⟩,hO4,hA4⟩;have D6:=DW.call hO4 hA4;have bX6:=(bX.bw hAl).only hO4 (by simp;omega);have bR6:=(bR.bw hAl).only hO4 (by simp;omega);have p1:=QA (b:=b) (o:=1) (u:=.int .i64 y) aA (DW.keep hO4 aA (xA hAl aA o1) (fun c hc=>by have:=hF.ge c (List.mem_append_left _ hc);omega)) nbF;have p2:=QA (b:=b) (o:=1) (u:=.int .i64 y) zA (DW.keep hO4 zA (xA hAl zA o2) (fun c hc=>by have:=hF.ge c (List.mem_append_right _ hc);omega)) nbG;have D7:=D6.set (b:=b) (o:=1) (by omega) (.int .i64 y);have HQ:=Lib.hid (show ML ⟨kd,y,va,l,ps⟩ from ⟨HX.out.a.1,⟨by simp at hy;dsimp only;omega,by simp at hy;dsimp only;omega⟩,HX.out.a.2.2⟩);clear hcall hy D6 DW hO4 hA4 bX bR o1 o2 hAl;have x0:=bX6.c 0 _ rfl;have x1:=bX6.c 1 _ rfl;have x2:=bX6.c 2 _ rfl;have x3:=bX6.c 3 _ rfl;have x4:=bX6.c 4 _ rfl;have xf:=bX6.fr;have r0:=bR6.c 0 _ rfl;have r1:=bR6.c 1 _ rfl;have r2:=bR6.c 2 _ rfl;have r3:=bR6.c 3 _ rfl;have r4:=bR6.c 4 _ rfl;have rf:=bR6.fr;go_wp2;refine bodyPost_ret (v:=.agg #[.int .i64 kd,.int .i64 y,.int .i64 va,.slice Al nl cl,.slice Ap np cp]) (by simp [results,Tryz.results231,go_sem,r0,r1,r2,r3,r4,hne1,hne2]) rfl ?_
   exact (D7.set5 (Nat.le_refl _)).ret (cK.mk (gE aA p1 (fun h=>by have:=hF.ge _ (List.mem_append_left _ h);omega)) (gE zA p2 (fun h=>by have:=hF.ge _ (List.mem_append_right _ h);omega)) (hF.mono (by omega)) HQ.out)
  ·by_cases h2:sw=2
   ·subst h2;have DW:=D5.alloc (.cells #[.int .i64 (-1),.int .i64 9,.int .i64 10] 3);have hAl:=(Bw.refl w3).alloc (.cells #[.int .i64 (-1),.int .i64 9,.int .i64 10] 3);have hl:=CI w3 (-1) 9 10;have hz3:=bX.lt;have hcall:=QG w0 _ p DW.at' [-1,9,10] _ _ hl (by simp;omega) (by decide) (by decide);clear hl h0 h1;go_wp2_with fail;refine hcall.mono ?_;rintro e w4 ⟨v4,rfl,⟨y,hy,rfl⟩,hO4,hA4⟩;have D6:=DW.call hO4 hA4;have bX6:=(bX.bw hAl).only hO4 (by simp;omega);have bR6:=(bR.bw hAl).only hO4 (by simp;omega);have p1:=QA (b:=b) (o:=2) (u:=.int .i64 y) aA (DW.keep hO4 aA (xA hAl aA o1) (fun c hc=>by have:=hF.ge c (List.mem_append_left _ hc);omega)) nbF;have p2:=QA (b:=b) (o:=2) (u:=.int .i64 y) zA (DW.keep hO4 zA (xA hAl zA o2) (fun c hc=>by have:=hF.ge c (List.mem_append_right _ hc);omega)) nbG;have D7:=D6.set (b:=b) (o:=2) (by omega) (.int .i64 y);have HQ:=Lib.hid (show ML ⟨kd,fd,y,l,ps⟩ from ⟨HX.out.a.1,HX.out.a.2.1,⟨by simp at hy;dsimp only;omega,by simp at hy;dsimp only;omega⟩,HX.out.a.2.2.2⟩);clear hcall hy D6 DW hO4 hA4 bX bR o1 o2 hAl;have x0:=bX6.c 0 _ rfl;have x1:=bX6.c 1 _ rfl;have x2:=bX6.c 2 _ rfl;have x3:=bX6.c 3 _ rfl;have x4:=bX6.c 4 _ rfl;have xf:=bX6.fr;have r0:=bR6.c 0 _ rfl;have r1:=bR6.c 1 _ rfl;have r2:=bR6.c 2 _ rfl;have r3:=bR6.c 3 _ rfl;have r4:=bR6.c 4 _ rfl;have rf:=bR6.fr;go_wp2;refine bodyPost_ret (v:=.agg #[.int .i64 kd,.int .i64 fd,.int .i64 y,.slice Al nl cl,.slice Ap np cp]) (by simp [results,Tryz.results231,go_sem,r0,r1,r2,r3,r4,hne1,hne2]) rfl ?_
    exact (D7.set5 (Nat.le_refl _)).ret (cK.mk (gE aA p1 (fun h=>by have:=hF.ge _ (List.mem_append_left _ h);omega)) (gE zA p2 (fun h=>by have:=hF.ge _ (List.mem_append_right _ h);omega)) (hF.mono (by omega)) HQ.out)
   ·by_cases h3:sw=3
    ·subst h3;have AD:Bw w3 (w3.drew.alloc (.cells #[.int .i64 0,.int .i64 9,.int .i64 10] 3)):=((Bw.refl w3).drew).alloc (.cells #[.int .i64 0,.int .i64 9,.int .i64 10] 3);have DW:=D5.bw AD;have hl:=CI w3.drew 0 9 10;have hz3:=bX.lt;have hzd:w3.drew.heap.size=w3.heap.size:=rfl;have hcall:=QG w0 _ p DW.at' [0,9,10] _ _ hl (by simp;omega) (by decide) (by decide);have bXd:=bX.bw ((Bw.refl w3).drew);have bXa:=bX.bw AD;have bRa:=bR.bw AD;have o1a:=xA AD aA o1;have o2a:=xA AD zA o2;clear hl h0 h1 h2;have x0:=bX.c 0 _ rfl;have x1:=bX.c 1 _ rfl;have x2:=bX.c 2 _ rfl;have x3:=bX.c 3 _ rfl;have x4:=bX.c 4 _ rfl;have xf:=bX.fr;have y0:=bXd.c 0 _ rfl;have y1:=bXd.c 1 _ rfl;have y2:=bXd.c 2 _ rfl;have y3:=bXd.c 3 _ rfl;have y4:=bXd.c 4 _ rfl;have yf:=bXd.fr;have z0:=bXa.c 0 _ rfl;have z1:=bXa.c 1 _ rfl;have z2:=bXa.c 2 _ rfl;have z3:=bXa.c 3 _ rfl;have z4:=bXa.c 4 _ rfl;have zf:=bXa.fr;go_wp2_with fail
     go_region_law (first
      | (refine tE _ (by rfl) (.tmp 29) (.tmp 33) 26 (by rfl) w0 3 i0 _ 1 8 Tryz.underlying26 hi hz0 hz1 hz2 rfl (by omega) nB _ l F (by rfl) vW hF0 ⟨w4.heap.size,0,none⟩ 1 (by rfl) y [.int .i64 y] [] hcl ⟨rfl,rfl⟩ rfl w4.heap.size hFm pA.nil hz4 (by have:=HX.out.2.2.2.1.1;dsimp only at this;omega) (by have:=HX.out.2.2.2.1.1;dsimp only at this;omega) hbW ?_;intro v' w' F' hv' hF' hb' hO' hs';obtain ⟨g',L',c',rfl,l',_⟩:=VG hv' (by simp);have eP:=bXw.only hO' nbF;have e0:=eP.c 0 _ rfl;have e1:=eP.c 1 _ rfl;have e2:=eP.c 2 _ rfl;have e3:=eP.c 3 _ rfl;have e4:=eP.c 4 _ rfl;have ef:=eP.fr)
      | (go_simp;go_at_call 155;refine hcall.mono ?_;rintro e w4 ⟨v4,rfl,⟨y,hy,rfl⟩,hO4,hA4⟩;have bX6:=bXa.only hO4 (by simp;omega);have bR6:=bRa.only hO4 (by simp;omega);have u0:=bX6.c 0 _ rfl;have u1:=bX6.c 1 _ rfl;have u2:=bX6.c 2 _ rfl;have u3:=bX6.c 3 _ rfl;have u4:=bX6.c 4 _ rfl;have uf:=bX6.fr;have D6:=DW.call hO4 hA4;have p1:=DW.keep hO4 aA o1a (fun c hc=>by (have:=hF.ge c (List.mem_append_left _ hc);omega));have p2:=DW.keep hO4 zA o2a (fun c hc=>by (have:=hF.ge c (List.mem_append_right _ hc);omega));have hW4:=(Bw.refl w4).alloc (.cells #[.int .i64 y] 3);have vW:=xA hW4 aA p1;have bXw:=bX6.bw hW4;have bRw:=bR6.bw hW4;have t3:=bXw.c 3 _ rfl;have hcl:=cell_one_new w4 (.int .i64 y) 3;have hFm:=(aA (B:=0)).lt p1;have hbW:=D6.at'.bw.then hW4;have hz4:=D6.at'.bw.size;have hle:=D6.le;have hF0:pA w0.heap.size F:=⟨(List.nodup_append.1 hF.nodup).1,fun c hc=>by (have:=hF.ge c (List.mem_append_left _ hc);omega)⟩))
     all_goals
      have DW7:Dn w0 w p w':=(D6.bw hW4).next hO' (fun c hc=>by have:=hF.ge c (List.mem_append_left _ hc);omega) hb';have bR7:=bRw.only hO' (fun h=>by have:=hF.ge _ (List.mem_append_left _ h);omega);have D7:=DW7.set (b:=b) (o:=3) (by omega) (.slice (some ⟨g',0,none⟩) L' c');have hb4:=bX6.lt;have nb':b∉F':=fun h=>(hs' b h).elim nbF (fun h=>h.elim (fun h=>by simp at h) (fun h=>by have:=bXw.lt;omega))
      have hs4:∀c∈F',m1≤c∧c∉G:=fun c hc=>by
       rcases hs' c hc with h | h | h
       ·exact ⟨hF.ge c (List.mem_append_left _ h),fun h2=>(List.nodup_append.1 hF.nodup).2.2 c h c h2 rfl⟩
       ·simp at h
       ·have:=bXw.lt;exact ⟨by omega,fun h2=>by have:=hGlt c h2;omega⟩
      have p2':=hO'.keeps zA (xA hW4 zA p2) (fun c h h2=>(List.nodup_append.1 hF.nodup).2.2 c h2 c h rfl);have q1:=QA (b:=b) (o:=3) (u:=.slice (some ⟨g',0,none⟩) L' c') aA hv' nb';have q2:=QA (b:=b) (o:=3) (u:=.slice (some ⟨g',0,none⟩) L' c') zA p2' nbG;have hFr:pA m1 (F'++G):=⟨List.nodup_append.2 ⟨hF'.nodup,(List.nodup_append.1 hF.nodup).2.1,fun a ha c hc e=>(hs4 a ha).2 (e▸hc)⟩,fun c hc=>(List.mem_append.1 hc).elim (fun h=>(hs4 c h).1) (fun h=>hF.ge c (List.mem_append_right _ h))⟩;have HQ:=Lib.hid (show ML ⟨kd,fd,va,l++[y],ps⟩ from ⟨HX.out.a.1,HX.out.a.2.1,HX.out.a.2.2.1,⟨by have:=HX.out.2.2.2.1.1;dsimp only at this ⊢;rw [List.length_append,List.length_singleton];omega,fun z hz=>(List.mem_append.1 hz).elim (HX.out.2.2.2.1.2 z) (fun h=>by rw [List.mem_singleton.1 h];simp at hy;omega)⟩,HX.out.a.2.2.2.2⟩);clear x0 x1 x2 x3 x4 xf;clear y0 y1 y2 y3 y4 yf;clear z0 z1 z2 z3 z4 zf;clear u0 u1 u2 u3 u4 uf t3 hcall hy;clear e0 e1 e2 e3 e4 ef;have bX8:=eP;have x0:=bX8.c 0 _ rfl;have x1:=bX8.c 1 _ rfl;have x2:=bX8.c 2 _ rfl;have x3:=bX8.c 3 _ rfl;have x4:=bX8.c 4 _ rfl;have xf:=bX8.fr;have r0:=bR7.c 0 _ rfl;have r1:=bR7.c 1 _ rfl;have r2:=bR7.c 2 _ rfl;have r3:=bR7.c 3 _ rfl;have r4:=bR7.c 4 _ rfl;have rf:=bR7.fr;go_wp2;refine bodyPost_ret (v:=.agg #[.int .i64 kd,.int .i64 fd,.int .i64 va,.slice (some ⟨g',0,none⟩) L' c',.slice Ap np cp]) (by simp [results,Tryz.results231,go_sem,r0,r1,r2,r3,r4,hne1,hne2]) rfl ?_;exact (D7.set5 (Nat.le_refl _)).ret (cK.mk (gE aA q1 (fun h=>by have:=hFr.ge _ (List.mem_append_left _ h);omega)) (gE zA q2 (fun h=>by have:=hFr.ge _ (List.mem_append_right _ h);omega)) (hFr.mono (by omega)) HQ.out)
    ·have e0:(sw==0)=false:=by simpa using h0
     have e1:(sw==1)=false:=by simpa using h1
     have e2:(sw==2)=false:=by simpa using h2
     have e3:(sw==3)=false:=by simpa using h3
     clear h0 h1 h2 h3;have x0:=bX.c 0 _ rfl;have x1:=bX.c 1 _ rfl;have x2:=bX.c 2 _ rfl;have x3:=bX.c 3 _ rfl;have x4:=bX.c 4 _ rfl;have xf:=bX.fr;have r0:=bR.c 0 _ rfl;have r1:=bR.c 1 _ rfl;have r2:=bR.c 2 _ rfl;have r3:=bR.c 3 _ rfl;have r4:=bR.c 4 _ rfl;have rf:=bR.fr;go_wp2;refine bodyPost_ret (v:=.agg #[.int .i64 kd,.int .i64 fd,.int .i64 va,.slice Al nl cl,.slice Ap np cp]) (by simp [results,Tryz.results231,go_sem,r0,r1,r2,r3,r4,hne1,hne2]) rfl ?_;exact (D5.set5 (Nat.le_refl _)).ret (cK.mk (gE aA o1 (fun h=>by have:=hF.ge _ (List.mem_append_left _ h);omega)) (gE zA o2 (fun h=>by have:=hF.ge _ (List.mem_append_right _ h);omega)) (hF.mono (by omega)) HX.out.a)
end Go.Proofs.YtpihighajaeabaaGreat
namespace Go.Proofs.YtpihighajaeabaaGreat
open Go.RowKit
set_option linter.unusedVariables false
set_option linter.unusedSimpArgs false
def GW (n:Nat) (xs:List gA):Prop:=xs.length≤n∧∀x∈xs,YU x
def dT (n:Nat) (xs:List kA):Prop:=xs.length≤n∧∀x∈xs,bV x
def DR {α:Type} (R:Rep α) (B:Nat) (Q:α→Prop) (W:World) (v:Value):Prop:=∃xs,R W (fun b=>B≤b∧b<W.heap.size) xs [v]∧Q xs
theorem SB.read {α:Type} {R:Rep α} (hR:sG R) {p B:Nat} {W W':World} {Q:α→Prop} {v:Value} (hO:SB [p] W W') (hp:p<B) (h:DR R B Q W v):DR R B Q W' v:=by
 obtain ⟨xs,h,hq⟩:=h;exact ⟨xs,hR.step ⟨fun b hb=>⟨hb.1,Nat.lt_of_lt_of_le hb.2 hO.1⟩,fun q hq=>World.cell?_of_block (hO.2 _ hq.2 (by have:=hq.1;simp;omega))⟩ h,hq⟩
theorem DR.bw {α:Type} {R:Rep α} (hR:sG R) {B:Nat} {W W':World} {Q:α→Prop} {v:Value} (h:DR R B Q W v) (hb:Bw W W'):DR R B Q W' v:=by
 obtain ⟨xs,h,hq⟩:=h;exact ⟨xs,hR.step ⟨fun b h=>⟨h.1,Nat.lt_of_lt_of_le h.2 hb.size⟩,fun q hq=>Below.cell hb hq.2⟩ h,hq⟩
theorem DR.low {α:Type} {R:Rep α} (hR:sG R) {B B':Nat} {W:World} {Q Q':α→Prop} {v:Value} (h:DR R B Q W v) (hB:B'≤B) (hQ:∀x,Q x→Q' x):DR R B' Q' W v:=by
 obtain ⟨xs,h,hq⟩:=h;exact ⟨xs,hR.step ⟨fun b h=>⟨Nat.le_trans hB h.1,h.2⟩,fun _ _=>rfl⟩ h,hQ xs hq⟩
theorem DR.rd {α:Type} {R:Rep α} (hR:sG R) {B:Nat} {W:World} {Q:α→Prop} {v:Value} (h:DR R B Q W v):∃xs,Rd R W xs [v]∧Q xs:=by
 obtain ⟨xs,h,hq⟩:=h;exact ⟨xs,hR.step ⟨fun b h=>h.2,fun _ _=>rfl⟩ h,hq⟩
theorem eT {α:Type} {R:Rep α} (hR:sG R) {F:List Nat} {B:Nat} {W:World} {x:α} {cs:List Value} (h:R W (fun b=>b∈F∨b<0) x cs) (hF:pA B F) (hlt:∀b∈F,b<W.heap.size):R W (fun b=>B≤b∧b<W.heap.size) x cs:=
 hR.step ⟨fun b hb=>hb.elim (fun hb=>⟨hF.ge b hb,hlt b hb⟩) (fun hb=>absurd hb (Nat.not_lt_zero _)),fun _ _=>rfl⟩ h
theorem DL.items {B:Nat} {Q:List gA→Prop} {W:World} {v:Value} (h:DL fD B Q W v):DR MA B Q W v:=by
 obtain ⟨xs,F,hv,hF,hq⟩:=h;exact ⟨xs,eT jA (SL (B:=0) hv) hF ((yA (B:=0)).lt hv),hq⟩
theorem DL.nodes {B:Nat} {Q:List kA→Prop} {W:World} {v:Value} (h:DL EC B Q W v):DR RA B Q W v:=by
 obtain ⟨xs,F,hv,hF,hq⟩:=h;exact ⟨xs,eT lA (xI (B:=0) hv) hF ((nA (B:=0)).lt hv),hq⟩
theorem DL.mono {α:Type} {f:Fp α} {B B':Nat} {Q Q':α→Prop} {W:World} {v:Value} (h:DL f B Q W v) (hB:B'≤B) (hQ:∀x,Q x→Q' x):DL f B' Q' W v:=by
 obtain ⟨xs,F,hv,hF,hq⟩:=h;exact ⟨xs,F,hv,hF.mono hB,hQ xs hq⟩
set_option maxRecDepth 100000 in
set_option maxHeartbeats 3200000 in
theorem iA7 (w0 w:World) (p:Nat) (hA:At w0 p w):Calls Tryz.prog 170 #[.pointer (some ⟨p,0,none⟩)] w
  (fJ w0 p w (DL fD w.heap.size (GW 8))):=by
 obtain ⟨i0,hi,hz0,hz1,hz2⟩:=info_parts ZE;have D0:=Dn.start hA;have hlt:=hA.lt;have hcall:=ZU w0 w p hA 7 (by omega) (by omega);go_enter Tryz.func170,Tryz.ntmps170;go_wp2_with fail;refine hcall.mono ?_;rintro e w1 ⟨v1,rfl,⟨xs,F,hv,hF,hx⟩,hO1,hA1⟩;have D1:=D0.call hO1 hA1;have hcall2:=YS w0 w1 p hA1 8 (by omega) (by omega);have HX:=Lib.hid (show xs.length≤7∧∀x∈xs,YU x from ⟨by have:=hx.1;omega,fun x h=>(hx.2 x h).g⟩);clear hcall hO1 hA1 hx;go_wp2_with fail;refine hcall2.mono ?_;rintro e w2 ⟨v2,rfl,⟨q,rfl⟩,hO2,hA2⟩;have D2:=D1.call hO2 hA2;have hv2:=D1.keep hO2 yA hv hF.ge;clear hcall2 hv hO2
 cases q with
 | true=>
  have hcall:=lZ w0 w2 p hA2;have hFm:=(yA (B:=0)).lt hv2;obtain ⟨Ax,nx,cx,rfl,lx,_⟩:=iA (vC hv2);clear lx;go_wp2_with fail;refine hcall.mono ?_;rintro e w3 ⟨v3,rfl,⟨y,u,G,rfl,hy,hG,hg⟩,hO3,hA3⟩;have D3:=D2.call hO3 hA3;have hv3:=D2.keep hO3 yA hv2 hF.ge;obtain ⟨Ay,ny,cy,rfl,ly,_⟩:=iA (AA hy);have HG:=Lib.hid hg;have DW:=D3.alloc (.cells #[.int .i64 y.id,.slice Ay ny cy] 30);have hAl:=(Bw.refl w3).alloc (.cells #[.int .i64 y.id,.slice Ay ny cy] 30);have hvW:=xA hAl yA hv3;have hyW:=xA hAl aA hy;have hcl:∀j t,[Value.int .i64 y.id,.slice Ay ny cy][j]? = some t→(w3.alloc (.cells #[.int .i64 y.id,.slice Ay ny cy] 30)).cell? ((⟨w3.heap.size,0,none⟩:Addr).add j)=some t:=World.news_of_block (cs:=#[.int .i64 y.id,.slice Ay ny cy]) (t:=30) (fr:=(0,0)) (heap_alloc_new w3 _);have hzW:=DW.size;have hz2':=D2.size;clear hcall hv2 hv3 hy hg ly;go_wp2_with (at_builtin;refine WD _ rfl (.tmp 8) (.tmp 11) 24 rfl w0 w p DW w.heap.size (Nat.le_refl _) hzW 30 i0 _ 2 32 Tryz.underlying24 hi hz0 hz1 hz2 rfl (by omega) YB _ xs F rfl hvW hF ⟨w3.heap.size,0,none⟩ 1 rfl y [.int .i64 y.id,.slice Ay ny cy] G hcl ⟨_,rfl,hyW⟩ rfl w2.heap.size hFm hG hz2' (by have:=HX.out.1;omega) (by have:=HX.out.1;omega) ?_;intro v7 w7 F7 hv7 hF7 hD7 hO7);go_ret;exact hD7.ret ⟨_,F7,hv7,hF7,by rw [List.length_append,List.length_singleton];have:=HX.out.1;omega,fun z hz=>(List.mem_append.1 hz).elim (HX.out.2 z) (fun h=>by rw [List.mem_singleton.1 h];exact HG.out)⟩
 | false=>
  go_wp2;go_ret;exact D2.ret ⟨_,F,hv2,hF,by have:=HX.out.1;omega,HX.out.2⟩
set_option maxRecDepth 100000 in
set_option maxHeartbeats 3200000 in
theorem iA8 (w0 w:World) (p:Nat) (hA:At w0 p w):Calls Tryz.prog 171 #[.pointer (some ⟨p,0,none⟩)] w
  (fJ w0 p w (DR RA w.heap.size (dT 8))):=by
 obtain ⟨i0,hi,hz0,hz1,hz2⟩:=info_parts AH;have D0:=Dn.start hA;have hlt:=hA.lt;have hcall:=OL w0 w p hA;go_enter Tryz.func171,Tryz.ntmps171;go_wp2_with fail;refine hcall.mono ?_;rintro e w1 ⟨v1,rfl,⟨xs,F,hv,hF,hx⟩,hO1,hA1⟩;have D1:=D0.call hO1 hA1;have hcall2:=pC w0 w1 p hA1 12 (by omega) (by omega);have HX:=Lib.hid hx;clear hcall hO1 hA1 hx;go_wp2_with fail;refine hcall2.mono ?_;rintro e w2 ⟨v2,rfl,⟨sw,rfl,s1,s2⟩,hO2,hA2⟩;have D2:=D1.call hO2 hA2;have hv2:=D1.keep hO2 nA hv hF.ge;clear hcall2 hv hO2;have hFm:=(nA (B:=0)).lt hv2;have hz2':=D2.size;obtain ⟨g,n,c,rfl,lx,hnc,hcm,hn0⟩:=VG hv2 HX.out.1;by_cases h0:sw=0
 ·subst h0;have hcall:=pC w0 w2 p hA2 7 (by omega) (by omega);clear hA2;go_wp2_with fail;refine hcall.mono ?_;rintro e w3 ⟨v3,rfl,⟨y,rfl,y1,y2⟩,hO3,hA3⟩;have D3:=D2.call hO3 hA3;have hv3:=D2.keep hO3 nA hv2 hF.ge;have HG:=Lib.hid (jZ (n:=y-1) (by omega) (by omega));have hval:=zP w3 (y-1);clear hcall hv2 hO3 hA3;have DW:=D3.alloc (.cells #[.int .i64 (y-1),.int .i64 0,.int .i64 0,.int .i64 0,.slice none 0 0,.slice none 0 0] 111);have hAl:=(Bw.refl w3).alloc (.cells #[.int .i64 (y-1),.int .i64 0,.int .i64 0,.int .i64 0,.slice none 0 0,.slice none 0 0] 111);have hvW:=xA hAl nA hv3;have hyW:=xA hAl ZC hval;have hcl:∀j t,[.int .i64 (y-1),.int .i64 0,.int .i64 0,.int .i64 0,.slice none 0 0,.slice none 0 0][j]? = some t→(w3.alloc (.cells #[.int .i64 (y-1),.int .i64 0,.int .i64 0,.int .i64 0,.slice none 0 0,.slice none 0 0] 111)).cell? ((⟨w3.heap.size,0,none⟩:Addr).add j)=some t:=World.news_of_block (cs:=#[.int .i64 (y-1),.int .i64 0,.int .i64 0,.int .i64 0,.slice none 0 0,.slice none 0 0]) (t:=111) (fr:=(0,0)) (heap_alloc_new w3 _);have hzW:=DW.size;clear hv3;go_wp2_with (at_builtin;refine WD _ rfl (.tmp 10) (.tmp 15) 25 rfl w0 w p DW w.heap.size (Nat.le_refl _) hzW 111 i0 _ 6 80 Tryz.underlying25 hi hz0 hz1 hz2 rfl (by omega) ZC _ xs F rfl hvW hF ⟨w3.heap.size,0,none⟩ 1 rfl ⟨y-1,⟨0,0,0,[],[]⟩⟩ [.int .i64 (y-1),.int .i64 0,.int .i64 0,.int .i64 0,.slice none 0 0,.slice none 0 0] [] hcl hyW rfl w2.heap.size hFm pA.nil hz2' (by have:=HX.out.2.1;omega) (by have:=HX.out.2.1;omega) ?_;intro v7 w7 F7 hv7 hF7 hD7 hO7)
  go_ret;refine hD7.ret (DL.nodes ⟨_,F7,hv7,hF7,by rw [List.length_append,List.length_singleton];have:=HX.out.2.1;omega,fun z hz=>(List.mem_append.1 hz).elim (HX.out.2.2 z) (fun h=>by rw [List.mem_singleton.1 h];exact HG.out)⟩)
 ·by_cases h1:sw=1
  ·subst h1;have hcall:=iA6 w0 w2 p hA2;clear hA2 h0;go_wp2_with fail;refine hcall.mono ?_;rintro e w3 ⟨v3,rfl,⟨⟨kd,fd,va,l,ps⟩,u,t,G1,G2,rfl,o1,o2,hG,hg⟩,hO3,hA3⟩;have D3:=D2.call hO3 hA3;have hv3:=D2.keep hO3 nA hv2 hF.ge;obtain ⟨Al,nl,cl,rfl,l1,_⟩:=iA (AA o1);obtain ⟨Ap,np,cp,rfl,l2,_⟩:=iA (TC o2);have HG:=Lib.hid (xN hg);have hval:=yN o1 o2 0 (kd:=kd) (fd:=fd) (va:=va);clear hcall hv2 hO3 hA3 l1 l2 hg o1 o2;have DW:=D3.alloc (.cells #[.int .i64 0,.int .i64 kd,.int .i64 fd,.int .i64 va,.slice Al nl cl,.slice Ap np cp] 111);have hAl:=(Bw.refl w3).alloc (.cells #[.int .i64 0,.int .i64 kd,.int .i64 fd,.int .i64 va,.slice Al nl cl,.slice Ap np cp] 111);have hvW:=xA hAl nA hv3;have hyW:=xA hAl ZC hval;have hcl:∀j t,[.int .i64 0,.int .i64 kd,.int .i64 fd,.int .i64 va,.slice Al nl cl,.slice Ap np cp][j]? = some t→(w3.alloc (.cells #[.int .i64 0,.int .i64 kd,.int .i64 fd,.int .i64 va,.slice Al nl cl,.slice Ap np cp] 111)).cell? ((⟨w3.heap.size,0,none⟩:Addr).add j)=some t:=World.news_of_block (cs:=#[.int .i64 0,.int .i64 kd,.int .i64 fd,.int .i64 va,.slice Al nl cl,.slice Ap np cp]) (t:=111) (fr:=(0,0)) (heap_alloc_new w3 _);have hzW:=DW.size;clear hv3;go_wp2_with (at_builtin;refine WD _ rfl (.tmp 19) (.tmp 23) 25 rfl w0 w p DW w.heap.size (Nat.le_refl _) hzW 111 i0 _ 6 80 Tryz.underlying25 hi hz0 hz1 hz2 rfl (by omega) ZC _ xs F rfl hvW hF ⟨w3.heap.size,0,none⟩ 1 rfl ⟨0,⟨kd,fd,va,l,ps⟩⟩ [.int .i64 0,.int .i64 kd,.int .i64 fd,.int .i64 va,.slice Al nl cl,.slice Ap np cp] (G1++G2) hcl hyW rfl w2.heap.size hFm hG hz2' (by have:=HX.out.2.1;omega) (by have:=HX.out.2.1;omega) ?_;intro v7 w7 F7 hv7 hF7 hD7 hO7)
   go_ret;refine hD7.ret (DL.nodes ⟨_,F7,hv7,hF7,by rw [List.length_append,List.length_singleton];have:=HX.out.2.1;omega,fun z hz=>(List.mem_append.1 hz).elim (HX.out.2.2 z) (fun h=>by rw [List.mem_singleton.1 h];exact HG.out)⟩)
  ·by_cases h2:sw=2
   ·subst h2;have hr:=eT lA (xI (B:=0) hv2) hF hFm;have hsub:=ZL hr 1 n (by omega) (Nat.le_refl _) lx.out.symm;have HQ:=Lib.hid (show dT 8 ((xs.drop 1).take (n-1)) from ⟨by rw [List.length_take,List.length_drop];have:=HX.out.2.1;omega,fun z hz=>HX.out.2.2 z (List.mem_of_mem_drop (List.mem_of_mem_take hz))⟩);clear h0 h1 hr;by_cases hc1:c=1
    ·subst hc1;obtain rfl:n=1:=by omega
     have e0:((xs.drop 1).take (1-1))=[]:=by simp
     go_wp2;go_ret;exact D2.ret ⟨[],⟨_,_,rfl,by simp,by simp [maxLen],fun k x hx=>by simp at hx⟩,by simp,by simp⟩
    ·go_wp2;go_ret;exact D2.ret ⟨_,hsub,HQ.out⟩
   ·have e0:(sw==0)=false:=by simpa using h0
    have e1:(sw==1)=false:=by simpa using h1
    have e2:(sw==2)=false:=by simpa using h2
    clear h0 h1 h2;go_wp2;go_ret;exact D2.ret (DL.nodes ⟨_,F,hv2,hF,by have:=HX.out.2.1;omega,HX.out.2.2⟩)
end Go.Proofs.YtpihighajaeabaaGreat
namespace Go.Proofs.YtpihighajaeabaaGreat
open Go.RowKit
set_option linter.unusedVariables false
set_option linter.unusedSimpArgs false
def T {α:Type} (R:Rep α) (Q:α→Prop) (W:World) (v:Value):Prop:=∃xs,Rd R W xs [v]∧Q xs
theorem T.bw {α:Type} {R:Rep α} (hR:sG R) {Q:α→Prop} {W W':World} {v:Value} (h:T R Q W v) (hb:Bw W W'):T R Q W' v:=by
 obtain ⟨xs,h,hq⟩:=h;exact ⟨xs,h.bw hR hb,hq⟩
theorem DL.gi {B B':Nat} {n:Int} {W:World} {v:Value} (h:DL fD B (fun xs=>(xs.length:Int)≤n∧∀x∈xs,yP x) W v) (hB:B'≤B) (hn:n≤8):DR MA B' (GW 8) W v:=
 h.items.low jA hB (fun x hx=>⟨by have:=hx.1;omega,fun y hy=>(hx.2 y hy).g⟩)
theorem DL.ge {B B':Nat} {W:World} {v:Value} (h:DL EC B (fun xs=>0<xs.length∧xs.length≤7∧∀x∈xs,bV x) W v) (hB:B'≤B):DR RA B' (dT 8) W v:=
 h.nodes.low lA hB (fun x hx=>⟨by have:=hx.2.1;omega,hx.2.2⟩)
end Go.Proofs.YtpihighajaeabaaGreat
namespace Go.Proofs.YtpihighajaeabaaGreat
open Go.RowKit
set_option linter.unusedVariables false
set_option linter.unusedSimpArgs false
set_option maxHeartbeats 400000 in
theorem jA8 (w:World) (xs:List Int) (v:Value) (h:Rd DK w xs [v]):Calls Tryz.prog 9 #[v] w (Ret w (.bool (decide (1048576<xs.length)))):=by
 obtain ⟨A,n,c,rfl,L0,Lc,Lm⟩:=iA h;unfold maxLen at Lm;have L:=Lib.hid L0;clear L0;obtain ⟨Y,hY⟩:∃Y,Y=decide (1048576<xs.length):=⟨_,rfl⟩;rw [← hY];have HY:=Lib.hid (show Y=decide (1048576<(n:Int)) by rw [hY,← L.out,decide_eq_decide];omega);clear hY h;go_enter Tryz.func9,Tryz.ntmps9;go_wp2;go_ret;exact Ret.bool HY.out.symm (Bw.refl _)
def atM (xs:List Int) (i:Nat):Int:=match xs[i]? with | some x=>x | none=>((i:Int)*37+(xs.length:Int)*11).tmod 256
theorem pM {xs:List Int} (hx:xJ xs) (i:Nat):0≤atM xs i∧atM xs i≤255:=by
 unfold atM
 cases h:xs[i]? with
 | some x=>exact hx x (List.mem_of_getElem? h)
 | none=>dsimp only;rw [Int.tmod_eq_emod_of_nonneg (by omega)];omega
set_option maxHeartbeats 800000 in
theorem jAd (w:World) (xs:List Int) (i:Nat) (v:Value) (h:Rd DK w xs [v]) (hx:xJ xs) (hn:xs.length≤1048576) (hi:i≤1048576):Calls Tryz.prog 41 #[v,.int .i64 i] w (Ret w (.int .i64 (atM xs i))):=by
 have hA:=pM hx i;obtain ⟨A,n,c,rfl,L0,Lc,Lm⟩:=iA h;unfold maxLen at Lm;have L:=Lib.hid L0;clear L0;rw [← L.out] at hn;obtain ⟨Y,hY⟩:∃Y,Y=atM xs i:=⟨_,rfl⟩;rw [← hY];by_cases hlt:i<n
 ·obtain ⟨x,hy⟩:=rA (xs:=xs) (k:=i) (by have:=L.out;omega);have HE:=Lib.hid (show x=Y by rw [hY];unfold atM;rw [hy]);have HX:=Lib.hid (hx x (List.mem_of_getElem? hy));obtain ⟨b,o,rfl,_,hc⟩:=dI h hy;have i1:(0:Int)≤(i:Int):=by omega
  have i2:(i:Int)<(n:Int):=by omega
  have HW:=Lib.hid (show wrap64 x=Y by rw [← HE.out];have:=HX.out;unfold wrap64;omega);clear hY hy hlt h hA;go_enter Tryz.func41,Tryz.ntmps41;go_wp2;go_ret
  first
   | exact Ret.int HW.out (Bw.refl _)
   | exact Ret.int HE.out (Bw.refl _)
 ·have HE:=Lib.hid (show ((i:Int)*37+(n:Int)*11).tmod 256=Y by
   rw [hY];unfold atM;rw [List.getElem?_eq_none (by rw [← L.out];omega),← L.out])
  have HE2:=Lib.hid (show ((i:Int)*37+(n:Int)*11) % 256=Y by rw [← HE.out,Int.tmod_eq_emod_of_nonneg (by omega)]);have i2:¬(i:Int)<(n:Int):=by omega
  clear hY h hA hlt;go_enter Tryz.func41,Tryz.ntmps41;go_wp2;go_ret
  first
   | exact Ret.int HE.out (Bw.refl _)
   | exact Ret.int HE2.out (Bw.refl _)
set_option maxHeartbeats 400000 in
theorem PL (w:World) (b:Bool):Calls Tryz.prog 32 #[.bool b] w (Ret w (.int .i64 (if b then 1 else 0))):=by
 cases b
 ·go_enter Tryz.func32,Tryz.ntmps32;go_wp2;go_ret;exact Ret.int rfl (Bw.refl _)
 ·go_enter Tryz.func32,Tryz.ntmps32;go_wp2;go_ret;exact Ret.int rfl (Bw.refl _)
end Go.Proofs.YtpihighajaeabaaGreat
namespace Go.Proofs.YtpihighajaeabaaGreat
open Go.RowKit
set_option linter.unusedVariables false
set_option linter.unusedSimpArgs false
def D7 (B:Nat) (W:World) (v:Value):Prop:=∃va ve,v=.tuple #[va,ve]∧DR MA B (GW 8) W va∧DR RA B (dT 8) W ve
set_option maxRecDepth 100000 in
set_option maxHeartbeats 1600000 in
theorem gAm (w0 w:World) (p:Nat) (hA:At w0 p w):Calls Tryz.prog 106 #[.pointer (some ⟨p,0,none⟩)] w (fJ w0 p w (D7 w.heap.size)):=by
 have hp:=hA.lt;go_enter Tryz.func106,Tryz.ntmps106;have hcall:=ZU w0 w p hA 8 (by omega) (by omega);go_wp2_with fail;refine hcall.mono ?_;rintro e w2 ⟨va,rfl,ha,hO2,hA2⟩;clear hcall;replace ha:=ha.gi (Nat.le_refl _) (by omega);have z2:=hO2.1;have hcall:=OL w0 w2 p hA2;go_wp2_with fail;refine hcall.mono ?_;rintro e w3 ⟨ve,rfl,he,hO3,hA3⟩;clear hcall;replace ha:=hO3.read jA hp ha;replace he:=he.ge z2;have z3:=hO3.1;have hcall:=pC w0 w3 p hA3 16 (by omega) (by omega);go_wp2_with fail;refine hcall.mono ?_;rintro e w4 ⟨v4,rfl,⟨sw,rfl,s1,s2⟩,hO4,hA4⟩;clear hcall;replace ha:=hO4.read jA hp ha;replace he:=hO4.read lA hp he;have hO:=(hO2.two hO3).two hO4;have z14:=hO.1;by_cases h0:sw=0
 ·subst h0;have hcall:=iA7 w0 w4 p hA4;go_wp2_with fail;refine hcall.mono ?_;rintro e w9 ⟨va2,rfl,ha2,hO9,hA9⟩;clear hcall;replace ha2:=ha2.items.low jA z14 (fun _ h=>h);replace he:=hO9.read lA hp he;go_wp2;refine bodyPost_ret (v:=.tuple #[va2,ve]) (by simp [results,Tryz.results106,go_sem]) rfl ?_;exact ⟨_,rfl,⟨_,_,rfl,ha2,he⟩,hO.two hO9,hA9⟩
 ·by_cases h1:sw=1
  ·subst h1;clear h0;have hcall:=iA8 w0 w4 p hA4;go_wp2_with fail;refine hcall.mono ?_;rintro e w9 ⟨ve2,rfl,he2,hO9,hA9⟩;clear hcall;replace he2:=he2.low lA z14 (fun _ h=>h);replace ha:=hO9.read jA hp ha;go_wp2;refine bodyPost_ret (v:=.tuple #[va,ve2]) (by simp [results,Tryz.results106,go_sem]) rfl ?_;exact ⟨_,rfl,⟨_,_,rfl,ha,he2⟩,hO.two hO9,hA9⟩
  ·have e0:(sw==0)=false:=by simpa using h0
   have e1:(sw==1)=false:=by simpa using h1
   clear h0 h1;go_wp2;refine bodyPost_ret (v:=.tuple #[va,ve]) (by simp [results,Tryz.results106,go_sem]) rfl ?_;exact ⟨_,rfl,⟨_,_,rfl,ha,he⟩,hO,hA4⟩
def TI (W:World) (v:Value):Prop:=∃x u,v=.agg #[.int .i64 x.id,u]∧Rd XA W x.vals [u]∧YU x
theorem TI.bw {W W':World} {v:Value} (h:TI W v) (hb:Bw W W'):TI W' v:=by
 obtain ⟨x,u,e,h,g⟩:=h;exact ⟨x,u,e,h.bw dA hb,g⟩
end Go.Proofs.YtpihighajaeabaaGreat
namespace Go.Proofs.YtpihighajaeabaaGreat
open Go.RowKit
set_option linter.unusedVariables false
set_option linter.unusedSimpArgs false
def fRd {α:Type} (R:Rep α):Fp α:=fun w x cs F=>R w (fun b=>b∈F) x cs∧(∀b∈F,b<w.heap.size)∧∀u∈cs,u.oneCell'=true
abbrev jAc:Fp (List (List kA)):=fSl 25 1 (fRd RA)
def DB {α:Type} (R:Rep α) (B m:Nat) (Q:α→Prop) (W:World) (v:Value):Prop:=∃xs,R W (fun b=>B≤b∧b<m) xs [v]∧Q xs
theorem DB.only {α:Type} {R:Rep α} (hR:sG R) {B m:Nat} {Q:α→Prop} {W W':World} {v:Value} {F:List Nat} (h:DB R B m Q W v) (hO:SB F W W') (hm:m≤W.heap.size) (hF:∀b∈F,b<B∨m≤b):DB R B m Q W' v:=by
 obtain ⟨xs,h,hq⟩:=h;exact ⟨xs,hR.step ⟨fun _ hb=>hb,fun q hq=>World.cell?_of_block (hO.2 _ (Nat.lt_of_lt_of_le hq.2 hm) (fun hf=>by have:=hF _ hf;have:=hq.1;have:=hq.2;omega))⟩ h,hq⟩
theorem DB.bw {α:Type} {R:Rep α} (hR:sG R) {B m:Nat} {Q:α→Prop} {W W':World} {v:Value} (h:DB R B m Q W v) (hb:Bw W W') (hm:m≤W.heap.size):DB R B m Q W' v:=h.only hR (hb.only []) hm (by simp)
end Go.Proofs.YtpihighajaeabaaGreat
namespace Go.Proofs.YtpihighajaeabaaGreat
open Go.RowKit
set_option linter.unusedVariables false
set_option linter.unusedSimpArgs false
set_option maxHeartbeats 1600000 in
theorem CQ (w:World) (xs:List Int) (v:Value) (h:Rd DK w xs [v]) (hx:xJ xs):Calls Tryz.prog 29 #[v] w fun e W=>
  ∃va ve,e=.returned (.tuple #[va,ve])∧T MA (GW 8) W va∧T RA (dT 8) W ve∧Bw w W:=by
 have hcall0:=iA5 w xs v h hx;clear h;go_enter Tryz.func29,Tryz.ntmps29;go_wp2_with fail;refine hcall0.mono ?_;rintro e w1 ⟨p,rfl,hA1⟩;clear hcall0;have hcall:=gAm w w1 p hA1;go_wp2_with fail;refine hcall.mono ?_;rintro e w2 ⟨u2,rfl,⟨va,ve,rfl,ha,he⟩,hO2,hA2⟩;clear hcall;go_wp2;refine bodyPost_ret (v:=.tuple #[va,ve]) (by simp [results,Tryz.results29,go_sem]) rfl ?_;exact ⟨_,_,rfl,ha.rd jA,he.rd lA,hA2.bw⟩
end Go.Proofs.YtpihighajaeabaaGreat
