/- A rule of rewriting that is applied, in the program. -/
import Derived.Test.YtpihighajaeabaaGreatQApply
import Derived.Test.YtpihighajaeabaaGreatQRuleI
import Derived.Deep.RegionHeld3
namespace Go.Proofs.YtpihighajaeabaaGreat
open Go.RowKit
set_option linter.unusedVariables false
set_option linter.unusedSimpArgs false
noncomputable def XJ (e:List kA) (k:Nat):Nat→Nat→Option (List kA)
 | 0,_=>none
 | f+1,r=>if (fE e r k).2 then some (fE e r k).1 else XJ e k f (r+1)
noncomputable def sJ (e:List kA) (k:Nat):Option (List kA):=XJ e k 3 1
noncomputable def oP (e:List kA):Nat→Nat→Option (List kA)
 | 0,_=>none
 | f+1,k=>match sJ e k with
  | some y=>some y
  | none=>oP e f (k+1)
noncomputable def sS (e:List kA):Option (List kA):=oP e e.length 0
noncomputable def JM:Nat→List kA→List kA
 | 0,e=>e
 | n+1,e=>match sS e with
  | some y=>JM n y
  | none=>e
noncomputable def EU (e:List kA):List kA:=JM 60 e
theorem IJ (e:List kA) (k f r:Nat):XJ e k (f+1) r=if (fE e r k).2 then some (fE e r k).1 else XJ e k f (r+1):=rfl
theorem vL (e:List kA) (f k:Nat):oP e (f+1) k=match sJ e k with | some y=>some y | none=>oP e f (k+1):=rfl
theorem tS (n:Nat) (e:List kA):JM (n+1) e=match sS e with | some y=>JM n y | none=>e:=rfl
theorem JJ {e y:List kA} {k:Nat}:∀ {f r:Nat},XJ e k f r=some y→bB y=true
 | 0,_,h=>by cases h
 | f+1,r,h=>by
  rw [IJ] at h
  split at h
  ·rename_i hb
   injection h with h;exact YP (r:=r) (m:=k) (by rw [← h];exact Prod.ext rfl hb)
  ·exact JJ h
theorem ZP {e y:List kA}:∀ {f k:Nat},oP e f k=some y→bB y=true
 | 0,_,h=>by cases h
 | f+1,k,h=>by
  rw [vL] at h
  cases hr:sJ e k with
  | some z=>rw [hr] at h;injection h with h;rw [← h];exact JJ hr
  | none=>rw [hr] at h;exact ZP h
def bG (xs:List kA) (k r:Nat) (b:Bool) (ys:List kA):Prop:=if b then sJ xs k=some ys else ys=xs∧r≤4∧sJ xs k=XJ xs k (4-r) r
def OK (xs:List kA) (k:Nat) (b:Bool) (ys:List kA):Prop:=if b then sS xs=some ys else ys=xs∧k≤xs.length∧sS xs=oP xs (xs.length-k) k
theorem bG.start (xs:List kA) (k:Nat):bG xs k 1 false xs:=⟨rfl,by omega,rfl⟩
theorem bG.yes {xs ys:List kA} {k r:Nat} (h:bG xs k r false xs) (hr:r≤3) (ha:fE xs r k=(ys,true)):bG xs k (r+1) true ys:=by
 obtain ⟨_,h1,h2⟩:=h;show sJ xs k=some ys
 rw [h2,show 4-r=(3-r)+1 by omega,IJ,ha];rfl
theorem bG.no {xs:List kA} {k r:Nat} (h:bG xs k r false xs) (hr:r≤3) (ha:(fE xs r k).2=false):bG xs k (r+1) false xs:=by
 obtain ⟨_,h1,h2⟩:=h;refine ⟨rfl,by omega,?_⟩;rw [h2,show 4-r=(3-r)+1 by omega,IJ,if_neg (by rw [ha];simp),show 4-(r+1)=3-r by omega]
theorem OK.start (xs:List kA):OK xs 0 false xs:=⟨rfl,Nat.zero_le _,rfl⟩
theorem OK.yes {xs ys:List kA} {k r:Nat} (h:OK xs k false xs) (hk:k<xs.length) (ha:bG xs k r true ys):OK xs (k+1) true ys:=by
 obtain ⟨_,h1,h2⟩:=h;show sS xs=some ys
 rw [h2,show xs.length-k=(xs.length-k-1)+1 by omega,vL,show sJ xs k=some ys from ha]
theorem OK.no {xs ys:List kA} {k:Nat} (h:OK xs k false xs) (hk:k<xs.length) (ha:bG xs k 4 false ys):OK xs (k+1) false xs:=by
 obtain ⟨_,h1,h2⟩:=h;obtain ⟨_,_,h3⟩:=ha;refine ⟨rfl,by omega,?_⟩;rw [h2,show xs.length-k=(xs.length-k-1)+1 by omega,vL,h3];show (match (none:Option (List kA)) with | some y=>some y | none=>_)=_
 rw [show xs.length-(k+1)=xs.length-k-1 by omega]
theorem fAs {xs ys:List kA} {k j:Nat} (h:OK xs k true ys):JM (j+1) xs=JM j ys:=by rw [tS,show sS xs=some ys from h]
theorem hAp {xs ys:List kA} {k j:Nat} (h:OK xs k false ys) (hk:xs.length≤k):JM (j+1) xs=xs:=by
 obtain ⟨_,_,h2⟩:=h;rw [tS,h2,show xs.length-k=0 by omega];rfl
theorem OK.expr {xs ys:List kA} {k:Nat} (h:OK xs k true ys):bB ys=true:=ZP (show sS xs=some ys from h)
theorem bG.expr {xs ys:List kA} {k r:Nat} (h:bG xs k r true ys):bB ys=true:=JJ (show sJ xs k=some ys from h)
theorem OK.eq {xs ys:List kA} {k:Nat} (h:OK xs k false ys):ys=xs:=h.1
theorem bG.eq {xs ys:List kA} {k r:Nat} (h:bG xs k r false ys):ys=xs:=h.1
end Go.Proofs.YtpihighajaeabaaGreat
namespace Go.Proofs.YtpihighajaeabaaGreat
open Go.RowKit
set_option linter.unusedVariables false
set_option linter.unusedSimpArgs false
theorem WV (w:World) (t:XT) (e pre post:List kA) (r:Int) (ba oa n m c:Nat) (h:Rd RA w e [.slice (some ⟨ba,oa,none⟩) n c]) (hL:Hid (n=e.length)) (he:e=pre++(TA t++post)) (hok:okT t) (h9:e.length≤9) (hm:m+1=pre.length+(TA t).length) (hr:r=1∨r=2∨r=3) (hc:n≤c) (hc2:c≤9223372036854775807) :
  Calls Tryz.prog 180 #[.slice (some ⟨ba,oa,none⟩) n c,.int .i64 r,.int .i64 (m:Int)] w (IQ (jD r t) w):=by
 rcases hr with rfl | rfl | rfl
 ·exact TV w t e pre post ba oa n m c h hL he hok h9 hm hc hc2
 ·exact UV w t e pre post ba oa n m c h hL he hok h9 hm hc hc2
 ·exact VV w t e pre post ba oa n m c h hL he hok h9 hm hc hc2
theorem dAb {r:Int} {t:XT} {x:List kA} (h:jD r t=some x):x.length≤(TA t).length+2:=by
 cases t with
 | base w=>cases h
 | two op a b=>
  simp only [jD] at h
  split at h
  ·injection h with h;rw [← h,VD];omega
  ·cases h
 | dual s=>
  cases s with
  | base w=>cases h
  | dual s=>
   simp only [jD] at h
   split at h
   ·injection h with h;rw [← h,aE,aE];omega
   ·cases h
  | two op a b=>
   simp only [jD] at h
   split at h
   ·injection h with h;rw [← h,aE,VD];simp;omega
   ·cases h
set_option maxRecDepth 100000 in
set_option maxHeartbeats 6400000 in
theorem zY (w:World) (e:List kA) (r m:Int) (v:Value) (h:Rd RA w e [v]) (ht:tC e≤1048576) (hr:r=1∨r=2∨r=3) :
  Calls Tryz.prog 123 #[v,.int .i64 r,.int .i64 m] w (BC w (Two EC w.heap.size (fE e r m).1 (.bool (fE e r m).2))):=by
 obtain ⟨i0,hi,hz0,hz1,hz2⟩:=info_parts AH;have k1:=ZG w e v h;have kcp:=fun W (B:Bw w W)=>LG W e v (h.bw lA B) ht
 obtain ⟨Y,hY⟩:∃Y,Y=fE e r m:=⟨_,rfl⟩;rw [← hY];by_cases hE:bB e=true
 ·rw [hE] at k1;obtain ⟨ba,oa,n,c,rfl,hL,hc,hc2⟩:=dA9 h (fAr hE);have hin:=fun W=>JC W m 0 ((n:Int)-1)
  have hlen:=DU hE;by_cases hm:0≤m∧m<(n:Int)
  ·have e1:inB m 0 ((n:Int)-1)=true:=decide_eq_true (by omega);simp only [e1] at hin;obtain ⟨k,rfl⟩:∃k:Nat,m=k:=⟨m.toNat,by omega⟩;have hkn:k<e.length:=by rw [← hL.out];omega
   obtain ⟨⟨pre,t,post⟩,hq,hqe⟩:=iN (r:=r) hE hkn;have heq:=hq.eq;have hat:=hq.at';have hok:=hq.ok;dsimp only at heq hat hok;have hnn:=hL.out;have hru:=fun W (B:Bw w W)=>WV W t e pre post r ba oa n k c (h.bw lA B) hL heq hok hlen hat hr hc hc2
   have HRU:=Lib.hid hru;have KCP:=Lib.hid kcp;have hle:e.length=pre.length+(TA t).length+post.length:=by rw [heq];simp;omega
   have htk:e.take (k+1)=pre++TA t:=by rw [hat,heq];exact IF _ _ _
   have hst:=fun W (B:Bw w W)=>pH W e pre t k _ (h.bw lA B) hok hkn hlen htk
   obtain ⟨p,hp⟩:∃p,p=pre.length:=⟨_,rfl⟩;rw [← hp] at hst;have HST:=Lib.hid hst;have he2:e=[]++(pre++(TA t++post)):=by rw [heq];rfl
   have he4:e=(pre++TA t)++(post++[]):=by rw [heq];simp
   have r1:RA w (lt w) pre [.slice (some ⟨ba,oa,none⟩) p c]:=by
    have:=UH (i:=0) (k:=p) h hL.out he2 (by simp) (by simp [hp]);rw [Nat.zero_mul,Nat.add_zero,Nat.sub_zero,Nat.sub_zero] at this;exact this
   have r2:RA w (lt w) post [.slice (some ⟨ba,oa+(k+1)*6,none⟩) (n-(k+1)) (c-(k+1))]:=
    UH (i:=k+1) (k:=n) h hL.out he4 (by rw [List.length_append];omega) (by rw [List.length_append];omega)
   have hp9:=pD t;have r3:k+1=n→RA w (lt w) post [.slice (some ⟨ba,oa,none⟩) 0 0]:=fun hmn=>by
    have hp0:post=[]:=List.eq_nil_of_length_eq_zero (by omega);rw [hp0];exact ⟨_,0,rfl,Nat.le_refl _,by simp [maxLen],fun k x hx=>by simp at hx⟩
   have q1:(0:Int)≤(p:Int):=by omega
   have q2:(p:Int)≤(c:Int):=by omega
   have q3:(0:Int)≤(k:Int)+1:=by omega
   have q4:(k:Int)+1≤(n:Int):=by omega
   have q5:(n:Int)≤(c:Int):=by omega
   have hwk:IntKind.i64.wrap ((k:Int)+1)=(k:Int)+1:=by simp [IntKind.wrap,IntKind.bits,IntKind.signed];omega
   have hYq:Y=LT (pre,t,post) r e:=by rw [hY];exact hqe
   cases ho:jD r t with
   | none=>
    have hYe:Y=(e,false):=by rw [hYq];unfold LT;dsimp only;rw [ho]
    subst hYe;simp only [ho] at hru;have HRU:=Lib.hid hru;clear hru kcp hY hE h e1 hkn hlen hm hq hqe heq hat hok hle htk hst hp he2 he4 r1 r2 r3 ho hYq hnn hp9;go_enter Tryz.func123,Tryz.ntmps123;go_wp2_with fail;refine (k1).mono ?_;rintro e w1 ⟨rfl,hb1⟩;have hi2:=hin w1;clear k1;go_wp2_with fail;refine hi2.mono ?_;rintro e2 w2 ⟨rfl,hb2⟩;have B2:=hb1.then hb2;have hr3:=HRU.out w2 B2;clear hi2 hin;go_wp2_with fail;refine hr3.mono ?_;rintro e3 w3 ⟨v3,b,rfl,hb3,hbf⟩;have B3:=B2.then hb3;obtain rfl:b=false:=hbf;have hc4:=KCP.out w3 B3;clear hr3;go_wp2_with fail;refine hc4.mono ?_;rintro e4 w4 ⟨v4,rfl,⟨F4,o4,f4⟩,hb4⟩;have B4:=B3.then hb4;clear hc4;go_wp2;refine bodyPost_ret (v:=.tuple #[v4,.bool false]) (by simp [results,Tryz.results123,go_sem]) rfl ?_;exact BC.two o4 (f4.mono B3.size) rfl B4
   | some x=>
    have hxl:=dAb ho;have HPL:=Lib.hid (show pre.length≤20∧x.length≤20∧post.length≤20 by omega);have HY1:=Lib.hid (fun (hl:(pre++(x++post)).length≤9)=>show Y=(pre++(x++post),true) by rw [hYq];unfold LT;dsimp only;rw [ho];dsimp only;rw [if_pos hl]);have HY2:=Lib.hid (fun (hl:¬(pre++(x++post)).length≤9)=>show Y=(e,false) by rw [hYq];unfold LT;dsimp only;rw [ho];dsimp only;rw [if_neg hl]);have HTOT:=Lib.hid (fun (hl:(pre++(x++post)).length≤9)=>YI (YP (e:=e) (r:=r) (m:=(k:Int)) (by rw [← hY];exact HY1.out hl)));simp only [ho] at hru;have HRU:=Lib.hid hru;have R1:=Lib.hid r1;have R2:=Lib.hid r2;have R4:=Lib.hid r3;clear hru kcp hY hE e1 hkn hlen hm hq hqe heq hat hok hle htk hst hp he2 he4 r1 r2 r3 ho hYq hp9 hxl hnn h;go_enter Tryz.func123,Tryz.ntmps123;go_wp2_with fail;refine (k1).mono ?_;rintro e w1 ⟨rfl,hb1⟩;have hi2:=hin w1;clear k1;go_wp2_with fail;refine hi2.mono ?_;rintro e2 w2 ⟨rfl,hb2⟩;have B2:=hb1.then hb2;have hr3:=HRU.out w2 B2;clear hi2 hin;go_wp2_with fail;refine hr3.mono ?_;rintro e3 w3 ⟨v3,b,rfl,hb3,hbt,hv3⟩;have B3:=B2.then hb3;subst hbt;have R3:=Lib.hid hv3;have hA3:=(Bw.refl w3).alloc (.cells #[] 111);have hv0:=PA (e:=111) (sz:=6) (R:=fSh w3.heap.size FK) w3;have hF0:pA w3.heap.size [w3.heap.size]:=⟨by simp,by simp⟩;have hs4:=HST.out _ (B3.then hA3);clear hr3 hv3;go_wp2_with fail;refine hs4.mono ?_;rintro e4 w4 ⟨rfl,hb4⟩;have B34:=hA3.then hb4;have hv4:=(yE (Nat.le_refl w3.heap.size)).bw hb4 hA3.size hv0;have RW1:=Rd.bw lA R1.out B3
    have hsP:=jN RW1 B34 (Nat.le_refl _);clear hs4 hv0 hb4 hA3;by_cases hcc:c≤k+1
    ·obtain rfl:n=k+1:=by omega
     obtain rfl:c=k+1:=by omega
     have RP:=Lib.hid (Rd.bw lA (R4.out rfl) B3);clear hcc;go_wp2_with (at_builtin;refine kD _ rfl (.tmp 35) (.tmp 40) 25 rfl w3 111 i0 _ 6 80 Tryz.underlying25 hi hz0 hz1 hz2 rfl (by omega) (wC YC (Nat.le_refl _)) _ [] [w3.heap.size] (by rfl) hv4 hF0 _ (by rfl) pre hsP (fun y u h=>tL h) (by have:=HPL.out;simp only [List.length_nil];omega) (by have:=HPL.out;simp only [List.length_nil];omega) B34 ?_;intro v5 w5 F5 o5 f5 B5;rw [List.nil_append] at o5);have o5W:=(yE (Nat.le_refl w3.heap.size)).bw ((Bw.refl w5).drew) B5.size o5;have B5d:=B5.then (Bw.refl w5).drew;have hsX:=jN R3.out B5d (Nat.le_refl _);have HSP:=Lib.hid (fun (W:World) (B:Bw w3 W)=>jN (RP.out) B (Nat.le_refl _));clear hv4 hF0 hsP o5
     go_region_held3 (fun w'=>True) (exact trivial) (first
      | (refine bC _ (by rfl) (.tmp 42) (.tmp 43) 25 (by rfl) w3 111 i0 _ 6 80 Tryz.underlying25 hi hz0 hz1 hz2 rfl (by omega) (wC YC (Nat.le_refl _)) v5 pre F5 (by rfl) o5W f5 _ (by rfl) x hsX (fun y u h=>tL h) (by have:=HPL.out;omega) (by have:=HPL.out;omega) B5d ?_;intro v6 w6 F6 o6 f6 B6 hO6 hs6)
      | (refine bC _ (by rfl) (.tmp 44) (.tmp 48) 25 (by rfl) w3 111 i0 _ 6 80 Tryz.underlying25 hi hz0 hz1 hz2 rfl (by omega) (wC YC (Nat.le_refl _)) v6 (pre++x) F6 (by rfl) o6 f6 _ (by rfl) post (HSP.out w6 B6) (fun y u h=>tL h) (by have:=HPL.out;rw [List.length_append];omega) (by have:=HPL.out;rw [List.length_append];omega) B6 ?_;intro v7 w7 F7 o7 f7 B7 hO7 hs7))
     all_goals
      rw [List.append_assoc] at o7;have r7:=sL o7 B7.size;obtain ⟨A7,n7,c7,rfl,ln7,_⟩:=iA r7;have B07:=B3.then B7;have hbs7:=B07.size;by_cases hl:n7≤9
      ·have i9:¬(9:Int)<(n7:Int):=by omega
       have hY1:=HY1.out (by rw [← ln7];exact hl);have hc8:=LG w7 (pre++(x++post)) _ r7 (by have:=HTOT.out (by rw [← ln7];exact hl);omega);have HYE:=Lib.hid hY1;clear hl ln7 r7 o7 hY1 hsX o5W;go_wp2_with fail;refine hc8.mono ?_;rintro e8 w8 ⟨v8,rfl,⟨F8,o8,f8⟩,hb8⟩;clear hc8;go_wp2;refine bodyPost_ret (v:=.tuple #[v8,.bool true]) (by simp [results,Tryz.results123,go_sem]) rfl ?_;rw [HYE.out];exact BC.two o8 (f8.mono hbs7) rfl (B07.then hb8)
      ·have i9:(9:Int)<(n7:Int):=by omega
       have hY2:=HY2.out (by rw [← ln7];exact hl);have hc8:=KCP.out w7 B07;have HYE:=Lib.hid hY2;clear hl ln7 r7 o7 hY2 hsX o5W;go_wp2_with fail;refine hc8.mono ?_;rintro e8 w8 ⟨v8,rfl,⟨F8,o8,f8⟩,hb8⟩;clear hc8;go_wp2;refine bodyPost_ret (v:=.tuple #[v8,.bool false]) (by simp [results,Tryz.results123,go_sem]) rfl ?_;rw [HYE.out];exact BC.two o8 (f8.mono hbs7) rfl (B07.then hb8)
    ·have hcc2:¬c=k+1:=by omega
     have RP:=Lib.hid (Rd.bw lA R2.out B3);go_wp2_with (at_builtin;refine kD _ rfl (.tmp 35) (.tmp 40) 25 rfl w3 111 i0 _ 6 80 Tryz.underlying25 hi hz0 hz1 hz2 rfl (by omega) (wC YC (Nat.le_refl _)) _ [] [w3.heap.size] (by rfl) hv4 hF0 _ (by rfl) pre hsP (fun y u h=>tL h) (by have:=HPL.out;simp only [List.length_nil];omega) (by have:=HPL.out;simp only [List.length_nil];omega) B34 ?_;intro v5 w5 F5 o5 f5 B5;rw [List.nil_append] at o5);have o5W:=(yE (Nat.le_refl w3.heap.size)).bw ((Bw.refl w5).drew) B5.size o5;have B5d:=B5.then (Bw.refl w5).drew;have hsX:=jN R3.out B5d (Nat.le_refl _);have HSP:=Lib.hid (fun (W:World) (B:Bw w3 W)=>jN (RP.out) B (Nat.le_refl _));clear hv4 hF0 hsP o5
     go_region_held3 (fun w'=>True) (exact trivial) (first
      | (refine bC _ (by rfl) (.tmp 42) (.tmp 43) 25 (by rfl) w3 111 i0 _ 6 80 Tryz.underlying25 hi hz0 hz1 hz2 rfl (by omega) (wC YC (Nat.le_refl _)) v5 pre F5 (by rfl) o5W f5 _ (by rfl) x hsX (fun y u h=>tL h) (by have:=HPL.out;omega) (by have:=HPL.out;omega) B5d ?_;intro v6 w6 F6 o6 f6 B6 hO6 hs6)
      | (refine bC _ (by rfl) (.tmp 44) (.tmp 48) 25 (by rfl) w3 111 i0 _ 6 80 Tryz.underlying25 hi hz0 hz1 hz2 rfl (by omega) (wC YC (Nat.le_refl _)) v6 (pre++x) F6 (by rfl) o6 f6 _ (by rfl) post (HSP.out w6 B6) (fun y u h=>tL h) (by have:=HPL.out;rw [List.length_append];omega) (by have:=HPL.out;rw [List.length_append];omega) B6 ?_;intro v7 w7 F7 o7 f7 B7 hO7 hs7))
     all_goals
      rw [List.append_assoc] at o7;have r7:=sL o7 B7.size;obtain ⟨A7,n7,c7,rfl,ln7,_⟩:=iA r7;have B07:=B3.then B7;have hbs7:=B07.size;by_cases hl:n7≤9
      ·have i9:¬(9:Int)<(n7:Int):=by omega
       have hY1:=HY1.out (by rw [← ln7];exact hl);have hc8:=LG w7 (pre++(x++post)) _ r7 (by have:=HTOT.out (by rw [← ln7];exact hl);omega);have HYE:=Lib.hid hY1;clear hl ln7 r7 o7 hY1 hsX o5W;go_wp2_with fail;refine hc8.mono ?_;rintro e8 w8 ⟨v8,rfl,⟨F8,o8,f8⟩,hb8⟩;clear hc8;go_wp2;refine bodyPost_ret (v:=.tuple #[v8,.bool true]) (by simp [results,Tryz.results123,go_sem]) rfl ?_;rw [HYE.out];exact BC.two o8 (f8.mono hbs7) rfl (B07.then hb8)
      ·have i9:(9:Int)<(n7:Int):=by omega
       have hY2:=HY2.out (by rw [← ln7];exact hl);have hc8:=KCP.out w7 B07;have HYE:=Lib.hid hY2;clear hl ln7 r7 o7 hY2 hsX o5W;go_wp2_with fail;refine hc8.mono ?_;rintro e8 w8 ⟨v8,rfl,⟨F8,o8,f8⟩,hb8⟩;clear hc8;go_wp2;refine bodyPost_ret (v:=.tuple #[v8,.bool false]) (by simp [results,Tryz.results123,go_sem]) rfl ?_;rw [HYE.out];exact BC.two o8 (f8.mono hbs7) rfl (B07.then hb8)
  ·have e1:inB m 0 ((n:Int)-1)=false:=decide_eq_false (by omega);simp only [e1] at hin;have hYe:Y=(e,false):=by rw [hY];exact bM (fun k=>hm ⟨k.2.1,by rw [hL.out];exact k.2.2⟩)
   subst hYe;have KCP:=Lib.hid kcp;clear kcp hY hE h e1 hlen hm;go_enter Tryz.func123,Tryz.ntmps123;go_wp2_with fail;refine (k1).mono ?_;rintro e w1 ⟨rfl,hb1⟩;have hi2:=hin w1;clear k1;go_wp2_with fail;refine hi2.mono ?_;rintro e2 w2 ⟨rfl,hb2⟩;have B2:=hb1.then hb2;have hc4:=KCP.out w2 B2;clear hi2 hin;go_wp2_with fail;refine hc4.mono ?_;rintro e4 w4 ⟨v4,rfl,⟨F4,o4,f4⟩,hb4⟩;have B4:=B2.then hb4;clear hc4;go_wp2;refine bodyPost_ret (v:=.tuple #[v4,.bool false]) (by simp [results,Tryz.results123,go_sem]) rfl ?_;exact BC.two o4 (f4.mono B2.size) rfl B4
 ·have hE2:bB e=false:=by simpa using hE
  rw [hE2] at k1;have hYe:Y=(e,false):=by rw [hY];exact bM (fun k=>hE k.1)
  subst hYe;have KCP:=Lib.hid kcp;clear kcp hY hE hE2 h;go_enter Tryz.func123,Tryz.ntmps123;go_wp2_with fail;refine (k1).mono ?_;rintro e w1 ⟨rfl,hb1⟩;have hc4:=KCP.out w1 hb1;clear k1;go_wp2_with fail;refine hc4.mono ?_;rintro e4 w4 ⟨v4,rfl,⟨F4,o4,f4⟩,hb4⟩;have B4:=hb1.then hb4;clear hc4;go_wp2;refine bodyPost_ret (v:=.tuple #[v4,.bool false]) (by simp [results,Tryz.results123,go_sem]) rfl ?_;exact BC.two o4 (f4.mono hb1.size) rfl B4
end Go.Proofs.YtpihighajaeabaaGreat
