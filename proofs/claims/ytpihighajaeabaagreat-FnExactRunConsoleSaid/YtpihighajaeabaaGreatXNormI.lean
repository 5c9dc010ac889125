/- An expression in its normal form, in the program. -/
import Derived.Test.YtpihighajaeabaaGreatXApply
import Derived.Test.YtpihighajaeabaaGreatXIntss
import Derived.Deep.RegionLaw
import Derived.Test.YtpihighajaeabaaGreatXDelI2
import Derived.Deep.RegionHeld3
namespace Go.Proofs.YtpihighajaeabaaGreat
open Go.RowKit Go.Proofs.Tryz
set_option linter.all false
set_option maxRecDepth 100000
set_option maxHeartbeats 16000000
def XU (o:Option (List mA)) (w:World) (e:Ending) (w':World):Prop:=∃v b,e=.returned (.tuple #[v,.bool b])/\Bw w w'/\match o with
 | some x=>b=true/\Rd OA w' x [v]
 | none=>b=false
abbrev eA9 (B:Nat):Fp (List mA):=fSl 111 6 (fSh B OM)
theorem VF {B B':Nat} (hB:B'<=B):tC B (eA9 B'):=CC (VG SD hB)
theorem ON {B:Nat} {w:World} {xs:List mA} {v:Value} {F:List Nat} (h:eA9 B w xs [v] F) (hB:B<=w.heap.size):Rd OA w xs [v]:=
 Rd.of jA (B:=B) (sK SD (fun _ _ _ h=>oA7 SD h) h) ((VF (B:=B) (Nat.le_refl _)).lt h) hB
theorem jAr {w:World} {S:JC} {x:mA} {u:List Value} (h:OM w S x u):∀t∈u,t.oneCell'=true:=by
 obtain ⟨us,rfl,v,u',rfl,h1,h2⟩:=h;obtain ⟨A,c,rfl,_⟩:=XA h1;obtain ⟨A',c',rfl,_⟩:=XA h2;intro t ht;simp at ht;rcases ht with rfl | rfl | rfl | rfl | rfl | rfl<;>rfl
theorem PN {B:Nat} {W:World} {y:mA} {u:List Value} (h:OM W (fun b=>b<B) y u):fSh B OM W y u []:=⟨rfl,h,jAr h⟩
theorem oAq (B:Nat) (W:World) (n:Int):fSh B OM W ⟨n,KA⟩ [.int .i64 n,.int .i64 0,.int .i64 0,.int .i64 0,.slice none 0 0,.slice none 0 0] []:=
 ⟨rfl,⟨_,rfl,_,_,rfl,CQ,CQ⟩,fun t ht=>by simp at ht;rcases ht with rfl | rfl | rfl<;>rfl⟩
theorem oQ {w W:World} {xs:List mA} {v:Value} (h:Rd OA w xs [v]) (hb:Bw w W) {B:Nat} (hB:w.heap.size<=B):rSl 6 OM W (fun b=>b<B) xs [v]:=
 jA.step ⟨fun b hb'=>Nat.lt_of_lt_of_le hb' hB,fun q hq=>Below.cell hb hq⟩ h
theorem bA4 (w:World) (t:XT) (e pre post:List mA) (ba oa n m c:Nat) (h:Rd OA w e [.slice (some ⟨ba,oa,none⟩) n c]) (hL:Hid (n=e.length)) (he:e=pre++(NA t++post)) (hok:okT t) (h9:e.length<=9) (hm:m+1=pre.length+(NA t).length) (hc:n<=c) (hc2:c<=9223372036854775807) :
  Calls prog 180 #[.slice (some ⟨ba,oa,none⟩) n c,.int .i64 1,.int .i64 (m:Int)] w (XU (CD 1 t) w):=by
 have bq:e.length=pre.length+(NA t).length+post.length:=by rw [he];simp;omega
 have bs:=hL.out;have c0:=yJ h he hm;have i1:(0:Int)<=(m:Int):=by omega
 have i2:(m:Int)<(n:Int):=by omega
 obtain ⟨p,hp⟩:=pA7 pre.length;have bn:e.take (m+1)=pre++NA t:=by rw [hm,he];exact xF _ _ _
 have st:=SI w e pre t m _ h hok (by omega) h9 bn;rw [<-hp] at st
 cases t with
 | base x=>
  rw [show xG (.base x)=0 from rfl] at c0;rw [show CD 1 (.base x)=none from rfl];clear he hm hok bq bs h9 h st bn hp;go_enter func180,ntmps180;go_wp2;refine bodyPost_ret (v:=.tuple #[.slice none 0 0,.bool false]) (by simp [results,results180,go_sem]) rfl ?_;exact ⟨_,_,rfl,Bw.refl _,rfl⟩
 | two op a b=>
  have bx:jG op:=hok.1;rw [show xG (.two op a b)=op from rfl] at c0;rw [SW (t:=.two op a b) (by rintro ⟨s,hs⟩;cases hs)];have e1:(op==0)=false:=by unfold jG at bx;simp;omega
  have e2:(op==3)=false:=by unfold jG at bx;simp;omega
  have bb:e.take (m-1+1)=(pre++NA a)++NA b:=by
   have hl:=RD op a b;have hpb:=bD b;rw [show m-1+1=(pre++NA a).length+(NA b).length by rw [List.length_append];omega,he,show pre++(NA (.two op a b)++post)=(pre++NA a)++(NA b++(⟨op,KA⟩::post)) by simp [NA]];exact xF _ _ _
  have bz:=bD a;have bm:=bD b;have bt:=RD op a b;have bd:=fun W (B:Bw w W)=>SI W e (pre++NA a) b (m-1) _ (h.bw jA B) hok.2.2 (by omega) h9 bb
  have n2:(((m-1:Nat):Int))=(m:Int)-1:=by omega
  simp only [n2] at bd;obtain ⟨k,hk⟩:=pA7 ((pre++NA a).length);rw [<-hk] at bd;have bp:=pA6 bd;clear he hm hok bq bs h9 h bn bb hp bx bz bm bt n2 hk bd;go_enter func180,ntmps180;go_wp2_with fail;refine (st).mono ?_;rintro e w1 ⟨rfl,bc⟩;have bf:=bp.out w1 bc;clear st;go_wp2_with fail;refine bf.mono ?_;rintro cc w2 ⟨rfl,bg⟩;have c02:=(bc.then bg).cell c0;clear bf;go_wp2;refine IA (by kernel_rfl) ?_
  repeat (first | go_big_quiet_skip | (go_big_quiet_want;go_big_quiet_op;first | go_big_quiet_on | (apply Exists.intro;refine ⟨fun _=>?_,?_⟩;(· (((fail))));go_big_quiet_on)))
  refine JA fun wq hbq=>?_
  try dsimp only at *
  go_wp2;refine bodyPost_ret (v:=.tuple #[.slice none 0 0,.bool false]) (by simp [results,results180,go_sem]) rfl ?_;exact ⟨_,_,rfl,(bc.then bg).then hbq,rfl⟩
 | dual s=>
  rw [show xG (.dual s)=3 from rfl] at c0;have cf:=PD s;have cg:=bD s;have bj:e=pre++(NA s++(⟨3,KA⟩::post)):=by rw [he,qJ]
  have bk:m-1+1=pre.length+(NA s).length:=by omega
  have c1:=yJ (m:=m-1) h bj bk;have bb:e.take (m-1+1)=pre++NA s:=by rw [bk,bj];exact xF _ _ _
  have bd:=fun W (B:Bw w W)=>SI W e pre s (m-1) _ (h.bw jA B) hok (by omega) h9 bb
  obtain ⟨q,rfl⟩:∃q,m=q+1:=⟨m-1,by omega⟩;rw [show q+1-1=q by omega] at c1 bk;simp only [show q+1-1=q by omega,<-hp] at bd;have bp:=pA6 bd;have i3:(0:Int)<=(q:Int):=by omega
  have i4:(q:Int)<(n:Int):=by omega
  have eq2:((q+1:Nat):Int)=(q:Int)+1:=by omega
  by_cases hd2:∃s',s=.dual s'
  ·obtain ⟨s',rfl⟩:=hd2;rw [show xG (.dual s')=3 from rfl] at c1;rw [show CD 1 (.dual (.dual s'))=some (NA s') by simp [CD]];have bv:=PD s';have cb:=bD s';have cd:e=pre++(NA s'++(⟨3,KA⟩::⟨3,KA⟩::post)):=by rw [bj,qJ]
   have r1:OA w (lt w) (NA s') [.slice (some ⟨ba,oa+p*6,none⟩) (q-p) (c-p)]:=RF (i:=p) (k:=q) h hL.out cd hp (by omega);have R1:=pA6 r1;have k1:(0:Int)<=(p:Int):=by omega
   have k2:(p:Int)<=(q:Int):=by omega
   have k3:(q:Int)<=(c:Int):=by omega
   have k4:¬c<=p:=by omega
   have k5:¬c=p:=by omega
   clear he bj cd hm bk hok bq bs h9 h bn bb hp cf cg bv cb bd r1;go_enter func180,ntmps180;go_wp2_with fail;refine (st).mono ?_;rintro e w1 ⟨rfl,bc⟩;have bf:=bp.out w1 bc;clear st;go_wp2_with fail;refine bf.mono ?_;rintro cc w2 ⟨rfl,bg⟩;have B2:=bc.then bg;have cj:=B2.cell c1;clear bf;go_wp2;refine bodyPost_ret (v:=.tuple #[.slice (some ⟨ba,oa+p*6,none⟩) (q-p) (c-p),.bool true]) (by simp [results,results180,go_sem]) rfl ?_;exact ⟨_,true,rfl,B2,rfl,Rd.bw jA R1.out B2⟩
  ·rw [fU hd2];have e1:(xG s==3)=false:=by simpa using BO (t:=s) hok hd2
   obtain ⟨O,hO⟩:=pA7 (xG s);rw [<-hO] at c1 e1;clear he bj hm bk hok bq bs h9 h bn bb hp cf cg bd hO hd2;go_enter func180,ntmps180;go_wp2_with fail;refine (st).mono ?_;rintro e w1 ⟨rfl,bc⟩;have bf:=bp.out w1 bc;clear st;go_wp2_with fail;refine bf.mono ?_;rintro cc w2 ⟨rfl,bg⟩;have B2:=bc.then bg;have cj:=B2.cell c1;clear bf;go_wp2;refine IA (by kernel_rfl) ?_
   repeat (first | go_big_quiet_skip | (go_big_quiet_want;go_big_quiet_op;first | go_big_quiet_on | (apply Exists.intro;refine ⟨fun _=>?_,?_⟩;(· (((fail))));go_big_quiet_on)))
   refine JA fun wq hbq=>?_
   try dsimp only at *
   go_wp2;refine bodyPost_ret (v:=.tuple #[.slice none 0 0,.bool false]) (by simp [results,results180,go_sem]) rfl ?_;exact ⟨_,_,rfl,B2.then hbq,rfl⟩
def rOp:Rep mA:=fun _ _ y u=>∃n,y=⟨n,KA⟩/\u=[.int .i64 n,.int .i64 0,.int .i64 0,.int .i64 0,.slice none 0 0,.slice none 0 0]
theorem oAr (w:World) (a b:Int):rSl 6 rOp (w.alloc (.cells #[.int .i64 a,.int .i64 0,.int .i64 0,.int .i64 0,.slice none 0 0,.slice none 0 0,.int .i64 b,.int .i64 0,.int .i64 0,.int .i64 0,.slice none 0 0,.slice none 0 0] 111)) (fun _=>True) [⟨a,KA⟩,⟨b,KA⟩] [.slice (some ⟨w.heap.size,0,none⟩) 2 2]:=by
 have bX:=Box.new w #[.int .i64 a,.int .i64 0,.int .i64 0,.int .i64 0,.slice none 0 0,.slice none 0 0,.int .i64 b,.int .i64 0,.int .i64 0,.int .i64 0,.slice none 0 0,.slice none 0 0] 111;refine ⟨_,2,rfl,Nat.le_refl _,by simp [maxLen],fun k x hx=>?_⟩
 match k,hx with
 | 0,hx=>
  simp at hx;subst hx;refine ⟨w.heap.size,0,_,rfl,trivial,rfl,fun j u hu=>?_,a,rfl,rfl⟩;have hj:j<6:=(List.getElem?_eq_some_iff.1 hu).1;rw [show 0+0*6+j=j by omega];refine bX.c j u ?_;rw [<-hu]
  match j,hj with
  | 0,_ | 1,_ | 2,_ | 3,_ | 4,_ | 5,_=>rfl
 | 1,hx=>
  simp at hx;subst hx;refine ⟨w.heap.size,0,_,rfl,trivial,rfl,fun j u hu=>?_,b,rfl,rfl⟩;have hj:j<6:=(List.getElem?_eq_some_iff.1 hu).1;rw [show 0+1*6+j=6+j by omega];refine bX.c (6+j) u ?_;rw [<-hu]
  match j,hj with
  | 0,_ | 1,_ | 2,_ | 3,_ | 4,_ | 5,_=>rfl
theorem oAs {B:Nat} {W:World} {S:JC} {y:mA} {u:List Value} (h:rOp W S y u):fSh B OM W y u []:=by
 obtain ⟨n,rfl,rfl⟩:=h;exact oAq B W n
theorem bA5 (w:World) (t:XT) (e pre post:List mA) (ba oa n m c:Nat) (h:Rd OA w e [.slice (some ⟨ba,oa,none⟩) n c]) (hL:Hid (n=e.length)) (he:e=pre++(NA t++post)) (hok:okT t) (h9:e.length<=9) (hm:m+1=pre.length+(NA t).length) (hc:n<=c) (hc2:c<=9223372036854775807) :
  Calls prog 180 #[.slice (some ⟨ba,oa,none⟩) n c,.int .i64 2,.int .i64 (m:Int)] w (XU (CD 2 t) w):=by
 obtain ⟨i0,hi,cd,cf,cg⟩:=info_parts tH;have cb:e.length=pre.length+(NA t).length+post.length:=by rw [he];simp;omega
 have cc:=hL.out;have c0:=yJ h he hm;have i1:(0:Int)<=(m:Int):=by omega
 have i2:(m:Int)<(n:Int):=by omega
 obtain ⟨p,hp⟩:=pA7 pre.length;have bs:e.take (m+1)=pre++NA t:=by rw [hm,he];exact xF _ _ _
 have st:=SI w e pre t m _ h hok (by omega) h9 bs;rw [<-hp] at st
 cases t with
 | base x=>
  rw [show xG (.base x)=0 from rfl] at c0;rw [show CD 2 (.base x)=none from rfl];clear he hm hok cb cc h9 h st bs hp;go_enter func180,ntmps180;go_wp2;refine bodyPost_ret (v:=.tuple #[.slice none 0 0,.bool false]) (by simp [results,results180,go_sem]) rfl ?_;exact ⟨_,_,rfl,Bw.refl _,rfl⟩
 | two op a b=>
  have bm:jG op:=hok.1;rw [show xG (.two op a b)=op from rfl] at c0;rw [WW (t:=.two op a b) (by rintro ⟨s,hs⟩;cases hs)];have e1:(op==0)=false:=by unfold jG at bm;simp;omega
  have e2:(op==3)=false:=by unfold jG at bm;simp;omega
  have bb:e.take (m-1+1)=(pre++NA a)++NA b:=by
   have hl:=RD op a b;have dp:=bD b;rw [show m-1+1=(pre++NA a).length+(NA b).length by rw [List.length_append];omega,he,show pre++(NA (.two op a b)++post)=(pre++NA a)++(NA b++(⟨op,KA⟩::post)) by simp [NA]];exact xF _ _ _
  have cz:=bD a;have bq:=bD b;have cv:=RD op a b;have bd:=fun W (B:Bw w W)=>SI W e (pre++NA a) b (m-1) _ (h.bw jA B) hok.2.2 (by omega) h9 bb
  have n2:(((m-1:Nat):Int))=(m:Int)-1:=by omega
  simp only [n2] at bd;obtain ⟨k,hk⟩:=pA7 ((pre++NA a).length);rw [<-hk] at bd;have bx:=pA6 bd;clear he hm hok cb cc h9 h bs bb hp bm cz bq cv n2 hk bd;go_enter func180,ntmps180;go_wp2_with fail;refine (st).mono ?_;rintro e w1 ⟨rfl,bc⟩;have bg:=bx.out w1 bc;clear st;go_wp2_with fail;refine bg.mono ?_;rintro dd w2 ⟨rfl,bk⟩;have c02:=(bc.then bk).cell c0;clear bg;go_wp2;refine IA (by kernel_rfl) ?_
  repeat (first | go_big_quiet_skip | (go_big_quiet_want;go_big_quiet_op;first | go_big_quiet_on | (apply Exists.intro;refine ⟨fun _=>?_,?_⟩;(· (((fail))));go_big_quiet_on)))
  refine JA fun wq hbq=>?_
  try dsimp only at *
  go_wp2;refine bodyPost_ret (v:=.tuple #[.slice none 0 0,.bool false]) (by simp [results,results180,go_sem]) rfl ?_;exact ⟨_,_,rfl,(bc.then bk).then hbq,rfl⟩
 | dual s=>
  rw [show xG (.dual s)=3 from rfl] at c0;have dn:=PD s;have dq:=bD s;have bn:e=pre++(NA s++(⟨3,KA⟩::post)):=by rw [he,qJ]
  have bp:m-1+1=pre.length+(NA s).length:=by omega
  have c1:=yJ (m:=m-1) h bn bp;have bb:e.take (m-1+1)=pre++NA s:=by rw [bp,bn];exact xF _ _ _
  have bd:=fun W (B:Bw w W)=>SI W e pre s (m-1) _ (h.bw jA B) hok (by omega) h9 bb
  obtain ⟨q,rfl⟩:∃q,m=q+1:=⟨m-1,by omega⟩;rw [show q+1-1=q by omega] at c1 bp;simp only [show q+1-1=q by omega,<-hp] at bd;have bx:=pA6 bd;have i3:(0:Int)<=(q:Int):=by omega
  have i4:(q:Int)<(n:Int):=by omega
  have eq2:((q+1:Nat):Int)=(q:Int)+1:=by omega
  have bj:=fun W=>zK W (xG s)
  by_cases hd2:∃op a b,s=.two op a b
  ·obtain ⟨op,a,b,rfl⟩:=hd2;have bm:jG op:=hok.1;rw [show xG (.two op a b)=op from rfl] at c1 bj;simp only [nK bm] at bj;rw [VW op a b];have fn:=RD op a b;have fp:=bD a;have dp:=bD b;have cq:e=pre++(NA a++(NA b++(⟨op,KA⟩::⟨3,KA⟩::post))):=by rw [bn];simp [NA]
   have ct:e=(pre++NA a)++(NA b++(⟨op,KA⟩::⟨3,KA⟩::post)):=by rw [cq];simp
   obtain ⟨k,hk⟩:=pA7 (pre.length+(NA a).length);have fq:q=k+(NA b).length:=by omega
   have bt:e.take (q-1+1)=(pre++NA a)++NA b:=by
    rw [show q-1+1=(pre++NA a).length+(NA b).length by rw [List.length_append];omega,ct];exact xF _ _ _
   have cj:=fun W (B:Bw w W)=>SI W e (pre++NA a) b (q-1) _ (h.bw jA B) hok.2.2 (by omega) h9 bt
   have n2:(((q-1:Nat):Int))=(q:Int)+1-2:=by omega
   rw [List.length_append,<-hk] at cj;simp only [n2] at cj;have fd:=pA6 cj;have r1:OA w (lt w) (NA a) [.slice (some ⟨ba,oa+p*6,none⟩) (k-p) (c-p)]:=RF (i:=p) (k:=k) h hL.out cq hp hk;have r2:OA w (lt w) (NA b) [.slice (some ⟨ba,oa+k*6,none⟩) (q-k) (c-k)]:=RF (i:=k) (k:=q) h hL.out ct (by rw [hk,List.length_append]) (by rw [List.length_append];omega);have R1:=pA6 r1;have R2:=pA6 r2;have k1:(0:Int)<=(p:Int):=by omega
   have k2:(p:Int)<=(k:Int):=by omega
   have k3:(k:Int)<=(c:Int):=by omega
   have k4:¬c<=p:=by omega
   have k5:¬c=p:=by omega
   have k6:(k:Int)<=(q:Int):=by omega
   have k7:(q:Int)<=(c:Int):=by omega
   have k8:¬c<=k:=by omega
   have k9:¬c=k:=by omega
   have k10:(0:Int)<=(k:Int):=by omega
   have bf:=pA6 (show (NA a).length<=9/\(NA b).length<=9 by omega);have hbo : -100<=op/\op<=100:=by unfold jG at bm;omega
   clear he bn cq ct hm bp hok cb cc h9 h bs bb bt hp dn dq bd cj r1 r2 hk fq fp dp fn n2 bm;go_enter func180,ntmps180;go_wp2_with fail;refine (st).mono ?_;rintro e w1 ⟨rfl,bc⟩;have bg:=bx.out w1 bc;clear st;go_wp2_with fail;refine bg.mono ?_;rintro dd w2 ⟨rfl,bk⟩;have B2:=bc.then bk;have ff:=B2.cell c1;have bv:=bj w2;clear bg bj;go_wp2_with fail;refine bv.mono ?_;rintro fj w3 ⟨rfl,bz⟩;have B3:=B2.then bz;have ds:=fd.out w3 B3;clear bv;go_wp2_with fail;refine ds.mono ?_;rintro e4' w4 ⟨rfl,dk⟩;have B4:=B3.then dk;have fg:=B4.cell c1;have cm:=(Bw.refl w4).alloc (.cells #[] 111);have dv:=MA (e:=111) (sz:=6) (R:=fSh w4.heap.size OM) w4;have dj:sA w4.heap.size [w4.heap.size]:=⟨by simp,by simp⟩;have dt:=oQ R1.out (B4.then cm) B4.size;have fc:=pA6 (show NA a++[⟨3,KA⟩]++NA b++[⟨3,KA⟩,⟨op,KA⟩]=NA a++(⟨3,KA⟩::(NA b++[⟨3,KA⟩,⟨op,KA⟩])) by simp);clear ds dk bz bk bc;go_wp2_with (at_builtin;refine YB _ rfl (.tmp 70) (.tmp 74) 25 rfl w4 111 i0 _ 6 80 underlying25 hi cd cf cg rfl (by omega) (VG SD (Nat.le_refl _)) _ [] [w4.heap.size] (by rfl) dv dj _ (by rfl) (NA a) dt (fun y u h=>PN h) (by have:=bf.out;simp only [List.length_nil];omega) (by have:=bf.out;simp only [List.length_nil];omega) cm ?_;intro v5 w5 F5 o5 f5 B5;rw [List.nil_append] at o5);have D5:=(Bw.refl w5).drew;have df:=(Bw.refl w5.drew).alloc (.cells #[.int .i64 3,.int .i64 0,.int .i64 0,.int .i64 0,.slice none 0 0,.slice none 0 0] 111)
   have dz:=(VF (Nat.le_refl w4.heap.size)).bw (D5.then df) B5.size o5;have dx:=(VF (Nat.le_refl w4.heap.size)).lt o5;have dm:∀j t,[Value.int .i64 3,.int .i64 0,.int .i64 0,.int .i64 0,.slice none 0 0,.slice none 0 0][j]? = some t->(w5.drew.alloc (.cells #[.int .i64 3,.int .i64 0,.int .i64 0,.int .i64 0,.slice none 0 0,.slice none 0 0] 111)).cell? ((⟨w5.drew.heap.size,0,none⟩:Addr).add j)=some t:=World.news_of_block (cs:=#[.int .i64 3,.int .i64 0,.int .i64 0,.int .i64 0,.slice none 0 0,.slice none 0 0]) (t:=111) (fr:=(0,0)) (heap_alloc_new w5.drew _);have fk:=(B5.then D5).then df;have fm:=B5.size;have fb:=pA6 (fun (W:World) (B:Bw w4 W)=>oQ R2.out (B4.then B) B4.size);have ck:=pA6 (show (NA a++[(⟨3,KA⟩:mA)]).length<=10 by rw [List.length_append];have:=bf.out;simp;omega);have hwq:IntKind.i64.wrap (q:Int)=(q:Int):=by simp [IntKind.wrap,IntKind.bits,IntKind.signed];omega
   clear dv dj dt cm
   go_region_held3 (fun w'=>True) (exact trivial) (first
    | (refine RE _ (by rfl) (.tmp 76) (.tmp 78) 25 (by rfl) w4 111 i0 _ 6 80 underlying25 hi cd cf cg rfl (by omega) (VG SD (Nat.le_refl _)) v5 (NA a) F5 (by rfl) dz f5 ⟨w5.drew.heap.size,0,none⟩ 1 (by rfl) ⟨3,KA⟩ [.int .i64 3,.int .i64 0,.int .i64 0,.int .i64 0,.slice none 0 0,.slice none 0 0] [] dm (oAq _ _ _) rfl w5.heap.size dx sA.nil fm (by have:=bf.out;omega) (by have:=bf.out;omega) fk ?_;intro v6 w6 F6 o6 f6 B6 hO6 hs6)
    | (refine QD _ (by rfl) (.tmp 79) (.tmp 84) 25 (by rfl) w4 111 i0 _ 6 80 underlying25 hi cd cf cg rfl (by omega) (VG SD (Nat.le_refl _)) v6 (NA a++[⟨3,KA⟩]) F6 (by rfl) o6 f6 _ (by rfl) (NA b) (fb.out w6 B6) (fun y u h=>PN h) (by have:=ck.out;have:=bf.out;omega) (by have:=ck.out;have:=bf.out;omega) B6 ?_;intro v7 w7 F7 o7 f7 B7 hO7 hs7))
   all_goals
    have c17:=B7.cell fg;have cn:=(Bw.refl w7).alloc (.cells #[.int .i64 3,.int .i64 0,.int .i64 0,.int .i64 0,.slice none 0 0,.slice none 0 0,.int .i64 op,.int .i64 0,.int .i64 0,.int .i64 0,.slice none 0 0,.slice none 0 0] 111);have fs:=(VF (Nat.le_refl w4.heap.size)).bw cn B7.size o7;have cp:=B7.then cn;have cx:=oAr w7 3 op;have dc:=pA6 (show (NA a++[(⟨3,KA⟩:mA)]++NA b).length<=20 by rw [List.length_append];have:=ck.out;have:=bf.out;omega);clear o7 cn dm dz o5 dx;go_wp2_with (at_builtin;refine YB _ rfl (.tmp 86) (.tmp 95) 25 rfl w4 111 i0 _ 6 80 underlying25 hi cd cf cg rfl (by omega) (VG SD (Nat.le_refl _)) v7 (NA a++[⟨3,KA⟩]++NA b) F7 (by rfl) fs f7 _ (by rfl) [⟨3,KA⟩,⟨op,KA⟩] cx (fun y u h=>oAs h) (by have:=dc.out;simp only [List.length_cons,List.length_nil];omega) (by have:=dc.out;simp only [List.length_cons,List.length_nil];omega) cp ?_;intro v9 w9 F9 o9 f9 B9;rw [fc.out] at o9);refine bodyPost_ret (v:=.tuple #[v9,.bool true]) (by simp [results,results180,go_sem]) rfl ?_;exact ⟨_,true,rfl,B4.then B9,rfl,ON o9 B9.size⟩
  ·rw [gU hd2];have db:aD (xG s)≠2:=by
    cases s with
    | base w=>simp [xG,aD]
    | dual s=>simp [xG,aD]
    | two op a b=>exact absurd ⟨op,a,b,rfl⟩ hd2
   obtain ⟨O,hO⟩:=pA7 (xG s);rw [<-hO] at c1 bj db;obtain ⟨Z,hZ⟩:=pA7 (aD O);simp only [<-hZ] at bj;have e1:(Z==2)=false:=by rw [hZ];simpa using db
   clear he bn hm bp hok cb cc h9 h bs bb hp dn dq bd hO hd2 db hZ;go_enter func180,ntmps180;go_wp2_with fail;refine (st).mono ?_;rintro e w1 ⟨rfl,bc⟩;have bg:=bx.out w1 bc;clear st;go_wp2_with fail;refine bg.mono ?_;rintro dd w2 ⟨rfl,bk⟩;have B2:=bc.then bk;have ff:=B2.cell c1;have bv:=bj w2;clear bg bj;go_wp2_with fail;refine bv.mono ?_;rintro fj w3 ⟨rfl,bz⟩;have B3:=B2.then bz;clear bv;go_wp2;refine IA (by kernel_rfl) ?_
   repeat (first | go_big_quiet_skip | (go_big_quiet_want;go_big_quiet_op;first | go_big_quiet_on | (apply Exists.intro;refine ⟨fun _=>?_,?_⟩;(· (((fail))));go_big_quiet_on)))
   refine JA fun wq hbq=>?_
   try dsimp only at *
   go_wp2;refine bodyPost_ret (v:=.tuple #[.slice none 0 0,.bool false]) (by simp [results,results180,go_sem]) rfl ?_;exact ⟨_,_,rfl,B3.then hbq,rfl⟩
theorem bA6 (w:World) (t:XT) (e pre post:List mA) (ba oa n m c:Nat) (h:Rd OA w e [.slice (some ⟨ba,oa,none⟩) n c]) (hL:Hid (n=e.length)) (he:e=pre++(NA t++post)) (hok:okT t) (h9:e.length<=9) (hm:m+1=pre.length+(NA t).length) (hc:n<=c) (hc2:c<=9223372036854775807) :
  Calls prog 180 #[.slice (some ⟨ba,oa,none⟩) n c,.int .i64 3,.int .i64 (m:Int)] w (XU (CD 3 t) w):=by
 have bx:e.length=pre.length+(NA t).length+post.length:=by rw [he];simp;omega
 have bz:=hL.out;have c0:=yJ h he hm;have i1:(0:Int)<=(m:Int):=by omega
 have i2:(m:Int)<(n:Int):=by omega
 obtain ⟨p,hp⟩:=pA7 pre.length;have bn:e.take (m+1)=pre++NA t:=by rw [hm,he];exact xF _ _ _
 have st:=SI w e pre t m _ h hok (by omega) h9 bn;rw [<-hp] at st
 cases t with
 | base x=>
  rw [show xG (.base x)=0 from rfl] at c0;rw [show CD 3 (.base x)=none from rfl];clear he hm hok bx bz h9 h st bn hp;go_enter func180,ntmps180;go_wp2;refine bodyPost_ret (v:=.tuple #[.slice none 0 0,.bool false]) (by simp [results,results180,go_sem]) rfl ?_;exact ⟨_,_,rfl,Bw.refl _,rfl⟩
 | dual s=>
  rw [show xG (.dual s)=3 from rfl] at c0;rw [YW (t:=.dual s) (by rintro ⟨op,a,b,hs⟩;cases hs)];have cm:=PD s;have cs:=bD s;have cc:e=pre++(NA s++(⟨3,KA⟩::post)):=by rw [he,qJ]
  have cd:m-1+1=pre.length+(NA s).length:=by omega
  have bc:e.take (m-1+1)=pre++NA s:=by rw [cd,cc];exact xF _ _ _
  have bf:=fun W (B:Bw w W)=>SI W e pre s (m-1) _ (h.bw jA B) hok (by omega) h9 bc
  have n2:(((m-1:Nat):Int))=(m:Int)-1:=by omega
  simp only [n2,<-hp] at bf;have bq:=pA6 bf;have bj:∀W,Calls prog 184 #[.int .i64 3] W (Ret W (.int .i64 1)):=fun W=>zK W 3
  clear he cc hm cd hok bx bz h9 h bn bc hp cm cs bf n2;go_enter func180,ntmps180;go_wp2_with fail;refine (st).mono ?_;rintro e w1 ⟨rfl,bk⟩;have bg:=bq.out w1 bk;clear st;go_wp2_with fail;refine bg.mono ?_;rintro cj w2 ⟨rfl,bs⟩;have B2:=bk.then bs;have bb:∀s:eC w2,Calls prog 184 #[.int .i64 3] s.1 (Ret s.1 (.int .i64 1)):=fun s=>bj s.1
  clear bg bj;go_wp2;refine IA (by kernel_rfl) ?_
  repeat (first | go_big_quiet_skip | (go_big_quiet_want;go_big_quiet_op;first | go_big_quiet_on | (apply Exists.intro;refine ⟨fun _=>?_,?_⟩;(· (((go_at_call 184;exact DA (bb _)))));go_big_quiet_on)))
  refine JA fun wq hbq=>?_
  try dsimp only at *
  go_wp2;refine bodyPost_ret (v:=.tuple #[.slice none 0 0,.bool false]) (by simp [results,results180,go_sem]) rfl ?_;exact ⟨_,_,rfl,B2.then hbq,rfl⟩
 | two op a b=>
  have bm:jG op:=hok.1;rw [show xG (.two op a b)=op from rfl] at c0;have e1:(op==0)=false:=by unfold jG at bm;simp;omega
  have e2:(op==3)=false:=by unfold jG at bm;simp;omega
  have ck:=RD op a b;have cp:=bD a;have cq:=bD b;have bt:e=pre++(NA a++(NA b++(⟨op,KA⟩::post))):=by rw [he];simp [NA]
  have bv:e=(pre++NA a)++(NA b++(⟨op,KA⟩::post)):=by rw [bt];simp
  obtain ⟨k,hk⟩:=pA7 (pre.length+(NA a).length);have cn:m=k+(NA b).length:=by omega
  have bc:e.take (m-1+1)=(pre++NA a)++NA b:=by
   rw [show m-1+1=(pre++NA a).length+(NA b).length by rw [List.length_append];omega,bv];exact xF _ _ _
  have bf:=fun W (B:Bw w W)=>SI W e (pre++NA a) b (m-1) _ (h.bw jA B) hok.2.2 (by omega) h9 bc
  have n2:(((m-1:Nat):Int))=(m:Int)-1:=by omega
  rw [List.length_append,<-hk] at bf;simp only [n2] at bf;have bq:=pA6 bf;have r1:OA w (lt w) (NA a) [.slice (some ⟨ba,oa+p*6,none⟩) (k-p) (c-p)]:=RF (i:=p) (k:=k) h hL.out bt hp hk;have r2:OA w (lt w) (NA b) [.slice (some ⟨ba,oa+k*6,none⟩) (m-k) (c-k)]:=RF (i:=k) (k:=m) h hL.out bv (by rw [hk,List.length_append]) (by rw [List.length_append];omega);have R1:=pA6 r1;have k1:(0:Int)<=(p:Int):=by omega
  have k2:(p:Int)<=(k:Int):=by omega
  have k3:(k:Int)<=(c:Int):=by omega
  have k4:¬c<=p:=by omega
  have k5:¬c=p:=by omega
  have k6:(k:Int)<=(m:Int):=by omega
  have k7:(m:Int)<=(c:Int):=by omega
  have k8:¬c<=k:=by omega
  have k9:¬c=k:=by omega
  have k10:(0:Int)<=(k:Int):=by omega
  have bj:∀W,Calls prog 184 #[.int .i64 op] W (Ret W (.int .i64 2)):=fun W=>by
   have:=zK W op
   rwa [nK bm] at this
  have cf:=fun W (B:Bw w W)=>ZP W (NA a) (NA b) _ _ (Rd.bw jA r1 B) (Rd.bw jA r2 B)
  have cb:=pA6 cf;have bp:=pA6 (fun hab=>XW (op:=op) (a:=a) (b:=b) hab);have cg:=pA6 (fun hab=>GZ (op:=op) (a:=a) (b:=b) hab);obtain ⟨o,ho⟩:=pA7 (CD 3 (.two op a b));rw [<-ho];have HO:=pA6 ho;clear he bt bv hm hok bx bz h9 h bn bc hp bf r1 r2 hk cn cp cq ck n2 bm ho cf;go_enter func180,ntmps180;go_wp2_with fail;refine (st).mono ?_;rintro e w1 ⟨rfl,bk⟩;have bg:=bq.out w1 bk;clear st;go_wp2_with fail;refine bg.mono ?_;rintro cj w2 ⟨rfl,bs⟩;have B2:=bk.then bs;have bb:∀s:eC w2,Calls prog 184 #[.int .i64 op] s.1 (Ret s.1 (.int .i64 2)):=fun s=>bj s.1
  by_cases hab:NA a=NA b
  ·have HE:=pA6 (show o=some (NA a) by rw [HO.out];exact bp.out hab);have hd:decide (NA a=NA b)=true:=decide_eq_true hab;have bd:∀s:eC w2,Calls prog 236 #[.slice (some ⟨ba,oa+p*6,none⟩) (k-p) (c-p),.slice (some ⟨ba,oa+k*6,none⟩) (m-k) (c-k)] s.1 (Ret s.1 (.bool true)):=fun s=>by
    have:=cb.out s.1 (B2.then s.bw)
    rwa [hd] at this
   clear bg bj hab hd;go_wp2;refine IA (by kernel_rfl) ?_
   repeat (first | go_big_quiet_skip | (go_big_quiet_want;go_big_quiet_op;first | go_big_quiet_on | (apply Exists.intro;refine ⟨fun _=>?_,?_⟩;(· (((first | (go_at_call 184;exact DA (bb _)) | (go_at_call 236;exact DA (bd _))))));go_big_quiet_on)))
   refine JA fun wq hbq=>?_
   try dsimp only at *
   clear bb bd;go_wp2;refine bodyPost_ret (v:=.tuple #[.slice (some ⟨ba,oa+p*6,none⟩) (k-p) (c-p),.bool true]) (by simp [results,results180,go_sem]) rfl ?_;rw [HE.out];exact ⟨_,true,rfl,B2.then hbq,rfl,Rd.bw jA R1.out (B2.then hbq)⟩
  ·have HE:=pA6 (show o=none by rw [HO.out];exact cg.out hab);have hd:decide (NA a=NA b)=false:=decide_eq_false hab;have bd:∀s:eC w2,Calls prog 236 #[.slice (some ⟨ba,oa+p*6,none⟩) (k-p) (c-p),.slice (some ⟨ba,oa+k*6,none⟩) (m-k) (c-k)] s.1 (Ret s.1 (.bool false)):=fun s=>by
    have:=cb.out s.1 (B2.then s.bw)
    rwa [hd] at this
   clear bg bj hab hd;go_wp2;refine IA (by kernel_rfl) ?_
   repeat (first | go_big_quiet_skip | (go_big_quiet_want;go_big_quiet_op;first | go_big_quiet_on | (apply Exists.intro;refine ⟨fun _=>?_,?_⟩;(· (((first | (go_at_call 184;exact DA (bb _)) | (go_at_call 236;exact DA (bd _))))));go_big_quiet_on)))
   refine JA fun wq hbq=>?_
   try dsimp only at *
   clear bb bd;go_wp2;refine bodyPost_ret (v:=.tuple #[.slice none 0 0,.bool false]) (by simp [results,results180,go_sem]) rfl ?_;rw [HE.out];exact ⟨_,_,rfl,B2.then hbq,rfl⟩
theorem bA7 (w:World) (t:XT) (e pre post:List mA) (r:Int) (ba oa n m c:Nat) (h:Rd OA w e [.slice (some ⟨ba,oa,none⟩) n c]) (hL:Hid (n=e.length)) (he:e=pre++(NA t++post)) (hok:okT t) (h9:e.length<=9) (hm:m+1=pre.length+(NA t).length) (hr:r=1\/r=2\/r=3) (hc:n<=c) (hc2:c<=9223372036854775807) :
  Calls prog 180 #[.slice (some ⟨ba,oa,none⟩) n c,.int .i64 r,.int .i64 (m:Int)] w (XU (CD r t) w):=by
 rcases hr with rfl | rfl | rfl
 ·exact bA4 w t e pre post ba oa n m c h hL he hok h9 hm hc hc2
 ·exact bA5 w t e pre post ba oa n m c h hL he hok h9 hm hc hc2
 ·exact bA6 w t e pre post ba oa n m c h hL he hok h9 hm hc hc2
theorem jAt {r:Int} {t:XT} {x:List mA} (h:CD r t=some x):x.length<=(NA t).length+2:=by
 cases t with
 | base w=>cases h
 | two op a b=>
  simp only [CD] at h
  split at h
  ·injection h with h;rw [<-h,RD];omega
  ·cases h
 | dual s=>
  cases s with
  | base w=>cases h
  | dual s=>
   simp only [CD] at h
   split at h
   ·injection h with h;rw [<-h,PD,PD];omega
   ·cases h
  | two op a b=>
   simp only [CD] at h
   split at h
   ·injection h with h;rw [<-h,PD,RD];simp;omega
   ·cases h
theorem eAb (w:World) (e:List mA) (r m:Int) (v:Value) (h:Rd OA w e [v]) (ht:sB e<=1048576) (hr:r=1\/r=2\/r=3) :
  Calls prog 123 #[v,.int .i64 r,.int .i64 m] w (WB w (Two mC w.heap.size (eE e r m).1 (.bool (eE e r m).2))):=by
 obtain ⟨i0,hi,dj,dk,dm⟩:=info_parts tH;have k1:=CI w e v h;have bq:=fun W (B:Bw w W)=>iI W e v (h.bw jA B) ht
 obtain ⟨Y,hY⟩:=pA7 (eE e r m);rw [<-hY];by_cases hE:pB e=true
 ·rw [hE] at k1;obtain ⟨ba,oa,n,c,rfl,hL,hc,fx⟩:=IZ h (eA7 hE);have bn:=fun W=>rD W m 0 ((n:Int)-1)
  have bd:=DO hE;by_cases hm:0<=m/\m<(n:Int)
  ·have e1:inB m 0 ((n:Int)-1)=true:=decide_eq_true (by omega);simp only [e1] at bn;obtain ⟨k,rfl⟩:∃k:Nat,m=k:=⟨m.toNat,by omega⟩;have cp:k<e.length:=by rw [<-hL.out];omega
   obtain ⟨⟨bc,t,bb⟩,hq,dc⟩:=AM (r:=r) hE cp;have bk:=hq.eq;have bz:=hq.at';have cf:=hq.ok;dsimp only at bk bz cf;have fc:=hL.out;have bp:=fun W (B:Bw w W)=>bA7 W t e bc bb r ba oa n k c (h.bw jA B) hL bk cf bd bz hr hc fx
   have cm:=pA6 bp;have bt:=pA6 bq;have fb:e.length=bc.length+(NA t).length+bb.length:=by rw [bk];simp;omega
   have df:e.take (k+1)=bc++NA t:=by rw [bz,bk];exact xF _ _ _
   have cq:=fun W (B:Bw w W)=>SI W e bc t k _ (h.bw jA B) cf cp bd df
   obtain ⟨p,hp⟩:=pA7 bc.length;rw [<-hp] at cq;have fp:=pA6 cq;have cz:e=[]++(bc++(NA t++bb)):=by rw [bk];rfl
   have db:e=(bc++NA t)++(bb++[]):=by rw [bk];simp
   have r1:OA w (lt w) bc [.slice (some ⟨ba,oa,none⟩) p c]:=by
    have:=RF (i:=0) (k:=p) h hL.out cz (by simp) (by simp [hp]);rw [Nat.zero_mul,Nat.add_zero,Nat.sub_zero,Nat.sub_zero] at this;exact this
   have r2:OA w (lt w) bb [.slice (some ⟨ba,oa+(k+1)*6,none⟩) (n-(k+1)) (c-(k+1))]:=
    RF (i:=k+1) (k:=n) h hL.out db (by rw [List.length_append];omega) (by rw [List.length_append];omega)
   have fd:=bD t;have r3:k+1=n->OA w (lt w) bb [.slice (some ⟨ba,oa,none⟩) 0 0]:=fun hmn=>by
    have fz:bb=[]:=List.eq_nil_of_length_eq_zero (by omega);rw [fz];exact ⟨_,0,rfl,Nat.le_refl _,by simp [maxLen],fun k x hx=>by simp at hx⟩
   have q1:(0:Int)<=(p:Int):=by omega
   have q2:(p:Int)<=(c:Int):=by omega
   have q3:(0:Int)<=(k:Int)+1:=by omega
   have q4:(k:Int)+1<=(n:Int):=by omega
   have q5:(n:Int)<=(c:Int):=by omega
   have hwk:IntKind.i64.wrap ((k:Int)+1)=(k:Int)+1:=by simp [IntKind.wrap,IntKind.bits,IntKind.signed];omega
   have bx:Y=qY (bc,t,bb) r e:=by rw [hY];exact dc
   cases ho:CD r t with
   | none=>
    have bv:Y=(e,false):=by rw [bx];unfold qY;dsimp only;rw [ho]
    subst bv;simp only [ho] at bp;have cm:=pA6 bp;clear bp bq hY hE h e1 cp bd hm hq dc bk bz cf fb df cq hp cz db r1 r2 r3 ho bx fc fd;go_enter func123,ntmps123;go_wp2_with fail;refine (k1).mono ?_;rintro e w1 ⟨rfl,bf⟩;have bm:=bn w1;clear k1;go_wp2_with fail;refine bm.mono ?_;rintro e2 w2 ⟨rfl,cb⟩;have B2:=bf.then cb;have cg:=cm.out w2 B2;clear bm bn;go_wp2_with fail;refine cg.mono ?_;rintro e3 w3 ⟨v3,b,rfl,cv,ft⟩;have B3:=B2.then cv;obtain rfl:b=false:=ft;have bj:=bt.out w3 B3;clear cg;go_wp2_with fail;refine bj.mono ?_;rintro e4 w4 ⟨v4,rfl,⟨F4,o4,f4⟩,bg⟩;have B4:=B3.then bg;clear bj;go_wp2;refine bodyPost_ret (v:=.tuple #[v4,.bool false]) (by simp [results,results123,go_sem]) rfl ?_;exact WB.two o4 (f4.mono B3.size) rfl B4
   | some x=>
    have gb:=jAt ho;have bs:=pA6 (show bc.length<=20/\x.length<=20/\bb.length<=20 by omega);have ds:=pA6 (fun (hl:(bc++(x++bb)).length<=9)=>show Y=(bc++(x++bb),true) by rw [bx];unfold qY;dsimp only;rw [ho];dsimp only;rw [if_pos hl]);have fq:=pA6 (fun (hl:¬(bc++(x++bb)).length<=9)=>show Y=(e,false) by rw [bx];unfold qY;dsimp only;rw [ho];dsimp only;rw [if_neg hl]);have cs:=pA6 (fun (hl:(bc++(x++bb)).length<=9)=>wF (NN (e:=e) (r:=r) (m:=(k:Int)) (by rw [<-hY];exact ds.out hl)));simp only [ho] at bp;have cm:=pA6 bp;have R1:=pA6 r1;have R2:=pA6 r2;have R4:=pA6 r3;clear bp bq hY hE e1 cp bd hm hq dc bk bz cf fb df cq hp cz db r1 r2 r3 ho bx fd gb fc h;go_enter func123,ntmps123;go_wp2_with fail;refine (k1).mono ?_;rintro e w1 ⟨rfl,bf⟩;have bm:=bn w1;clear k1;go_wp2_with fail;refine bm.mono ?_;rintro e2 w2 ⟨rfl,cb⟩;have B2:=bf.then cb;have cg:=cm.out w2 B2;clear bm bn;go_wp2_with fail;refine cg.mono ?_;rintro e3 w3 ⟨v3,b,rfl,cv,fv,fk⟩;have B3:=B2.then cv;subst fv;have R3:=pA6 fk;have cn:=(Bw.refl w3).alloc (.cells #[] 111);have fj:=MA (e:=111) (sz:=6) (R:=fSh w3.heap.size OM) w3;have dv:sA w3.heap.size [w3.heap.size]:=⟨by simp,by simp⟩;have ff:=fp.out _ (B3.then cn);clear cg fk;go_wp2_with fail;refine ff.mono ?_;rintro e4 w4 ⟨rfl,bg⟩;have dp:=cn.then bg;have fm:=(VF (Nat.le_refl w3.heap.size)).bw bg cn.size fj;have fs:=Rd.bw jA R1.out B3
    have fg:=oQ fs dp (Nat.le_refl _);clear ff fj bg cn;by_cases hcc:c<=k+1;rotate_left
    focus
     have hcc2:¬c=k+1:=by omega
     have RP:=pA6 (Rd.bw jA R2.out B3)
    rotate_right
    focus
     obtain rfl:n=k+1:=by omega
     obtain rfl:c=k+1:=by omega
     have RP:=pA6 (Rd.bw jA (R4.out rfl) B3);clear hcc
    all_goals
     go_wp2_with (at_builtin;refine YB _ rfl (.tmp 35) (.tmp 40) 25 rfl w3 111 i0 _ 6 80 underlying25 hi dj dk dm rfl (by omega) (VG SD (Nat.le_refl _)) _ [] [w3.heap.size] (by rfl) fm dv _ (by rfl) bc fg (fun y u h=>PN h) (by have:=bs.out;simp only [List.length_nil];omega) (by have:=bs.out;simp only [List.length_nil];omega) dp ?_;intro v5 w5 F5 o5 f5 B5;rw [List.nil_append] at o5);have dn:=(VF (Nat.le_refl w3.heap.size)).bw ((Bw.refl w5).drew) B5.size o5;have dq:=B5.then (Bw.refl w5).drew;have dd:=oQ R3.out dq (Nat.le_refl _);have fn:=pA6 (fun (W:World) (B:Bw w3 W)=>oQ (RP.out) B (Nat.le_refl _));clear fm dv fg o5
     go_region_held3 (fun w'=>True) (exact trivial) (first
      | (refine QD _ (by rfl) (.tmp 42) (.tmp 43) 25 (by rfl) w3 111 i0 _ 6 80 underlying25 hi dj dk dm rfl (by omega) (VG SD (Nat.le_refl _)) v5 bc F5 (by rfl) dn f5 _ (by rfl) x dd (fun y u h=>PN h) (by have:=bs.out;omega) (by have:=bs.out;omega) dq ?_;intro v6 w6 F6 o6 f6 B6 hO6 hs6)
      | (refine QD _ (by rfl) (.tmp 44) (.tmp 48) 25 (by rfl) w3 111 i0 _ 6 80 underlying25 hi dj dk dm rfl (by omega) (VG SD (Nat.le_refl _)) v6 (bc++x) F6 (by rfl) o6 f6 _ (by rfl) bb (fn.out w6 B6) (fun y u h=>PN h) (by have:=bs.out;rw [List.length_append];omega) (by have:=bs.out;rw [List.length_append];omega) B6 ?_;intro v7 w7 F7 o7 f7 B7 hO7 hs7))
     all_goals
      rw [List.append_assoc] at o7;have r7:=ON o7 B7.size;obtain ⟨A7,n7,c7,rfl,cj,_⟩:=qA r7;have ck:=B3.then B7;have cc:=ck.size;by_cases hl:n7<=9
      ·have i9:¬(9:Int)<(n7:Int):=by omega
       have dx:=ds.out (by rw [<-cj];exact hl);have cd:=iI w7 (bc++(x++bb)) _ r7 (by have:=cs.out (by rw [<-cj];exact hl);omega);have ct:=pA6 dx;clear hl cj r7 o7 dx dd dn;go_wp2_with fail;refine cd.mono ?_;rintro e8 w8 ⟨v8,rfl,⟨F8,o8,f8⟩,cx⟩;clear cd;go_wp2;refine bodyPost_ret (v:=.tuple #[v8,.bool true]) (by simp [results,results123,go_sem]) rfl ?_;rw [ct.out];exact WB.two o8 (f8.mono cc) rfl (ck.then cx)
      ·have i9:(9:Int)<(n7:Int):=by omega
       have dz:=fq.out (by rw [<-cj];exact hl);have cd:=bt.out w7 ck;have ct:=pA6 dz;clear hl cj r7 o7 dz dd dn;go_wp2_with fail;refine cd.mono ?_;rintro e8 w8 ⟨v8,rfl,⟨F8,o8,f8⟩,cx⟩;clear cd;go_wp2;refine bodyPost_ret (v:=.tuple #[v8,.bool false]) (by simp [results,results123,go_sem]) rfl ?_;rw [ct.out];exact WB.two o8 (f8.mono cc) rfl (ck.then cx)
  ·have e1:inB m 0 ((n:Int)-1)=false:=decide_eq_false (by omega);simp only [e1] at bn;have bv:Y=(e,false):=by rw [hY];exact rJ (fun k=>hm ⟨k.2.1,by rw [hL.out];exact k.2.2⟩)
   subst bv;have bt:=pA6 bq;clear bq hY hE h e1 bd hm;go_enter func123,ntmps123;go_wp2_with fail;refine (k1).mono ?_;rintro e w1 ⟨rfl,bf⟩;have bm:=bn w1;clear k1;go_wp2_with fail;refine bm.mono ?_;rintro e2 w2 ⟨rfl,cb⟩;have B2:=bf.then cb;have bj:=bt.out w2 B2;clear bm bn;go_wp2_with fail;refine bj.mono ?_;rintro e4 w4 ⟨v4,rfl,⟨F4,o4,f4⟩,bg⟩;have B4:=B2.then bg;clear bj;go_wp2;refine bodyPost_ret (v:=.tuple #[v4,.bool false]) (by simp [results,results123,go_sem]) rfl ?_;exact WB.two o4 (f4.mono B2.size) rfl B4
 ·have dt:pB e=false:=by simpa using hE
  rw [dt] at k1;have bv:Y=(e,false):=by rw [hY];exact rJ (fun k=>hE k.1)
  subst bv;have bt:=pA6 bq;clear bq hY hE dt h;go_enter func123,ntmps123;go_wp2_with fail;refine (k1).mono ?_;rintro e w1 ⟨rfl,bf⟩;have bj:=bt.out w1 bf;clear k1;go_wp2_with fail;refine bj.mono ?_;rintro e4 w4 ⟨v4,rfl,⟨F4,o4,f4⟩,bg⟩;have B4:=bf.then bg;clear bj;go_wp2;refine bodyPost_ret (v:=.tuple #[v4,.bool false]) (by simp [results,results123,go_sem]) rfl ?_;exact WB.two o4 (f4.mono bf.size) rfl B4
theorem VM (w:World) (e:List mA) (v:Value) (h:Rd OA w e [v]) (ht:sB e<=1048576):Calls prog 40 #[v] w (WB w (nE mC w.heap.size (FR e))):=by
 have bt:=iI w e v h ht;obtain ⟨Y,hY⟩:=pA7 (FR e);have HY:=pA6 (show kL (60-0) e=Y from hY.symm);rw [<-hY];clear hY h;go_enter func40,ntmps40;go_wp2_with fail;refine bt.mono ?_;rintro e1 w1 ⟨v1,rfl,⟨F1,o1,f1⟩,bs⟩;have HT:=pA6 ht;clear bt ht;go_wp2
 go_loopg [3,4,5,6,9] 61 (fun gg s x5 x6 x7 z w'=>∃(j:Nat) (xs:List mA) (F:List Nat),j<=60/\gg=60-j+1/\z=.int .i64 (j:Int)/\mC w' xs [s] F/\sA w.heap.size F/\Bw w w'/\Hid (kL (60-j) xs=Y/\sB xs<=1048576))
 ·exact ⟨0,e,F1,by omega,rfl,rfl,o1,f1,bs,pA6 ⟨HY.out,HT.out⟩⟩
 ·clear o1 f1 bs HY HT;obtain ⟨j,xs,F,hj,rfl,rfl,hv,hF,hb,HI⟩:=hrel;obtain ⟨A,n,c,rfl,hn,hnc,cc⟩:=qA (bB hv);unfold maxLen at cc;have L:=pA6 hn;clear hn;by_cases hj60:j<60
  ·have i1:(j:Int)<60:=by omega
   go_wp2
   go_loopg [3,4,5,6] (n+1) (fun gg s cb z x7 w'=>∃(k:Nat) (b:Bool) (ys:List mA) (F:List Nat),k<=n/\gg=n-k+1/\cb=.bool b/\z=.int .i64 (k:Int)/\Hid (XK xs k b ys)/\mC w' ys [s] F/\sA w.heap.size F/\Bw w w')
   ·exact ⟨0,false,xs,F,by omega,rfl,rfl,rfl,pA6 (XK.start xs),hv,hF,hb⟩
   ·clear hv hb hF;obtain ⟨k,b,ys,F,hk,rfl,rfl,rfl,HA,hv,hF,hb⟩:=hrel;obtain ⟨A2,n2,c2,rfl,bv,_⟩:=qA (bB hv);have L2:=pA6 bv;clear bv
    cases b with
    | true=>
     have HN:=pA6 (show kL (60-(j+1)) ys=Y/\sB ys<=1048576 from ⟨by rw [<-HI.out.1,show 60-j=60-(j+1)+1 by omega];exact (eAa HA.out).symm,by have:=wF HA.out.expr;omega⟩);by_cases hk2:k<n2
     all_goals
      go_wp2
      go_roundg (60-(j+1)+1)
      ·exact ⟨j+1,ys,F,by omega,rfl,by go_num,hv,hF,hb,HN⟩
      ·omega
    | false=>
     obtain rfl:xs=ys:=HA.out.eq.symm;obtain rfl:n=n2:=by rw [L.out,L2.out]
     by_cases hk2:k<n
     ·have i3:(k:Int)<(n:Int):=by omega
      have bn:=pA6 (show k<xs.length by rw [<-L.out];exact hk2);clear hk2;go_wp2
      go_loopg [3,4,6] 4 (fun gg s cb z w'=>∃(r:Nat) (b:Bool) (ys:List mA) (F:List Nat),1<=r/\r<=4/\gg=5-r/\cb=.bool b/\z=.int .i64 (r:Int)/\Hid (NG xs k r b ys)/\mC w' ys [s] F/\sA w.heap.size F/\Bw w w')
      ·exact ⟨1,false,xs,F,by omega,by omega,rfl,rfl,rfl,pA6 (NG.start xs k),hv,hF,hb⟩
      ·clear hv hF hb;obtain ⟨r,b,ys,F,hr1,hr4,rfl,rfl,rfl,bd,hv,hF,hb⟩:=hrel
       cases b with
       | true=>
        have bj:=pA6 (XK.yes HA.out bn.out bd.out);by_cases hr3:r<=3
        all_goals
         go_wp2
         go_roundg (n-(k+1)+1)
         ·exact ⟨k+1,true,ys,F,by omega,rfl,rfl,by go_num,bj,hv,hF,hb⟩
         ·omega
       | false=>
        obtain rfl:xs=ys:=bd.out.eq.symm;by_cases hr3:r<=3
        ·have i4:(r:Int)<=3:=by omega
         have bb:=eAb wr xs (r:Int) (k:Int) _ (bB hv) HI.out.2 (by omega);have bf:=pA6 (fun (ys:List mA) (h:eE xs (r:Int) (k:Int)=(ys,true))=>bd.out.yes hr3 h);have bp:=pA6 (fun (h:(eE xs (r:Int) (k:Int)).2=false)=>bd.out.no hr3 h);have bm:=pA6 (fun (h:(eE xs (r:Int) (k:Int)).2=false)=>ER h);obtain ⟨P,hP⟩:=pA7 (eE xs (r:Int) (k:Int));rw [<-hP] at bb bf bp bm;obtain ⟨y,b⟩:=P;have bz:=hb.size;clear hP hr3;go_wp2_with fail;refine bb.mono ?_;rintro e5 w5 ⟨u5,rfl,⟨v5,rfl,⟨F5,o5,f5⟩⟩,bx⟩;have bg:=hb.then bx;have bq:=f5.mono bz;clear bb hv
         cases b with
         | true=>
          have bc:=pA6 (bf.out y rfl);go_wp2
          go_roundg (5-(r+1))
          ·exact ⟨r+1,true,y,F5,by omega,by omega,rfl,rfl,by go_num,bc,o5,bq,bg⟩
          ·omega
         | false=>
          have bc:=pA6 (bp.out rfl);have bk:=bm.out rfl;injection bk with bk _;subst bk;go_wp2
          go_roundg (5-(r+1))
          ·exact ⟨r+1,false,_,F5,by omega,by omega,rfl,rfl,by go_num,bc,o5,bq,bg⟩
          ·omega
        ·obtain rfl:r=4:=by omega
         have bj:=pA6 (XK.no HA.out bn.out bd.out);clear hr3;go_wp2
         go_roundg (n-(k+1)+1)
         ·exact ⟨k+1,false,xs,F,by omega,rfl,rfl,by go_num,bj,hv,hF,hb⟩
         ·omega
     ·have i3:¬(k:Int)<(n:Int):=by omega
      have HR:=pA6 (show xs=Y by rw [<-HI.out.1,show 60-j=60-(j+1)+1 by omega];exact (iA8 HA.out (by rw [<-L.out];omega)).symm);clear hk2;go_wp2;go_ret;exact ⟨_,rfl,⟨F,by rw [<-HR.out];exact hv,hF⟩,hb⟩
  ·obtain rfl:j=60:=by omega
   have HR:=pA6 (show xs=Y from HI.out.1);clear hj60;go_wp2;go_ret;exact ⟨_,rfl,⟨F,by rw [<-HR.out];exact hv,hF⟩,hb⟩
end Go.Proofs.YtpihighajaeabaaGreat
