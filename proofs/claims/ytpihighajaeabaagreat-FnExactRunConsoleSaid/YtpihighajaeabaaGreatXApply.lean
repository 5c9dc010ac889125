/- A rule of rewriting that is applied: what is computed, and the reference. -/
import Derived.Test.YtpihighajaeabaaGreatXOnly
import Derived.Test.YtpihighajaeabaaGreatXCodes
import Derived.Test.YtpihighajaeabaaGreatXDelW
import Derived.Test.YtpihighajaeabaaGreatXIntss
namespace Go.Proofs.YtpihighajaeabaaGreat
open Go.RowKit Go.Proofs.Tryz
set_option linter.all false
set_option maxRecDepth 100000
set_option maxHeartbeats 16000000
def CD (r:Int):XT->Option (List mA)
 | .dual (.dual s)=>if r=1 then some (NA s) else none
 | .dual (.two op a b)=>if r=2 then some (NA a++(⟨3,KA⟩::(NA b++[⟨3,KA⟩,⟨op,KA⟩]))) else none
 | .two op a b=>if r=3/\NA a=NA b then some (NA a) else none
 | _=>none
def KN (pre post:List mA) (o:Option (List mA)) (w:World) (e:Ending) (w':World):Prop:=∃v b,e=.returned (.tuple #[v,.bool b])/\Bw w w'/\match o with
 | some x=>b=decide ((pre++(x++post)).length<=9)/\Rd OA w' (pre++(x++post)) [v]
 | none=>b=false
theorem nAh {t:XT} {e pre post:List mA} {m:Nat} (he:e=pre++(NA t++post)) (hm:m+1=pre.length+(NA t).length):∃x,e[m]? = some x/\x.op=xG t:=by
 obtain ⟨x,hx,hxo⟩:=jAm t;have hp:=bD t;refine ⟨x,?_,hxo⟩;rw [he,List.getElem?_append_right (by omega),List.getElem?_append_left (by omega),show m-pre.length=(NA t).length-1 by omega];exact hx
theorem yJ {w:World} {t:XT} {e pre post:List mA} {ba oa n m c:Nat} (h:Rd OA w e [.slice (some ⟨ba,oa,none⟩) n c]) (he:e=pre++(NA t++post)) (hm:m+1=pre.length+(NA t).length):w.cell? ⟨ba,oa+m*6,none⟩=some (.int .i64 (xG t)):=by
 obtain ⟨x,hx,hxo⟩:=nAh he hm;obtain ⟨b,o,Al,cl,Ap,cp,e1,_,c0,_⟩:=mE h hx;injection e1 with e1;injection e1 with e1 e2;subst e1 e2;rw [<-hxo];exact c0
theorem qJ (s:XT) (post:List mA):NA (.dual s)++post=NA s++(⟨3,KA⟩::post):=by simp [NA]
theorem PD (s:XT):(NA (.dual s)).length=(NA s).length+1:=by simp [NA]
theorem BO {t:XT} (h:okT t) (hd:¬ ∃s,t=.dual s):xG t≠3:=by
 cases t with
 | base w=>simp [xG]
 | dual s=>exact absurd ⟨s,rfl⟩ hd
 | two op a b=>have:=h.1;unfold jG at this;simp only [xG];omega
theorem fU {s:XT} (hd:¬ ∃s',s=.dual s'):CD 1 (.dual s)=none:=by
 cases s with
 | base w=>rfl
 | dual s=>exact absurd ⟨s,rfl⟩ hd
 | two op a b=>simp [CD]
theorem SW {t:XT} (hd:¬ ∃s,t=.dual s):CD 1 t=none:=by
 cases t with
 | base w=>rfl
 | dual s=>exact absurd ⟨s,rfl⟩ hd
 | two op a b=>simp [CD]
theorem jAn (w:World) (t:XT) (e pre post:List mA) (ba oa n m c:Nat) (h:Rd OA w e [.slice (some ⟨ba,oa,none⟩) n c]) (hL:Hid (n=e.length)) (he:e=pre++(NA t++post)) (hok:okT t) (h9:e.length<=9) (ht:sB e<=1000) (hm:m+1=pre.length+(NA t).length) (hc:n<=c) (hc2:c<=9223372036854775807) :
  Calls prog 292 #[.slice (some ⟨ba,oa,none⟩) n c,.int .i64 1,.int .i64 (m:Int)] w (KN pre post (CD 1 t) w):=by
 have bm:e.length=pre.length+(NA t).length+post.length:=by rw [he];simp;omega
 have bp:=hL.out;have c0:=yJ h he hm;have i1:(0:Int)<=(m:Int):=by omega
 have i2:(m:Int)<(n:Int):=by omega
 by_cases hd:∃s,t=.dual s
 ·obtain ⟨s,rfl⟩:=hd;rw [show xG (.dual s)=3 from rfl] at c0;have bx:=PD s;have bz:=bD s;have bc:e=pre++(NA s++(⟨3,KA⟩::post)):=by rw [he,qJ]
  have bd:m-1+1=pre.length+(NA s).length:=by omega
  have c1:=yJ (m:=m-1) h bc bd;obtain ⟨q,hq⟩:∃q,m=q+1:=⟨m-1,by omega⟩;rw [show m-1=q by omega] at c1 bd;have bj:(m:Int)-1=(q:Int):=by omega
  have i3:(0:Int)<=(q:Int):=by omega
  have i4:(q:Int)<(n:Int):=by omega
  have bs:=pA6 bj;by_cases hd2:∃s',s=.dual s'
  ·obtain ⟨s',rfl⟩:=hd2;rw [show xG (.dual s')=3 from rfl] at c1;have bn:=PD s';have bq:=bD s';have HR:=pA6 (show CD 1 (.dual (.dual s'))=some (NA s') by simp [CD]);rw [HR.out];have bk:e=pre++(NA s'++(⟨3,KA⟩::⟨3,KA⟩::post)):=by rw [bc,qJ]
   obtain ⟨p,hp⟩:=pA7 pre.length;have cb:e.take (m+1)=pre++NA (.dual (.dual s')):=by rw [hm,he];exact xF _ _ _
   have st:=AO w e pre (.dual (.dual s')) m _ h hok (by omega) h9 cb;have r1:OA w (lt w) (NA s') [.slice (some ⟨ba,oa+p*6,none⟩) (q-p) (c-p)]:=RF (i:=p) (k:=q) h hL.out bk hp (by omega);rw [<-hp] at st;have cc:sB (NA s')<=1000:=by rw [bk,sC,sC] at ht;omega
   have bb:=fun W (B:Bw w W)=>JN W (.dual (.dual s')) e pre post (NA s') ba oa n m c _ (h.bw jA B) (Rd.bw jA r1 B) hL he hok h9 ht cc (by omega) hm hc hc2
   have bg:=pA6 bb;have bf:=pA6 (show decide ((pre++(NA s'++post)).length<=9)=true by
    apply decide_eq_true;simp only [List.length_append];omega)
   have k1:(0:Int)<=(p:Int):=by omega
   have k2:(p:Int)<=(q:Int):=by omega
   have k3:(q:Int)<=(c:Int):=by omega
   have k4:¬c<=p:=by omega
   have k5:¬c=p:=by omega
   subst hq;have cd:((q+1:Nat):Int)=(q:Int)+1:=by omega
   clear he bc bk hm bd hok ht cc cb hp r1 bm bp bx bz bn bq bj bb h9 bs;go_enter func292,ntmps292;go_wp2_with fail;refine (st).mono ?_;rintro e w1 ⟨rfl,bt⟩;have bv:=bg.out w1 bt;clear st;go_wp2_with fail;refine bv.mono ?_;rintro e3 w3 ⟨v3,rfl,⟨F3,o3,f3⟩,cf⟩;clear bv;go_wp2;refine bodyPost_ret (v:=.tuple #[v3,.bool true]) (by simp [results,results292,go_sem]) rfl ?_;exact ⟨v3,true,rfl,bt.then cf,bf.out.symm,bB o3⟩
  ·have HR:=pA6 (fU hd2);rw [HR.out];have e1:(xG s==3)=false:=by simpa using BO (t:=s) hok hd2
   obtain ⟨O,hO⟩:=pA7 (xG s);rw [<-hO] at c1 e1;subst hq;have cd:((q+1:Nat):Int)=(q:Int)+1:=by omega
   clear he bc hm bd hok ht bm bp bx bz bj h9 bs hO hd2 h;go_enter func292,ntmps292;go_wp2;refine bodyPost_ret (v:=.tuple #[.slice (some ⟨ba,oa,none⟩) n c,.bool false]) (by simp [results,results292,go_sem]) rfl ?_;exact ⟨_,_,rfl,Bw.refl _,rfl⟩
 ·have HR:=pA6 (SW hd);rw [HR.out];have e1:(xG t==3)=false:=by simpa using BO (t:=t) hok hd
  obtain ⟨O,hO⟩:=pA7 (xG t);rw [<-hO] at c0 e1;clear he hm hok ht bm bp h9 hO hd h;go_enter func292,ntmps292;go_wp2;refine bodyPost_ret (v:=.tuple #[.slice (some ⟨ba,oa,none⟩) n c,.bool false]) (by simp [results,results292,go_sem]) rfl ?_;exact ⟨_,_,rfl,Bw.refl _,rfl⟩
theorem TW (w:World) (n:Int):LJ w ⟨n,KA⟩ [.int .i64 n,.int .i64 0,.int .i64 0,.int .i64 0,.slice none 0 0,.slice none 0 0] []:=⟨_,rfl,_,_,[],[],rfl,XB _,XB _,rfl⟩
theorem eA6 (w:World) (a b:Int):mC (w.alloc (.cells #[.int .i64 a,.int .i64 0,.int .i64 0,.int .i64 0,.slice none 0 0,.slice none 0 0,.int .i64 b,.int .i64 0,.int .i64 0,.int .i64 0,.slice none 0 0,.slice none 0 0] 111)) [⟨a,KA⟩,⟨b,KA⟩] [.slice (some ⟨w.heap.size,0,none⟩) 2 2] [w.heap.size]:=by
 refine ⟨_,[[.int .i64 a,.int .i64 0,.int .i64 0,.int .i64 0,.slice none 0 0,.slice none 0 0],[.int .i64 b,.int .i64 0,.int .i64 0,.int .i64 0,.slice none 0 0,.slice none 0 0]],[[],[]],rfl,?_,⟨⟨TW _ _,rfl⟩,⟨TW _ _,rfl⟩,trivial⟩,by simp [Value.ownBlock]⟩;exact World.ownsRow_lit w #[.int .i64 a,.int .i64 0,.int .i64 0,.int .i64 0,.slice none 0 0,.slice none 0 0,.int .i64 b,.int .i64 0,.int .i64 0,.int .i64 0,.slice none 0 0,.slice none 0 0] 2 (Nat.zero_le _) (by simp [maxLen]) rfl
theorem VW (op:Int) (a b:XT):CD 2 (.dual (.two op a b))=some (NA a++(⟨3,KA⟩::(NA b++[⟨3,KA⟩,⟨op,KA⟩]))):=by simp [CD]
theorem gU {s:XT} (hd:¬ ∃op a b,s=.two op a b):CD 2 (.dual s)=none:=by
 cases s with
 | base w=>rfl
 | dual s=>simp [CD]
 | two op a b=>exact absurd ⟨op,a,b,rfl⟩ hd
theorem WW {t:XT} (hd:¬ ∃s,t=.dual s):CD 2 t=none:=by
 cases t with
 | base w=>rfl
 | dual s=>exact absurd ⟨s,rfl⟩ hd
 | two op a b=>simp [CD]
theorem bA3 (n:Int):sB [⟨n,KA⟩]<=10:=by simp [sB,JH,dL,UU,KA]
theorem jAo (w:World) (t:XT) (e pre post:List mA) (ba oa n m c:Nat) (h:Rd OA w e [.slice (some ⟨ba,oa,none⟩) n c]) (hL:Hid (n=e.length)) (he:e=pre++(NA t++post)) (hok:okT t) (h9:e.length<=9) (ht:sB e<=900) (hm:m+1=pre.length+(NA t).length) (hc:n<=c) (hc2:c<=9223372036854775807) :
  Calls prog 292 #[.slice (some ⟨ba,oa,none⟩) n c,.int .i64 2,.int .i64 (m:Int)] w (KN pre post (CD 2 t) w):=by
 obtain ⟨i0,hi,cg,cj,ck⟩:=info_parts tH;have cc:e.length=pre.length+(NA t).length+post.length:=by rw [he];simp;omega
 have cd:=hL.out;have c0:=yJ h he hm;have i1:(0:Int)<=(m:Int):=by omega
 have i2:(m:Int)<(n:Int):=by omega
 by_cases hd:∃s,t=.dual s
 ·obtain ⟨s,rfl⟩:=hd;rw [show xG (.dual s)=3 from rfl] at c0;have ct:=PD s;have cv:=bD s;have bg:e=pre++(NA s++(⟨3,KA⟩::post)):=by rw [he,qJ]
  have bj:m-1+1=pre.length+(NA s).length:=by omega
  have c1:=yJ (m:=m-1) h bg bj;obtain ⟨q,hq⟩:∃q,m=q+1:=⟨m-1,by omega⟩;rw [show m-1=q by omega] at c1 bj;have i3:(0:Int)<=(q:Int):=by omega
  have i4:(q:Int)<(n:Int):=by omega
  by_cases hd2:∃op a b,s=.two op a b
  ·obtain ⟨op,a,b,rfl⟩:=hd2;rw [show xG (.two op a b)=op from rfl] at c1;have bp:jG op:=hok.1;have e1:(op != 0)=true:=by unfold jG at bp;simp;omega
   have e2:(op != 3)=true:=by unfold jG at bp;simp;omega
   have hbo : -100<=op/\op<=100:=by unfold jG at bp;omega
   have dx:=RD op a b;have HR:=pA6 (VW op a b);rw [HR.out];have bc:=QW w op a b e pre (⟨3,KA⟩::post) ba oa n q c h hL bg hok h9 bj hc hc2;obtain ⟨X,hX⟩:=pA7 (NA a++(⟨3,KA⟩::(NA b++[⟨3,KA⟩,⟨op,KA⟩])));have dp:X.length=(NA a).length+(NA b).length+3:=by rw [hX];simp;omega
   have bn:sB X<=1000:=by
    have e3:X=NA a++([⟨3,KA⟩]++(NA b++([⟨3,KA⟩]++[⟨op,KA⟩]))):=by rw [hX];rfl
    have e4:NA (.two op a b)=NA a++(NA b++[⟨op,KA⟩]):=rfl;rw [bg,sC,sC,e4,sC,sC] at ht;rw [e3,sC,sC,sC,sC];have:=bA3 3;omega
   have dc:=pA6 (show X=NA a++[⟨3,KA⟩]++NA b++[⟨3,KA⟩,⟨op,KA⟩] by rw [hX];simp);have bk:=fun W (B:Bw w W) vx (hx:Rd OA W X [vx])=>JN W (.dual (.two op a b)) e pre post X ba oa n m c vx (h.bw jA B) hx hL he hok h9 (by omega) bn (by omega) hm hc hc2
   have bs:=pA6 bk;have bf:=pA6 (show (NA a).length<=9/\(NA b).length<=9 by omega);have db:=pA6 (show (pre++(X++post)).length=n+1+0\/True from .inr trivial);rw [<-hX];subst hq;have dd:((q+1:Nat):Int)=(q:Int)+1:=by omega
   clear he bg hm bj hok ht cc cd ct cv h9 bk dx hX dp bn bp h db;go_enter func292,ntmps292;go_wp2_with fail;refine bc.mono ?_;rintro e3 w1 ⟨va,vb,F,G,z,rfl,cm,cn,fA,cx,fB,hz,bx⟩;have c1':=bx.cell c1;have bt:=(Bw.refl w1).alloc (.cells #[.int .i64 3,.int .i64 0,.int .i64 0,.int .i64 0,.slice none 0 0,.slice none 0 0] 111);have oA:=nA bt kA cm;have oB:=nA bt kA cn;have ds:=bx.then bt;have dk:=(kA (B:=0)).lt cm;have dm:=(kA (B:=0)).lt cn;have dv:∀j t,[Value.int .i64 3,.int .i64 0,.int .i64 0,.int .i64 0,.slice none 0 0,.slice none 0 0][j]? = some t->(w1.alloc (.cells #[.int .i64 3,.int .i64 0,.int .i64 0,.int .i64 0,.slice none 0 0,.slice none 0 0] 111)).cell? ((⟨w1.heap.size,0,none⟩:Addr).add j)=some t:=World.news_of_block (cs:=#[.int .i64 3,.int .i64 0,.int .i64 0,.int .i64 0,.slice none 0 0,.slice none 0 0]) (t:=111) (fr:=(0,0)) (heap_alloc_new w1 _);have dt:=bx.size;have cq:∀y∈F,y∉G:=fun y hy hy2=>by have:=cx y hy;have:=fB.ge y hy2;omega
   have df:sA w.heap.size G:=fB.mono hz;clear bc cm cn fB cx hz;go_wp2_with (first
    | (at_builtin;refine iC _ rfl (.tmp 76) (.tmp 78) 25 rfl w 111 i0 _ 6 80 underlying25 hi cg cj ck rfl (by omega) vC va (NA a) F (by rfl) oA fA ⟨w1.heap.size,0,none⟩ 1 (by rfl) ⟨3,KA⟩ [.int .i64 3,.int .i64 0,.int .i64 0,.int .i64 0,.slice none 0 0,.slice none 0 0] [] dv (TW _ _) rfl w1.heap.size dk sA.nil dt (by have:=bf.out;omega) (by have:=bf.out;omega) ds ?_;intro v2 w2 F2 o2 f2 B2 dn dz;have ff:=dn.keeps kA oB (fun y hy hy2=>cq y hy2 hy);have bv:∀y∈F2,y∉G:=fun y hy hy2=>(dz y hy).elim (fun h=>cq y h hy2) (fun h=>h.elim (fun h=>by simp at h) (fun h=>by (have:=dm y hy2;simp at h;omega)));have hL2:(NA a++[(⟨3,KA⟩:mA)]).length<=10:=(by (rw [List.length_append];have:=bf.out;simp;omega)))
    | (at_builtin;refine OK _ rfl (.tmp 80) (.tmp 81) 25 rfl w 111 i0 _ 6 80 underlying25 hi cg cj ck rfl (by omega) vC v2 (NA a++[⟨3,KA⟩]) F2 (by rfl) o2 f2 vb (by rfl) (NA b) G ff bv df (by have:=bf.out;omega) (by have:=bf.out;omega) B2 ?_;intro v3 w3 F3 o3 f3 B3 hO3 hs3;have c3:=B3.cell c1;have cp:=(Bw.refl w3).alloc (.cells #[.int .i64 3,.int .i64 0,.int .i64 0,.int .i64 0,.slice none 0 0,.slice none 0 0,.int .i64 op,.int .i64 0,.int .i64 0,.int .i64 0,.slice none 0 0,.slice none 0 0] 111);have fd:=nA cp kA o3;have fc:=(kA (B:=0)).lt o3;have cz:=B3.then cp;have cb:∀y∈F3,y∉[w3.heap.size]:=(fun y hy hy2=>by (have:=fc y hy;simp at hy2;omega));have dj:sA w.heap.size [w3.heap.size]:=⟨by simp,fun y hy=>by (rw [List.mem_singleton.1 hy];exact B3.size)⟩;have hL3:(NA a++[(⟨3,KA⟩:mA)]++NA b).length<=20:=(by (rw [List.length_append];have:=bf.out;omega));have cf:=eA6 w3 3 op)
    | (at_builtin;refine OK _ rfl (.tmp 83) (.tmp 92) 25 rfl w 111 i0 _ 6 80 underlying25 hi cg cj ck rfl (by omega) vC v3 (NA a++[⟨3,KA⟩]++NA b) F3 (by rfl) fd f3 _ (by rfl) [⟨3,KA⟩,⟨op,KA⟩] [w3.heap.size] cf cb dj (by simp only [List.length_cons,List.length_nil];omega) (by simp only [List.length_cons,List.length_nil];omega) cz ?_;intro v4 w4 F4 o4 f4 B4 hO4 hs4;rw [<-dc.out] at o4;have bz:=bs.out w4 B4 v4 (bB o4)))
   refine bz.mono ?_;rintro e5 w5 ⟨v5,rfl,⟨F5,o5,f5⟩,dq⟩;have r5:=bB o5;obtain ⟨A5,n5,c5,rfl,bq,_⟩:=qA r5;have B5:=B4.then dq;by_cases h9':n5<=9
   ·have bb:decide ((pre++(X++post)).length<=9)=true:=decide_eq_true (by rw [<-bq];exact h9');have bd:=pA6 bb;have i9:(n5:Int)<=9:=by omega
    clear bz o5 f5 bq bb h9';go_wp2;refine bodyPost_ret (v:=.tuple #[.slice A5 n5 c5,.bool true]) (by simp [results,results292,go_sem]) rfl ?_;exact ⟨_,true,rfl,B5,bd.out.symm,r5⟩
   ·have bb:decide ((pre++(X++post)).length<=9)=false:=decide_eq_false (by rw [<-bq];exact h9');have bd:=pA6 bb;have i9:¬(n5:Int)<=9:=by omega
    have fb:(9:Int)<(n5:Int):=by omega
    clear bz o5 f5 bq bb h9';go_wp2;refine bodyPost_ret (v:=.tuple #[.slice A5 n5 c5,.bool false]) (by simp [results,results292,go_sem,fb]) rfl ?_;exact ⟨_,false,rfl,B5,bd.out.symm,r5⟩
  ·have HR:=pA6 (gU hd2);rw [HR.out];subst hq;have dd:((q+1:Nat):Int)=(q:Int)+1:=by omega
   have bm:xG s=0\/xG s=3:=by
    cases s with
    | base w=>exact .inl rfl
    | dual s=>exact .inr rfl
    | two op a b=>exact absurd ⟨op,a,b,rfl⟩ hd2
   rcases bm with bm | bm
   all_goals
    rw [bm] at c1;clear he bg hm bj hok ht cc cd ct cv h9 hd2 h bm;go_enter func292,ntmps292;go_wp2;refine bodyPost_ret (v:=.tuple #[.slice (some ⟨ba,oa,none⟩) n c,.bool false]) (by simp [results,results292,go_sem]) rfl ?_;exact ⟨_,_,rfl,Bw.refl _,rfl⟩
 ·have HR:=pA6 (WW hd);rw [HR.out];have e1:(xG t==3)=false:=by simpa using BO (t:=t) hok hd
  obtain ⟨O,hO⟩:=pA7 (xG t);rw [<-hO] at c0 e1;clear he hm hok ht cc cd h9 hO hd h;go_enter func292,ntmps292;go_wp2;refine bodyPost_ret (v:=.tuple #[.slice (some ⟨ba,oa,none⟩) n c,.bool false]) (by simp [results,results292,go_sem]) rfl ?_;exact ⟨_,_,rfl,Bw.refl _,rfl⟩
theorem XW {op:Int} {a b:XT} (h:NA a=NA b):CD 3 (.two op a b)=some (NA a):=by simp [CD,h]
theorem GZ {op:Int} {a b:XT} (h:¬NA a=NA b):CD 3 (.two op a b)=none:=by simp [CD,h]
theorem YW {t:XT} (hd:¬ ∃op a b,t=.two op a b):CD 3 t=none:=by
 cases t with
 | base w=>rfl
 | dual s=>cases s<;>simp [CD]
 | two op a b=>exact absurd ⟨op,a,b,rfl⟩ hd
theorem jAp (w:World) (t:XT) (e pre post:List mA) (ba oa n m c:Nat) (h:Rd OA w e [.slice (some ⟨ba,oa,none⟩) n c]) (hL:Hid (n=e.length)) (he:e=pre++(NA t++post)) (hok:okT t) (h9:e.length<=9) (ht:sB e<=900) (hm:m+1=pre.length+(NA t).length) (hc:n<=c) (hc2:c<=9223372036854775807) :
  Calls prog 292 #[.slice (some ⟨ba,oa,none⟩) n c,.int .i64 3,.int .i64 (m:Int)] w (KN pre post (CD 3 t) w):=by
 have bs:e.length=pre.length+(NA t).length+post.length:=by rw [he];simp;omega
 have bt:=hL.out;have c0:=yJ h he hm;have i1:(0:Int)<=(m:Int):=by omega
 have i2:(m:Int)<(n:Int):=by omega
 by_cases hd:∃op a b,t=.two op a b
 ·obtain ⟨op,a,b,rfl⟩:=hd;rw [show xG (.two op a b)=op from rfl] at c0;have bv:jG op:=hok.1;have cd:=RD op a b;have bb:=QW w op a b e pre post ba oa n m c h hL he hok h9 hm hc hc2;have bx:sB (NA a)<=1000:=by
   have e4:NA (.two op a b)=NA a++(NA b++[⟨op,KA⟩]):=rfl;rw [he,sC,sC,e4,sC] at ht;omega
  have bd:=fun W (B:Bw w W) vx (hx:Rd OA W (NA a) [vx])=>JN W (.two op a b) e pre post (NA a) ba oa n m c vx (h.bw jA B) hx hL he hok h9 (by omega) bx (by omega) hm hc hc2
  have bj:=pA6 bd;have bg:=pA6 (show decide ((pre++(NA a++post)).length<=9)=true by
   apply decide_eq_true;simp only [List.length_append];omega)
  have bk:=pA6 (fun hab=>XW (op:=op) (a:=a) (b:=b) hab);have cc:=pA6 (fun hab=>GZ (op:=op) (a:=a) (b:=b) hab);obtain ⟨o,ho⟩:=pA7 (CD 3 (.two op a b));rw [<-ho];have HO:=pA6 ho;have bn:op=1\/op=2\/op=4:=bv;have k:=fun W (B:Bw w W) va vb (ha:Rd OA W (NA a) [va]) (hb:Rd OA W (NA b) [vb])=>aQ W (NA a) (NA b) va vb ha hb
  have K:=pA6 k;clear he hm hok ht bs bt h9 bd cd bx bv h ho k;rcases bn with rfl | rfl | rfl
  all_goals
   go_enter func292,ntmps292;go_wp2_with fail;refine bb.mono ?_;rintro e3 w1 ⟨va,vb,F,G,z,rfl,bz,cb,fA,cf,fB,hz,bp⟩;have ra:=bB bz;have rb:=bB cb;have bq:=bj.out w1 bp va ra;clear bb bz cb fA cf fB hz;go_wp2_with fail;refine bq.mono ?_;rintro e5 w5 ⟨v5,rfl,⟨F5,o5,f5⟩,bm⟩;have B5:=bp.then bm;have bc:=K.out w5 B5 va vb (ra.bw jA bm) (rb.bw jA bm);have r5:=bB o5;clear bq o5 f5 ra rb;by_cases hab:NA a=NA b
   ·rw [decide_eq_true hab] at bc;have HE:=pA6 (show o=some (NA a) by rw [HO.out];exact bk.out hab);clear hab;go_wp2_with fail;refine bc.mono ?_;rintro e6 w6 ⟨rfl,bf⟩;have r6:=r5.bw jA bf;clear bc r5;go_wp2;refine bodyPost_ret (v:=.tuple #[v5,.bool true]) (by simp [results,results292,go_sem]) rfl ?_;rw [HE.out];exact ⟨_,true,rfl,B5.then bf,bg.out.symm,r6⟩
   ·rw [decide_eq_false hab] at bc;have HE:=pA6 (show o=none by rw [HO.out];exact cc.out hab);clear hab;go_wp2_with fail;refine bc.mono ?_;rintro e6 w6 ⟨rfl,bf⟩;clear bc r5;go_wp2;refine bodyPost_ret (v:=.tuple #[v5,.bool false]) (by simp [results,results292,go_sem]) rfl ?_;rw [HE.out];exact ⟨_,false,rfl,B5.then bf,rfl⟩
 ·have HR:=pA6 (YW hd);rw [HR.out];have ho:xG t=0\/xG t=3:=by
   cases t with
   | base w=>exact .inl rfl
   | dual s=>exact .inr rfl
   | two op a b=>exact absurd ⟨op,a,b,rfl⟩ hd
  rcases ho with ho | ho
  all_goals
   rw [ho] at c0;clear he hm hok ht bs bt h9 hd h ho;go_enter func292,ntmps292;go_wp2;refine bodyPost_ret (v:=.tuple #[.slice (some ⟨ba,oa,none⟩) n c,.bool false]) (by simp [results,results292,go_sem]) rfl ?_;exact ⟨_,_,rfl,Bw.refl _,rfl⟩
structure ZW (T:List mA->Prop) (e:List mA) (m:Nat) (q:List mA×XT×List mA):Prop where
 eq:e=q.1++(NA q.2.1++q.2.2)
 ok:okT q.2.1
 at':m+1=q.1.length+(NA q.2.1).length
 put:∀t',okT t'->T (q.1++(NA t'++q.2.2))
def aX (e:List mA):Prop:=∃t,okT t/\e=NA t
theorem zM:∀ {u:XT},okT u->∀ {m:Nat},m<(NA u).length->∃q,ZW aX (NA u) m q
 | .base w,h,m,hm=>⟨([],.base w,[]),⟨by simp,h,by simp [NA] at hm ⊢;omega,fun t' ht=>⟨t',ht,by simp⟩⟩⟩
 | .dual s,h,m,hm=>by
  by_cases hs:m<(NA s).length
  ·obtain ⟨⟨pre,t,post⟩,h1,h2,h3,h4⟩:=zM (u:=s) h hs;refine ⟨(pre,t,post++[⟨3,KA⟩]),⟨?_,h2,h3,fun t' ht=>?_⟩⟩
   ·show NA s++_=_
    rw [h1];simp
   ·obtain ⟨u',hu,he⟩:=h4 t' ht;refine ⟨.dual u',hu,?_⟩;show _=NA u'++_
    rw [<-he];simp
  ·exact ⟨([],.dual s,[]),⟨by simp,h,by have:=PD s;dsimp only;simp only [List.length_nil];omega,fun t' ht=>⟨t',ht,by simp⟩⟩⟩
 | .two op a b,h,m,hm=>by
  have hl:=RD op a b;by_cases ha:m<(NA a).length
  ·obtain ⟨⟨pre,t,post⟩,h1,h2,h3,h4⟩:=zM (u:=a) h.2.1 ha;refine ⟨(pre,t,post++(NA b++[⟨op,KA⟩])),⟨?_,h2,h3,fun t' ht=>?_⟩⟩
   ·show NA a++_=_
    rw [h1];simp
   ·obtain ⟨u',hu,he⟩:=h4 t' ht;refine ⟨.two op u' b,⟨h.1,hu,h.2.2⟩,?_⟩;show _=NA u'++_
    rw [<-he];simp
  ·by_cases hb:m<(NA a).length+(NA b).length
   ·obtain ⟨⟨pre,t,post⟩,h1,h2,h3,h4⟩:=zM (u:=b) h.2.2 (m:=m-(NA a).length) (by omega);refine ⟨(NA a++pre,t,post++[⟨op,KA⟩]),⟨?_,h2,by dsimp only at h3 ⊢;rw [List.length_append];omega,fun t' ht=>?_⟩⟩
    ·show NA a++(NA b++_)=_
     rw [h1];simp
    ·obtain ⟨u',hu,he⟩:=h4 t' ht;refine ⟨.two op a u',⟨h.1,h.2.1,hu⟩,?_⟩;show _=NA a++(NA u'++_)
     rw [<-he];simp
   ·exact ⟨([],.two op a b,[]),⟨by simp,h,by dsimp only;simp only [List.length_nil];omega,fun t' ht=>⟨t',ht,by simp⟩⟩⟩
theorem gAl {e:List mA} (h:pB e=true) {m:Nat} (hm:m<e.length):∃q,ZW aX e m q:=by
 obtain ⟨t,ht,rfl⟩:=iA6 h;exact zM ht hm
theorem gAm {r:Int} {t:XT} {x:List mA} (h:CD r t=some x) (hok:okT t):∃t',okT t'/\x=NA t':=by
 cases t with
 | base w=>cases h
 | two op a b=>
  simp only [CD] at h
  split at h
  ·injection h with h;exact ⟨a,hok.2.1,h.symm⟩
  ·cases h
 | dual s=>
  cases s with
  | base w=>cases h
  | dual s=>
   simp only [CD] at h
   split at h
   ·injection h with h;exact ⟨s,hok,h.symm⟩
   ·cases h
  | two op a b=>
   simp only [CD] at h
   split at h
   ·injection h with h;exact ⟨.two op (.dual a) (.dual b),⟨hok.1,hok.2.1,hok.2.2⟩,by rw [<-h];simp [NA]⟩
   ·cases h
def qY (q:List mA×XT×List mA) (r:Int) (e:List mA):List mA×Bool:=match CD r q.2.1 with
 | some x=>if (q.1++(x++q.2.2)).length<=9 then (q.1++(x++q.2.2),true) else (e,false)
 | none=>(e,false)
open Classical in
noncomputable def eE (e:List mA) (r m:Int):List mA×Bool:=
 if h:(pB e=true/\0<=m/\m<e.length)/\∃q,ZW aX e m.toNat q then qY h.2.choose r e else (e,false)
theorem rJ {e:List mA} {r m:Int} (h:¬(pB e=true/\0<=m/\m<e.length)):eE e r m=(e,false):=by unfold eE;rw [dif_neg (fun k=>h k.1)]
theorem AM {e:List mA} {r:Int} {m:Nat} (h:pB e=true) (hm:m<e.length):∃q,ZW aX e m q/\eE e r m=qY q r e:=by
 have hh:(pB e=true/\0<=(m:Int)/\(m:Int)<e.length)/\∃q,ZW aX e (m:Int).toNat q:=⟨⟨h,by omega,by omega⟩,gAl h hm⟩;refine ⟨hh.2.choose,hh.2.choose_spec,?_⟩;unfold eE;rw [dif_pos hh]
theorem NN {e y:List mA} {r m:Int} (h:eE e r m=(y,true)):pB y=true:=by
 by_cases hc:pB e=true/\0<=m/\m<e.length
 ·obtain ⟨k,rfl⟩:∃k:Nat,m=k:=⟨m.toNat,by omega⟩;obtain ⟨q,hq,hr⟩:=AM (r:=r) hc.1 (m:=k) (by omega);rw [hr] at h;unfold qY at h
  cases hx:CD r q.2.1 with
  | none=>rw [hx] at h;cases h
  | some x=>
   rw [hx] at h;dsimp only at h
   split at h
   ·rename_i hl
    injection h with h _;obtain ⟨t',bb,rfl⟩:=gAm hx hq.ok;obtain ⟨u,hu,he⟩:=hq.put t' bb;rw [<-h,he];exact dU hu (by rw [<-he];exact hl)
   ·cases h
 ·rw [rJ hc] at h;cases h
theorem ER {e:List mA} {r m:Int} (h:(eE e r m).2=false):eE e r m=(e,false):=by
 by_cases hc:pB e=true/\0<=m/\m<e.length
 ·obtain ⟨k,rfl⟩:∃k:Nat,m=k:=⟨m.toNat,by omega⟩;obtain ⟨q,hq,hr⟩:=AM (r:=r) hc.1 (m:=k) (by omega);rw [hr] at h ⊢;unfold qY at h ⊢
  cases hx:CD r q.2.1 with
  | none=>rfl
  | some x=>
   rw [hx] at h;dsimp only at h ⊢
   split at h
   ·cases h
   ·rename_i hl;rw [if_neg hl]
 ·exact rJ hc
theorem DO {e:List mA} (h:pB e=true):e.length<=9:=by
 unfold pB at h;rw [Bool.and_eq_true,decide_eq_true_eq,decide_eq_true_eq] at h;exact h.2
theorem eA7 {e:List mA} (h:pB e=true):0<e.length:=by
 obtain ⟨t,_,rfl⟩:=iA6 h;exact bD t
theorem IZ {w:World} {e:List mA} {v:Value} (h:Rd OA w e [v]) (hn:0<e.length):∃b o n c,v=.slice (some ⟨b,o,none⟩) n c/\Hid (n=e.length)/\n<=c/\c<=9223372036854775807:=by
 obtain ⟨A,n,c,rfl,hl,hc,hm⟩:=qA h;unfold maxLen at hm;obtain ⟨x,hx⟩:=tA (xs:=e) (k:=0) hn;obtain ⟨b,o,_,_,_,_,rfl,_⟩:=mE h hx;exact ⟨b,o,n,c,rfl,pA6 hl,hc,hm⟩
def lAs (e:List mA) (r m:Int) (w:World) (e':Ending) (w':World):Prop:=∃v b,e'=.returned (.tuple #[v,.bool b])/\Bw w w'/\b=(eE e r m).2/\(b=true->Rd OA w' (eE e r m).1 [v])
theorem KN.a {e:List mA} {r:Int} {m:Nat} {q:List mA×XT×List mA} {w:World} {e':Ending} {w':World} (hr:eE e r m=qY q r e) (h:KN q.1 q.2.2 (CD r q.2.1) w e' w'):lAs e r m w e' w':=by
 obtain ⟨v,b,he,hb,hx⟩:=h;refine ⟨v,b,he,hb,?_⟩;rw [hr];unfold qY
 cases ho:CD r q.2.1 with
 | none=>
  rw [ho] at hx;dsimp only at hx ⊢;exact ⟨hx,fun h=>by rw [hx] at h;cases h⟩
 | some x=>
  rw [ho] at hx;dsimp only at hx ⊢;by_cases hl:(q.1++(x++q.2.2)).length<=9
  ·rw [if_pos hl];exact ⟨by rw [hx.1];exact decide_eq_true hl,fun _=>hx.2⟩
  ·rw [if_neg hl];exact ⟨by rw [hx.1];exact decide_eq_false hl,fun h=>by rw [hx.1,decide_eq_false hl] at h;cases h⟩
theorem jAq (w:World) (e:List mA) (r:Int) (m ba oa n c:Nat) (h:Rd OA w e [.slice (some ⟨ba,oa,none⟩) n c]) (hL:Hid (n=e.length)) (hE:pB e=true) (hm:m<e.length) (hr:r=1\/r=2\/r=3) (hc:n<=c) (hc2:c<=9223372036854775807) :
  Calls prog 292 #[.slice (some ⟨ba,oa,none⟩) n c,.int .i64 r,.int .i64 (m:Int)] w (lAs e r m w):=by
 obtain ⟨q,hq,he⟩:=AM (r:=r) hE hm;have ht:=wF hE;have h9:=DO hE;rcases hr with rfl | rfl | rfl
 ·exact (jAn w q.2.1 e q.1 q.2.2 ba oa n m c h hL hq.eq hq.ok h9 (by omega) hq.at' hc hc2).mono fun _ _ k=>k.a he
 ·exact (jAo w q.2.1 e q.1 q.2.2 ba oa n m c h hL hq.eq hq.ok h9 (by omega) hq.at' hc hc2).mono fun _ _ k=>k.a he
 ·exact (jAp w q.2.1 e q.1 q.2.2 ba oa n m c h hL hq.eq hq.ok h9 (by omega) hq.at' hc hc2).mono fun _ _ k=>k.a he
theorem eA8 (w:World) (e:List mA) (r m:Int) (v:Value) (h:Rd OA w e [v]) (ht:sB e<=1048576) (hr:r=1\/r=2\/r=3) :
  Calls prog 291 #[v,.int .i64 r,.int .i64 m] w (WB w (Two mC w.heap.size (eE e r m).1 (.bool (eE e r m).2))):=by
 have k1:=aH w e v h;have bj:=fun W (B:Bw w W)=>gG W e v (h.bw jA B) ht
 obtain ⟨Y,hY⟩:=pA7 (eE e r m);rw [<-hY];by_cases hE:pB e=true
 ·rw [hE] at k1;obtain ⟨ba,oa,n,c,rfl,hL,hc,cg⟩:=IZ h (eA7 hE);have bg:=fun W=>UH W m 0 ((n:Int)-1)
  have bn:=DO hE;by_cases hm:0<=m/\m<(n:Int)
  ·have e1:inB m 0 ((n:Int)-1)=true:=decide_eq_true (by omega);simp only [e1] at bg;obtain ⟨k,rfl⟩:∃k:Nat,m=k:=⟨m.toNat,by omega⟩;have bv:k<e.length:=by rw [<-hL.out];omega
   have bp:=fun W (B:Bw w W)=>jAq W e r k ba oa n c (h.bw jA B) hL hE bv hr hc cg
   have bz:=pA6 (fun (hb:Y.2=true)=>wF (NN (e:=e) (y:=Y.1) (r:=r) (m:=k) (by rw [<-hY];exact Prod.ext rfl hb)));have cb:=pA6 (fun (hb:Y.2=false)=>show Y=(e,false) by rw [hY] at hb ⊢;exact ER hb);unfold lAs at bp;rw [<-hY] at bp;have cc:=pA6 bp;have bk:=pA6 bj;obtain ⟨Y1,Y2⟩:=Y;clear bp bj hY hE h e1 bv bn hm;go_enter func291,ntmps291;go_wp2_with fail;refine (k1).mono ?_;rintro e w1 ⟨rfl,bd⟩;have bm:=bg w1;clear k1;go_wp2_with fail;refine bm.mono ?_;rintro e2 w2 ⟨rfl,bq⟩;have B2:=bd.then bq;have bx:=cc.out w2 B2;clear bm bg;go_wp2_with fail;refine bx.mono ?_;rintro e3 w3 ⟨v3,b,rfl,cd,cf,bs⟩;have B3:=B2.then cd;subst cf;clear bx
   cases b with
   | true=>
    have bb:=gG w3 Y1 v3 (bs rfl) (by have:=bz.out rfl;omega);clear bs;go_wp2_with fail;refine bb.mono ?_;rintro e4 w4 ⟨v4,rfl,⟨F4,o4,f4⟩,bf⟩;have B4:=B3.then bf;clear bb;go_wp2;refine bodyPost_ret (v:=.tuple #[v4,.bool true]) (by simp [results,results291,go_sem]) rfl ?_;exact WB.two o4 (f4.mono B3.size) rfl B4
   | false=>
    have bc:=cb.out rfl;injection bc with bc _;subst bc;have bb:=bk.out w3 B3;clear bs;go_wp2_with fail;refine bb.mono ?_;rintro e4 w4 ⟨v4,rfl,⟨F4,o4,f4⟩,bf⟩;have B4:=B3.then bf;clear bb;go_wp2;refine bodyPost_ret (v:=.tuple #[v4,.bool false]) (by simp [results,results291,go_sem]) rfl ?_;exact WB.two o4 (f4.mono B3.size) rfl B4
  ·have e1:inB m 0 ((n:Int)-1)=false:=decide_eq_false (by omega);simp only [e1] at bg;have bc:Y=(e,false):=by rw [hY];exact rJ (fun k=>hm ⟨k.2.1,by rw [hL.out];exact k.2.2⟩)
   subst bc;have bk:=pA6 bj;clear bj hY hE h e1 bn hm;go_enter func291,ntmps291;go_wp2_with fail;refine (k1).mono ?_;rintro e w1 ⟨rfl,bd⟩;have bm:=bg w1;clear k1;go_wp2_with fail;refine bm.mono ?_;rintro e2 w2 ⟨rfl,bq⟩;have B2:=bd.then bq;have bb:=bk.out w2 B2;clear bm bg;go_wp2_with fail;refine bb.mono ?_;rintro e4 w4 ⟨v4,rfl,⟨F4,o4,f4⟩,bf⟩;have B4:=B2.then bf;clear bb;go_wp2;refine bodyPost_ret (v:=.tuple #[v4,.bool false]) (by simp [results,results291,go_sem]) rfl ?_;exact WB.two o4 (f4.mono B2.size) rfl B4
 ·have bt:pB e=false:=by simpa using hE
  rw [bt] at k1;have bc:Y=(e,false):=by rw [hY];exact rJ (fun k=>hE k.1)
  subst bc;have bk:=pA6 bj;clear bj hY hE bt h;go_enter func291,ntmps291;go_wp2_with fail;refine (k1).mono ?_;rintro e w1 ⟨rfl,bd⟩;have bb:=bk.out w1 bd;clear k1;go_wp2_with fail;refine bb.mono ?_;rintro e4 w4 ⟨v4,rfl,⟨F4,o4,f4⟩,bf⟩;have B4:=bd.then bf;clear bb;go_wp2;refine bodyPost_ret (v:=.tuple #[v4,.bool false]) (by simp [results,results291,go_sem]) rfl ?_;exact WB.two o4 (f4.mono bd.size) rfl B4
end Go.Proofs.YtpihighajaeabaaGreat
