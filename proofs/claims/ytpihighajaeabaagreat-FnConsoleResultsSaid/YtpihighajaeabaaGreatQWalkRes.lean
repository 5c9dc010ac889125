/- The walk of FnConsoleResults. -/
import Derived.Test.YtpihighajaeabaaGreatQDrawB
import Derived.Test.YtpihighajaeabaaGreatQDrawW
import Derived.Test.YtpihighajaeabaaGreatQReplace
import Derived.Deep.RegionLaw
namespace Go.Proofs.YtpihighajaeabaaGreat
open Go.RowKit Go.ChangeShapes Go.WideShapes Go.ChangeAt
set_option linter.unusedVariables false
set_option linter.unusedSimpArgs false
theorem fT {α:Type} {sz:Nat} {R:Rep α} {W:World} {S:XB} (A:Option Addr) (c:Nat) (hc:c≤maxLen:=by decide):rSl sz R W S [] [.slice A 0 c]:=⟨A,c,rfl,Nat.zero_le _,hc,fun k x hx=>by simp at hx⟩
theorem mZ (w:World) (xs:List Int) (i:Nat) (j:Int) (v:Value) (h:Rd DK w xs [v]) (hx:xJ xs) (hn:xs.length≤1048576) (hi:i≤1048576) (hj:j=(i:Int)):Calls Tryz.prog 41 #[v,.int .i64 j] w (Ret w (.int .i64 (atM xs i))):=by
 subst hj;exact jAd w xs i v h hx hn hi
theorem pB {B B':Nat} (hB:B'≤B):VB B (ZJ B'):=xB (wC UB hB)
theorem eAd {w:World} {S:XB} {x:gA} {u:List Value} (h:eF w S x u):∀t∈u,t.oneCell'=true:=by
 obtain ⟨v,rfl,h⟩:=h;obtain ⟨A,c,rfl,_⟩:=aB h;intro t ht;simp at ht;rcases ht with rfl | rfl<;>rfl
theorem ZH {B:Nat} {W:World} {y:gA} {u:List Value} (h:eF W (fun b=>b<B) y u):fSh B eF W y u []:=⟨rfl,h,eAd h⟩
theorem AP {w W:World} {xs:List gA} {v:Value} (h:Rd MA w xs [v]) (hb:Bw w W):MA W (fun b=>b<w.heap.size) xs [v]:=jA.step ⟨fun b hb'=>hb',fun q hq=>Below.cell hb hq⟩ h
theorem dK {w W:World} {xs:List Int} {v:Value} (h:Rd XA w xs [v]) (hb:Bw w W):XA W (fun b=>b<w.heap.size) xs [v]:=dA.step ⟨fun b hb'=>hb',fun q hq=>Below.cell hb hq⟩ h
theorem gAn {w W:World} {l:List gA} {b o n c k:Nat} (h:Rd MA w l [.slice (some ⟨b,o,none⟩) n c]) (hb:Bw w W) (hn:n=l.length) (hk:k≤n):rSl 2 eF W (fun b=>b<w.heap.size) (l.drop k) [.slice (if c=k then some ⟨b,o,none⟩ else some ⟨b,o+k*2,none⟩) (n-k) (c-k)]:=by
 have h1:=AP h hb;have hc:=(UG h1).2;by_cases e:c=k
 ·rw [if_pos e,List.drop_of_length_le (by omega),show n-k=0 by omega,show c-k=0 by omega];exact fT _ 0
 ·rw [if_neg e];have:=ZL h1 k n hk (Nat.le_refl _) hn
  rwa [List.take_of_length_le (by rw [List.length_drop];omega)] at this
theorem nZ {w W:World} {l:List gA} {n c k:Nat} (h:Rd MA w l [.slice none n c]) (hb:Bw w W) (hn:n=l.length) (hk:k≤n):rSl 2 eF W (fun b=>b<w.heap.size) (l.drop k) [.slice none (n-k) (c-k)]:=by
 have h1:=AP h hb;have hc:=(UG h1).2;have h0:n=0:=by
  cases l with
  | nil=>exact hn
  | cons x l=>
   obtain ⟨_,_,_,_,e,_⟩:=mB (k:=0) (x:=x) h1 rfl
   cases e
 have hl:l=[]:=List.eq_nil_of_length_eq_zero (by omega);subst hl;rw [List.drop_nil,show n-k=0 by omega];exact fT _ _ (Nat.le_trans (Nat.sub_le _ _) hc.2)
def okA (A:Option Addr):Prop:=A=none∨∃b o,A=some ⟨b,o,none⟩
theorem QL {w:World} {l:List gA} {A:Option Addr} {n c k:Nat} (hl:Rd MA w l [.slice A n c]) (hok:okA A) (hn:Hid (n=l.length)) (hk:k≤n):∃X,(∀W,(Instr.slice 24 (.slice A n c) (some (.int .i64 (k:Int))) none none).run Tryz.prog W=.ok (.slice X (n-k) (c-k)) W)∧∀W,Bw w W→rSl 2 eF W (fun b=>b<w.heap.size) (l.drop k) [.slice X (n-k) (c-k)]:=by
 have hc:=(UG hl).2;unfold maxLen at hc;have j0:(0:Int)≤(k:Int):=by omega
 have j1:(k:Int)≤(n:Int):=by omega
 have j2:(n:Int)≤(c:Int):=by omega
 have j3:(k:Int)≤(c:Int):=by omega
 rcases hok with rfl | ⟨b,o,rfl⟩
 ·exact ⟨_,fun W=>by go_simp,fun W B=>nZ hl B hn.out hk⟩
 ·exact ⟨if c=k then some ⟨b,o,none⟩ else some ⟨b,o+k*2,none⟩,fun W=>by go_simp,fun W B=>gAn hl B hn.out hk⟩
theorem eAe {w:World} {l:List gA} {A:Option Addr} {n c k:Nat} (hl:Rd MA w l [.slice A n c]) (hok:okA A) (hn:Hid (n=l.length)) (hk:k≤n):∃X,(∀W,(Instr.slice 24 (.slice A n c) none (some (.int .i64 (k:Int))) none).run Tryz.prog W=.ok (.slice X k c) W)∧∀W,Bw w W→rSl 2 eF W (fun b=>b<w.heap.size) (l.take k) [.slice X k c]:=by
 have hc:=(UG hl).2;unfold maxLen at hc;have j0:(0:Int)≤(k:Int):=by omega
 have j1:(k:Int)≤(n:Int):=by omega
 have j2:(n:Int)≤(c:Int):=by omega
 have j3:(k:Int)≤(c:Int):=by omega
 rcases hok with rfl | ⟨b,o,rfl⟩
 ·refine ⟨none,fun W=>by go_simp,fun W B=>?_⟩;have h0:=nZ (k:=0) hl B hn.out (by omega);have hnl:n=l.length:=hn.out
  cases l with
  | nil=>
   obtain rfl:k=0:=by simp at hnl;omega
   exact fT _ _ hc.2
  | cons x l=>
   obtain ⟨_,_,_,_,e,_⟩:=mB (k:=0) (x:=x) hl rfl
   cases e
 ·refine ⟨some ⟨b,o,none⟩,fun W=>by go_simp,fun W B=>?_⟩;have:=ZL (AP hl B) 0 k (Nat.zero_le _) hk hn.out
  rwa [Nat.zero_mul,Nat.add_zero,Nat.sub_zero,Nat.sub_zero,List.drop_zero] at this
theorem eV {l:List gA} (h:WA l=true):eC l≤1048576:=by
 have h2:=oN (fun y:gA=>y.vals.length) 3 (fun y hy=>YA (NA h hy));have h3:=VA h;unfold eC;omega
theorem EK {α:Type} {e:TypeId} {sz:Nat} {R:Fp α} {w:World} {A:Option Addr} {n c:Nat} {xs:List α} {F:List Nat} (h:fSl e sz R w xs [.slice A n c] F):okA A:=by
 obtain ⟨v,us,Fs,hv,hown,_⟩:=h;injection hv with hv;subst hv;rcases hown.2 with ⟨h,_⟩ | ⟨g,cap,cur,h,_⟩
 ·injection h with h;exact .inl h
 ·injection h with h;exact .inr ⟨g,0,h⟩
set_option maxRecDepth 100000 in
set_option maxHeartbeats 12800000 in
theorem QK (w:World) (x0:List Int) (v:Value) (h0:Rd DK w x0 [v]) (q0:xJ x0):Calls Tryz.prog 6 #[v] w (Ret w (.bool true)):=by
 obtain ⟨i0,hi,hz0,hz1,hz2⟩:=info_parts ZE;obtain ⟨Ac,nc,cc,rfl,lc,_⟩:=iA h0;clear lc;have hcall:=jA8 w x0 _ h0;go_enter Tryz.func6,Tryz.ntmps6;go_wp2_with fail;refine hcall.mono ?_;rintro e1 w1 ⟨rfl,hb1⟩;clear hcall;by_cases hbig:1048576<x0.length
 ·have e1:decide (1048576<x0.length)=true:=decide_eq_true hbig;rw [e1];clear e1;go_wp2;go_ret;exact ⟨rfl,hb1⟩
 have e1:decide (1048576<x0.length)=false:=decide_eq_false hbig;rw [e1];clear e1;have hcall:=CQ w1 x0 _ (h0.bw MF hb1) q0;go_wp2_with fail;refine hcall.mono ?_;rintro e1 w2 ⟨va,ve,rfl,_,⟨e,re,_⟩,hb2⟩;clear hcall;have B2:=hb1.then hb2;obtain ⟨Ae,ne,ce,rfl,le,_⟩:=iA re;clear le;have hcall:=NI w2 e _ re;go_wp2_with fail;refine hcall.mono ?_;rintro e1 w3 ⟨rfl,hb3⟩;clear hcall;have B3:=B2.then hb3
 cases hE:bB e with
 | false=>
  go_wp2;go_ret;exact ⟨rfl,B3⟩
 | true=>
  have hcall:=YM w3 e _ (re.bw lA hb3);have hR0:=Rnd.start hE;have hz:=(hR0.size (by omega)).1;obtain ⟨T,hT⟩:∃T,T=JB e:=⟨_,rfl⟩;rw [← hT] at hcall hR0 hz;have ez:(⟨#[119,105,115,104,32]⟩:ByteArray).size=5:=rfl;rw [cA,cA] at hz;have a1:∀W,(Op.stringOp .add ⟨#[119,105,115,104,32]⟩ T).run Tryz.prog W=.ok (.string (⟨#[119,105,115,104,32]⟩++T)) W:=fun W=>run_string_add_sum W _ _ (by omega)
  have a2:∀W,(Op.stringOp .add (⟨#[119,105,115,104,32]⟩++T) ⟨#[10]⟩).run Tryz.prog W=.ok (.string (⟨#[119,105,115,104,32]⟩++T++⟨#[10]⟩)) W:=fun W=>run_string_add_sum W _ _ (by rw [cA];omega)
  have HR0:=Lib.hid hR0;clear hT hz ez hR0;go_wp2_with fail;refine hcall.mono ?_;rintro e1 w4 ⟨rfl,hb4⟩;clear hcall;have B4:=B3.then hb4;have B04:=B4.alloc (.cells #[] 30);have re4:=(re.bw lA hb3).bw lA hb4;have hnil:Rd MA (w4.alloc (.cells #[] 30)) [] [.slice (some ⟨w4.heap.size,0,none⟩) 0 0]:=vC (PA w4);have HB:=Lib.hid (show x0.length≤1048576 by omega);clear hb1 hb2 hb3 hb4 B2 B3 hbig re;go_wp2
  go_loopg [5,6,7,8] 10 (fun gg sv wv lv iv w'=>∃(k:Nat) (s want:ByteArray) (l:List gA),k≤10∧gg=10-k∧sv=.string s∧wv=.string want∧iv=.int .i64 k∧Rd MA w' l [lv]∧Bw w4 w'∧Hid (Rnd e k s want l)∧Hid (∀A n c,lv=.slice A n c→okA A))
  case atStart=>exact ⟨0,_,_,[],by omega,rfl,rfl,rfl,rfl,hnil,(Bw.refl w4).alloc _,HR0,Lib.hid (fun A n c h=>by injection h with h;exact .inr ⟨_,_,h.symm⟩)⟩
  case round=>
   clear hnil B04 HR0 a1 a2;obtain ⟨k,s,want,l,hk,rfl,rfl,rfl,rfl,hl,hB,HR,HO⟩:=hrel;obtain ⟨Al,nl,cl,rfl,ll,lc1,lc2⟩:=iA hl;have HOK:=Lib.hid (HO.out Al nl cl rfl);clear HO;have LL:=Lib.hid ll;have hlen10:nl≤10:=by rw [ll];exact (HR.out.size hk).2.2.1
   unfold maxLen at lc2;clear ll;have hnq:x0.length≤1048576:=HB.out;by_cases hlt:k<10
   ·have i1:(k:Int)<10:=by omega
    have b0:=B4.then hB;have hna:=pM q0 (k);have hca:=mZ wr x0 (k) ((k:Int)) _ (h0.bw MF b0) q0 (by omega) (by omega) (by omega);obtain ⟨A1,hA⟩:∃A:Nat,atM x0 (k)=(A:Int):=⟨(atM x0 (k)).toNat,by omega⟩;rw [hA] at hca;obtain ⟨id,hQ⟩:∃Q,Q=A1 % 9:=⟨_,rfl⟩;have tid:(A1:Int).tmod 9=(id:Int):=by rw [Int.tmod_eq_emod_of_nonneg (by omega)];omega
    have mid:(A1:Int) % 9=(id:Int):=by omega
    have lid:id<9:=by omega
    clear hA hna hQ;go_wp2_with fail;refine hca.mono ?_;rintro e1 w5 ⟨rfl,hb5⟩;clear hca;have b1:=b0.then hb5;have hna:=pM q0 (k+10);have hca:=mZ w5 x0 (k+10) ((k:Int)+10) _ (h0.bw MF b1) q0 (by omega) (by omega) (by omega);obtain ⟨A2,hA⟩:∃A:Nat,atM x0 (k+10)=(A:Int):=⟨(atM x0 (k+10)).toNat,by omega⟩;rw [hA] at hca;obtain ⟨va1,hQ⟩:∃Q,Q=A2 % 4:=⟨_,rfl⟩;have tva1:(A2:Int).tmod 4=(va1:Int):=by rw [Int.tmod_eq_emod_of_nonneg (by omega)];omega
    have mva1:(A2:Int) % 4=(va1:Int):=by omega
    have lva1:va1<4:=by omega
    clear hA hna hQ;go_wp2_with fail;refine hca.mono ?_;rintro e1 w6 ⟨rfl,hb6⟩;clear hca;have b2:=b1.then hb6;have hna:=pM q0 (k+20);have hca:=mZ w6 x0 (k+20) ((k:Int)+20) _ (h0.bw MF b2) q0 (by omega) (by omega) (by omega);obtain ⟨A3,hA⟩:∃A:Nat,atM x0 (k+20)=(A:Int):=⟨(atM x0 (k+20)).toNat,by omega⟩;rw [hA] at hca;obtain ⟨va2,hQ⟩:∃Q,Q=A3 % 4:=⟨_,rfl⟩;have tva2:(A3:Int).tmod 4=(va2:Int):=by rw [Int.tmod_eq_emod_of_nonneg (by omega)];omega
    have mva2:(A3:Int) % 4=(va2:Int):=by omega
    have lva2:va2<4:=by omega
    clear hA hna hQ;go_wp2_with fail;refine hca.mono ?_;rintro e1 w7 ⟨rfl,hb7⟩;clear hca;have b3:=b2.then hb7;have hna:=pM q0 (k+30);have hca:=mZ w7 x0 (k+30) ((k:Int)+30) _ (h0.bw MF b3) q0 (by omega) (by omega) (by omega);obtain ⟨A4,hA⟩:∃A:Nat,atM x0 (k+30)=(A:Int):=⟨(atM x0 (k+30)).toNat,by omega⟩;rw [hA] at hca;obtain ⟨va3,hQ⟩:∃Q,Q=A4 % 4:=⟨_,rfl⟩;have tva3:(A4:Int).tmod 4=(va3:Int):=by rw [Int.tmod_eq_emod_of_nonneg (by omega)];omega
    have mva3:(A4:Int) % 4=(va3:Int):=by omega
    have lva3:va3<4:=by omega
    clear hA hna hQ;go_wp2_with fail;refine hca.mono ?_;rintro e1 w8 ⟨rfl,hb8⟩;clear hca;have b4:=b3.then hb8;have hbr:=((hb5.then hb6).then hb7).then hb8;have hA1:=(Bw.refl w8).alloc (.cells #[.int .i64 (va1:Int),.int .i64 (va2:Int),.int .i64 (va3:Int)] 3);have hA2:=hA1.alloc (.cells #[.int .i64 (id:Int),.slice (some ⟨w8.heap.size,0,none⟩) 3 3] 30);have hx9:=((AA (CI w8 (va1:Int) (va2:Int) (va3:Int))).bw dA ((Bw.refl _).alloc (.cells #[.int .i64 (id:Int),.slice (some ⟨w8.heap.size,0,none⟩) 3 3] 30)));have c0:((w8.alloc (.cells #[.int .i64 (va1:Int),.int .i64 (va2:Int),.int .i64 (va3:Int)] 3)).alloc (.cells #[.int .i64 (id:Int),.slice (some ⟨w8.heap.size,0,none⟩) 3 3] 30)).cell? ⟨w8.heap.size+1,0,none⟩=some (.int .i64 (id:Int)):=by go_simp
    have c1:((w8.alloc (.cells #[.int .i64 (va1:Int),.int .i64 (va2:Int),.int .i64 (va3:Int)] 3)).alloc (.cells #[.int .i64 (id:Int),.slice (some ⟨w8.heap.size,0,none⟩) 3 3] 30)).cell? ⟨w8.heap.size+1,1,none⟩=some (.slice (some ⟨w8.heap.size,0,none⟩) 3 3):=by go_simp
    have hbr9:=hbr.then hA2;have hcall:=vG _ l (id:Int) _ (hl.bw jA hbr9);obtain ⟨x,hx⟩:∃x:gA,x=⟨(id:Int),[(va1:Int),(va2:Int),(va3:Int)]⟩:=⟨_,rfl⟩;have hxi:LA x=true:=by rw [hx];exact eAa (by omega) (by omega) (by omega) (by omega)
    have hxid:(id:Int)=x.id:=by rw [hx]
    have hxv:[(va1:Int),(va2:Int),(va3:Int)]=x.vals:=by rw [hx]
    have HX:=Lib.hid (And.intro hxi (And.intro hxid (show x.id≤9 by rw [← hxid];omega)));rw [hxv] at hx9;obtain ⟨F,hF⟩:∃F,F=UA l (id:Int):=⟨_,rfl⟩;rw [← hF] at hcall;have HF:=Lib.hid (show F=UA l x.id by rw [hF,hxid]);clear hF hx hxi hxid hxv;go_wp2_with fail;refine hcall.mono ?_;rintro e1 w10 ⟨rfl,hb10⟩;clear hcall;have hbr10:=hbr9.then hb10;have b10:=b0.then hbr10;replace c0:=hb10.cell c0;replace c1:=hb10.cell c1;replace hx9:=hx9.bw dA hb10;have hna:=pM q0 (k+40);have hca:=mZ w10 x0 (k+40) ((k:Int)+40) _ (h0.bw MF b10) q0 (by omega) (by omega) (by omega);obtain ⟨A5,hA⟩:∃A:Nat,atM x0 (k+40)=(A:Int):=⟨(atM x0 (k+40)).toNat,by omega⟩;rw [hA] at hca;obtain ⟨op,hQ⟩:∃Q,Q=A5 % 4:=⟨_,rfl⟩;have top:(A5:Int).tmod 4=(op:Int):=by rw [Int.tmod_eq_emod_of_nonneg (by omega)];omega
    have mop:(A5:Int) % 4=(op:Int):=by omega
    have lop:op<4:=by omega
    clear hA hna hQ;go_wp2_with fail;refine hca.mono ?_;rintro e1 w11 ⟨rfl,hb11⟩;clear hca;have b11:=b10.then hb11;replace c0:=hb11.cell c0;replace c1:=hb11.cell c1;replace hx9:=hx9.bw dA hb11;have hbr11:=hbr10.then hb11;have hl11:=hl.bw jA hbr11;have re11:=re4.bw lA (hB.then hbr11);have hB11:=hB.then hbr11;have hp11:w8.heap.size+1<w11.heap.size:=World.block_lt_of_cell? _ _ c0;obtain ⟨p,hp⟩:∃p,p=w8.heap.size+1:=⟨_,rfl⟩;obtain ⟨q,hq⟩:∃q,q=w8.heap.size:=⟨_,rfl⟩;have HP:=Lib.hid hp;clear hA1 hA2 hbr hbr9 hbr10 hb5 hb6 hb7 hb8 hb10 b1 b2 b3 b4 b10 hl tid mid lid tva1 mva1 lva1 tva2 mva2 lva2 tva3 mva3 lva3;by_cases g0:op=0
    ·have z0:((op:Int)==0)=true:=by simp [g0]
     clear g0 lop;have hzz:=HR.out.size hk;have zs:=hzz.1;have zw:=hzz.2.1;have hcall:=rK w11 x _ hx9;have hxz:=dJ HX.out.1 HX.out.2.2;rw [← HX.out.2.1] at hcall;obtain ⟨T,hT⟩:∃T,T=LB x:=⟨_,rfl⟩;rw [← hT] at hcall hxz;have HT:=Lib.hid hT;have ez:(⟨#[97,100,100,32]⟩:ByteArray).size=4:=rfl;have a5:∀W,(Op.stringOp .add s ⟨#[97,100,100,32]⟩).run Tryz.prog W=.ok (.string (s++⟨#[97,100,100,32]⟩)) W:=fun W=>run_string_add_sum W _ _ (by omega)
     have a6:∀W,(Op.stringOp .add (s++⟨#[97,100,100,32]⟩) T).run Tryz.prog W=.ok (.string (s++⟨#[97,100,100,32]⟩++T)) W:=fun W=>run_string_add_sum W _ _ (by rw [cA];omega)
     have a7:∀W,(Op.stringOp .add (s++⟨#[97,100,100,32]⟩++T) ⟨#[10]⟩).run Tryz.prog W=.ok (.string (s++⟨#[97,100,100,32]⟩++T++⟨#[10]⟩)) W:=fun W=>run_string_add_sum W _ _ (by rw [cA,cA,z10];omega)
     clear hT ez hxz hzz;go_wp2_with fail;refine hcall.mono ?_;rintro e1 w12 ⟨rfl,hb12⟩;clear hcall;by_cases hf:F<0
     ·have i9:F<0:=hf;have hcall:=PL (w12.alloc (.cells #[.string ⟨#[110,111]⟩,.string ⟨#[111,107]⟩] 9)) true;go_wp2_with fail;refine hcall.mono ?_;rintro e1 w13 ⟨rfl,hb13⟩;clear hcall;have hbw:Bw w12 (w12.alloc (.cells #[.string ⟨#[110,111]⟩,.string ⟨#[111,107]⟩] 9)):=(Bw.refl w12).alloc _;have hb1213:=hbw.then hb13;have d0:w13.cell? ⟨w12.heap.size,0,none⟩=some (.string ⟨#[110,111]⟩):=hb13.cell (by go_simp);have d1:w13.cell? ⟨w12.heap.size,1,none⟩=some (.string ⟨#[111,107]⟩):=hb13.cell (by go_simp);have en:(⟨#[111,107]⟩:ByteArray).size=2:=rfl;have a8:∀W,(Op.stringOp .add want ⟨#[111,107]⟩).run Tryz.prog W=.ok (.string (want++⟨#[111,107]⟩)) W:=fun W=>run_string_add_sum W _ _ (by omega)
      have a9:∀W,(Op.stringOp .add (want++⟨#[111,107]⟩) ⟨#[10]⟩).run Tryz.prog W=.ok (.string (want++⟨#[111,107]⟩++⟨#[10]⟩)) W:=fun W=>run_string_add_sum W _ _ (by rw [cA,z10];omega)
      clear en;have hR1:=HR.out.add hk HX.out.1 HX.out.2.2;have hnone:=zI (by rw [← HF.out];exact hf);rw [← HF.out,if_pos hf,← HT.out,decide_eq_true hf,xP hnone] at hR1;obtain ⟨K,hK⟩:∃K,K=YH l x:=⟨_,rfl⟩;rw [← hK] at hR1;have HK:=Lib.hid hK;have HR1:=Lib.hid (show wN e k (s++⟨#[97,100,100,32]⟩++T++⟨#[10]⟩) (want++⟨#[111,107]⟩++⟨#[10]⟩) (l.take K++x::l.drop K) from hR1);clear hR1 hK hf hnone;have hB13:=hB11.then (hb12.then hb1213);have hl13:=hl11.bw jA (hb12.then hb1213);have hx13:=hx9.bw dA (hb12.then hb1213);have c0:=(hb12.then hb1213).cell c0;have c1:=(hb12.then hb1213).cell c1;have hv0:=PA (e:=30) (sz:=2) (R:=fSh w13.heap.size eF) w13;have hA13:=(Bw.refl w13).alloc (.cells #[] 30);go_wp2
      go_loopg [11,12] (nl+1) (fun gg mv jv w'=>∃(j:Nat) (F':List Nat),j≤nl∧gg=nl+1-j∧jv=.int .i64 j∧Hid (j≤K)∧ZJ w13.heap.size w' (l.take j) [mv] F'∧pA w13.heap.size F'∧Bw w13 w')
      case atStart=>exact ⟨0,_,by omega,by omega,rfl,Lib.hid (Nat.zero_le _),hv0,⟨by simp,by simp⟩,hA13⟩
      case round=>
       obtain ⟨j,F',hj,rfl,rfl,HJ,hv,hF',hbj⟩:=hrel;by_cases hjl:j<nl
       ·have i2:(j:Int)<(nl:Int):=by omega
        have i3:(0:Int)≤(j:Int):=by omega
        obtain ⟨y,hy⟩:=rA (xs:=l) (k:=j) (by have:=LL.out;omega);obtain ⟨ba,oa,A',c',eA,_,cy0,cy1,hyv⟩:=mB hl13 hy;subst eA;replace cy0:=hbj.cell cy0;replace cy1:=hbj.cell cy1;have hst:=VS (l:=l) (x:=x) (j:=j) (by rw [← HK.out];exact HJ.out) hy;rw [← HK.out] at hst;have c0j:=hbj.cell c0;have c1j:=hbj.cell c1;rw [← HX.out.2.1] at hst;have s0:=qA cy0;have s1:=qA c0j;obtain ⟨m,hm⟩:∃m,m=y.vals.length:=⟨_,rfl⟩;rw [← hm] at cy1 hyv;by_cases hlt:y.id<(id:Int)
        ·have HJ2:=Lib.hid (hst.1 hlt);have hsn:l.take (j+1)=l.take j++[y]:=by rw [List.take_add_one,hy];rfl
         have HSN:=Lib.hid hsn;have hkl:(l.take j).length=j:=by rw [List.length_take];have:=LL.out;omega
         have HKL:=Lib.hid hkl;clear hst hy hm hsn hkl;go_wp2_with fail;refine mA (by kernel_rfl) (by kernel_rfl) ?_
         repeat (first | go_big_quiet_skip | (go_big_quiet_want;go_big_quiet_op;first | go_big_quiet_on | (apply Exists.intro;refine ⟨fun _=>?_,?_⟩;(· ((fail)));go_big_quiet_on)))
         refine wpQuiet_nil ?_;rintro ⟨wq,hbq⟩;dsimp only at *;have hbjq:=hbj.then hbq;have cy0:=hbq.cell cy0;have cy1:=hbq.cell cy1;have hvq:=(pB (Nat.le_refl w13.heap.size)).bw hbq hbj.size hv;have hAl:=(Bw.refl wq).alloc (.cells #[.int .i64 y.id,.slice A' m c'] 30);have hvW:=(pB (Nat.le_refl w13.heap.size)).bw hAl hbjq.size hvq;have hFm:=(pB (Nat.le_refl w13.heap.size)).lt hvq;have hbW:=hbjq.then hAl;have hcl:∀i t,[Value.int .i64 y.id,.slice A' m c'][i]? = some t→(wq.alloc (.cells #[.int .i64 y.id,.slice A' m c'] 30)).cell? ((⟨wq.heap.size,0,none⟩:Addr).add i)=some t:=World.news_of_block (cs:=#[.int .i64 y.id,.slice A' m c']) (t:=30) (fr:=(0,0)) (heap_alloc_new wq _);have hysh:fSh w13.heap.size eF (wq.alloc (.cells #[.int .i64 y.id,.slice A' m c'] 30)) y [.int .i64 y.id,.slice A' m c'] []:=ZH ⟨_,rfl,dK hyv hbW⟩;clear hv hvq;go_wp2_with (at_builtin;refine mC _ rfl (.tmp 128) (.tmp 133) 24 rfl w13 30 i0 _ 2 32 Tryz.underlying24 hi hz0 hz1 hz2 rfl (by omega) (wC UB (Nat.le_refl _)) _ (l.take j) F' rfl hvW hF' ⟨wq.heap.size,0,none⟩ 1 rfl y [.int .i64 y.id,.slice A' m c'] [] hcl hysh rfl wq.heap.size hFm pA.nil hbjq.size (by have:=HKL.out;omega) (by have:=HKL.out;omega) hbW ?_;intro v' w' F2 hv2 hF2 hb2 hO2 hs2)
         go_roundg (nl+1-(j+1))
         case measure=>omega
         case rel=>exact ⟨j+1,F2,by omega,rfl,by go_num,HJ2,by rw [HSN.out];exact hv2,hF2,hb2⟩
        ·have HJK:=Lib.hid (hst.2 hlt);clear hst hy hm cy1 hyv;go_wp2_with fail;refine mA (by kernel_rfl) (by kernel_rfl) ?_
         repeat (first | go_big_quiet_skip | (go_big_quiet_want;go_big_quiet_op;first | go_big_quiet_on | (apply Exists.intro;refine ⟨fun _=>?_,?_⟩;(· ((fail)));go_big_quiet_on)))
         refine wpQuiet_nil ?_;rintro ⟨wq,hbq⟩;dsimp only at *;have hjK:=HJK.out;subst hjK;clear HJK;have hbjq:=hbj.then hbq;have hvq:=(pB (Nat.le_refl w13.heap.size)).bw hbq hbj.size hv;obtain ⟨Am,nm,cm,rfl,lm,_⟩:=iA (sE hvq hbjq.size);have hnm:nm=j:=by rw [lm,List.length_take];have:=LL.out;omega
         subst hnm;clear lm;have hD:=(Bw.refl wq).drew;have hbD:=hbjq.then hD;have c0d:=hbD.cell c0;have c1d:=hbD.cell c1;have hAl:=(Bw.refl wq.drew).alloc (.cells #[.int .i64 (id:Int),.slice (some ⟨w8.heap.size,0,none⟩) 3 3] 30);have hvD:=(pB (Nat.le_refl w13.heap.size)).bw hD hbjq.size hvq;have hvW:=(pB (Nat.le_refl w13.heap.size)).bw hAl hbD.size hvD;have hFm:∀b∈F',b<wq.heap.size:=(pB (Nat.le_refl w13.heap.size)).lt hvq;have hbW:=hbD.then hAl;have hcl:∀i t,[Value.int .i64 (id:Int),.slice (some ⟨w8.heap.size,0,none⟩) 3 3][i]? = some t→(wq.drew.alloc (.cells #[.int .i64 (id:Int),.slice (some ⟨w8.heap.size,0,none⟩) 3 3] 30)).cell? ((⟨wq.heap.size,0,none⟩:Addr).add i)=some t:=World.news_of_block (cs:=#[.int .i64 (id:Int),.slice (some ⟨w8.heap.size,0,none⟩) 3 3]) (t:=30) (fr:=(0,0)) (heap_alloc_new wq.drew _);have hxsh:fSh w13.heap.size eF (wq.drew.alloc (.cells #[.int .i64 (id:Int),.slice (some ⟨w8.heap.size,0,none⟩) 3 3] 30)) x [.int .i64 (id:Int),.slice (some ⟨w8.heap.size,0,none⟩) 3 3] []:=ZH ⟨_,by rw [← HX.out.2.1],dK hx13 hbW⟩;have HKL:=Lib.hid (show (l.take nm).length≤16 by rw [List.length_take];omega);have HKL2:=Lib.hid (show (l.take nm++[x]).length+(l.drop nm).length≤32 by have:=LL.out;rw [List.length_append,List.length_take,List.length_drop];simp;omega);have j0:(0:Int)≤(nm:Int):=by omega
         have j1:(nm:Int)≤(nl:Int):=by omega
         have j2:(nl:Int)≤(cl:Int):=by omega
         have j3:(nm:Int)≤(cl:Int):=by omega
         clear hv hvq hvD hbj hD;have j1n:nm≤nl:=by omega
         obtain ⟨X,hslX,hsuf⟩:=QL hl13 HOK.out LL j1n;have HSUF:=Lib.hid hsuf;clear hsuf;go_wp2_with fail
         go_region_law (first
          | (refine tE _ (by rfl) (.tmp 137) (.tmp 139) 24 (by rfl) w13 30 i0 _ 2 32 Tryz.underlying24 hi hz0 hz1 hz2 rfl (by omega) (wC UB (Nat.le_refl _)) _ (l.take nm) F' (by rfl) hvW hF' ⟨wq.heap.size,0,none⟩ 1 (by rfl) x [.int .i64 (id:Int),.slice (some ⟨w8.heap.size,0,none⟩) 3 3] [] hcl hxsh rfl wq.heap.size hFm pA.nil hbD.size (by have:=HKL.out;omega) (by have:=HKL.out;omega) hbW ?_;intro v30 w30 F30 hv30 hF30 hb30 hO30 hs30)
          | (refine bC _ (by rfl) (.tmp 140) (.tmp 143) 24 (by rfl) w13 30 i0 _ 2 32 Tryz.underlying24 hi hz0 hz1 hz2 rfl (by omega) (wC UB (Nat.le_refl _)) _ (l.take nm++[x]) F30 (by rfl) hv30 hF30 _ (by rfl) (l.drop nm) (HSUF.out _ hb30) (fun y u h=>ZH h) (by have:=HKL2.out;omega) (by have:=HKL2.out;omega) hb30 ?_;intro v31 w31 F31 hv31 hF31 hb31 hO31 hs31))
         all_goals
          rw [List.append_assoc,List.singleton_append] at hv31;have hl31:=sE hv31 hb31.size;obtain ⟨A31,n31,c31,rfl,l31,_⟩:=iA hl31;have hB31:=hB13.then hb31;have HOK1:=Lib.hid (EK hv31);clear l31 hv31;have hz1:=HR1.out.size hk;have zs1:=hz1.1;have zw1:=hz1.2.1;have eb:(⟨#[98,101,115,116,10]⟩:ByteArray).size=5:=rfl;have a10:∀W,(Op.stringOp .add (s++⟨#[97,100,100,32]⟩++T++⟨#[10]⟩) ⟨#[98,101,115,116,10]⟩).run Tryz.prog W=.ok (.string (s++⟨#[97,100,100,32]⟩++T++⟨#[10]⟩++⟨#[98,101,115,116,10]⟩)) W:=fun W=>run_string_add_sum W _ _ (by omega)
          have hR2:=HR1.out.best hk;have hz2:=(hR2.size (by omega)).2.1;have hcall:=YD w31 (l.take nm++x::l.drop nm) e _ _ hl31 (re4.bw lA hB31);have hids:∀v∈BA (l.take nm++x::l.drop nm) e,(Lit.int .i64 v).wf=true:=fun v hv=>by
           unfold BA at hv
           split at hv
           ·rename_i h;exact cI (qD (sA h) v hv)
           ·cases hv
          have hlen:=OC (l.take nm++x::l.drop nm) e;obtain ⟨bs,hbs⟩:∃bs,bs=BA (l.take nm++x::l.drop nm) e:=⟨_,rfl⟩;rw [← hbs] at hcall hids hlen hR2 hz2;have HIDS:=Lib.hid hids;have HR2:=Lib.hid hR2;clear hbs hids hz1 zs1 eb hR2;go_wp2_with fail;refine hcall.mono ?_;rintro e1 w20 ⟨v20,rfl,⟨F20,o20,f20⟩,hb20⟩;clear hcall;have r20:=AA o20;obtain ⟨A20,n20,c20,rfl,l20,_⟩:=iA r20;clear l20;have hcall:=eG w20 bs _ r20 HIDS.out (by omega);obtain ⟨I,hI⟩:∃I,I=nC bs:=⟨_,rfl⟩;rw [← hI] at hcall hz2;rw [cA,cA] at hz2;have HR3:=Lib.hid (show Rnd e (k+1) (s++⟨#[97,100,100,32]⟩++T++⟨#[10]⟩++⟨#[98,101,115,116,10]⟩) (want++⟨#[111,107]⟩++⟨#[10]⟩++I++⟨#[10]⟩) (l.take nm++x::l.drop nm) by rw [hI];exact HR2.out);have a11:∀W,(Op.stringOp .add (want++⟨#[111,107]⟩++⟨#[10]⟩) I).run Tryz.prog W=.ok (.string (want++⟨#[111,107]⟩++⟨#[10]⟩++I)) W:=fun W=>run_string_add_sum W _ _ (by omega)
          have a12:∀W,(Op.stringOp .add (want++⟨#[111,107]⟩++⟨#[10]⟩++I) ⟨#[10]⟩).run Tryz.prog W=.ok (.string (want++⟨#[111,107]⟩++⟨#[10]⟩++I++⟨#[10]⟩)) W:=fun W=>run_string_add_sum W _ _ (by rw [cA,z10];omega)
          clear hI hz2 r20 o20;go_wp2_with fail;refine hcall.mono ?_;rintro e1 w21 ⟨rfl,hb21⟩;clear hcall;have hB21:=(hB31).then (hb20.then hb21);have hl21:=(hl31).bw jA (hb20.then hb21);go_wp2
          go_roundg (10-(k+1))
          case measure=>omega
          case rel=>exact ⟨k+1,_,_,_,by omega,rfl,rfl,rfl,by go_num,hl21,hB21,HR3,Lib.hid (fun A n c h=>by injection h with h1 h2 h3;rw [← h1];exact HOK1.out)⟩
       ·have i2:¬(j:Int)<(nl:Int):=by omega
        have HJK:=Lib.hid (show j=K by rw [HK.out];exact WU (by rw [← HK.out];exact HJ.out) (by have:=LL.out;omega));have c0j:=hbj.cell c0;have s1:=qA c0j;go_wp2_with fail;refine mA (by kernel_rfl) (by kernel_rfl) ?_
        repeat (first | go_big_quiet_skip | (go_big_quiet_want;go_big_quiet_op;first | go_big_quiet_on | (apply Exists.intro;refine ⟨fun _=>?_,?_⟩;(· ((fail)));go_big_quiet_on)))
        refine wpQuiet_nil ?_;rintro ⟨wq,hbq⟩;dsimp only at *;have hjK:=HJK.out;subst hjK;clear HJK;have hbjq:=hbj.then hbq;have hvq:=(pB (Nat.le_refl w13.heap.size)).bw hbq hbj.size hv;obtain ⟨Am,nm,cm,rfl,lm,_⟩:=iA (sE hvq hbjq.size);have hnm:nm=j:=by rw [lm,List.length_take];have:=LL.out;omega
        subst hnm;clear lm;have hD:=(Bw.refl wq).drew;have hbD:=hbjq.then hD;have c0d:=hbD.cell c0;have c1d:=hbD.cell c1;have hAl:=(Bw.refl wq.drew).alloc (.cells #[.int .i64 (id:Int),.slice (some ⟨w8.heap.size,0,none⟩) 3 3] 30);have hvD:=(pB (Nat.le_refl w13.heap.size)).bw hD hbjq.size hvq;have hvW:=(pB (Nat.le_refl w13.heap.size)).bw hAl hbD.size hvD;have hFm:∀b∈F',b<wq.heap.size:=(pB (Nat.le_refl w13.heap.size)).lt hvq;have hbW:=hbD.then hAl;have hcl:∀i t,[Value.int .i64 (id:Int),.slice (some ⟨w8.heap.size,0,none⟩) 3 3][i]? = some t→(wq.drew.alloc (.cells #[.int .i64 (id:Int),.slice (some ⟨w8.heap.size,0,none⟩) 3 3] 30)).cell? ((⟨wq.heap.size,0,none⟩:Addr).add i)=some t:=World.news_of_block (cs:=#[.int .i64 (id:Int),.slice (some ⟨w8.heap.size,0,none⟩) 3 3]) (t:=30) (fr:=(0,0)) (heap_alloc_new wq.drew _);have hxsh:fSh w13.heap.size eF (wq.drew.alloc (.cells #[.int .i64 (id:Int),.slice (some ⟨w8.heap.size,0,none⟩) 3 3] 30)) x [.int .i64 (id:Int),.slice (some ⟨w8.heap.size,0,none⟩) 3 3] []:=ZH ⟨_,by rw [← HX.out.2.1],dK hx13 hbW⟩;have HKL:=Lib.hid (show (l.take nm).length≤16 by rw [List.length_take];omega);have HKL2:=Lib.hid (show (l.take nm++[x]).length+(l.drop nm).length≤32 by have:=LL.out;rw [List.length_append,List.length_take,List.length_drop];simp;omega);have j0:(0:Int)≤(nm:Int):=by omega
        have j1:(nm:Int)≤(nl:Int):=by omega
        have j2:(nl:Int)≤(cl:Int):=by omega
        have j3:(nm:Int)≤(cl:Int):=by omega
        clear hv hvq hvD hbj hD;have j1n:nm≤nl:=by omega
        obtain ⟨X,hslX,hsuf⟩:=QL hl13 HOK.out LL j1n;have HSUF:=Lib.hid hsuf;clear hsuf;go_wp2_with fail
        go_region_law (first
         | (refine tE _ (by rfl) (.tmp 137) (.tmp 139) 24 (by rfl) w13 30 i0 _ 2 32 Tryz.underlying24 hi hz0 hz1 hz2 rfl (by omega) (wC UB (Nat.le_refl _)) _ (l.take nm) F' (by rfl) hvW hF' ⟨wq.heap.size,0,none⟩ 1 (by rfl) x [.int .i64 (id:Int),.slice (some ⟨w8.heap.size,0,none⟩) 3 3] [] hcl hxsh rfl wq.heap.size hFm pA.nil hbD.size (by have:=HKL.out;omega) (by have:=HKL.out;omega) hbW ?_;intro v30 w30 F30 hv30 hF30 hb30 hO30 hs30)
         | (refine bC _ (by rfl) (.tmp 140) (.tmp 143) 24 (by rfl) w13 30 i0 _ 2 32 Tryz.underlying24 hi hz0 hz1 hz2 rfl (by omega) (wC UB (Nat.le_refl _)) _ (l.take nm++[x]) F30 (by rfl) hv30 hF30 _ (by rfl) (l.drop nm) (HSUF.out _ hb30) (fun y u h=>ZH h) (by have:=HKL2.out;omega) (by have:=HKL2.out;omega) hb30 ?_;intro v31 w31 F31 hv31 hF31 hb31 hO31 hs31))
        all_goals
         rw [List.append_assoc,List.singleton_append] at hv31;have hl31:=sE hv31 hb31.size;obtain ⟨A31,n31,c31,rfl,l31,_⟩:=iA hl31;have hB31:=hB13.then hb31;have HOK1:=Lib.hid (EK hv31);clear l31 hv31;have hz1:=HR1.out.size hk;have zs1:=hz1.1;have zw1:=hz1.2.1;have eb:(⟨#[98,101,115,116,10]⟩:ByteArray).size=5:=rfl;have a10:∀W,(Op.stringOp .add (s++⟨#[97,100,100,32]⟩++T++⟨#[10]⟩) ⟨#[98,101,115,116,10]⟩).run Tryz.prog W=.ok (.string (s++⟨#[97,100,100,32]⟩++T++⟨#[10]⟩++⟨#[98,101,115,116,10]⟩)) W:=fun W=>run_string_add_sum W _ _ (by omega)
         have hR2:=HR1.out.best hk;have hz2:=(hR2.size (by omega)).2.1;have hcall:=YD w31 (l.take nm++x::l.drop nm) e _ _ hl31 (re4.bw lA hB31);have hids:∀v∈BA (l.take nm++x::l.drop nm) e,(Lit.int .i64 v).wf=true:=fun v hv=>by
          unfold BA at hv
          split at hv
          ·rename_i h;exact cI (qD (sA h) v hv)
          ·cases hv
         have hlen:=OC (l.take nm++x::l.drop nm) e;obtain ⟨bs,hbs⟩:∃bs,bs=BA (l.take nm++x::l.drop nm) e:=⟨_,rfl⟩;rw [← hbs] at hcall hids hlen hR2 hz2;have HIDS:=Lib.hid hids;have HR2:=Lib.hid hR2;clear hbs hids hz1 zs1 eb hR2;go_wp2_with fail;refine hcall.mono ?_;rintro e1 w20 ⟨v20,rfl,⟨F20,o20,f20⟩,hb20⟩;clear hcall;have r20:=AA o20;obtain ⟨A20,n20,c20,rfl,l20,_⟩:=iA r20;clear l20;have hcall:=eG w20 bs _ r20 HIDS.out (by omega);obtain ⟨I,hI⟩:∃I,I=nC bs:=⟨_,rfl⟩;rw [← hI] at hcall hz2;rw [cA,cA] at hz2;have HR3:=Lib.hid (show Rnd e (k+1) (s++⟨#[97,100,100,32]⟩++T++⟨#[10]⟩++⟨#[98,101,115,116,10]⟩) (want++⟨#[111,107]⟩++⟨#[10]⟩++I++⟨#[10]⟩) (l.take nm++x::l.drop nm) by rw [hI];exact HR2.out);have a11:∀W,(Op.stringOp .add (want++⟨#[111,107]⟩++⟨#[10]⟩) I).run Tryz.prog W=.ok (.string (want++⟨#[111,107]⟩++⟨#[10]⟩++I)) W:=fun W=>run_string_add_sum W _ _ (by omega)
         have a12:∀W,(Op.stringOp .add (want++⟨#[111,107]⟩++⟨#[10]⟩++I) ⟨#[10]⟩).run Tryz.prog W=.ok (.string (want++⟨#[111,107]⟩++⟨#[10]⟩++I++⟨#[10]⟩)) W:=fun W=>run_string_add_sum W _ _ (by rw [cA,z10];omega)
         clear hI hz2 r20 o20;go_wp2_with fail;refine hcall.mono ?_;rintro e1 w21 ⟨rfl,hb21⟩;clear hcall;have hB21:=(hB31).then (hb20.then hb21);have hl21:=(hl31).bw jA (hb20.then hb21);go_wp2
         go_roundg (10-(k+1))
         case measure=>omega
         case rel=>exact ⟨k+1,_,_,_,by omega,rfl,rfl,rfl,by go_num,hl21,hB21,HR3,Lib.hid (fun A n c h=>by injection h with h1 h2 h3;rw [← h1];exact HOK1.out)⟩
     ·have i9:decide (F<0)=false:=decide_eq_false hf;have HNF:=Lib.hid hf;have hcall:=PL (w12.alloc (.cells #[.string ⟨#[110,111]⟩,.string ⟨#[111,107]⟩] 9)) false;go_wp2_with fail;refine hcall.mono ?_;rintro e1 w13 ⟨rfl,hb13⟩;clear hcall;have hbw:Bw w12 (w12.alloc (.cells #[.string ⟨#[110,111]⟩,.string ⟨#[111,107]⟩] 9)):=(Bw.refl w12).alloc _;have hb1213:=hbw.then hb13;have d0:w13.cell? ⟨w12.heap.size,0,none⟩=some (.string ⟨#[110,111]⟩):=hb13.cell (by go_simp);have d1:w13.cell? ⟨w12.heap.size,1,none⟩=some (.string ⟨#[111,107]⟩):=hb13.cell (by go_simp);have en:(⟨#[110,111]⟩:ByteArray).size=2:=rfl;have a8:∀W,(Op.stringOp .add want ⟨#[110,111]⟩).run Tryz.prog W=.ok (.string (want++⟨#[110,111]⟩)) W:=fun W=>run_string_add_sum W _ _ (by omega)
      have a9:∀W,(Op.stringOp .add (want++⟨#[110,111]⟩) ⟨#[10]⟩).run Tryz.prog W=.ok (.string (want++⟨#[110,111]⟩++⟨#[10]⟩)) W:=fun W=>run_string_add_sum W _ _ (by rw [cA,z10];omega)
      clear en;have hR1:=HR.out.add hk HX.out.1 HX.out.2.2;have hnf:¬F<0:=by have:=HNF.out;omega
      rw [← HF.out,if_neg hnf,← HT.out,decide_eq_false hnf] at hR1;clear hnf;have HR1:=Lib.hid (show wN e k (s++⟨#[97,100,100,32]⟩++T++⟨#[10]⟩) (want++⟨#[110,111]⟩++⟨#[10]⟩) l from hR1);clear hR1;have hB13:=hB11.then (hb12.then hb1213);have hl13:=hl11.bw jA (hb12.then hb1213);have HOK1:=HOK;have hz1:=HR1.out.size hk;have zs1:=hz1.1;have zw1:=hz1.2.1;have eb:(⟨#[98,101,115,116,10]⟩:ByteArray).size=5:=rfl;have a10:∀W,(Op.stringOp .add (s++⟨#[97,100,100,32]⟩++T++⟨#[10]⟩) ⟨#[98,101,115,116,10]⟩).run Tryz.prog W=.ok (.string (s++⟨#[97,100,100,32]⟩++T++⟨#[10]⟩++⟨#[98,101,115,116,10]⟩)) W:=fun W=>run_string_add_sum W _ _ (by omega)
      have hR2:=HR1.out.best hk;have hz2:=(hR2.size (by omega)).2.1;have hcall:=YD w13 (l) e _ _ hl13 (re4.bw lA hB13);have hids:∀v∈BA (l) e,(Lit.int .i64 v).wf=true:=fun v hv=>by
       unfold BA at hv
       split at hv
       ·rename_i h;exact cI (qD (sA h) v hv)
       ·cases hv
      have hlen:=OC (l) e;obtain ⟨bs,hbs⟩:∃bs,bs=BA (l) e:=⟨_,rfl⟩;rw [← hbs] at hcall hids hlen hR2 hz2;have HIDS:=Lib.hid hids;have HR2:=Lib.hid hR2;clear hbs hids hz1 zs1 eb hR2;go_wp2_with fail;refine hcall.mono ?_;rintro e1 w20 ⟨v20,rfl,⟨F20,o20,f20⟩,hb20⟩;clear hcall;have r20:=AA o20;obtain ⟨A20,n20,c20,rfl,l20,_⟩:=iA r20;clear l20;have hcall:=eG w20 bs _ r20 HIDS.out (by omega);obtain ⟨I,hI⟩:∃I,I=nC bs:=⟨_,rfl⟩;rw [← hI] at hcall hz2;rw [cA,cA] at hz2;have HR3:=Lib.hid (show Rnd e (k+1) (s++⟨#[97,100,100,32]⟩++T++⟨#[10]⟩++⟨#[98,101,115,116,10]⟩) (want++⟨#[110,111]⟩++⟨#[10]⟩++I++⟨#[10]⟩) (l) by rw [hI];exact HR2.out);have a11:∀W,(Op.stringOp .add (want++⟨#[110,111]⟩++⟨#[10]⟩) I).run Tryz.prog W=.ok (.string (want++⟨#[110,111]⟩++⟨#[10]⟩++I)) W:=fun W=>run_string_add_sum W _ _ (by omega)
      have a12:∀W,(Op.stringOp .add (want++⟨#[110,111]⟩++⟨#[10]⟩++I) ⟨#[10]⟩).run Tryz.prog W=.ok (.string (want++⟨#[110,111]⟩++⟨#[10]⟩++I++⟨#[10]⟩)) W:=fun W=>run_string_add_sum W _ _ (by rw [cA,z10];omega)
      clear hI hz2 r20 o20;go_wp2_with fail;refine hcall.mono ?_;rintro e1 w21 ⟨rfl,hb21⟩;clear hcall;have hB21:=(hB13).then (hb20.then hb21);have hl21:=(hl13).bw jA (hb20.then hb21);go_wp2
      go_roundg (10-(k+1))
      case measure=>omega
      case rel=>exact ⟨k+1,_,_,_,by omega,rfl,rfl,rfl,by go_num,hl21,hB21,HR3,Lib.hid (fun A n c h=>by injection h with h1 h2 h3;rw [← h1];exact HOK1.out)⟩
    have z0:((op:Int)==0)=false:=by rw [beq_eq_false_iff_ne];omega
    by_cases g1:op=1
    ·have z1:((op:Int)==1)=true:=by rw [beq_iff_eq];omega
     clear g0 g1 lop;have hzz:=HR.out.size hk;have zs:=hzz.1;have zw:=hzz.2.1;have hcall:=rK w11 x _ hx9;have hxz:=dJ HX.out.1 HX.out.2.2;rw [← HX.out.2.1] at hcall;obtain ⟨T,hT⟩:∃T,T=LB x:=⟨_,rfl⟩;rw [← hT] at hcall hxz;have HT:=Lib.hid hT;have ez:(⟨#[97,100,100,32]⟩:ByteArray).size=4:=rfl;have a5:∀W,(Op.stringOp .add s ⟨#[97,100,100,32]⟩).run Tryz.prog W=.ok (.string (s++⟨#[97,100,100,32]⟩)) W:=fun W=>run_string_add_sum W _ _ (by omega)
     have a6:∀W,(Op.stringOp .add (s++⟨#[97,100,100,32]⟩) T).run Tryz.prog W=.ok (.string (s++⟨#[97,100,100,32]⟩++T)) W:=fun W=>run_string_add_sum W _ _ (by rw [cA];omega)
     have a7:∀W,(Op.stringOp .add (s++⟨#[97,100,100,32]⟩++T) ⟨#[10]⟩).run Tryz.prog W=.ok (.string (s++⟨#[97,100,100,32]⟩++T++⟨#[10]⟩)) W:=fun W=>run_string_add_sum W _ _ (by rw [cA,cA,z10];omega)
     clear hT ez hxz hzz;go_wp2_with fail;refine hcall.mono ?_;rintro e1 w12 ⟨rfl,hb12⟩;clear hcall;by_cases hf:F<0
     ·have i9:F<0:=hf;have hcall:=PL (w12.alloc (.cells #[.string ⟨#[110,111]⟩,.string ⟨#[111,107]⟩] 9)) true;go_wp2_with fail;refine hcall.mono ?_;rintro e1 w13 ⟨rfl,hb13⟩;clear hcall;have hbw:Bw w12 (w12.alloc (.cells #[.string ⟨#[110,111]⟩,.string ⟨#[111,107]⟩] 9)):=(Bw.refl w12).alloc _;have hb1213:=hbw.then hb13;have d0:w13.cell? ⟨w12.heap.size,0,none⟩=some (.string ⟨#[110,111]⟩):=hb13.cell (by go_simp);have d1:w13.cell? ⟨w12.heap.size,1,none⟩=some (.string ⟨#[111,107]⟩):=hb13.cell (by go_simp);have en:(⟨#[111,107]⟩:ByteArray).size=2:=rfl;have a8:∀W,(Op.stringOp .add want ⟨#[111,107]⟩).run Tryz.prog W=.ok (.string (want++⟨#[111,107]⟩)) W:=fun W=>run_string_add_sum W _ _ (by omega)
      have a9:∀W,(Op.stringOp .add (want++⟨#[111,107]⟩) ⟨#[10]⟩).run Tryz.prog W=.ok (.string (want++⟨#[111,107]⟩++⟨#[10]⟩)) W:=fun W=>run_string_add_sum W _ _ (by rw [cA,z10];omega)
      clear en;have hR1:=HR.out.add hk HX.out.1 HX.out.2.2;have hnone:=zI (by rw [← HF.out];exact hf);rw [← HF.out,if_pos hf,← HT.out,decide_eq_true hf,xP hnone] at hR1;obtain ⟨K,hK⟩:∃K,K=YH l x:=⟨_,rfl⟩;rw [← hK] at hR1;have HK:=Lib.hid hK;have HR1:=Lib.hid (show wN e k (s++⟨#[97,100,100,32]⟩++T++⟨#[10]⟩) (want++⟨#[111,107]⟩++⟨#[10]⟩) (l.take K++x::l.drop K) from hR1);clear hR1 hK hf hnone;have hB13:=hB11.then (hb12.then hb1213);have hl13:=hl11.bw jA (hb12.then hb1213);have hx13:=hx9.bw dA (hb12.then hb1213);have c0:=(hb12.then hb1213).cell c0;have c1:=(hb12.then hb1213).cell c1;have hv0:=PA (e:=30) (sz:=2) (R:=fSh w13.heap.size eF) w13;have hA13:=(Bw.refl w13).alloc (.cells #[] 30);go_wp2
      go_loopg [11,12] (nl+1) (fun gg mv jv w'=>∃(j:Nat) (F':List Nat),j≤nl∧gg=nl+1-j∧jv=.int .i64 j∧Hid (j≤K)∧ZJ w13.heap.size w' (l.take j) [mv] F'∧pA w13.heap.size F'∧Bw w13 w')
      case atStart=>exact ⟨0,_,by omega,by omega,rfl,Lib.hid (Nat.zero_le _),hv0,⟨by simp,by simp⟩,hA13⟩
      case round=>
       obtain ⟨j,F',hj,rfl,rfl,HJ,hv,hF',hbj⟩:=hrel;by_cases hjl:j<nl
       ·have i2:(j:Int)<(nl:Int):=by omega
        have i3:(0:Int)≤(j:Int):=by omega
        obtain ⟨y,hy⟩:=rA (xs:=l) (k:=j) (by have:=LL.out;omega);obtain ⟨ba,oa,A',c',eA,_,cy0,cy1,hyv⟩:=mB hl13 hy;subst eA;replace cy0:=hbj.cell cy0;replace cy1:=hbj.cell cy1;have hst:=VS (l:=l) (x:=x) (j:=j) (by rw [← HK.out];exact HJ.out) hy;rw [← HK.out] at hst;have c0j:=hbj.cell c0;have c1j:=hbj.cell c1;rw [← HX.out.2.1] at hst;have s0:=qA cy0;have s1:=qA c0j;obtain ⟨m,hm⟩:∃m,m=y.vals.length:=⟨_,rfl⟩;rw [← hm] at cy1 hyv;by_cases hlt:y.id<(id:Int)
        ·have HJ2:=Lib.hid (hst.1 hlt);have hsn:l.take (j+1)=l.take j++[y]:=by rw [List.take_add_one,hy];rfl
         have HSN:=Lib.hid hsn;have hkl:(l.take j).length=j:=by rw [List.length_take];have:=LL.out;omega
         have HKL:=Lib.hid hkl;clear hst hy hm hsn hkl;go_wp2_with fail;refine mA (by kernel_rfl) (by kernel_rfl) ?_
         repeat (first | go_big_quiet_skip | (go_big_quiet_want;go_big_quiet_op;first | go_big_quiet_on | (apply Exists.intro;refine ⟨fun _=>?_,?_⟩;(· ((fail)));go_big_quiet_on)))
         refine wpQuiet_nil ?_;rintro ⟨wq,hbq⟩;dsimp only at *;have hbjq:=hbj.then hbq;have cy0:=hbq.cell cy0;have cy1:=hbq.cell cy1;have hvq:=(pB (Nat.le_refl w13.heap.size)).bw hbq hbj.size hv;have hAl:=(Bw.refl wq).alloc (.cells #[.int .i64 y.id,.slice A' m c'] 30);have hvW:=(pB (Nat.le_refl w13.heap.size)).bw hAl hbjq.size hvq;have hFm:=(pB (Nat.le_refl w13.heap.size)).lt hvq;have hbW:=hbjq.then hAl;have hcl:∀i t,[Value.int .i64 y.id,.slice A' m c'][i]? = some t→(wq.alloc (.cells #[.int .i64 y.id,.slice A' m c'] 30)).cell? ((⟨wq.heap.size,0,none⟩:Addr).add i)=some t:=World.news_of_block (cs:=#[.int .i64 y.id,.slice A' m c']) (t:=30) (fr:=(0,0)) (heap_alloc_new wq _);have hysh:fSh w13.heap.size eF (wq.alloc (.cells #[.int .i64 y.id,.slice A' m c'] 30)) y [.int .i64 y.id,.slice A' m c'] []:=ZH ⟨_,rfl,dK hyv hbW⟩;clear hv hvq;go_wp2_with (at_builtin;refine mC _ rfl (.tmp 128) (.tmp 133) 24 rfl w13 30 i0 _ 2 32 Tryz.underlying24 hi hz0 hz1 hz2 rfl (by omega) (wC UB (Nat.le_refl _)) _ (l.take j) F' rfl hvW hF' ⟨wq.heap.size,0,none⟩ 1 rfl y [.int .i64 y.id,.slice A' m c'] [] hcl hysh rfl wq.heap.size hFm pA.nil hbjq.size (by have:=HKL.out;omega) (by have:=HKL.out;omega) hbW ?_;intro v' w' F2 hv2 hF2 hb2 hO2 hs2)
         go_roundg (nl+1-(j+1))
         case measure=>omega
         case rel=>exact ⟨j+1,F2,by omega,rfl,by go_num,HJ2,by rw [HSN.out];exact hv2,hF2,hb2⟩
        ·have HJK:=Lib.hid (hst.2 hlt);clear hst hy hm cy1 hyv;go_wp2_with fail;refine mA (by kernel_rfl) (by kernel_rfl) ?_
         repeat (first | go_big_quiet_skip | (go_big_quiet_want;go_big_quiet_op;first | go_big_quiet_on | (apply Exists.intro;refine ⟨fun _=>?_,?_⟩;(· ((fail)));go_big_quiet_on)))
         refine wpQuiet_nil ?_;rintro ⟨wq,hbq⟩;dsimp only at *;have hjK:=HJK.out;subst hjK;clear HJK;have hbjq:=hbj.then hbq;have hvq:=(pB (Nat.le_refl w13.heap.size)).bw hbq hbj.size hv;obtain ⟨Am,nm,cm,rfl,lm,_⟩:=iA (sE hvq hbjq.size);have hnm:nm=j:=by rw [lm,List.length_take];have:=LL.out;omega
         subst hnm;clear lm;have hD:=(Bw.refl wq).drew;have hbD:=hbjq.then hD;have c0d:=hbD.cell c0;have c1d:=hbD.cell c1;have hAl:=(Bw.refl wq.drew).alloc (.cells #[.int .i64 (id:Int),.slice (some ⟨w8.heap.size,0,none⟩) 3 3] 30);have hvD:=(pB (Nat.le_refl w13.heap.size)).bw hD hbjq.size hvq;have hvW:=(pB (Nat.le_refl w13.heap.size)).bw hAl hbD.size hvD;have hFm:∀b∈F',b<wq.heap.size:=(pB (Nat.le_refl w13.heap.size)).lt hvq;have hbW:=hbD.then hAl;have hcl:∀i t,[Value.int .i64 (id:Int),.slice (some ⟨w8.heap.size,0,none⟩) 3 3][i]? = some t→(wq.drew.alloc (.cells #[.int .i64 (id:Int),.slice (some ⟨w8.heap.size,0,none⟩) 3 3] 30)).cell? ((⟨wq.heap.size,0,none⟩:Addr).add i)=some t:=World.news_of_block (cs:=#[.int .i64 (id:Int),.slice (some ⟨w8.heap.size,0,none⟩) 3 3]) (t:=30) (fr:=(0,0)) (heap_alloc_new wq.drew _);have hxsh:fSh w13.heap.size eF (wq.drew.alloc (.cells #[.int .i64 (id:Int),.slice (some ⟨w8.heap.size,0,none⟩) 3 3] 30)) x [.int .i64 (id:Int),.slice (some ⟨w8.heap.size,0,none⟩) 3 3] []:=ZH ⟨_,by rw [← HX.out.2.1],dK hx13 hbW⟩;have HKL:=Lib.hid (show (l.take nm).length≤16 by rw [List.length_take];omega);have HKL2:=Lib.hid (show (l.take nm++[x]).length+(l.drop nm).length≤32 by have:=LL.out;rw [List.length_append,List.length_take,List.length_drop];simp;omega);have j0:(0:Int)≤(nm:Int):=by omega
         have j1:(nm:Int)≤(nl:Int):=by omega
         have j2:(nl:Int)≤(cl:Int):=by omega
         have j3:(nm:Int)≤(cl:Int):=by omega
         clear hv hvq hvD hbj hD;have j1n:nm≤nl:=by omega
         obtain ⟨X,hslX,hsuf⟩:=QL hl13 HOK.out LL j1n;have HSUF:=Lib.hid hsuf;clear hsuf;go_wp2_with fail
         go_region_law (first
          | (refine tE _ (by rfl) (.tmp 137) (.tmp 139) 24 (by rfl) w13 30 i0 _ 2 32 Tryz.underlying24 hi hz0 hz1 hz2 rfl (by omega) (wC UB (Nat.le_refl _)) _ (l.take nm) F' (by rfl) hvW hF' ⟨wq.heap.size,0,none⟩ 1 (by rfl) x [.int .i64 (id:Int),.slice (some ⟨w8.heap.size,0,none⟩) 3 3] [] hcl hxsh rfl wq.heap.size hFm pA.nil hbD.size (by have:=HKL.out;omega) (by have:=HKL.out;omega) hbW ?_;intro v30 w30 F30 hv30 hF30 hb30 hO30 hs30)
          | (refine bC _ (by rfl) (.tmp 140) (.tmp 143) 24 (by rfl) w13 30 i0 _ 2 32 Tryz.underlying24 hi hz0 hz1 hz2 rfl (by omega) (wC UB (Nat.le_refl _)) _ (l.take nm++[x]) F30 (by rfl) hv30 hF30 _ (by rfl) (l.drop nm) (HSUF.out _ hb30) (fun y u h=>ZH h) (by have:=HKL2.out;omega) (by have:=HKL2.out;omega) hb30 ?_;intro v31 w31 F31 hv31 hF31 hb31 hO31 hs31))
         all_goals
          rw [List.append_assoc,List.singleton_append] at hv31;have hl31:=sE hv31 hb31.size;obtain ⟨A31,n31,c31,rfl,l31,_⟩:=iA hl31;have hB31:=hB13.then hb31;have HOK1:=Lib.hid (EK hv31);clear l31 hv31;have hz1:=HR1.out.size hk;have zs1:=hz1.1;have zw1:=hz1.2.1;have eb:(⟨#[98,101,115,116,10]⟩:ByteArray).size=5:=rfl;have a10:∀W,(Op.stringOp .add (s++⟨#[97,100,100,32]⟩++T++⟨#[10]⟩) ⟨#[98,101,115,116,10]⟩).run Tryz.prog W=.ok (.string (s++⟨#[97,100,100,32]⟩++T++⟨#[10]⟩++⟨#[98,101,115,116,10]⟩)) W:=fun W=>run_string_add_sum W _ _ (by omega)
          have hR2:=HR1.out.best hk;have hz2:=(hR2.size (by omega)).2.1;have hcall:=YD w31 (l.take nm++x::l.drop nm) e _ _ hl31 (re4.bw lA hB31);have hids:∀v∈BA (l.take nm++x::l.drop nm) e,(Lit.int .i64 v).wf=true:=fun v hv=>by
           unfold BA at hv
           split at hv
           ·rename_i h;exact cI (qD (sA h) v hv)
           ·cases hv
          have hlen:=OC (l.take nm++x::l.drop nm) e;obtain ⟨bs,hbs⟩:∃bs,bs=BA (l.take nm++x::l.drop nm) e:=⟨_,rfl⟩;rw [← hbs] at hcall hids hlen hR2 hz2;have HIDS:=Lib.hid hids;have HR2:=Lib.hid hR2;clear hbs hids hz1 zs1 eb hR2;go_wp2_with fail;refine hcall.mono ?_;rintro e1 w20 ⟨v20,rfl,⟨F20,o20,f20⟩,hb20⟩;clear hcall;have r20:=AA o20;obtain ⟨A20,n20,c20,rfl,l20,_⟩:=iA r20;clear l20;have hcall:=eG w20 bs _ r20 HIDS.out (by omega);obtain ⟨I,hI⟩:∃I,I=nC bs:=⟨_,rfl⟩;rw [← hI] at hcall hz2;rw [cA,cA] at hz2;have HR3:=Lib.hid (show Rnd e (k+1) (s++⟨#[97,100,100,32]⟩++T++⟨#[10]⟩++⟨#[98,101,115,116,10]⟩) (want++⟨#[111,107]⟩++⟨#[10]⟩++I++⟨#[10]⟩) (l.take nm++x::l.drop nm) by rw [hI];exact HR2.out);have a11:∀W,(Op.stringOp .add (want++⟨#[111,107]⟩++⟨#[10]⟩) I).run Tryz.prog W=.ok (.string (want++⟨#[111,107]⟩++⟨#[10]⟩++I)) W:=fun W=>run_string_add_sum W _ _ (by omega)
          have a12:∀W,(Op.stringOp .add (want++⟨#[111,107]⟩++⟨#[10]⟩++I) ⟨#[10]⟩).run Tryz.prog W=.ok (.string (want++⟨#[111,107]⟩++⟨#[10]⟩++I++⟨#[10]⟩)) W:=fun W=>run_string_add_sum W _ _ (by rw [cA,z10];omega)
          clear hI hz2 r20 o20;go_wp2_with fail;refine hcall.mono ?_;rintro e1 w21 ⟨rfl,hb21⟩;clear hcall;have hB21:=(hB31).then (hb20.then hb21);have hl21:=(hl31).bw jA (hb20.then hb21);go_wp2
          go_roundg (10-(k+1))
          case measure=>omega
          case rel=>exact ⟨k+1,_,_,_,by omega,rfl,rfl,rfl,by go_num,hl21,hB21,HR3,Lib.hid (fun A n c h=>by injection h with h1 h2 h3;rw [← h1];exact HOK1.out)⟩
       ·have i2:¬(j:Int)<(nl:Int):=by omega
        have HJK:=Lib.hid (show j=K by rw [HK.out];exact WU (by rw [← HK.out];exact HJ.out) (by have:=LL.out;omega));have c0j:=hbj.cell c0;have s1:=qA c0j;go_wp2_with fail;refine mA (by kernel_rfl) (by kernel_rfl) ?_
        repeat (first | go_big_quiet_skip | (go_big_quiet_want;go_big_quiet_op;first | go_big_quiet_on | (apply Exists.intro;refine ⟨fun _=>?_,?_⟩;(· ((fail)));go_big_quiet_on)))
        refine wpQuiet_nil ?_;rintro ⟨wq,hbq⟩;dsimp only at *;have hjK:=HJK.out;subst hjK;clear HJK;have hbjq:=hbj.then hbq;have hvq:=(pB (Nat.le_refl w13.heap.size)).bw hbq hbj.size hv;obtain ⟨Am,nm,cm,rfl,lm,_⟩:=iA (sE hvq hbjq.size);have hnm:nm=j:=by rw [lm,List.length_take];have:=LL.out;omega
        subst hnm;clear lm;have hD:=(Bw.refl wq).drew;have hbD:=hbjq.then hD;have c0d:=hbD.cell c0;have c1d:=hbD.cell c1;have hAl:=(Bw.refl wq.drew).alloc (.cells #[.int .i64 (id:Int),.slice (some ⟨w8.heap.size,0,none⟩) 3 3] 30);have hvD:=(pB (Nat.le_refl w13.heap.size)).bw hD hbjq.size hvq;have hvW:=(pB (Nat.le_refl w13.heap.size)).bw hAl hbD.size hvD;have hFm:∀b∈F',b<wq.heap.size:=(pB (Nat.le_refl w13.heap.size)).lt hvq;have hbW:=hbD.then hAl;have hcl:∀i t,[Value.int .i64 (id:Int),.slice (some ⟨w8.heap.size,0,none⟩) 3 3][i]? = some t→(wq.drew.alloc (.cells #[.int .i64 (id:Int),.slice (some ⟨w8.heap.size,0,none⟩) 3 3] 30)).cell? ((⟨wq.heap.size,0,none⟩:Addr).add i)=some t:=World.news_of_block (cs:=#[.int .i64 (id:Int),.slice (some ⟨w8.heap.size,0,none⟩) 3 3]) (t:=30) (fr:=(0,0)) (heap_alloc_new wq.drew _);have hxsh:fSh w13.heap.size eF (wq.drew.alloc (.cells #[.int .i64 (id:Int),.slice (some ⟨w8.heap.size,0,none⟩) 3 3] 30)) x [.int .i64 (id:Int),.slice (some ⟨w8.heap.size,0,none⟩) 3 3] []:=ZH ⟨_,by rw [← HX.out.2.1],dK hx13 hbW⟩;have HKL:=Lib.hid (show (l.take nm).length≤16 by rw [List.length_take];omega);have HKL2:=Lib.hid (show (l.take nm++[x]).length+(l.drop nm).length≤32 by have:=LL.out;rw [List.length_append,List.length_take,List.length_drop];simp;omega);have j0:(0:Int)≤(nm:Int):=by omega
        have j1:(nm:Int)≤(nl:Int):=by omega
        have j2:(nl:Int)≤(cl:Int):=by omega
        have j3:(nm:Int)≤(cl:Int):=by omega
        clear hv hvq hvD hbj hD;have j1n:nm≤nl:=by omega
        obtain ⟨X,hslX,hsuf⟩:=QL hl13 HOK.out LL j1n;have HSUF:=Lib.hid hsuf;clear hsuf;go_wp2_with fail
        go_region_law (first
         | (refine tE _ (by rfl) (.tmp 137) (.tmp 139) 24 (by rfl) w13 30 i0 _ 2 32 Tryz.underlying24 hi hz0 hz1 hz2 rfl (by omega) (wC UB (Nat.le_refl _)) _ (l.take nm) F' (by rfl) hvW hF' ⟨wq.heap.size,0,none⟩ 1 (by rfl) x [.int .i64 (id:Int),.slice (some ⟨w8.heap.size,0,none⟩) 3 3] [] hcl hxsh rfl wq.heap.size hFm pA.nil hbD.size (by have:=HKL.out;omega) (by have:=HKL.out;omega) hbW ?_;intro v30 w30 F30 hv30 hF30 hb30 hO30 hs30)
         | (refine bC _ (by rfl) (.tmp 140) (.tmp 143) 24 (by rfl) w13 30 i0 _ 2 32 Tryz.underlying24 hi hz0 hz1 hz2 rfl (by omega) (wC UB (Nat.le_refl _)) _ (l.take nm++[x]) F30 (by rfl) hv30 hF30 _ (by rfl) (l.drop nm) (HSUF.out _ hb30) (fun y u h=>ZH h) (by have:=HKL2.out;omega) (by have:=HKL2.out;omega) hb30 ?_;intro v31 w31 F31 hv31 hF31 hb31 hO31 hs31))
        all_goals
         rw [List.append_assoc,List.singleton_append] at hv31;have hl31:=sE hv31 hb31.size;obtain ⟨A31,n31,c31,rfl,l31,_⟩:=iA hl31;have hB31:=hB13.then hb31;have HOK1:=Lib.hid (EK hv31);clear l31 hv31;have hz1:=HR1.out.size hk;have zs1:=hz1.1;have zw1:=hz1.2.1;have eb:(⟨#[98,101,115,116,10]⟩:ByteArray).size=5:=rfl;have a10:∀W,(Op.stringOp .add (s++⟨#[97,100,100,32]⟩++T++⟨#[10]⟩) ⟨#[98,101,115,116,10]⟩).run Tryz.prog W=.ok (.string (s++⟨#[97,100,100,32]⟩++T++⟨#[10]⟩++⟨#[98,101,115,116,10]⟩)) W:=fun W=>run_string_add_sum W _ _ (by omega)
         have hR2:=HR1.out.best hk;have hz2:=(hR2.size (by omega)).2.1;have hcall:=YD w31 (l.take nm++x::l.drop nm) e _ _ hl31 (re4.bw lA hB31);have hids:∀v∈BA (l.take nm++x::l.drop nm) e,(Lit.int .i64 v).wf=true:=fun v hv=>by
          unfold BA at hv
          split at hv
          ·rename_i h;exact cI (qD (sA h) v hv)
          ·cases hv
         have hlen:=OC (l.take nm++x::l.drop nm) e;obtain ⟨bs,hbs⟩:∃bs,bs=BA (l.take nm++x::l.drop nm) e:=⟨_,rfl⟩;rw [← hbs] at hcall hids hlen hR2 hz2;have HIDS:=Lib.hid hids;have HR2:=Lib.hid hR2;clear hbs hids hz1 zs1 eb hR2;go_wp2_with fail;refine hcall.mono ?_;rintro e1 w20 ⟨v20,rfl,⟨F20,o20,f20⟩,hb20⟩;clear hcall;have r20:=AA o20;obtain ⟨A20,n20,c20,rfl,l20,_⟩:=iA r20;clear l20;have hcall:=eG w20 bs _ r20 HIDS.out (by omega);obtain ⟨I,hI⟩:∃I,I=nC bs:=⟨_,rfl⟩;rw [← hI] at hcall hz2;rw [cA,cA] at hz2;have HR3:=Lib.hid (show Rnd e (k+1) (s++⟨#[97,100,100,32]⟩++T++⟨#[10]⟩++⟨#[98,101,115,116,10]⟩) (want++⟨#[111,107]⟩++⟨#[10]⟩++I++⟨#[10]⟩) (l.take nm++x::l.drop nm) by rw [hI];exact HR2.out);have a11:∀W,(Op.stringOp .add (want++⟨#[111,107]⟩++⟨#[10]⟩) I).run Tryz.prog W=.ok (.string (want++⟨#[111,107]⟩++⟨#[10]⟩++I)) W:=fun W=>run_string_add_sum W _ _ (by omega)
         have a12:∀W,(Op.stringOp .add (want++⟨#[111,107]⟩++⟨#[10]⟩++I) ⟨#[10]⟩).run Tryz.prog W=.ok (.string (want++⟨#[111,107]⟩++⟨#[10]⟩++I++⟨#[10]⟩)) W:=fun W=>run_string_add_sum W _ _ (by rw [cA,z10];omega)
         clear hI hz2 r20 o20;go_wp2_with fail;refine hcall.mono ?_;rintro e1 w21 ⟨rfl,hb21⟩;clear hcall;have hB21:=(hB31).then (hb20.then hb21);have hl21:=(hl31).bw jA (hb20.then hb21);go_wp2
         go_roundg (10-(k+1))
         case measure=>omega
         case rel=>exact ⟨k+1,_,_,_,by omega,rfl,rfl,rfl,by go_num,hl21,hB21,HR3,Lib.hid (fun A n c h=>by injection h with h1 h2 h3;rw [← h1];exact HOK1.out)⟩
     ·have i9:decide (F<0)=false:=decide_eq_false hf;have HNF:=Lib.hid hf;have hcall:=PL (w12.alloc (.cells #[.string ⟨#[110,111]⟩,.string ⟨#[111,107]⟩] 9)) false;go_wp2_with fail;refine hcall.mono ?_;rintro e1 w13 ⟨rfl,hb13⟩;clear hcall;have hbw:Bw w12 (w12.alloc (.cells #[.string ⟨#[110,111]⟩,.string ⟨#[111,107]⟩] 9)):=(Bw.refl w12).alloc _;have hb1213:=hbw.then hb13;have d0:w13.cell? ⟨w12.heap.size,0,none⟩=some (.string ⟨#[110,111]⟩):=hb13.cell (by go_simp);have d1:w13.cell? ⟨w12.heap.size,1,none⟩=some (.string ⟨#[111,107]⟩):=hb13.cell (by go_simp);have en:(⟨#[110,111]⟩:ByteArray).size=2:=rfl;have a8:∀W,(Op.stringOp .add want ⟨#[110,111]⟩).run Tryz.prog W=.ok (.string (want++⟨#[110,111]⟩)) W:=fun W=>run_string_add_sum W _ _ (by omega)
      have a9:∀W,(Op.stringOp .add (want++⟨#[110,111]⟩) ⟨#[10]⟩).run Tryz.prog W=.ok (.string (want++⟨#[110,111]⟩++⟨#[10]⟩)) W:=fun W=>run_string_add_sum W _ _ (by rw [cA,z10];omega)
      clear en;have hR1:=HR.out.add hk HX.out.1 HX.out.2.2;have hnf:¬F<0:=by have:=HNF.out;omega
      rw [← HF.out,if_neg hnf,← HT.out,decide_eq_false hnf] at hR1;clear hnf;have HR1:=Lib.hid (show wN e k (s++⟨#[97,100,100,32]⟩++T++⟨#[10]⟩) (want++⟨#[110,111]⟩++⟨#[10]⟩) l from hR1);clear hR1;have hB13:=hB11.then (hb12.then hb1213);have hl13:=hl11.bw jA (hb12.then hb1213);have HOK1:=HOK;have hz1:=HR1.out.size hk;have zs1:=hz1.1;have zw1:=hz1.2.1;have eb:(⟨#[98,101,115,116,10]⟩:ByteArray).size=5:=rfl;have a10:∀W,(Op.stringOp .add (s++⟨#[97,100,100,32]⟩++T++⟨#[10]⟩) ⟨#[98,101,115,116,10]⟩).run Tryz.prog W=.ok (.string (s++⟨#[97,100,100,32]⟩++T++⟨#[10]⟩++⟨#[98,101,115,116,10]⟩)) W:=fun W=>run_string_add_sum W _ _ (by omega)
      have hR2:=HR1.out.best hk;have hz2:=(hR2.size (by omega)).2.1;have hcall:=YD w13 (l) e _ _ hl13 (re4.bw lA hB13);have hids:∀v∈BA (l) e,(Lit.int .i64 v).wf=true:=fun v hv=>by
       unfold BA at hv
       split at hv
       ·rename_i h;exact cI (qD (sA h) v hv)
       ·cases hv
      have hlen:=OC (l) e;obtain ⟨bs,hbs⟩:∃bs,bs=BA (l) e:=⟨_,rfl⟩;rw [← hbs] at hcall hids hlen hR2 hz2;have HIDS:=Lib.hid hids;have HR2:=Lib.hid hR2;clear hbs hids hz1 zs1 eb hR2;go_wp2_with fail;refine hcall.mono ?_;rintro e1 w20 ⟨v20,rfl,⟨F20,o20,f20⟩,hb20⟩;clear hcall;have r20:=AA o20;obtain ⟨A20,n20,c20,rfl,l20,_⟩:=iA r20;clear l20;have hcall:=eG w20 bs _ r20 HIDS.out (by omega);obtain ⟨I,hI⟩:∃I,I=nC bs:=⟨_,rfl⟩;rw [← hI] at hcall hz2;rw [cA,cA] at hz2;have HR3:=Lib.hid (show Rnd e (k+1) (s++⟨#[97,100,100,32]⟩++T++⟨#[10]⟩++⟨#[98,101,115,116,10]⟩) (want++⟨#[110,111]⟩++⟨#[10]⟩++I++⟨#[10]⟩) (l) by rw [hI];exact HR2.out);have a11:∀W,(Op.stringOp .add (want++⟨#[110,111]⟩++⟨#[10]⟩) I).run Tryz.prog W=.ok (.string (want++⟨#[110,111]⟩++⟨#[10]⟩++I)) W:=fun W=>run_string_add_sum W _ _ (by omega)
      have a12:∀W,(Op.stringOp .add (want++⟨#[110,111]⟩++⟨#[10]⟩++I) ⟨#[10]⟩).run Tryz.prog W=.ok (.string (want++⟨#[110,111]⟩++⟨#[10]⟩++I++⟨#[10]⟩)) W:=fun W=>run_string_add_sum W _ _ (by rw [cA,z10];omega)
      clear hI hz2 r20 o20;go_wp2_with fail;refine hcall.mono ?_;rintro e1 w21 ⟨rfl,hb21⟩;clear hcall;have hB21:=(hB13).then (hb20.then hb21);have hl21:=(hl13).bw jA (hb20.then hb21);go_wp2
      go_roundg (10-(k+1))
      case measure=>omega
      case rel=>exact ⟨k+1,_,_,_,by omega,rfl,rfl,rfl,by go_num,hl21,hB21,HR3,Lib.hid (fun A n c h=>by injection h with h1 h2 h3;rw [← h1];exact HOK1.out)⟩
    have z1:((op:Int)==1)=false:=by rw [beq_eq_false_iff_ne];omega
    by_cases g2:op=2
    ·have z2:((op:Int)==2)=true:=by rw [beq_iff_eq];omega
     clear g0 g1 g2 lop;have hzz:=HR.out.size hk;have zs:=hzz.1;have zw:=hzz.2.1;have hcall:=rK w11 x _ hx9;have hxz:=dJ HX.out.1 HX.out.2.2;rw [← HX.out.2.1] at hcall;obtain ⟨T,hT⟩:∃T,T=LB x:=⟨_,rfl⟩;rw [← hT] at hcall hxz;have HT:=Lib.hid hT;have ez:(⟨#[99,104,97,110,103,101,32]⟩:ByteArray).size=7:=rfl;have a5:∀W,(Op.stringOp .add s ⟨#[99,104,97,110,103,101,32]⟩).run Tryz.prog W=.ok (.string (s++⟨#[99,104,97,110,103,101,32]⟩)) W:=fun W=>run_string_add_sum W _ _ (by omega)
     have a6:∀W,(Op.stringOp .add (s++⟨#[99,104,97,110,103,101,32]⟩) T).run Tryz.prog W=.ok (.string (s++⟨#[99,104,97,110,103,101,32]⟩++T)) W:=fun W=>run_string_add_sum W _ _ (by rw [cA];omega)
     have a7:∀W,(Op.stringOp .add (s++⟨#[99,104,97,110,103,101,32]⟩++T) ⟨#[10]⟩).run Tryz.prog W=.ok (.string (s++⟨#[99,104,97,110,103,101,32]⟩++T++⟨#[10]⟩)) W:=fun W=>run_string_add_sum W _ _ (by rw [cA,cA,z10];omega)
     clear hT ez hxz hzz;go_wp2_with fail;refine hcall.mono ?_;rintro e1 w12 ⟨rfl,hb12⟩;clear hcall;by_cases hf:0≤F
     ·have i9:decide (0≤F)=true:=decide_eq_true hf;have HNF:=Lib.hid hf;have hcall:=PL (w12.alloc (.cells #[.string ⟨#[110,111]⟩,.string ⟨#[111,107]⟩] 9)) true;go_wp2_with fail;refine hcall.mono ?_;rintro e1 w13 ⟨rfl,hb13⟩;clear hcall;have hbw:Bw w12 (w12.alloc (.cells #[.string ⟨#[110,111]⟩,.string ⟨#[111,107]⟩] 9)):=(Bw.refl w12).alloc _;have hb1213:=hbw.then hb13;have d0:w13.cell? ⟨w12.heap.size,0,none⟩=some (.string ⟨#[110,111]⟩):=hb13.cell (by go_simp);have d1:w13.cell? ⟨w12.heap.size,1,none⟩=some (.string ⟨#[111,107]⟩):=hb13.cell (by go_simp);have en:(⟨#[111,107]⟩:ByteArray).size=2:=rfl;have a8:∀W,(Op.stringOp .add want ⟨#[111,107]⟩).run Tryz.prog W=.ok (.string (want++⟨#[111,107]⟩)) W:=fun W=>run_string_add_sum W _ _ (by omega)
      have a9:∀W,(Op.stringOp .add (want++⟨#[111,107]⟩) ⟨#[10]⟩).run Tryz.prog W=.ok (.string (want++⟨#[111,107]⟩++⟨#[10]⟩)) W:=fun W=>run_string_add_sum W _ _ (by rw [cA,z10];omega)
      clear en;have hR1:=HR.out.change hk HX.out.1 HX.out.2.2;rw [← HF.out,← HT.out,decide_eq_true HNF.out] at hR1;have HR1:=Lib.hid (show wN e k (s++⟨#[99,104,97,110,103,101,32]⟩++T++⟨#[10]⟩) (want++⟨#[111,107]⟩++⟨#[10]⟩) (LF l x) from hR1);clear hR1;have hB13:=hB11.then (hb12.then hb1213);have hl13:=hl11.bw jA (hb12.then hb1213);have hx13:=hx9.bw dA (hb12.then hb1213);have c0:=(hb12.then hb1213).cell c0;have c1:=(hb12.then hb1213).cell c1;have hcall:=OM w13 l x _ _ hl13 hx13 (eV (HR.out.size hk).2.2.2) (by rw [YA HX.out.1];decide);rw [← HX.out.2.1] at hcall;go_wp2_with fail;refine hcall.mono ?_;rintro e1 w14 ⟨v14,rfl,⟨F14,o14,f14⟩,hb14⟩;clear hcall;have hl14:=vC o14;obtain ⟨A14,n14,c14,rfl,l14,_⟩:=iA hl14;have HOK1:=Lib.hid (EK o14);have hB14:=hB13.then hb14;clear l14 o14;have hz1:=HR1.out.size hk;have zs1:=hz1.1;have zw1:=hz1.2.1;have eb:(⟨#[98,101,115,116,10]⟩:ByteArray).size=5:=rfl;have a10:∀W,(Op.stringOp .add (s++⟨#[99,104,97,110,103,101,32]⟩++T++⟨#[10]⟩) ⟨#[98,101,115,116,10]⟩).run Tryz.prog W=.ok (.string (s++⟨#[99,104,97,110,103,101,32]⟩++T++⟨#[10]⟩++⟨#[98,101,115,116,10]⟩)) W:=fun W=>run_string_add_sum W _ _ (by omega)
      have hR2:=HR1.out.best hk;have hz2:=(hR2.size (by omega)).2.1;have hcall:=YD w14 (LF l x) e _ _ hl14 (re4.bw lA hB14);have hids:∀v∈BA (LF l x) e,(Lit.int .i64 v).wf=true:=fun v hv=>by
       unfold BA at hv
       split at hv
       ·rename_i h;exact cI (qD (sA h) v hv)
       ·cases hv
      have hlen:=OC (LF l x) e;obtain ⟨bs,hbs⟩:∃bs,bs=BA (LF l x) e:=⟨_,rfl⟩;rw [← hbs] at hcall hids hlen hR2 hz2;have HIDS:=Lib.hid hids;have HR2:=Lib.hid hR2;clear hbs hids hz1 zs1 eb hR2;go_wp2_with fail;refine hcall.mono ?_;rintro e1 w20 ⟨v20,rfl,⟨F20,o20,f20⟩,hb20⟩;clear hcall;have r20:=AA o20;obtain ⟨A20,n20,c20,rfl,l20,_⟩:=iA r20;clear l20;have hcall:=eG w20 bs _ r20 HIDS.out (by omega);obtain ⟨I,hI⟩:∃I,I=nC bs:=⟨_,rfl⟩;rw [← hI] at hcall hz2;rw [cA,cA] at hz2;have HR3:=Lib.hid (show Rnd e (k+1) (s++⟨#[99,104,97,110,103,101,32]⟩++T++⟨#[10]⟩++⟨#[98,101,115,116,10]⟩) (want++⟨#[111,107]⟩++⟨#[10]⟩++I++⟨#[10]⟩) (LF l x) by rw [hI];exact HR2.out);have a11:∀W,(Op.stringOp .add (want++⟨#[111,107]⟩++⟨#[10]⟩) I).run Tryz.prog W=.ok (.string (want++⟨#[111,107]⟩++⟨#[10]⟩++I)) W:=fun W=>run_string_add_sum W _ _ (by omega)
      have a12:∀W,(Op.stringOp .add (want++⟨#[111,107]⟩++⟨#[10]⟩++I) ⟨#[10]⟩).run Tryz.prog W=.ok (.string (want++⟨#[111,107]⟩++⟨#[10]⟩++I++⟨#[10]⟩)) W:=fun W=>run_string_add_sum W _ _ (by rw [cA,z10];omega)
      clear hI hz2 r20 o20;go_wp2_with fail;refine hcall.mono ?_;rintro e1 w21 ⟨rfl,hb21⟩;clear hcall;have hB21:=(hB14).then (hb20.then hb21);have hl21:=(hl14).bw jA (hb20.then hb21);go_wp2
      go_roundg (10-(k+1))
      case measure=>omega
      case rel=>exact ⟨k+1,_,_,_,by omega,rfl,rfl,rfl,by go_num,hl21,hB21,HR3,Lib.hid (fun A n c h=>by injection h with h1 h2 h3;rw [← h1];exact HOK1.out)⟩
     ·have i9:decide (0≤F)=false:=decide_eq_false hf;have HNF:=Lib.hid hf;have hcall:=PL (w12.alloc (.cells #[.string ⟨#[110,111]⟩,.string ⟨#[111,107]⟩] 9)) false;go_wp2_with fail;refine hcall.mono ?_;rintro e1 w13 ⟨rfl,hb13⟩;clear hcall;have hbw:Bw w12 (w12.alloc (.cells #[.string ⟨#[110,111]⟩,.string ⟨#[111,107]⟩] 9)):=(Bw.refl w12).alloc _;have hb1213:=hbw.then hb13;have d0:w13.cell? ⟨w12.heap.size,0,none⟩=some (.string ⟨#[110,111]⟩):=hb13.cell (by go_simp);have d1:w13.cell? ⟨w12.heap.size,1,none⟩=some (.string ⟨#[111,107]⟩):=hb13.cell (by go_simp);have en:(⟨#[110,111]⟩:ByteArray).size=2:=rfl;have a8:∀W,(Op.stringOp .add want ⟨#[110,111]⟩).run Tryz.prog W=.ok (.string (want++⟨#[110,111]⟩)) W:=fun W=>run_string_add_sum W _ _ (by omega)
      have a9:∀W,(Op.stringOp .add (want++⟨#[110,111]⟩) ⟨#[10]⟩).run Tryz.prog W=.ok (.string (want++⟨#[110,111]⟩++⟨#[10]⟩)) W:=fun W=>run_string_add_sum W _ _ (by rw [cA,z10];omega)
      clear en;have hR1:=HR.out.change hk HX.out.1 HX.out.2.2;rw [← HF.out,← HT.out,decide_eq_false (show ¬0≤F by have:=HNF.out;omega)] at hR1;have HR1:=Lib.hid (show wN e k (s++⟨#[99,104,97,110,103,101,32]⟩++T++⟨#[10]⟩) (want++⟨#[110,111]⟩++⟨#[10]⟩) (LF l x) from hR1);clear hR1;have hB13:=hB11.then (hb12.then hb1213);have hl13:=hl11.bw jA (hb12.then hb1213);have hx13:=hx9.bw dA (hb12.then hb1213);have c0:=(hb12.then hb1213).cell c0;have c1:=(hb12.then hb1213).cell c1;have hcall:=OM w13 l x _ _ hl13 hx13 (eV (HR.out.size hk).2.2.2) (by rw [YA HX.out.1];decide);rw [← HX.out.2.1] at hcall;go_wp2_with fail;refine hcall.mono ?_;rintro e1 w14 ⟨v14,rfl,⟨F14,o14,f14⟩,hb14⟩;clear hcall;have hl14:=vC o14;obtain ⟨A14,n14,c14,rfl,l14,_⟩:=iA hl14;have HOK1:=Lib.hid (EK o14);have hB14:=hB13.then hb14;clear l14 o14;have hz1:=HR1.out.size hk;have zs1:=hz1.1;have zw1:=hz1.2.1;have eb:(⟨#[98,101,115,116,10]⟩:ByteArray).size=5:=rfl;have a10:∀W,(Op.stringOp .add (s++⟨#[99,104,97,110,103,101,32]⟩++T++⟨#[10]⟩) ⟨#[98,101,115,116,10]⟩).run Tryz.prog W=.ok (.string (s++⟨#[99,104,97,110,103,101,32]⟩++T++⟨#[10]⟩++⟨#[98,101,115,116,10]⟩)) W:=fun W=>run_string_add_sum W _ _ (by omega)
      have hR2:=HR1.out.best hk;have hz2:=(hR2.size (by omega)).2.1;have hcall:=YD w14 (LF l x) e _ _ hl14 (re4.bw lA hB14);have hids:∀v∈BA (LF l x) e,(Lit.int .i64 v).wf=true:=fun v hv=>by
       unfold BA at hv
       split at hv
       ·rename_i h;exact cI (qD (sA h) v hv)
       ·cases hv
      have hlen:=OC (LF l x) e;obtain ⟨bs,hbs⟩:∃bs,bs=BA (LF l x) e:=⟨_,rfl⟩;rw [← hbs] at hcall hids hlen hR2 hz2;have HIDS:=Lib.hid hids;have HR2:=Lib.hid hR2;clear hbs hids hz1 zs1 eb hR2;go_wp2_with fail;refine hcall.mono ?_;rintro e1 w20 ⟨v20,rfl,⟨F20,o20,f20⟩,hb20⟩;clear hcall;have r20:=AA o20;obtain ⟨A20,n20,c20,rfl,l20,_⟩:=iA r20;clear l20;have hcall:=eG w20 bs _ r20 HIDS.out (by omega);obtain ⟨I,hI⟩:∃I,I=nC bs:=⟨_,rfl⟩;rw [← hI] at hcall hz2;rw [cA,cA] at hz2;have HR3:=Lib.hid (show Rnd e (k+1) (s++⟨#[99,104,97,110,103,101,32]⟩++T++⟨#[10]⟩++⟨#[98,101,115,116,10]⟩) (want++⟨#[110,111]⟩++⟨#[10]⟩++I++⟨#[10]⟩) (LF l x) by rw [hI];exact HR2.out);have a11:∀W,(Op.stringOp .add (want++⟨#[110,111]⟩++⟨#[10]⟩) I).run Tryz.prog W=.ok (.string (want++⟨#[110,111]⟩++⟨#[10]⟩++I)) W:=fun W=>run_string_add_sum W _ _ (by omega)
      have a12:∀W,(Op.stringOp .add (want++⟨#[110,111]⟩++⟨#[10]⟩++I) ⟨#[10]⟩).run Tryz.prog W=.ok (.string (want++⟨#[110,111]⟩++⟨#[10]⟩++I++⟨#[10]⟩)) W:=fun W=>run_string_add_sum W _ _ (by rw [cA,z10];omega)
      clear hI hz2 r20 o20;go_wp2_with fail;refine hcall.mono ?_;rintro e1 w21 ⟨rfl,hb21⟩;clear hcall;have hB21:=(hB14).then (hb20.then hb21);have hl21:=(hl14).bw jA (hb20.then hb21);go_wp2
      go_roundg (10-(k+1))
      case measure=>omega
      case rel=>exact ⟨k+1,_,_,_,by omega,rfl,rfl,rfl,by go_num,hl21,hB21,HR3,Lib.hid (fun A n c h=>by injection h with h1 h2 h3;rw [← h1];exact HOK1.out)⟩
    have z2:((op:Int)==2)=false:=by rw [beq_eq_false_iff_ne];omega
    clear g0 g1 g2 lop;have hzz:=HR.out.size hk;have zs:=hzz.1;have zw:=hzz.2.1;have hcall:=KC w11 (id:Int) (SJ (by have:=HX.out.2;omega));have hxz:=fZ (n:=(id:Int)) (by have:=HX.out.2;omega);obtain ⟨T,hT⟩:∃T,T=EA (id:Int):=⟨_,rfl⟩;rw [← hT] at hcall hxz;have HT:=Lib.hid (show T=EA x.id by rw [hT,HX.out.2.1]);have ez:(⟨#[100,114,111,112,32]⟩:ByteArray).size=5:=rfl;have a5:∀W,(Op.stringOp .add s ⟨#[100,114,111,112,32]⟩).run Tryz.prog W=.ok (.string (s++⟨#[100,114,111,112,32]⟩)) W:=fun W=>run_string_add_sum W _ _ (by omega)
    have a6:∀W,(Op.stringOp .add (s++⟨#[100,114,111,112,32]⟩) T).run Tryz.prog W=.ok (.string (s++⟨#[100,114,111,112,32]⟩++T)) W:=fun W=>run_string_add_sum W _ _ (by rw [cA];omega)
    have a7:∀W,(Op.stringOp .add (s++⟨#[100,114,111,112,32]⟩++T) ⟨#[10]⟩).run Tryz.prog W=.ok (.string (s++⟨#[100,114,111,112,32]⟩++T++⟨#[10]⟩)) W:=fun W=>run_string_add_sum W _ _ (by rw [cA,cA,z10];omega)
    clear hT ez hxz hzz;go_wp2_with fail;refine hcall.mono ?_;rintro e1 w12 ⟨rfl,hb12⟩;clear hcall;by_cases hf:0≤F
    ·have i9:decide (0≤F)=true:=decide_eq_true hf;have HNF:=Lib.hid hf;have hcall:=PL (w12.alloc (.cells #[.string ⟨#[110,111]⟩,.string ⟨#[111,107]⟩] 9)) true;go_wp2_with fail;refine hcall.mono ?_;rintro e1 w13 ⟨rfl,hb13⟩;clear hcall;have hbw:Bw w12 (w12.alloc (.cells #[.string ⟨#[110,111]⟩,.string ⟨#[111,107]⟩] 9)):=(Bw.refl w12).alloc _;have hb1213:=hbw.then hb13;have d0:w13.cell? ⟨w12.heap.size,0,none⟩=some (.string ⟨#[110,111]⟩):=hb13.cell (by go_simp);have d1:w13.cell? ⟨w12.heap.size,1,none⟩=some (.string ⟨#[111,107]⟩):=hb13.cell (by go_simp);have en:(⟨#[111,107]⟩:ByteArray).size=2:=rfl;have a8:∀W,(Op.stringOp .add want ⟨#[111,107]⟩).run Tryz.prog W=.ok (.string (want++⟨#[111,107]⟩)) W:=fun W=>run_string_add_sum W _ _ (by omega)
     have a9:∀W,(Op.stringOp .add (want++⟨#[111,107]⟩) ⟨#[10]⟩).run Tryz.prog W=.ok (.string (want++⟨#[111,107]⟩++⟨#[10]⟩)) W:=fun W=>run_string_add_sum W _ _ (by rw [cA,z10];omega)
     clear en;have hR1:=HR.out.drop hk (id:=x.id) (by have:=HX.out.2;omega);obtain ⟨j,hj⟩:∃j:Nat,F=(j:Int):=⟨F.toNat,by have:=HNF.out;omega⟩;subst hj;have hjl:j<nl∧WB l [x.id] false=l.take j++l.drop (j+1):=by
      have h1:=qG (HR.out.size hk).2.2.2 HF.out.symm;rcases PB l x.id with ⟨h2,_⟩ | ⟨i,y,h2,h3,_⟩
      ·have:=HF.out;omega
      ·have h4:=HF.out;have h5:i=j:=by omega
       have h6:=(List.getElem?_eq_some_iff.1 h3).1;have:=LL.out;exact ⟨by omega,h1⟩
     rw [← HF.out,if_pos HNF.out,← HT.out,decide_eq_true HNF.out,hjl.2] at hR1;have HR1:=Lib.hid (show wN e k (s++⟨#[100,114,111,112,32]⟩++T++⟨#[10]⟩) (want++⟨#[111,107]⟩++⟨#[10]⟩) (l.take j++l.drop (j+1)) from hR1);have hjn:=hjl.1;clear hR1 hjl;have hB13:=hB11.then (hb12.then hb1213);have hl13:=hl11.bw jA (hb12.then hb1213);obtain ⟨X,hslX,hsuf⟩:=QL hl13 HOK.out LL (k:=j+1) (by omega);obtain ⟨Y,hslY,hpre⟩:=eAe hl13 HOK.out LL (k:=j) (by omega);rw [show (((j+1:Nat)):Int)=(j:Int)+1 by omega] at hslX;have HSUF:=Lib.hid hsuf;have HPRE:=Lib.hid hpre;have j8:IntKind.i64.wrap ((j:Int)+1)=(j:Int)+1:=IntWalk.i64_in _ (by omega);have hD:=(Bw.refl w13).drew;have hbW:=hD.alloc (.cells #[] 30);have hv0:ZJ w13.heap.size (w13.drew.alloc (.cells #[] 30)) [] [.slice (some ⟨w13.heap.size,0,none⟩) 0 0] [w13.heap.size]:=PA (e:=30) (sz:=2) (R:=fSh w13.heap.size eF) w13.drew;have HKL:=Lib.hid (show (l.take j).length+(l.drop (j+1)).length≤32 by have:=LL.out;rw [List.length_take,List.length_drop];omega);clear hsuf hpre;go_wp2_with fail
     go_region_law (first
      | (refine bC _ (by rfl) (.tmp 81) (.tmp 84) 24 (by rfl) w13 30 i0 _ 2 32 Tryz.underlying24 hi hz0 hz1 hz2 rfl (by omega) (wC UB (Nat.le_refl _)) _ [] [w13.heap.size] (by rfl) hv0 ⟨by simp,by simp⟩ _ (by rfl) (l.take j) (HPRE.out _ hbW) (fun y u h=>ZH h) (by have:=HKL.out;simp only [List.length_nil];omega) (by have:=HKL.out;simp only [List.length_nil];omega) hbW ?_;intro v30 w30 F30 hv30 hF30 hb30 hO30 hs30;rw [List.nil_append] at hv30)
      | (refine bC _ (by rfl) (.tmp 85) (.tmp 89) 24 (by rfl) w13 30 i0 _ 2 32 Tryz.underlying24 hi hz0 hz1 hz2 rfl (by omega) (wC UB (Nat.le_refl _)) _ (l.take j) F30 (by rfl) hv30 hF30 _ (by rfl) (l.drop (j+1)) (HSUF.out _ hb30) (fun y u h=>ZH h) (by have:=HKL.out;omega) (by have:=HKL.out;omega) hb30 ?_;intro v31 w31 F31 hv31 hF31 hb31 hO31 hs31))
     all_goals
      have hl31:=sE hv31 hb31.size;obtain ⟨A31,n31,c31,rfl,l31,_⟩:=iA hl31;have hB31:=hB13.then hb31;have HOK1:=Lib.hid (EK hv31);clear l31 hv31;have hz1:=HR1.out.size hk;have zs1:=hz1.1;have zw1:=hz1.2.1;have eb:(⟨#[98,101,115,116,10]⟩:ByteArray).size=5:=rfl;have a10:∀W,(Op.stringOp .add (s++⟨#[100,114,111,112,32]⟩++T++⟨#[10]⟩) ⟨#[98,101,115,116,10]⟩).run Tryz.prog W=.ok (.string (s++⟨#[100,114,111,112,32]⟩++T++⟨#[10]⟩++⟨#[98,101,115,116,10]⟩)) W:=fun W=>run_string_add_sum W _ _ (by omega)
      have hR2:=HR1.out.best hk;have hz2:=(hR2.size (by omega)).2.1;have hcall:=YD w31 (l.take j++l.drop (j+1)) e _ _ hl31 (re4.bw lA hB31);have hids:∀v∈BA (l.take j++l.drop (j+1)) e,(Lit.int .i64 v).wf=true:=fun v hv=>by
       unfold BA at hv
       split at hv
       ·rename_i h;exact cI (qD (sA h) v hv)
       ·cases hv
      have hlen:=OC (l.take j++l.drop (j+1)) e;obtain ⟨bs,hbs⟩:∃bs,bs=BA (l.take j++l.drop (j+1)) e:=⟨_,rfl⟩;rw [← hbs] at hcall hids hlen hR2 hz2;have HIDS:=Lib.hid hids;have HR2:=Lib.hid hR2;clear hbs hids hz1 zs1 eb hR2;go_wp2_with fail;refine hcall.mono ?_;rintro e1 w20 ⟨v20,rfl,⟨F20,o20,f20⟩,hb20⟩;clear hcall;have r20:=AA o20;obtain ⟨A20,n20,c20,rfl,l20,_⟩:=iA r20;clear l20;have hcall:=eG w20 bs _ r20 HIDS.out (by omega);obtain ⟨I,hI⟩:∃I,I=nC bs:=⟨_,rfl⟩;rw [← hI] at hcall hz2;rw [cA,cA] at hz2;have HR3:=Lib.hid (show Rnd e (k+1) (s++⟨#[100,114,111,112,32]⟩++T++⟨#[10]⟩++⟨#[98,101,115,116,10]⟩) (want++⟨#[111,107]⟩++⟨#[10]⟩++I++⟨#[10]⟩) (l.take j++l.drop (j+1)) by rw [hI];exact HR2.out);have a11:∀W,(Op.stringOp .add (want++⟨#[111,107]⟩++⟨#[10]⟩) I).run Tryz.prog W=.ok (.string (want++⟨#[111,107]⟩++⟨#[10]⟩++I)) W:=fun W=>run_string_add_sum W _ _ (by omega)
      have a12:∀W,(Op.stringOp .add (want++⟨#[111,107]⟩++⟨#[10]⟩++I) ⟨#[10]⟩).run Tryz.prog W=.ok (.string (want++⟨#[111,107]⟩++⟨#[10]⟩++I++⟨#[10]⟩)) W:=fun W=>run_string_add_sum W _ _ (by rw [cA,z10];omega)
      clear hI hz2 r20 o20;go_wp2_with fail;refine hcall.mono ?_;rintro e1 w21 ⟨rfl,hb21⟩;clear hcall;have hB21:=(hB31).then (hb20.then hb21);have hl21:=(hl31).bw jA (hb20.then hb21);go_wp2
      go_roundg (10-(k+1))
      case measure=>omega
      case rel=>exact ⟨k+1,_,_,_,by omega,rfl,rfl,rfl,by go_num,hl21,hB21,HR3,Lib.hid (fun A n c h=>by injection h with h1 h2 h3;rw [← h1];exact HOK1.out)⟩
    ·have i9:decide (0≤F)=false:=decide_eq_false hf;have HNF:=Lib.hid hf;have hcall:=PL (w12.alloc (.cells #[.string ⟨#[110,111]⟩,.string ⟨#[111,107]⟩] 9)) false;go_wp2_with fail;refine hcall.mono ?_;rintro e1 w13 ⟨rfl,hb13⟩;clear hcall;have hbw:Bw w12 (w12.alloc (.cells #[.string ⟨#[110,111]⟩,.string ⟨#[111,107]⟩] 9)):=(Bw.refl w12).alloc _;have hb1213:=hbw.then hb13;have d0:w13.cell? ⟨w12.heap.size,0,none⟩=some (.string ⟨#[110,111]⟩):=hb13.cell (by go_simp);have d1:w13.cell? ⟨w12.heap.size,1,none⟩=some (.string ⟨#[111,107]⟩):=hb13.cell (by go_simp);have en:(⟨#[110,111]⟩:ByteArray).size=2:=rfl;have a8:∀W,(Op.stringOp .add want ⟨#[110,111]⟩).run Tryz.prog W=.ok (.string (want++⟨#[110,111]⟩)) W:=fun W=>run_string_add_sum W _ _ (by omega)
     have a9:∀W,(Op.stringOp .add (want++⟨#[110,111]⟩) ⟨#[10]⟩).run Tryz.prog W=.ok (.string (want++⟨#[110,111]⟩++⟨#[10]⟩)) W:=fun W=>run_string_add_sum W _ _ (by rw [cA,z10];omega)
     clear en;have hR1:=HR.out.drop hk (id:=x.id) (by have:=HX.out.2;omega);have hnf:¬0≤F:=by have:=HNF.out;omega
     rw [← HF.out,if_neg hnf,← HT.out,decide_eq_false hnf] at hR1;clear hnf;have HR1:=Lib.hid (show wN e k (s++⟨#[100,114,111,112,32]⟩++T++⟨#[10]⟩) (want++⟨#[110,111]⟩++⟨#[10]⟩) l from hR1);clear hR1;have hB13:=hB11.then (hb12.then hb1213);have hl13:=hl11.bw jA (hb12.then hb1213);have HOK1:=HOK;have hz1:=HR1.out.size hk;have zs1:=hz1.1;have zw1:=hz1.2.1;have eb:(⟨#[98,101,115,116,10]⟩:ByteArray).size=5:=rfl;have a10:∀W,(Op.stringOp .add (s++⟨#[100,114,111,112,32]⟩++T++⟨#[10]⟩) ⟨#[98,101,115,116,10]⟩).run Tryz.prog W=.ok (.string (s++⟨#[100,114,111,112,32]⟩++T++⟨#[10]⟩++⟨#[98,101,115,116,10]⟩)) W:=fun W=>run_string_add_sum W _ _ (by omega)
     have hR2:=HR1.out.best hk;have hz2:=(hR2.size (by omega)).2.1;have hcall:=YD w13 (l) e _ _ hl13 (re4.bw lA hB13);have hids:∀v∈BA (l) e,(Lit.int .i64 v).wf=true:=fun v hv=>by
      unfold BA at hv
      split at hv
      ·rename_i h;exact cI (qD (sA h) v hv)
      ·cases hv
     have hlen:=OC (l) e;obtain ⟨bs,hbs⟩:∃bs,bs=BA (l) e:=⟨_,rfl⟩;rw [← hbs] at hcall hids hlen hR2 hz2;have HIDS:=Lib.hid hids;have HR2:=Lib.hid hR2;clear hbs hids hz1 zs1 eb hR2;go_wp2_with fail;refine hcall.mono ?_;rintro e1 w20 ⟨v20,rfl,⟨F20,o20,f20⟩,hb20⟩;clear hcall;have r20:=AA o20;obtain ⟨A20,n20,c20,rfl,l20,_⟩:=iA r20;clear l20;have hcall:=eG w20 bs _ r20 HIDS.out (by omega);obtain ⟨I,hI⟩:∃I,I=nC bs:=⟨_,rfl⟩;rw [← hI] at hcall hz2;rw [cA,cA] at hz2;have HR3:=Lib.hid (show Rnd e (k+1) (s++⟨#[100,114,111,112,32]⟩++T++⟨#[10]⟩++⟨#[98,101,115,116,10]⟩) (want++⟨#[110,111]⟩++⟨#[10]⟩++I++⟨#[10]⟩) (l) by rw [hI];exact HR2.out);have a11:∀W,(Op.stringOp .add (want++⟨#[110,111]⟩++⟨#[10]⟩) I).run Tryz.prog W=.ok (.string (want++⟨#[110,111]⟩++⟨#[10]⟩++I)) W:=fun W=>run_string_add_sum W _ _ (by omega)
     have a12:∀W,(Op.stringOp .add (want++⟨#[110,111]⟩++⟨#[10]⟩++I) ⟨#[10]⟩).run Tryz.prog W=.ok (.string (want++⟨#[110,111]⟩++⟨#[10]⟩++I++⟨#[10]⟩)) W:=fun W=>run_string_add_sum W _ _ (by rw [cA,z10];omega)
     clear hI hz2 r20 o20;go_wp2_with fail;refine hcall.mono ?_;rintro e1 w21 ⟨rfl,hb21⟩;clear hcall;have hB21:=(hB13).then (hb20.then hb21);have hl21:=(hl13).bw jA (hb20.then hb21);go_wp2
     go_roundg (10-(k+1))
     case measure=>omega
     case rel=>exact ⟨k+1,_,_,_,by omega,rfl,rfl,rfl,by go_num,hl21,hB21,HR3,Lib.hid (fun A n c h=>by injection h with h1 h2 h3;rw [← h1];exact HOK1.out)⟩
   ·have i1:¬(k:Int)<10:=by omega
    obtain rfl:k=10:=by omega
    have hrun:=HR.out.run;have hcall:=yW wr s;rw [hrun] at hcall;have e2:=kH (rfl:want=want);clear hrun;go_wp2_with fail;refine hcall.mono ?_;rintro e1 w5 ⟨rfl,hb5⟩;clear hcall;go_wp2;go_ret;exact Ret.bool rfl ((B4.then hB).then hb5)
end Go.Proofs.YtpihighajaeabaaGreat
