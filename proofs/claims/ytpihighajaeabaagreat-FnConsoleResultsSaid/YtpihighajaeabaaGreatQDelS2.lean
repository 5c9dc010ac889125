/- An item is taken from a standing answer, in the reference: the ways on which it is taken. -/
import Derived.Test.YtpihighajaeabaaGreatQInsI
import Derived.Test.YtpihighajaeabaaGreatQInsI2
import Derived.Test.YtpihighajaeabaaGreatQCompI
import Derived.Test.YtpihighajaeabaaGreatQChangeM
import Derived.Test.YtpihighajaeabaaGreatQBestS
import Derived.Test.YtpihighajaeabaaGreatQOwn2
import Derived.Test.YtpihighajaeabaaGreatQFmtP
import Derived.Test.YtpihighajaeabaaGreatQCopies
import Derived.Test.YtpihighajaeabaaGreatQReach
import Derived.Test.YtpihighajaeabaaGreatQSortT
namespace Go.Proofs.YtpihighajaeabaaGreat
open Go.RowKit
set_option linter.unusedVariables false
theorem xO (w:World) (s:tA) (x:gA) (va vb vc u:Value) (ha:Rd MA w s.items [va]) (hb:Rd RA w s.wanted [vb]) (hc:Rd XA w s.best [vc]) (hx:Rd XA w x.vals [u]) (t1:eC s.items≤1048576) (t2:tC s.wanted≤1048576) (t3:s.best.length≤1048576) :
  Calls Tryz.prog 11 #[.agg #[va,vb,vc,.int .i64 s.tests],.agg #[.int .i64 x.id,u]] w (BC w (xQ aC w.heap.size (cG s x) (.bool (WF s x)))):=by
 cases h:WF s x with
 | true=>rw [show cG s x=mI s x by unfold cG;rw [h];rfl];exact sP w s x va vb vc u ha hb hc hx t1 t2 t3 h
 | false=>rw [show cG s x=s by unfold cG;rw [h];rfl];exact yQ w s x va vb vc u ha hb hc hx t1 t2 t3 h
theorem FU {α:Type} (f:α→Nat) (n:Nat):∀ {l:List α},(∀x∈l,f x=n)→NH f l=l.length*n
 | [],_=>by simp [NH]
 | a::l,h=>by
  have h1:=FU f n (l:=l) (fun x hx=>h x (by simp [hx]));have h2:=h a (by simp);simp only [NH,List.length_cons,h1,h2,Nat.succ_mul];omega
theorem dAi {l:List gA} {x:gA} (hl:∀y∈l,LA y=true) (hx:LA x=true) (hn:l.length<16):eC (TG l x)≤1048576:=by
 have h1:∀y∈TG l x,y.vals.length=3:=fun y hy=>YA ((DY hy).elim (hl y) (fun e=>by rw [e];exact hx))
 have h2:=FU (fun y:gA=>y.vals.length) 3 h1;have h3:=sO l x;unfold eC;rw [h2,h3];omega
theorem aAs {s:tA} {x:gA} (h:oJ s):oJ (cG s x):=by
 unfold cG
 split
 ·rename_i hok
  obtain ⟨E1,E2,_,h16,_⟩:=NG hok;have hI:=sA (ZB E1).1;have hl:=DD E1;refine ⟨dAi (fun y hy=>NA hI hy) E2 h16,h.2.1,?_⟩;unfold mI;dsimp only
  split
  ·omega
  ·have:=yS s x s.best.length;rw [qP,List.length_append,List.length_singleton];omega
 ·exact h
end Go.Proofs.YtpihighajaeabaaGreat
namespace Go.Proofs.YtpihighajaeabaaGreat
open Go.RowKit
set_option linter.unusedVariables false
def oF (s:tA) (id:Int):Bool:=tB s && (decide (0≤UA s.items id) && decide (s.tests≤999900))
def zE (s:tA) (id:Int):List Int:=s.best.filter fun b=>!decide (b=id)
def JF (s:tA) (id:Int):List Int:=mD (WB s.items (KD s id) true) s.wanted
def xL (s:tA) (id:Int):tA:=if s.best.contains id then ⟨WB s.items [id] false,s.wanted,rH (zE s id++JF s id),s.tests+((KD s id).length:Int)⟩ else ⟨WB s.items [id] false,s.wanted,s.best,s.tests⟩
def PE (s:tA) (id:Int):tA:=if oF s id then xL s id else s
theorem VH {s:tA} {id:Int} (h:oF s id=true):tB s=true∧0≤UA s.items id∧s.tests≤999900:=by
 unfold oF at h;simp only [Bool.and_eq_true,decide_eq_true_iff] at h;exact h
theorem dQ (s:tA) (id:Int):(zE s id).length≤s.best.length:=List.length_filter_le _ _
theorem aAt {l:List gA} (h:WA l=true):(l.map (·.id)).Pairwise (· < ·):=List.pairwise_map.2 (rE h)
theorem eW {l:List gA} (h:WA l=true) {x y:gA} (hx:x∈l) (hy:y∈l) (e:x.id=y.id):x=y:=by rw [← xD h hx,← xD h hy,e]
theorem GY {α:Type} {l:List α} {k:Nat} {x:α} (h:l[k]? = some x):l=l.take k++x::l.drop (k+1):=by
 have h1:=List.take_append_drop k l;rw [NB h] at h1;exact h1.symm
theorem qG {l:List gA} (h:WA l=true) {id:Int} {k:Nat} (hk:UA l id=(k:Int)):WB l [id] false=l.take k++l.drop (k+1):=by
 rcases PB l id with ⟨h1,_⟩ | ⟨j,x,h1,h2,h3⟩
 ·omega
 ·obtain rfl:j=k:=by omega
  have hs:=GY h2;have hp:=rE h;rw [hs,List.pairwise_append,List.pairwise_cons] at hp;unfold WB
  conv=>lhs;rw [hs]
  rw [List.filter_append,List.filter_cons];have e0:([id].contains x.id==false)=false:=by simp [h3]
  rw [e0];have e1:(l.take j).filter (fun x=>[id].contains x.id==false)=l.take j:=List.filter_eq_self.2 (fun y hy=>by
   have:=hp.2.2 y hy x (by simp);have h4:y.id≠id:=by omega
   simp [h4])
  have e2:(l.drop (j+1)).filter (fun x=>[id].contains x.id==false)=l.drop (j+1):=List.filter_eq_self.2 (fun y hy=>by
   have:=hp.2.1.1 y hy;have h4:y.id≠id:=by omega
   simp [h4])
  rw [e1,e2];rfl
theorem bAu {x:Int}:∀ {l:List Int} {i:Nat} {k:Int},zJ x l i=k→0≤k→∃j:Nat,k=((i+j:Nat):Int)∧l[j]? = some x
 | [],i,k,h,h0=>by unfold zJ at h;omega
 | y::l,i,k,h,h0=>by
  unfold zJ at h
  split at h
  ·rename_i e;exact ⟨0,by omega,by simp [e]⟩
  ·obtain ⟨j,e1,e2⟩:=bAu h h0;exact ⟨j+1,by omega,by simpa using e2⟩
theorem IY {l:List Int} (h:l.Nodup) {x:Int} {k:Nat} (hk:l[k]? = some x):l.filter (fun b=>!decide (b=x))=l.take k++l.drop (k+1):=by
 have hs:=GY hk;rw [hs,List.nodup_append,List.nodup_cons] at h
 conv=>lhs;rw [hs]
 rw [List.filter_append,List.filter_cons];have e0:(!decide (x=x))=false:=by simp
 rw [e0];have e1:(l.take k).filter (fun b=>!decide (b=x))=l.take k:=List.filter_eq_self.2 (fun y hy=>by
  have:=h.2.2 y hy x (by simp);simp [this])
 have e2:(l.drop (k+1)).filter (fun b=>!decide (b=x))=l.drop (k+1):=List.filter_eq_self.2 (fun y hy=>by
  have h4:y≠x:=fun e=>h.2.1.1 (e▸hy)
  simp [h4])
 rw [e1,e2];rfl
theorem lN {s:tA} (h:tB s=true):s.best.Nodup:=by
 obtain ⟨h1,h2⟩:=ZB h;rw [h2];unfold mD;have h3:=aAt (sA h1);have h4:((s.items.filter (ZF s.items s.wanted)).map (·.id)).Pairwise (· < ·):=h3.sublist ((List.filter_sublist).map _);exact h4.imp (fun h=>by omega)
theorem fW {s:tA} (h:tB s=true) {id:Int} {k:Nat} (hk:s.best[k]? = some id):zE s id=s.best.take k++s.best.drop (k+1):=IY (lN h) hk
theorem dM {l:List gA} (ids:List Int) (b:Bool):(WB l ids b).Sublist l:=List.filter_sublist
theorem vJ {l:List gA} (h:WA l=true) (ids:List Int) (b:Bool):WA (WB l ids b)=true:=
 aQ (fun x hx=>NA h ((dM ids b).subset hx)) ((rE h).sublist (dM ids b)) (Nat.le_trans (dU l ids b) (VA h))
theorem mN {s:tA} (h:WA s.items=true) (id:Int):(JF s id).length≤16:=by
 unfold JF;exact Nat.le_trans (tI _ _) (Nat.le_trans (dU _ _ _) (VA h))
end Go.Proofs.YtpihighajaeabaaGreat
namespace Go.Proofs.YtpihighajaeabaaGreat
open Go.RowKit
set_option linter.unusedVariables false
def MM (l:List gA) (e:List kA):List gA:=WB l (mD l e) false
def AE (e:List kA):Nat→List gA→List (List Int)
 | 0,_=>[]
 | n+1,l=>if l.length=0 then [] else mD l e::AE e n (MM l e)
theorem gW {l:List gA} {e:List kA} (hE:bB e=true) (hl:¬l.length=0) (hi:∀x∈l,LA x=true):(MM l e).length<l.length:=by
 have hb:=eAy hE (fun h=>hl (by rw [h];rfl)) hi;obtain ⟨b,hb⟩:=List.exists_mem_of_ne_nil _ hb;obtain ⟨x,hx,rfl⟩:=List.mem_map.1 (show b∈(l.filter (ZF l e)).map (·.id) from hb);have hxl:=(List.mem_filter.1 hx).1;rcases Nat.lt_or_ge (MM l e).length l.length with h | h
 ·exact h
 ·exfalso
  have h2:(MM l e).length=l.length:=Nat.le_antisymm (List.length_filter_le _ _) h;have:=List.length_filter_eq_length_iff.1 h2 x hxl;simp only [beq_iff_eq] at this;rw [List.contains_iff_mem.2 hb] at this
  cases this
theorem AK {l:List gA} {e:List kA} (h:WA l=true):WA (MM l e)=true:=tQ _ h
theorem yO {e:List kA} (hE:bB e=true):∀(n m:Nat) (l:List gA),WA l=true→l.length≤n→l.length≤m→AE e n l=AE e m l
 | 0,0,l,_,_,_=>rfl
 | 0,m+1,l,_,h,_=>by simp only [AE];rw [if_pos (by omega)]
 | n+1,0,l,_,_,h=>by simp only [AE];rw [if_pos (by omega)]
 | n+1,m+1,l,hi,h1,h2=>by
  simp only [AE];by_cases hl:l.length=0
  ·rw [if_pos hl,if_pos hl]
  ·rw [if_neg hl,if_neg hl];have:=gW hE hl (fun x hx=>NA hi hx);rw [yO hE n m _ (AK hi) (by omega) (by omega)]
def QE (l:List gA) (e:List kA):List (List Int):=AE e l.length l
theorem iW {l:List gA} {e:List kA} (h:l.length=0):QE l e=[]:=by unfold QE;rw [h];rfl
theorem MT {l:List gA} {e:List kA} (hE:bB e=true) (hi:WA l=true) (h:¬l.length=0):QE l e=mD l e::QE (MM l e) e:=by
 unfold QE;obtain ⟨n,hn⟩:∃n,l.length=n+1:=⟨l.length-1,by omega⟩;have:=gW hE h (fun x hx=>NA hi hx);rw [hn];simp only [AE];rw [if_neg h,yO hE n (MM l e).length _ (AK hi) (by omega) (Nat.le_refl _)]
theorem eQ {e:List kA}:∀(n:Nat) (l:List gA),(AE e n l).length≤n
 | 0,_=>Nat.le_refl _
 | n+1,l=>by
  simp only [AE]
  split
  ·simp
  ·have:=eQ (e:=e) n (MM l e);simp only [List.length_cons];omega
theorem fQ {e:List kA}:∀(n:Nat) (l:List gA) (b:List Int),b∈AE e n l→b.length≤l.length
 | 0,_,_,h=>by simp [AE] at h
 | n+1,l,b,h=>by
  simp only [AE] at h
  split at h
  ·simp at h
  ·rcases List.mem_cons.1 h with rfl | h
   ·exact tI l e
   ·exact Nat.le_trans (fQ n _ b h) (List.length_filter_le _ _)
def BE (l:List gA) (e:List kA):List (List Int):=if dB l e then QE l e else []
theorem wJ (l:List gA) (e:List kA):(BE l e).length≤16:=by
 unfold BE;split
 ·rename_i h
  have:=VA (sA h);have:=eQ (e:=e) l.length l;unfold QE;omega
 ·simp
theorem gQ {l:List gA} {e:List kA} {b:List Int} (h:b∈BE l e):b.length≤16:=by
 unfold BE at h;split at h
 ·rename_i h2
  have:=VA (sA h2);have:=fQ l.length l b h;omega
 ·simp at h
end Go.Proofs.YtpihighajaeabaaGreat
namespace Go.Proofs.YtpihighajaeabaaGreat
open Go.RowKit
set_option linter.unusedVariables false
set_option linter.unusedSimpArgs false
abbrev ZJ (B:Nat):Fp (List gA):=fSl 30 2 (fSh B eF)
theorem sE {B:Nat} {w:World} {xs:List gA} {v:Value} {F:List Nat} (h:ZJ B w xs [v] F) (hB:B≤w.heap.size):Rd MA w xs [v]:=
 Rd.of jA (B:=B) (DI UB (fun _ _ _ h=>eAh UB h) h) ((xB (wC UB (Nat.le_refl _)):VB B (ZJ B)).lt h) hB
def gA0 {α:Type} (S:XB) (R:Rep α):Fp α:=fun w x cs F=>F=[]∧R w S x cs∧∀u∈cs,u.oneCell'=true
theorem eM {α:Type} {B:Nat} {S:XB} {R:Rep α} (hR:sG R) (hS:∀b,S b→b<B):VB B (gA0 S R):=
 ⟨fun hw ⟨hF,h,h1⟩=>⟨hF,hR.step ⟨fun _ hb=>hb,fun p hp=>World.cell?_of_block (hw _ (.inr (hS _ hp)))⟩ h,h1⟩,fun h b hb=>by rw [h.1] at hb;simp at hb,fun h=>h.2.2⟩
abbrev fM (S:XB):Fp (List gA):=fSl 30 2 (gA0 S eF)
theorem BK {S:XB} {w:World} {xs:List gA} {v:Value} {F:List Nat} (h:fM S w xs [v] F):MA w (fun b=>b∈F∨S b) xs [v]:=by
 obtain ⟨v0,us,Fs,e,hown,hall,hFe⟩:=h;injection e with e;subst e;have hl:=EE hall;have hus:∀u∈us,u.length=2:=fun u hu=>by obtain ⟨x,f,hr⟩:=RE hall hu;exact hr.2
 obtain ⟨A,c,rfl,h1,h2,h3⟩:=BP hown hl.1 hus;refine ⟨A,c,rfl,h1,h2,fun k x hx=>?_⟩;obtain ⟨u,f,hu,hf,hr⟩:=DQ hall hx;obtain ⟨b,rfl,hb,hc⟩:=h3 k u hu;exact ⟨b,0,u,rfl,.inl (by simp [hFe,hb]),hr.2,hc,UB.step ⟨fun _ hb=>.inr hb,fun _ _=>rfl⟩ hr.1.2.1⟩
theorem hAv {w W:World} {S:XB} (hS:∀b,S b→b<w.heap.size) (hB:Bw w W) {x:gA} {A:Option Addr} {c:Nat} (h:XA w S x.vals [.slice A x.vals.length c]):gA0 S eF W x [.int .i64 x.id,.slice A x.vals.length c] []:=by
 refine ⟨rfl,⟨_,rfl,?_⟩,fun u hu=>?_⟩
 ·exact dA.step ⟨fun _ h=>h,fun p hp=>Below.cell hB (hS _ hp)⟩ h
 ·simp at hu;rcases hu with rfl | rfl<;>rfl
set_option maxRecDepth 100000 in
set_option maxHeartbeats 3200000 in
theorem jW (w:World) (l:List gA) (ids:List Int) (b:Bool) (v u:Value) (S:XB) (hS:∀b,S b→b<w.heap.size) (h:MA w S l [v]) (h':Rd XA w ids [u]) (hn:l.length≤1048576):Calls Tryz.prog 98 #[v,u,.bool b] w (BC w (pF (fM S) w.heap.size (WB l ids b))):=by
 obtain ⟨i0,hi,hz0,hz1,hz2⟩:=info_parts ZE;obtain ⟨A,n,c,rfl,L0,Lc,Lm⟩:=iA h;unfold maxLen at Lm;have L:=Lib.hid L0;clear L0;rw [← L.out] at hn;have hv0:=PA (e:=30) (sz:=2) (R:=gA0 S eF) w;go_enter Tryz.func98,Tryz.ntmps98;go_wp2
 go_loopg [7,13] n (fun g s i w'=>∃(k:Nat) (F:List Nat),k≤n∧g=n-k∧i=.int .i64 k∧fM S w' (WH l ids b k) [s] F∧pA w.heap.size F∧Bw w w')
 case atStart=>exact ⟨0,_,by omega,rfl,rfl,hv0,⟨by simp,by simp⟩,(Bw.refl _).alloc _⟩
 case round=>
  clear hv0;obtain ⟨k,F,hk,rfl,rfl,hv,hF,hb⟩:=hrel;by_cases hlt:k<n
  ·obtain ⟨x,hx⟩:=rA (xs:=l) (k:=k) (by have:=L.out;omega);obtain ⟨ba,oa,Ax,cx,rfl,_,hc0,hc1,hin⟩:=mB h hx;have i1:(0:Int)≤(k:Int):=by omega
   have i2:(k:Int)<(n:Int):=by omega
   replace hc0:=hb.cell hc0;replace hc1:=hb.cell hc1;have hbx:=World.block_lt_of_cell? _ _ hc0;have HYES:=Lib.hid (fun hc=>JZ (ids:=ids) (b:=b) hx hc);have HNO:=Lib.hid (fun hc=>cAi (ids:=ids) (b:=b) hx hc);have HH:=Lib.hid h;have HIN:=Lib.hid hin;have A1:Bw wr (wr.alloc (.cells #[.int .i64 x.id,.slice Ax x.vals.length cx] 30)):=(Bw.refl wr).alloc _;have hbA:=hb.then A1;have GG:VB w.heap.size (fM S):=xB (eM UB hS);have hvA:=GG.bw A1 hb.size hv;have hFm:=GG.lt hvA;obtain ⟨M,hM⟩:∃M,M=x.vals.length:=⟨_,rfl⟩;rw [← hM] at hc1 A1 hbA hvA hFm;have HM:=Lib.hid hM;clear hx h hv hin hM;go_wp2_with fail;refine (CD _ ids x.id _ (h'.bw dA hbA)).mono ?_;rintro e w2 ⟨rfl,hb2⟩;have p0:w2.cell? ⟨wr.heap.size,0,none⟩=some (.int .i64 x.id):=hb2.cell (by go_simp);have p1:w2.cell? ⟨wr.heap.size,1,none⟩=some (.slice Ax M cx):=hb2.cell (by go_simp);have hbb:=hbA.then hb2;have hv2:=GG.bw hb2 hbA.size hvA;clear hvA;by_cases hcb:ids.contains x.id=b
   ·have HB:=Lib.hid (HYES.out hcb);have e1:(ids.contains x.id==b)=true:=by simpa using hcb
    obtain ⟨d,hd⟩:∃d,d=ids.contains x.id:=⟨_,rfl⟩;rw [← hd] at e1 ⊢;have hvW:=GG.bw ((Bw.refl w2).alloc (.cells #[.int .i64 x.id,.slice Ax M cx] 30)) hbb.size hv2;have hbW:=hbb.alloc (.cells #[.int .i64 x.id,.slice Ax M cx] 30);have hcl:∀j t,[Value.int .i64 x.id,.slice Ax M cx][j]? = some t→(w2.alloc (.cells #[.int .i64 x.id,.slice Ax M cx] 30)).cell? ((⟨w2.heap.size,0,none⟩:Addr).add j)=some t:=World.news_of_block (cs:=#[.int .i64 x.id,.slice Ax M cx]) (t:=30) (fr:=(0,0)) (heap_alloc_new w2 _);have hy:gA0 S eF (w2.alloc (.cells #[.int .i64 x.id,.slice Ax M cx] 30)) x [.int .i64 x.id,.slice Ax M cx] []:=by rw [HM.out];exact hAv hS (by rw [← HM.out];exact hbW) HIN.out
    have hol:=LZ (l:=l) (ids:=ids) (b:=b) (k:=k);have HOL:=Lib.hid hol;have hb0:=hbA.size;clear hcb hd hv2 hol;go_wp2_with (at_builtin;refine rB _ rfl (.tmp 23) (.tmp 25) 24 rfl w 30 i0 _ 2 32 Tryz.underlying24 hi hz0 hz1 hz2 rfl (by omega) (eM UB hS) _ (WH l ids b k) F rfl hvW hF ⟨w2.heap.size,0,none⟩ 1 rfl x [.int .i64 x.id,.slice Ax M cx] [] hcl hy rfl _ hFm pA.nil hb0 (by have:=HOL.out;omega) (by have:=HOL.out;omega) hbW ?_;intro v' w' F' hv' hF' hb')
    go_roundg (n-(k+1))
    case measure=>omega
    case rel=>exact ⟨k+1,F',by omega,rfl,by go_num,by rw [HB.out];exact hv',hF',hb'⟩
   ·have HB:=Lib.hid (HNO.out (by cases hq:ids.contains x.id<;>cases b<;>simp_all));have e1:(ids.contains x.id==b)=false:=by simpa using hcb
    obtain ⟨d,hd⟩:∃d,d=ids.contains x.id:=⟨_,rfl⟩;rw [← hd] at e1 ⊢;clear hcb hd;go_wp2
    go_roundg (n-(k+1))
    case measure=>omega
    case rel=>exact ⟨k+1,F,by omega,rfl,by go_num,by rw [HB.out];exact hv2,hF,hbb⟩
  ·obtain rfl:k=n:=by omega
   rw [KZ (by rw [← L.out];exact Nat.le_refl _)] at hv;go_wp2;go_ret;exact ⟨_,rfl,⟨F,hv,hF⟩,hb⟩
end Go.Proofs.YtpihighajaeabaaGreat
namespace Go.Proofs.YtpihighajaeabaaGreat
open Go.RowKit
set_option linter.unusedVariables false
abbrev AS:Fp (List (List Int)):=fSl 26 1 ZA
theorem TE {B:Nat}:VB B AS:=xB aA
theorem dAj {B:Nat} {w:World} {xs:List (List Int)} {cs:List Value} {F:List Nat} (h:AS w xs cs F):gV w (fun b=>b∈F∨b<B) xs cs:=DI dA (fun _ _ _ h=>FI h) h
theorem GU {w:World} {xs:List (List Int)} {cs:List Value} {F:List Nat} (h:AS w xs cs F):Rd gV w xs cs:=Rd.of IW (B:=0) (dAj h) ((TE (B:=0)).lt h) (Nat.zero_le _)
end Go.Proofs.YtpihighajaeabaaGreat
namespace Go.Proofs.YtpihighajaeabaaGreat
open Go.RowKit
set_option linter.unusedVariables false
set_option linter.unusedSimpArgs false
theorem gA1:(Tryz.prog.info? 26).map (fun i=>(i.zero,i.size,i.bytes))=some (some (.slice none 0 0),1,24):=by kernel_rfl
theorem yL {w w':World} {S:XB} {xs:List gA} {cs:List Value} (h:MA w S xs cs) (hk:∀b,S b→w'.heap[b]? = w.heap[b]?):MA w' S xs cs:=
 jA.step ⟨fun _ h=>h,fun p hp=>World.cell?_of_block (hk _ hp)⟩ h
theorem dAk {w:World} {S:XB} {xs:List gA} {cs:List Value} (h:MA w S xs cs) (hS:∀b,S b→b<w.heap.size):Rd MA w xs cs:=
 jA.step ⟨hS,fun _ _=>rfl⟩ h
set_option maxRecDepth 100000 in
set_option maxHeartbeats 6400000 in
theorem aAu (w:World) (l:List gA) (e:List kA) (v u:Value) (h:Rd MA w l [v]) (h':Rd RA w e [u]) :
  Calls Tryz.prog 124 #[v,u] w (BC w (pF AS w.heap.size (BE l e))):=by
 obtain ⟨i0,hi,hz0,hz1,hz2⟩:=info_parts gA1;have hv0:=PA (e:=26) (sz:=1) (R:=ZA) w;have A0:Bw w (w.alloc (.cells #[] 26)):=(Bw.refl w).alloc _;go_enter Tryz.func124,Tryz.ntmps124;go_wp2_with fail;refine (JD _ l e _ _ (h.bw jA A0) (h'.bw lA A0)).mono ?_;rintro e w1 ⟨rfl,hb1⟩;have B1:=A0.then hb1;have hv1:=(TE (B:=w.heap.size)).bw hb1 A0.size hv0;rcases Bool.eq_false_or_eq_true (dB l e) with e1 | e1
 ·have HB:=Lib.hid e1;rw [e1];clear e1 hv0;have HM:=Lib.hid (show BE l e=QE l e by rw [BE,if_pos HB.out]);have h16:(QE l e).length≤16:=by rw [← HM.out];exact wJ l e
  have H16:=Lib.hid h16;have hr0:MA w1 (lt w) l [v]:=yL h (fun b hb=>Below.block B1 b hb);clear h16 h;go_wp2
  go_loopg [5,6] l.length (fun g s r w'=>∃(don:List (List Int)) (rest:List gA) (F:List Nat) (S:XB),g=rest.length∧AS w' don [s] F∧pA w.heap.size F∧Bw w w'∧Hid (don++QE rest e=QE l e)∧Hid (WA rest=true)∧Hid (MA w' S rest [r])∧Hid (∀b,S b→b<w'.heap.size)∧Hid (∀b∈F,¬S b))
  case atStart=>exact ⟨[],l,_,lt w,rfl,hv1,⟨by simp,by simp⟩,B1,Lib.hid rfl,Lib.hid (sA HB.out),Lib.hid hr0,Lib.hid (fun b hb=>Nat.lt_of_lt_of_le hb B1.size),Lib.hid (fun b hb=>by simp at hb;subst hb;exact Nat.lt_irrefl _)⟩
  case round=>
   clear hv1 hr0 B1 A0 hb1;obtain ⟨don,rest,F,S,rfl,hv,hF,hb,HD,HI,HR,HS,HFS⟩:=hrel;have hr:=dAk HR.out HS.out;obtain ⟨A,n,c,rfl,L0,Lc,Lm⟩:=iA hr;unfold maxLen at Lm;have L:=Lib.hid L0;clear L0;by_cases hn:n=0
   ·subst hn;have HE:=Lib.hid (show don=BE l e by rw [HM.out,← HD.out,iW L.out.symm,List.append_nil]);rw [HE.out] at hv;clear hr;go_wp2;go_ret;exact ⟨_,rfl,⟨F,hv,hF⟩,hb⟩
   ·have n1:(0:Int)<(n:Int):=by omega
    have hne:¬rest.length=0:=by rw [← L.out];exact hn
    have HC:=Lib.hid (MT (iC HB.out) HI.out hne);have HLT:=Lib.hid (gW (iC HB.out) hne (fun x hx=>NA HI.out hx));have hdl:don.length+1≤16:=by
     have h1:=H16.out;rw [← HD.out,HC.out,List.length_append,List.length_cons] at h1;omega
    have hn2:rest.length≤1048576:=by have:=VA HI.out;omega
    have hE:dB rest e=true:=by unfold dB;rw [HI.out,iC HB.out];rfl
    have hcall:=pV wr rest e _ _ hr (h'.bw lA hb) hE;clear hn hne hr hE;go_wp2_with fail;refine hcall.mono ?_;rintro e' w2 ⟨vb,rfl,⟨FB,ob,fb⟩,hb2⟩;obtain ⟨Ab,cb,rfl,_⟩:=aB (AA ob);have hbb:=hb.then hb2;have hv2:=(TE (B:=w.heap.size)).bw hb2 hb.size hv;have hFm:=(TE (B:=0)).lt hv;obtain ⟨Y,hY⟩:∃Y,Y=mD rest e:=⟨_,rfl⟩;rw [← hY] at ob;have HY:=Lib.hid hY;rw [← hY];obtain ⟨M,hM⟩:∃M,M=Y.length:=⟨_,rfl⟩;rw [← hM] at ob ⊢;clear hY hM hcall hv;have hAl:=(Bw.refl w2).alloc (.cells #[.slice Ab M cb] 26);have hvW:=(TE (B:=w.heap.size)).bw hAl hbb.size hv2;have oW:=(aA (B:=w.heap.size)).bw hAl hbb.size ob;have hbW:=hbb.then hAl;have hcl:=cell_one_new w2 (.slice Ab M cb) 26;have hbs:=hb.size;have KR:=Lib.hid (yL HR.out (fun b hb=>Below.block (hb2.then hAl) b (HS.out b hb)));have hws:wr.heap.size≤(w2.alloc (.cells #[.slice Ab M cb] 26)).heap.size:=(hb2.then hAl).size;clear hv2 ob;go_wp2_with (at_builtin;refine mC _ rfl (.tmp 21) (.tmp 23) 126 rfl w 26 i0 _ 1 24 Tryz.underlying126 hi hz0 hz1 hz2 rfl (by omega) aA _ don F rfl hvW hF ⟨w2.heap.size,0,none⟩ 1 rfl Y [.slice Ab M cb] FB hcl oW rfl wr.heap.size hFm fb hbs (by omega) (by omega) hbW ?_;intro v3 w3 F3 hv3 hF3 hb3 hO3 hs3);have hr3:MA w3 S rest [.slice A n c]:=yL KR.out (fun b hb=>hO3.2 b (Nat.lt_of_lt_of_le (HS.out b hb) hws) (fun hf=>HFS.out b hf hb));have hS3:∀b,S b→b<w3.heap.size:=fun b hb=>Nat.lt_of_lt_of_le (HS.out b hb) (Nat.le_trans hws hO3.1)
    have o3:=hO3.keeps (aA (B:=0)) oW (fun b hb hf=>by have:=fb.ge b hb;have:=hFm b hf;omega);have hcall:=jW w3 rest Y false _ _ S hS3 hr3 (AA o3) hn2;have hF3m:=(TE (B:=0)).lt hv3;clear hvW oW hbW hcl hr3 o3;go_wp2_with fail;refine hcall.mono ?_;rintro e' w4 ⟨v4,rfl,⟨G,o4,f4⟩,hb4⟩;have hv4:=(TE (B:=w.heap.size)).bw hb4 hb3.size hv3;have HRR:=Lib.hid (BK o4);have GG:VB w3.heap.size (fM S):=xB (eM UB hS3);have hGl:=GG.lt o4;have HSS:=Lib.hid (show ∀b,(b∈G∨S b)→b<w4.heap.size from fun b hb=>hb.elim (hGl b) (fun h=>Nat.lt_of_lt_of_le (hS3 b h) hb4.size));have HFF:=Lib.hid (show ∀b∈F3,¬(b∈G∨S b) from fun b hb hc=>by
     rcases hc with hc | hc
     ·have:=f4.ge b hc;have:=hF3m b hb;omega
     ·have hsb:=HS.out b hc;rcases hs3 b hb with h | h | h
      ·exact HFS.out b h hc
      ·have:=fb.ge b h;omega
      ·omega)
    have HRE:=Lib.hid (show WB rest Y false=MM rest e by rw [HY.out];rfl);have HDD:=Lib.hid (show (don++[Y])++QE (WB rest Y false) e=QE l e by rw [HRE.out,← HD.out,HC.out,HY.out,List.append_assoc];rfl);have HII:=Lib.hid (show WA (WB rest Y false)=true by rw [HRE.out];exact AK HI.out);have HLL:=Lib.hid (show (WB rest Y false).length<rest.length by rw [HRE.out];exact HLT.out);have hb5:=hb3.then hb4;clear hcall o4 hO3 hs3 hF3m hS3 hGl;go_wp2
    go_roundg (WB rest Y false).length
    case measure=>exact HLL.out
    case rel=>exact ⟨don++[Y],WB rest Y false,F3,_,rfl,hv4,hF3,hb5,HDD,HII,HRR,HSS,HFF⟩
 ·have HM:=Lib.hid (show BE l e=[] by rw [BE,e1];rfl);rw [e1];clear e1;rw [← HM.out] at hv1;go_wp2;go_ret;exact ⟨_,rfl,⟨_,hv1,⟨by simp,by simp⟩⟩,B1⟩
end Go.Proofs.YtpihighajaeabaaGreat
namespace Go.Proofs.YtpihighajaeabaaGreat
open Go.RowKit
set_option linter.unusedVariables false
set_option linter.unusedSimpArgs false
end Go.Proofs.YtpihighajaeabaaGreat
namespace Go.Proofs.YtpihighajaeabaaGreat
open Go.RowKit
set_option linter.unusedVariables false
set_option linter.unusedSimpArgs false
theorem SB.keepsB' {α:Type} {R:Fp α} {B:Nat} {F G:List Nat} {w w':World} (h:SB F w w') (hR:VB B R) (hB:B≤w.heap.size) (hF:∀b∈F,B≤b) {x:α} {cs:List Value} (hx:R w x cs G) (hd:∀b∈G,b∉F):R w' x cs G:=
 hR.step (fun b hb=>by
  rcases hb with hb | hb
  ·exact h.2 b (hR.lt hx b hb) (hd b hb)
  ·exact h.2 b (by omega) (fun hf=>by have:=hF b hf;omega)) hx
end Go.Proofs.YtpihighajaeabaaGreat
