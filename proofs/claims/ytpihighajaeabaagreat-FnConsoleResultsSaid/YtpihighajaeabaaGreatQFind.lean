/- Look-ups and tests over lists of items. -/
import Derived.Test.YtpihighajaeabaaGreatQText
import Derived.Test.YtpihighajaeabaaGreatQOwn2
namespace Go.Proofs.YtpihighajaeabaaGreat
open Go.RowKit
set_option linter.unusedVariables false
theorem UK:(Tryz.prog.info? 9).map (fun i=>(i.zero,i.size,i.bytes))=some (some (.string ⟨#[]⟩),1,16):=by kernel_rfl
abbrev GK:Fp (List ByteArray):=fSl 9 1 KW
theorem kB {B:Nat}:VB B GK:=xB FE
theorem eAm {B:Nat} {w:World} {xs:List ByteArray} {cs:List Value} {F:List Nat} (h:GK w xs cs F):OQ w (fun b=>b∈F∨b<B) xs cs:=DI QT (fun _ _ _ h=>gAs h) h
theorem PD {w:World} {xs:List ByteArray} {cs:List Value} {F:List Nat} (h:GK w xs cs F):Rd OQ w xs cs:=Rd.of tG (B:=0) (eAm h) ((kB (B:=0)).lt h) (Nat.zero_le _)
def SC (l:List Int):List ByteArray:=l.map EA
theorem lV {l:List Int} {k:Nat} {x:Int} (h:l[k]? = some x):SC (l.take (k+1))=SC (l.take k)++[EA x]:=by
 rw [List.take_add_one,h];simp [SC]
theorem iK {l:List Int} (sep:ByteArray) (hw:∀x∈l,(Lit.int .i64 x).wf=true):TD sep (SC l)≤l.length*(20+sep.size):=by
 induction l with
 | nil=>simp [SC,TD,NH]
 | cons x l ih=>
  have h1:=(OA (hw x (by simp))).2;have h2:=ih (fun y hy=>hw y (by simp [hy]));simp only [SC,List.map_cons,TD,NH,List.length_cons,Nat.succ_mul] at h2 ⊢;omega
def MB (l:List Int) (sep:ByteArray):ByteArray:=mE (SC l) sep
set_option maxHeartbeats 800000 in
theorem rI (w:World) (l:List Int) (sep:ByteArray) (v:Value) (h:Rd XA w l [v]) (hw:∀x∈l,(Lit.int .i64 x).wf=true) (hn:l.length≤1048576) (hp:sep.size≤1024) :
  Calls Tryz.prog 132 #[v,.string sep] w (Ret w (.string (MB l sep))):=by
 obtain ⟨i0,hi,hz0,hz1,hz2⟩:=info_parts UK;obtain ⟨A,n,c,rfl,a1,a2,a3⟩:=iA h;have L1:=Lib.hid a1;rw [← a1] at hn;clear a1;have hv0:=PA (e:=9) (sz:=1) (R:=KW) w;go_enter Tryz.func132,Tryz.ntmps132;go_wp2
 go_loopw [5,11] (fun s i w'=>∃(k:Nat) (F:List Nat),k≤n∧i=.int .i64 k∧GK w' (SC (l.take k)) [s] F∧pA w.heap.size F∧Bw w w') (fun s i _=>n-(intOf i).toNat)
 case atStart=>exact ⟨0,_,by omega,rfl,hv0,⟨by simp,by simp⟩,(Bw.refl _).alloc _⟩
 case round=>
  obtain ⟨k,F,hk,rfl,hv,hF,hb⟩:=hrel;by_cases hlt:k<n
  ·obtain ⟨x,hx⟩:=rA (xs:=l) (k:=k) (by rw [← L1.out];exact hlt);obtain ⟨ba,oa,rfl,_,hcx⟩:=GB (h.bw dA hb) hx;have hwx:=hw x (List.mem_of_getElem? hx);have HS:=Lib.hid (lV hx);have hkl:(SC (l.take k)).length=k:=by rw [SC,List.length_map,List.length_take];have:=L1.out;omega
   have HK:=Lib.hid hkl;clear hx h hw hv0 hkl;go_wp2_with fail;refine (OB _ x hwx).mono ?_;rintro e w1 ⟨rfl,hb1⟩;have hv1:=(kB (B:=w.heap.size)).bw hb1 hb.size hv;have hbb:=hb.then hb1;have hvW:=(kB (B:=w.heap.size)).bw ((Bw.refl w1).alloc (.cells #[.string (EA x)] 9)) hbb.size hv1;have hFm:=(kB (B:=0)).lt hv1;have hbW:=hbb.alloc (.cells #[.string (EA x)] 9);have hcl:=cell_one_new w1 (.string (EA x)) 9;clear hv hv1 hwx;go_wp2_with (at_builtin;refine rB _ rfl (.tmp 15) (.tmp 18) 58 rfl w 9 i0 _ 1 16 Tryz.underlying58 hi hz0 hz1 hz2 rfl (by omega) FE _ (SC (l.take k)) F rfl hvW hF ⟨w1.heap.size,0,none⟩ 1 rfl (EA x) [.string (EA x)] [] hcl ⟨rfl,rfl⟩ rfl w1.heap.size hFm pA.nil hbb.size (by rw [HK.out];omega) (by rw [HK.out];omega) hbW ?_;intro v' w' F' hv' hF' hb')
   go_roundw
   case rel=>exact ⟨k+1,F',by omega,by go_num,by rw [HS.out];exact hv',hF',hb'⟩
   case measure=>simp [intOf];omega
  ·obtain rfl:k=n:=by omega
   rw [List.take_of_length_le (by rw [← L1.out];exact Nat.le_refl _)] at hv;have hsz:=iK sep hw;rw [← L1.out] at hsz;have hm:k*(20+sep.size)≤1048576*1044:=Nat.mul_le_mul hn (by omega);go_wp2_with fail;refine (FQ _ (SC l) sep _ (PD hv) (by omega) hp).mono ?_;rintro e w1 ⟨rfl,hb1⟩;go_wp2;go_ret;exact Ret.str rfl (hb.then hb1)
def sp:ByteArray:=⟨#[32]⟩
def nC (l:List Int):ByteArray:=if l=[] then ⟨#[110,111,110,101]⟩ else MB l ⟨#[32]⟩
set_option maxHeartbeats 800000 in
theorem VK (w:World) (l:List Int) (v:Value) (h:Rd XA w l [v]) (hw:∀x∈l,(Lit.int .i64 x).wf=true) (hn:l.length≤1048576) :
  Calls Tryz.prog 51 #[v] w (Ret w (.string (nC l))):=by
 obtain ⟨A,n,c,rfl,a1,a2,a3⟩:=iA h;have L1:=Lib.hid a1;clear a1;by_cases h0:n=0
 ·have ht:((n:Int)==0)=true:=by simp [h0]
  have e:nC l=⟨#[110,111,110,101]⟩:=by rw [nC,if_pos (List.eq_nil_of_length_eq_zero (by rw [← L1.out];exact h0))]
  have E:=Lib.hid e;clear e h0;go_enter Tryz.func51,Tryz.ntmps51;go_wp2;go_ret;exact Ret.str E.out.symm (Bw.refl _)
 ·have ht:((n:Int)==0)=false:=by simp;omega
  have e:nC l=MB l ⟨#[32]⟩:=by rw [nC,if_neg (fun hl=>h0 (by rw [L1.out,hl];rfl))]
  have E:=Lib.hid e;clear e h0;go_enter Tryz.func51,Tryz.ntmps51;go_wp2_with fail;refine (rI _ l ⟨#[32]⟩ _ h hw hn (by show (1:Nat)≤1024;omega)).mono ?_;rintro e w1 ⟨rfl,hb1⟩;go_wp2;go_ret;exact Ret.str E.out.symm hb1
theorem yJ {s:ByteArray} (h:0<s.size):s.toList.isEmpty=false:=by
 rw [ByteArray.toList_eq];have:s.data.toList.length=s.size:=by rw [Array.length_toList];rfl
 cases e:s.data.toList with
 | nil=>rw [e] at this;simp at this;omega
 | cons=>rfl
theorem eAn (sep:ByteArray):∀(l:List ByteArray) (i:Nat) (acc:ByteArray),acc.size≤(gl sep i acc l).size
 | [],_,_=>Nat.le_refl _
 | t::ts,i,acc=>by
  rw [gl];by_cases h:0<i
  ·have:=eAn sep ts (i+1) (acc++sep++t);rw [cA,cA] at this;rw [if_pos h];omega
  ·have:=eAn sep ts (i+1) (acc++t);rw [cA] at this;rw [if_neg h];omega
theorem pZ {l:List Int} (sep:ByteArray) (hw:∀x∈l,(Lit.int .i64 x).wf=true) (h:l≠[]):0<(MB l sep).size:=by
 cases l with
 | nil=>exact absurd rfl h
 | cons x l=>
  have h1:=OA (hw x (by simp));have h2:=eAn sep (SC l) 1 (⟨#[]⟩++EA x);rw [cA] at h2;have e:MB (x::l) sep=gl sep 1 (⟨#[]⟩++EA x) (SC l):=rfl;rw [e];omega
theorem FN {sep acc:ByteArray} {l:List Int} {k:Nat} {x:Int} (h:l[k]? = some x):gl sep k acc (SC (l.drop k))=gl sep (k+1) ((if 0<k then acc++sep else acc)++EA x) (SC (l.drop (k+1))):=by
 rw [NB h];rfl
set_option maxHeartbeats 1600000 in
theorem eG (w:World) (l:List Int) (v:Value) (h:Rd XA w l [v]) (hw:∀x∈l,(Lit.int .i64 x).wf=true) (hn:l.length≤1048576) :
  Calls Tryz.prog 52 #[v] w (Ret w (.string (nC l))):=by
 obtain ⟨A,n,c,rfl,a1,a2,a3⟩:=iA h;have L1:=Lib.hid a1;rw [← a1] at hn;clear a1;go_enter Tryz.func52,Tryz.ntmps52;go_wp2
 go_loopw [3,4] (fun s i w'=>∃(k:Nat) (acc:ByteArray),k≤n∧i=.int .i64 k∧s=.string acc∧Hid (MB l ⟨#[32]⟩=gl ⟨#[32]⟩ k acc (SC (l.drop k)))∧acc.size≤21*k∧Bw w w') (fun s i _=>n-(intOf i).toNat)
 case atStart=>exact ⟨0,_,by omega,rfl,rfl,rfl,Nat.zero_le _,Bw.refl _⟩
 case round=>
  obtain ⟨k,acc,hk,rfl,rfl,HE,g1,hb⟩:=hrel;by_cases hlt:k<n
  ·obtain ⟨x,hx⟩:=rA (xs:=l) (k:=k) (by rw [← L1.out];exact hlt);obtain ⟨ba,oa,rfl,_,hcx⟩:=GB (h.bw dA hb) hx;have hwx:=hw x (List.mem_of_getElem? hx);have HS:=Lib.hid (FN (sep:=⟨#[32]⟩) (acc:=acc) hx);have ⟨hsz1,hsz⟩:=OA hwx;clear hx h hw hsz1;by_cases h0:0<k
   ·have hadd:∀W,(Op.stringOp .add acc ⟨#[32]⟩).run Tryz.prog W=.ok (.string (acc++⟨#[32]⟩)) W:=fun W=>run_string_add_sum W _ _ (by have e:(⟨#[32]⟩:ByteArray).size=1:=rfl;omega)
    have hadd2:∀W,(Op.stringOp .add (acc++⟨#[32]⟩) (EA x)).run Tryz.prog W=.ok (.string (acc++⟨#[32]⟩++EA x)) W:=fun W=>run_string_add_sum W _ _ (by have e:(⟨#[32]⟩:ByteArray).size=1:=rfl;rw [cA];omega)
    go_wp2_with fail;refine (KC _ x hwx).mono ?_;rintro e w1 ⟨rfl,hb1⟩;go_wp2
    go_roundw
    case rel=>exact ⟨k+1,_,by omega,by go_num,rfl,by show _=_;rw [HE.out,HS.out,if_pos h0],by have e:(⟨#[32]⟩:ByteArray).size=1:=rfl;rw [cA,cA];omega,hb.then hb1⟩
    case measure=>simp [intOf];omega
   ·have hadd2:∀W,(Op.stringOp .add acc (EA x)).run Tryz.prog W=.ok (.string (acc++EA x)) W:=fun W=>run_string_add_sum W _ _ (by omega)
    go_wp2_with fail;refine (KC _ x hwx).mono ?_;rintro e w1 ⟨rfl,hb1⟩;go_wp2
    go_roundw
    case rel=>exact ⟨k+1,_,by omega,by go_num,rfl,by show _=_;rw [HE.out,HS.out,if_neg (by omega)],by rw [cA];omega,hb.then hb1⟩
    case measure=>simp [intOf];omega
  ·have hacc:Hid (acc=MB l ⟨#[32]⟩):=by show _=_;rw [HE.out,List.drop_of_length_le (by rw [← L1.out];omega)];rfl
   by_cases hl:l=[]
   ·have ha:acc=⟨#[]⟩:=by rw [hacc.out,hl];rfl
    have e:nC l=⟨#[110,111,110,101]⟩:=by rw [nC,if_pos hl]
    have E:=Lib.hid e;clear e hl;subst ha;go_wp2;go_ret;exact Ret.str E.out.symm hb
   ·have hpos:=pZ (l:=l) ⟨#[32]⟩ hw hl;rw [← hacc.out] at hpos;have e:nC l=acc:=by rw [nC,if_neg hl,hacc.out]
    have E:=Lib.hid e;clear e hl;have hne:acc.toList.isEmpty=false:=yJ hpos;have hne':(!acc.toList.isEmpty)=true:=by rw [hne];rfl
    go_wp2;go_ret;exact Ret.str E.out.symm hb
end Go.Proofs.YtpihighajaeabaaGreat
namespace Go.Proofs.YtpihighajaeabaaGreat
open Go.RowKit
set_option linter.unusedVariables false
def SB (F:List Nat) (w w':World):Prop:=w.heap.size≤w'.heap.size∧∀b,b<w.heap.size→b∉F→w'.heap[b]? = w.heap[b]?
theorem SB.refl (F:List Nat) (w:World):SB F w w:=⟨Nat.le_refl _,fun _ _ _=>rfl⟩
theorem SB.then {F G:List Nat} {a b c:World} (h:SB F a b) (k:SB G b c) (hG:∀x∈G,x∈F):SB F a c:=
 ⟨Nat.le_trans h.1 k.1,fun x hx hn=>(k.2 x (Nat.lt_of_lt_of_le hx h.1) (fun hm=>hn (hG x hm))).trans (h.2 x hx hn)⟩
theorem SB.of_grown {F:List Nat} {w w':World} {b:Nat} (h:w.grownBy w' (some b)) (hs:w.heap.size≤w'.heap.size) (hb:b∈F):SB F w w':=
 ⟨hs,fun x hx hn=>h.block x hx (fun e=>by injection e with e;exact hn (e▸hb))⟩
theorem SB.keeps {α:Type} {R:Fp α} {F G:List Nat} {w w':World} (h:SB F w w') (hR:VB 0 R) {x:α} {cs:List Value} (hx:R w x cs G) (hd:∀b∈G,b∉F):R w' x cs G:=
 hR.step (fun b hb=>by
  rcases hb with hb | hb
  ·exact h.2 b (hR.lt hx b hb) (hd b hb)
  ·omega) hx
theorem SB.alloc (F:List Nat) (w:World) (o:Obj):SB F w (w.alloc o):=⟨((Bw.refl w).alloc o).size,fun b hb _=>by
 have:=((Bw.refl w).alloc o:Below w.heap.size w (w.alloc o)).block b hb;exact this⟩
theorem SB.cell {F:List Nat} {w w':World} (h:SB F w w') {p:Addr} {u:Value} (hc:w.cell? p=some u) (hd:p.block∉F):w'.cell? p=some u:=(World.cell?_of_block (h.2 _ (World.block_lt_of_cell? w p hc) hd)).trans hc
def iAs {α:Type} (f:Fp α) (w0 w:World) (x:α) (v:Value) (F:List Nat) (k:Nat) (e:Ending) (w':World):Prop:=e=.returned (.int .i64 k)∧f w' x [v] F∧SB F w w'∧Bw w0 w'
theorem iAs.mk {α:Type} {f:Fp α} {w0 w w':World} {x y:α} {v:Value} {F:List Nat} {k:Nat} {n:Int} (h:n=(k:Int)) (hx:y=x) (h1:f w' y [v] F) (h2:SB F w w') (h3:Bw w0 w'):iAs f w0 w x v F k (.returned (.int .i64 n)) w':=by
 subst h hx;exact ⟨rfl,h1,h2,h3⟩
theorem OH {α:Type} {e:TypeId} {sz:Nat} {R:Fp α} {w:World} {A:Option Addr} {n c:Nat} {xs:List α} {F:List Nat} (h:fSl e sz R w xs [.slice A n c] F) (hne:0<xs.length):∃g,A=some ⟨g,0,none⟩∧n=xs.length∧g∈F:=by
 obtain ⟨g,c',e,_,_,hg⟩:=BN h hne;injection e with e1 e2 _;exact ⟨g,e1,e2,hg⟩
end Go.Proofs.YtpihighajaeabaaGreat
namespace Go.Proofs.YtpihighajaeabaaGreat
open Go.RowKit
set_option linter.unusedVariables false
set_option linter.unusedSimpArgs false
end Go.Proofs.YtpihighajaeabaaGreat
namespace Go.Proofs.YtpihighajaeabaaGreat
open Go.RowKit
set_option linter.unusedVariables false
def QD (id:Int):Nat→List gA→Int
 | _,[]=>-1
 | k,x::xs=>if x.id=id then (k:Int) else QD id (k+1) xs
def UA (l:List gA) (id:Int):Int:=QD id 0 l
theorem GN {id:Int} {l:List gA} {k:Nat} {x:gA} (h:l[k]? = some x) (e:x.id=id):QD id k (l.drop k)=k:=by rw [NB h,QD,if_pos e]
theorem EP {id:Int} {l:List gA} {k:Nat} {x:gA} (h:l[k]? = some x) (e:¬x.id=id):QD id k (l.drop k)=QD id (k+1) (l.drop (k+1)):=by rw [NB h,QD,if_neg e]
theorem IN {id:Int} {l:List gA} {k:Nat} (h:l.length≤k):QD id k (l.drop k) = -1:=by rw [List.drop_of_length_le h,QD]
theorem WK (id:Int):∀(l:List gA) (k:Nat),(QD id k l = -1∧∀x∈l,x.id≠id)∨∃(j:Nat) (x:gA),QD id k l=((k+j:Nat):Int)∧l[j]? = some x∧x.id=id
 | [],k=>.inl ⟨rfl,fun x hx=>by simp at hx⟩
 | y::ys,k=>by
  by_cases h:y.id=id
  ·exact .inr ⟨0,y,by simp [QD,h],rfl,h⟩
  ·rcases WK id ys (k+1) with ⟨h1,h2⟩ | ⟨j,x,h1,h2,h3⟩
   ·refine .inl ⟨by rw [QD,if_neg h];exact h1,fun x hx=>?_⟩;rcases List.mem_cons.1 hx with rfl | hx
    ·exact h
    ·exact h2 x hx
   ·exact .inr ⟨j+1,x,by rw [QD,if_neg h,h1];congr 1;omega,by simpa using h2,h3⟩
theorem PB (l:List gA) (id:Int):(UA l id = -1∧∀x∈l,x.id≠id)∨∃(j:Nat) (x:gA),UA l id=(j:Int)∧l[j]? = some x∧x.id=id:=by
 rcases WK id l 0 with h | ⟨j,x,h1,h2,h3⟩
 ·exact .inl h
 ·exact .inr ⟨j,x,by rw [UA,h1];simp,h2,h3⟩
set_option maxHeartbeats 400000 in
theorem vG (w:World) (l:List gA) (id:Int) (v:Value) (h:Rd MA w l [v]):Calls Tryz.prog 20 #[v,.int .i64 id] w (Ret w (.int .i64 (UA l id))):=by
 obtain ⟨A,n,c,rfl,a1,a2,a3⟩:=iA h;unfold maxLen at a3;have L1:=Lib.hid a1;clear a1;go_enter Tryz.func20,Tryz.ntmps20;go_wp2
 go_loopw [5] (fun i w'=>∃k:Nat,k≤n∧i=.int .i64 k∧Hid (UA l id=QD id k (l.drop k))∧Bw w w') (fun i _=>n-(intOf i).toNat)
 case atStart=>exact ⟨0,by omega,rfl,rfl,Bw.refl _⟩
 case round=>
  obtain ⟨k,hk,rfl,HE,hb⟩:=hrel;by_cases hlt:k<n
  ·obtain ⟨x,hx⟩:=rA (xs:=l) (k:=k) (by rw [← L1.out];exact hlt);obtain ⟨ba,oa,A',c',rfl,_,hcx,_,_⟩:=mB (h.bw jA hb) hx;by_cases he:x.id=id
   ·have HS:=Lib.hid (GN hx he);have ht:(x.id==id)=true:=by simpa using he
    clear hx h he;go_wp2;go_ret;exact Ret.int (by rw [HE.out,HS.out]) hb
   ·have HS:=Lib.hid (EP hx he);have ht:(x.id==id)=false:=by simpa using he
    clear hx h he;go_wp2
    go_roundw
    case rel=>exact ⟨k+1,by omega,by go_num,by show _=_;rw [HE.out,HS.out],hb⟩
    case measure=>simp [intOf];omega
  ·go_wp2;go_ret;exact Ret.int (by rw [HE.out,IN (by rw [← L1.out];omega)]) hb
theorem FP (w:World) (x:gA) (id:Int) (v:Value) (g:Nat) (hg:w.cell? ⟨g,0,none⟩=some (.int .i64 id)) :
  Calls Tryz.prog 159 #[.agg #[.int .i64 x.id,v],.pointer (some ⟨g,0,none⟩)] w (Ret w (.bool (decide (x.id=id)))):=by
 have hg':(w.alloc (.cells #[.int .i64 x.id,v] 30)).cell? ⟨g,0,none⟩=some (.int .i64 id):=((Bw.refl w).alloc _).cell hg;by_cases he:x.id=id
 ·have ht:(x.id==id)=true:=by simpa using he
  have hd:decide (x.id=id)=true:=by simpa using he
  rw [hd];clear he hd;go_enter Tryz.func159,Tryz.ntmps159;go_wp2;go_ret;exact Ret.bool rfl ((Bw.refl w).alloc _)
 ·have ht:(x.id==id)=false:=by simpa using he
  have hd:decide (x.id=id)=false:=by simpa using he
  rw [hd];clear he hd;go_enter Tryz.func159,Tryz.ntmps159;go_wp2;go_ret;exact Ret.bool rfl ((Bw.refl w).alloc _)
set_option maxHeartbeats 400000 in
theorem jK (w:World) (l:List gA) (id:Int) (v:Value) (g:Nat) (h:Rd MA w l [v]) (hg:w.cell? ⟨g,0,none⟩=some (.int .i64 id)) :
  Calls Tryz.prog 158 #[v,.func (.func 159) #[] #[.pointer (some ⟨g,0,none⟩)]] w (Ret w (.int .i64 (UA l id))):=by
 obtain ⟨A,n,c,rfl,a1,a2,a3⟩:=iA h;unfold maxLen at a3;have L1:=Lib.hid a1;clear a1;go_enter Tryz.func158,Tryz.ntmps158;go_wp2
 go_loopw [8] (fun i w'=>∃k:Nat,k≤n∧i=.int .i64 k∧Hid (UA l id=QD id k (l.drop k))∧Bw w w') (fun i _=>n-(intOf i).toNat)
 case atStart=>exact ⟨0,by omega,rfl,rfl,Bw.refl _⟩
 case round=>
  obtain ⟨k,hk,rfl,HE,hb⟩:=hrel;by_cases hlt:k<n
  ·obtain ⟨x,hx⟩:=rA (xs:=l) (k:=k) (by rw [← L1.out];exact hlt);obtain ⟨ba,oa,A',c',rfl,_,hcx,hcx1,_⟩:=mB (h.bw jA hb) hx;have hgr:=hb.cell hg;clear h hg;by_cases he:x.id=id
   ·have HS:=Lib.hid (GN hx he);have hd:decide (x.id=id)=true:=by simpa using he
    clear hx he;go_wp2_with fail;refine (FP _ x id _ g hgr).mono ?_;rintro e w2 ⟨rfl,hb2⟩;rw [hd];go_wp2;go_ret;exact Ret.int (by rw [HE.out,HS.out]) (hb.then hb2)
   ·have HS:=Lib.hid (EP hx he);have hd:decide (x.id=id)=false:=by simpa using he
    clear hx he;go_wp2_with fail;refine (FP _ x id _ g hgr).mono ?_;rintro e w2 ⟨rfl,hb2⟩;rw [hd];go_wp2
    go_roundw
    case rel=>exact ⟨k+1,by omega,by go_num,by show _=_;rw [HE.out,HS.out],hb.then hb2⟩
    case measure=>simp [intOf];omega
  ·go_wp2;go_ret;exact Ret.int (by rw [HE.out,IN (by rw [← L1.out];omega)]) hb
theorem QC (w:World) (l:List gA) (id:Int) (v:Value) (h:Rd MA w l [v]):Calls Tryz.prog 77 #[v,.int .i64 id] w (Ret w (.int .i64 (UA l id))):=by
 have B0:Bw w (w.alloc (.cells #[.int .i64 id] 3)):=(Bw.refl w).alloc _;have hg:(w.alloc (.cells #[.int .i64 id] 3)).cell? ⟨w.heap.size,0,none⟩=some (.int .i64 id):=by go_simp
 go_enter Tryz.func77,Tryz.ntmps77;go_wp2_with fail;refine (jK _ l id _ w.heap.size (h.bw jA B0) hg).mono ?_;rintro e w2 ⟨rfl,hb2⟩;go_wp2;go_ret;exact Ret.int rfl (B0.then hb2)
def IA:Option Int→List gA→Bool
 | _,[]=>true
 | none,x::xs=>LA x && IA (some x.id) xs
 | some p,x::xs=>(LA x && decide (p<x.id)) && IA (some x.id) xs
def WA (l:List gA):Bool:=IA none l && decide (l.length≤16)
def YF (l:List gA) (k:Nat):Option Int:=match k with | 0=>none | k+1=>(l[k]?).map (·.id)
theorem DG {l:List gA} {k:Nat} {x:gA} (h:l[k]? = some x):YF l (k+1)=some x.id:=by simp [YF,h]
set_option maxHeartbeats 1600000 in
theorem rZ (w:World) (l:List gA) (v:Value) (h:Rd MA w l [v]):Calls Tryz.prog 30 #[v] w (Ret w (.bool (WA l))):=by
 obtain ⟨A,n,c,rfl,a1,a2,a3⟩:=iA h;unfold maxLen at a3;have L1:=Lib.hid a1;clear a1;go_enter Tryz.func30,Tryz.ntmps30;go_wp2
 go_loopw [3] (fun i w'=>∃k:Nat,k≤n∧i=.int .i64 k∧Hid (IA none l=IA (YF l k) (l.drop k))∧Bw w w') (fun i _=>n-(intOf i).toNat)
 case atStart=>exact ⟨0,by omega,rfl,rfl,Bw.refl _⟩
 case round=>
  obtain ⟨k,hk,rfl,HE,hb⟩:=hrel;by_cases hlt:k<n
  ·obtain ⟨x,hx⟩:=rA (xs:=l) (k:=k) (by rw [← L1.out];exact hlt);have hrd:=h.bw jA hb;obtain ⟨ba,oa,A',c',rfl,_,hcx,hcx1,hin⟩:=mB hrd hx;have i1:(0:Int)≤(k:Int):=by omega
   have i2:(k:Int)<(n:Int):=by omega
   by_cases hk0:0<k
   ·obtain ⟨y,hy⟩:=rA (xs:=l) (k:=k-1) (by rw [← L1.out];omega);obtain ⟨_,_,_,_,e,_,hcy,_,_⟩:=mB hrd hy;injection e with e;injection e with e1 e2;subst e1 e2;have HP:Hid (IA (YF l k) (l.drop k)=((LA x && decide (y.id<x.id)) && IA (YF l (k+1)) (l.drop (k+1)))):=by
     show _=_
     have e:YF l k=some y.id:=by have:=DG hy;rwa [show k-1+1=k from by omega] at this
     rw [e,NB hx,IA,DG hx]
    have hin':Rd XA wr _ _:=hin;have hbA:=hb;have s0:=qA hcx;have s1:=qA hcx1;have s2:=qA hcy;clear hrd hcx hcx1 hcy hx hy h;by_cases hi:LA x=true
    ·by_cases hle:y.id<x.id
     ·have ht:decide (x.id≤y.id)=false:=by simp;omega
      go_wp2;refine mA (by kernel_rfl) (by kernel_rfl) ?_
      repeat (first | go_big_quiet_skip | (go_big_quiet_want;go_big_quiet_op;first | go_big_quiet_on | (apply Exists.intro;refine ⟨fun _=>?_,?_⟩;(· (((first | (go_at_call 84;exact GA (MH _ x _ (Rd.bw dA hin' (GC.bw _))))))));go_big_quiet_on)))
      refine wpQuiet_nil ?_;rintro ⟨wq,hbq⟩;dsimp only at *;go_wp2
      go_roundw
      case rel=>exact ⟨k+1,by omega,by go_num,by show _=_;rw [HE.out,HP.out];simp [hi,hle],hbA.then hbq⟩
      case measure=>simp [intOf];omega
     ·have ht:decide (x.id≤y.id)=true:=by simp;omega
      have HD:Hid (decide (y.id<x.id)=false):=by show _=_;simp;omega
      go_wp2;refine mA (by kernel_rfl) (by kernel_rfl) ?_
      repeat (first | go_big_quiet_skip | (go_big_quiet_want;go_big_quiet_op;first | go_big_quiet_on | (apply Exists.intro;refine ⟨fun _=>?_,?_⟩;(· (((first | (go_at_call 84;exact GA (MH _ x _ (Rd.bw dA hin' (GC.bw _))))))));go_big_quiet_on)))
      refine wpQuiet_nil ?_;rintro ⟨wq,hbq⟩;dsimp only at *;go_wp2;go_ret;exact Ret.bool (by rw [WA,HE.out,HP.out,HD.out];simp) (hbA.then hbq)
    ·have hi':LA x=false:=by simpa using hi
     clear hi;go_wp2;refine mA (by kernel_rfl) (by kernel_rfl) ?_
     repeat (first | go_big_quiet_skip | (go_big_quiet_want;go_big_quiet_op;first | go_big_quiet_on | (apply Exists.intro;refine ⟨fun _=>?_,?_⟩;(· (((first | (go_at_call 84;exact GA (MH _ x _ (Rd.bw dA hin' (GC.bw _))))))));go_big_quiet_on)))
     refine wpQuiet_nil ?_;rintro ⟨wq,hbq⟩;dsimp only at *;go_wp2;go_ret;exact Ret.bool (by rw [WA,HE.out,HP.out];simp [hi']) (hbA.then hbq)
   ·have HP:Hid (IA (YF l k) (l.drop k)=(LA x && IA (YF l (k+1)) (l.drop (k+1)))):=by
     show _=_
     obtain rfl:k=0:=by omega
     rw [DG hx,NB hx];rfl
    have hin':Rd XA wr _ _:=hin;have hbA:=hb;have s0:=qA hcx;have s1:=qA hcx1;clear hrd hcx hcx1 hx h;by_cases hi:LA x=true
    ·go_wp2;refine mA (by kernel_rfl) (by kernel_rfl) ?_
     repeat (first | go_big_quiet_skip | (go_big_quiet_want;go_big_quiet_op;first | go_big_quiet_on | (apply Exists.intro;refine ⟨fun _=>?_,?_⟩;(· (((first | (go_at_call 84;exact GA (MH _ x _ (Rd.bw dA hin' (GC.bw _))))))));go_big_quiet_on)))
     refine wpQuiet_nil ?_;rintro ⟨wq,hbq⟩;dsimp only at *;go_wp2
     go_roundw
     case rel=>exact ⟨k+1,by omega,by go_num,by show _=_;rw [HE.out,HP.out];simp [hi],hbA.then hbq⟩
     case measure=>simp [intOf];omega
    ·have hi':LA x=false:=by simpa using hi
     clear hi;go_wp2;refine mA (by kernel_rfl) (by kernel_rfl) ?_
     repeat (first | go_big_quiet_skip | (go_big_quiet_want;go_big_quiet_op;first | go_big_quiet_on | (apply Exists.intro;refine ⟨fun _=>?_,?_⟩;(· (((first | (go_at_call 84;exact GA (MH _ x _ (Rd.bw dA hin' (GC.bw _))))))));go_big_quiet_on)))
     refine wpQuiet_nil ?_;rintro ⟨wq,hbq⟩;dsimp only at *;go_wp2;go_ret;exact Ret.bool (by rw [WA,HE.out,HP.out];simp [hi']) (hbA.then hbq)
  ·have hfin:Hid (IA none l=true):=by show _=_;rw [HE.out,List.drop_of_length_le (by rw [← L1.out];omega)];cases YF l k<;>rfl
   by_cases h16:n≤16
   ·go_wp2;go_ret;exact Ret.bool (by rw [WA,hfin.out,← L1.out];simp;omega) hb
   ·have H16:Hid (decide (n≤16)=false):=by show _=_;simpa using h16
    go_wp2;go_ret;exact Ret.bool (by rw [WA,hfin.out,← L1.out,H16.out];simp;omega) hb
set_option maxHeartbeats 1600000 in
theorem TQ (w:World) (l:List gA) (v:Value) (h:Rd MA w l [v]):Calls Tryz.prog 168 #[v] w (Ret w (.bool (WA l))):=by
 obtain ⟨A,n,c,rfl,a1,a2,a3⟩:=iA h;unfold maxLen at a3;have L1:=Lib.hid a1;clear a1;go_enter Tryz.func168,Tryz.ntmps168;go_wp2
 go_loopw [7] (fun i w'=>∃k:Nat,k≤n∧i=.int .i64 k∧Hid (IA none l=IA (YF l k) (l.drop k))∧Bw w w') (fun i _=>n-(intOf i).toNat)
 case atStart=>exact ⟨0,by omega,rfl,rfl,Bw.refl _⟩
 case round=>
  obtain ⟨k,hk,rfl,HE,hb⟩:=hrel;by_cases hlt:k<n
  ·obtain ⟨x,hx⟩:=rA (xs:=l) (k:=k) (by rw [← L1.out];exact hlt);have hrd:=h.bw jA hb;obtain ⟨ba,oa,A',c',rfl,_,hcx,hcx1,hin⟩:=mB hrd hx;have i1:(0:Int)≤(k:Int):=by omega
   have i2:(k:Int)<(n:Int):=by omega
   by_cases hk0:0<k
   ·obtain ⟨y,hy⟩:=rA (xs:=l) (k:=k-1) (by rw [← L1.out];omega);obtain ⟨_,_,_,_,e,_,hcy,_,_⟩:=mB hrd hy;injection e with e;injection e with e1 e2;subst e1 e2;have HP:Hid (IA (YF l k) (l.drop k)=((LA x && decide (y.id<x.id)) && IA (YF l (k+1)) (l.drop (k+1)))):=by
     show _=_
     have e:YF l k=some y.id:=by have:=DG hy;rwa [show k-1+1=k from by omega] at this
     rw [e,NB hx,IA,DG hx]
    have A1:Bw wr (wr.alloc (.cells #[.int .i64 x.id,.slice A' x.vals.length c'] 30)):=(Bw.refl wr).alloc _;have hin':Rd XA (wr.alloc (.cells #[.int .i64 x.id,.slice A' x.vals.length c'] 30)) _ _:=Rd.bw dA hin A1;have hbA:=hb.then A1;have s0:=qA (show (wr.alloc (.cells #[.int .i64 x.id,.slice A' x.vals.length c'] 30)).cell? ⟨wr.heap.size,0,none⟩=some (.int .i64 x.id) by go_simp);have s1:=qA (show (wr.alloc (.cells #[.int .i64 x.id,.slice A' x.vals.length c'] 30)).cell? ⟨wr.heap.size,1,none⟩=some (.slice A' x.vals.length c') by go_simp);have s2:=qA (A1.cell hcy);clear hrd hcy hx hy h;by_cases hi:LA x=true
    ·by_cases hle:y.id<x.id
     ·have ht:decide (x.id≤y.id)=false:=by simp;omega
      go_wp2;refine mA (by kernel_rfl) (by kernel_rfl) ?_
      repeat (first | go_big_quiet_skip | (go_big_quiet_want;go_big_quiet_op;first | go_big_quiet_on | (apply Exists.intro;refine ⟨fun _=>?_,?_⟩;(· (((first | (go_at_call 76;exact GA (IE _ x _ (Rd.bw dA hin' (GC.bw _))))))));go_big_quiet_on)))
      refine wpQuiet_nil ?_;rintro ⟨wq,hbq⟩;dsimp only at *;go_wp2
      go_roundw
      case rel=>exact ⟨k+1,by omega,by go_num,by show _=_;rw [HE.out,HP.out];simp [hi,hle],hbA.then hbq⟩
      case measure=>simp [intOf];omega
     ·have ht:decide (x.id≤y.id)=true:=by simp;omega
      have HD:Hid (decide (y.id<x.id)=false):=by show _=_;simp;omega
      go_wp2;refine mA (by kernel_rfl) (by kernel_rfl) ?_
      repeat (first | go_big_quiet_skip | (go_big_quiet_want;go_big_quiet_op;first | go_big_quiet_on | (apply Exists.intro;refine ⟨fun _=>?_,?_⟩;(· (((first | (go_at_call 76;exact GA (IE _ x _ (Rd.bw dA hin' (GC.bw _))))))));go_big_quiet_on)))
      refine wpQuiet_nil ?_;rintro ⟨wq,hbq⟩;dsimp only at *;go_wp2;go_ret;exact Ret.bool (by rw [WA,HE.out,HP.out,HD.out];simp) (hbA.then hbq)
    ·have hi':LA x=false:=by simpa using hi
     clear hi;go_wp2;refine mA (by kernel_rfl) (by kernel_rfl) ?_
     repeat (first | go_big_quiet_skip | (go_big_quiet_want;go_big_quiet_op;first | go_big_quiet_on | (apply Exists.intro;refine ⟨fun _=>?_,?_⟩;(· (((first | (go_at_call 76;exact GA (IE _ x _ (Rd.bw dA hin' (GC.bw _))))))));go_big_quiet_on)))
     refine wpQuiet_nil ?_;rintro ⟨wq,hbq⟩;dsimp only at *;go_wp2;go_ret;exact Ret.bool (by rw [WA,HE.out,HP.out];simp [hi']) (hbA.then hbq)
   ·have HP:Hid (IA (YF l k) (l.drop k)=(LA x && IA (YF l (k+1)) (l.drop (k+1)))):=by
     show _=_
     obtain rfl:k=0:=by omega
     rw [DG hx,NB hx];rfl
    have A1:Bw wr (wr.alloc (.cells #[.int .i64 x.id,.slice A' x.vals.length c'] 30)):=(Bw.refl wr).alloc _;have hin':Rd XA (wr.alloc (.cells #[.int .i64 x.id,.slice A' x.vals.length c'] 30)) _ _:=Rd.bw dA hin A1;have hbA:=hb.then A1;have s0:=qA (show (wr.alloc (.cells #[.int .i64 x.id,.slice A' x.vals.length c'] 30)).cell? ⟨wr.heap.size,0,none⟩=some (.int .i64 x.id) by go_simp);have s1:=qA (show (wr.alloc (.cells #[.int .i64 x.id,.slice A' x.vals.length c'] 30)).cell? ⟨wr.heap.size,1,none⟩=some (.slice A' x.vals.length c') by go_simp);clear hrd hx h;by_cases hi:LA x=true
    ·go_wp2;refine mA (by kernel_rfl) (by kernel_rfl) ?_
     repeat (first | go_big_quiet_skip | (go_big_quiet_want;go_big_quiet_op;first | go_big_quiet_on | (apply Exists.intro;refine ⟨fun _=>?_,?_⟩;(· (((first | (go_at_call 76;exact GA (IE _ x _ (Rd.bw dA hin' (GC.bw _))))))));go_big_quiet_on)))
     refine wpQuiet_nil ?_;rintro ⟨wq,hbq⟩;dsimp only at *;go_wp2
     go_roundw
     case rel=>exact ⟨k+1,by omega,by go_num,by show _=_;rw [HE.out,HP.out];simp [hi],hbA.then hbq⟩
     case measure=>simp [intOf];omega
    ·have hi':LA x=false:=by simpa using hi
     clear hi;go_wp2;refine mA (by kernel_rfl) (by kernel_rfl) ?_
     repeat (first | go_big_quiet_skip | (go_big_quiet_want;go_big_quiet_op;first | go_big_quiet_on | (apply Exists.intro;refine ⟨fun _=>?_,?_⟩;(· (((first | (go_at_call 76;exact GA (IE _ x _ (Rd.bw dA hin' (GC.bw _))))))));go_big_quiet_on)))
     refine wpQuiet_nil ?_;rintro ⟨wq,hbq⟩;dsimp only at *;go_wp2;go_ret;exact Ret.bool (by rw [WA,HE.out,HP.out];simp [hi']) (hbA.then hbq)
  ·have hfin:Hid (IA none l=true):=by show _=_;rw [HE.out,List.drop_of_length_le (by rw [← L1.out];omega)];cases YF l k<;>rfl
   by_cases h16:n≤16
   ·go_wp2;go_ret;exact Ret.bool (by rw [WA,hfin.out,← L1.out];simp;omega) hb
   ·have H16:Hid (decide (n≤16)=false):=by show _=_;simpa using h16
    go_wp2;go_ret;exact Ret.bool (by rw [WA,hfin.out,← L1.out,H16.out];simp;omega) hb
end Go.Proofs.YtpihighajaeabaaGreat
