/- Sorted numbers and items: what the library's sorts leave, and the reference's insertion. -/
import Derived.Test.YtpihighajaeabaaGreatQApplyI
import Derived.Test.YtpihighajaeabaaGreatQOwn2
import Derived.Test.YtpihighajaeabaaGreatQReach
import Derived.Test.YtpihighajaeabaaGreatQBestS
import Derived.Test.YtpihighajaeabaaGreatQCompI
import Derived.Test.YtpihighajaeabaaGreatQDom
import Derived.Test.YtpihighajaeabaaGreatQFmtP
import Derived.Test.YtpihighajaeabaaGreatProg
import Derived.Shelf.SortM.Plain
import Derived.Shelf.SlSortCmp.WholeK
import Derived.Test.YtpihighajaeabaaGreatQLines2
import Derived.Sort.OwnSortedInts
namespace Go.Proofs.YtpihighajaeabaaGreat
open Go.RowKit
set_option linter.unusedVariables false
set_option linter.unusedSimpArgs false
set_option maxRecDepth 100000 in
set_option maxHeartbeats 6400000 in
theorem PK (w:World) (e:List kA) (v:Value) (h:Rd RA w e [v]) (ht:tC e≤1048576):Calls Tryz.prog 40 #[v] w (BC w (pF EC w.heap.size (EU e))):=by
 have hcp:=LG w e v h ht;obtain ⟨Y,hY⟩:∃Y,Y=EU e:=⟨_,rfl⟩;have HY:=Lib.hid (show JM (60-0) e=Y from hY.symm);rw [← hY];clear hY h;go_enter Tryz.func40,Tryz.ntmps40;go_wp2_with fail;refine hcp.mono ?_;rintro e1 w1 ⟨v1,rfl,⟨F1,o1,f1⟩,hb1⟩;have HT:=Lib.hid ht;clear hcp ht;go_wp2
 go_loopg [3,4,5,6,9] 61 (fun gg s x5 x6 x7 z w'=>∃(j:Nat) (xs:List kA) (F:List Nat),j≤60∧gg=60-j+1∧z=.int .i64 (j:Int)∧EC w' xs [s] F∧pA w.heap.size F∧Bw w w'∧Hid (JM (60-j) xs=Y∧tC xs≤1048576))
 case atStart=>exact ⟨0,e,F1,by omega,rfl,rfl,o1,f1,hb1,Lib.hid ⟨HY.out,HT.out⟩⟩
 case round=>
  clear o1 f1 hb1 HY HT;obtain ⟨j,xs,F,hj,rfl,rfl,hv,hF,hb,HI⟩:=hrel;obtain ⟨A,n,c,rfl,hn,hnc,hcm⟩:=iA (lC hv);unfold maxLen at hcm;have L:=Lib.hid hn;clear hn;by_cases hj60:j<60
  ·have i1:(j:Int)<60:=by omega
   go_wp2
   go_loopg [3,4,5,6] (n+1) (fun gg s cb z x7 w'=>∃(k:Nat) (b:Bool) (ys:List kA) (F:List Nat),k≤n∧gg=n-k+1∧cb=.bool b∧z=.int .i64 (k:Int)∧Hid (OK xs k b ys)∧EC w' ys [s] F∧pA w.heap.size F∧Bw w w')
   case atStart=>exact ⟨0,false,xs,F,by omega,rfl,rfl,rfl,Lib.hid (OK.start xs),hv,hF,hb⟩
   case round=>
    clear hv hb hF;obtain ⟨k,b,ys,F,hk,rfl,rfl,rfl,HA,hv,hF,hb⟩:=hrel;obtain ⟨A2,n2,c2,rfl,hn2,_⟩:=iA (lC hv);have L2:=Lib.hid hn2;clear hn2
    cases b with
    | true=>
     have HN:=Lib.hid (show JM (60-(j+1)) ys=Y∧tC ys≤1048576 from ⟨by rw [← HI.out.1,show 60-j=60-(j+1)+1 by omega];exact (fAs HA.out).symm,by have:=YI HA.out.expr;omega⟩);by_cases hk2:k<n2
     all_goals
      go_wp2
      go_roundg (60-(j+1)+1)
      case measure=>omega
      case rel=>exact ⟨j+1,ys,F,by omega,rfl,by go_num,hv,hF,hb,HN⟩
    | false=>
     obtain rfl:xs=ys:=HA.out.eq.symm;obtain rfl:n=n2:=by rw [L.out,L2.out]
     by_cases hk2:k<n
     ·have i3:(k:Int)<(n:Int):=by omega
      have HKL:=Lib.hid (show k<xs.length by rw [← L.out];exact hk2);clear hk2;go_wp2
      go_loopg [3,4,6] 4 (fun gg s cb z w'=>∃(r:Nat) (b:Bool) (ys:List kA) (F:List Nat),1≤r∧r≤4∧gg=5-r∧cb=.bool b∧z=.int .i64 (r:Int)∧Hid (bG xs k r b ys)∧EC w' ys [s] F∧pA w.heap.size F∧Bw w w')
      case atStart=>exact ⟨1,false,xs,F,by omega,by omega,rfl,rfl,rfl,Lib.hid (bG.start xs k),hv,hF,hb⟩
      case round=>
       clear hv hF hb;obtain ⟨r,b,ys,F,hr1,hr4,rfl,rfl,rfl,HRS,hv,hF,hb⟩:=hrel
       cases b with
       | true=>
        have HA2:=Lib.hid (OK.yes HA.out HKL.out HRS.out);by_cases hr3:r≤3
        all_goals
         go_wp2
         go_roundg (n-(k+1)+1)
         case measure=>omega
         case rel=>exact ⟨k+1,true,ys,F,by omega,rfl,rfl,by go_num,HA2,hv,hF,hb⟩
       | false=>
        obtain rfl:xs=ys:=HRS.out.eq.symm;by_cases hr3:r≤3
        ·have i4:(r:Int)≤3:=by omega
         have hcall:=zY wr xs (r:Int) (k:Int) _ (lC hv) HI.out.2 (by omega);have HYES:=Lib.hid (fun (ys:List kA) (h:fE xs (r:Int) (k:Int)=(ys,true))=>HRS.out.yes hr3 h);have HNO:=Lib.hid (fun (h:(fE xs (r:Int) (k:Int)).2=false)=>HRS.out.no hr3 h);have HFA:=Lib.hid (fun (h:(fE xs (r:Int) (k:Int)).2=false)=>SV h);obtain ⟨P,hP⟩:∃P,P=fE xs (r:Int) (k:Int):=⟨_,rfl⟩;rw [← hP] at hcall HYES HNO HFA;obtain ⟨y,b⟩:=P;have hbs:=hb.size;clear hP hr3;go_wp2_with fail;refine hcall.mono ?_;rintro e5 w5 ⟨u5,rfl,⟨v5,rfl,⟨F5,o5,f5⟩⟩,hb5⟩;have hb05:=hb.then hb5;have f5w:=f5.mono hbs;clear hcall hv
         cases b with
         | true=>
          have HRS2:=Lib.hid (HYES.out y rfl);go_wp2
          go_roundg (5-(r+1))
          case measure=>omega
          case rel=>exact ⟨r+1,true,y,F5,by omega,by omega,rfl,rfl,by go_num,HRS2,o5,f5w,hb05⟩
         | false=>
          have HRS2:=Lib.hid (HNO.out rfl);have hye:=HFA.out rfl;injection hye with hye _;subst hye;go_wp2
          go_roundg (5-(r+1))
          case measure=>omega
          case rel=>exact ⟨r+1,false,_,F5,by omega,by omega,rfl,rfl,by go_num,HRS2,o5,f5w,hb05⟩
        ·obtain rfl:r=4:=by omega
         have HA2:=Lib.hid (OK.no HA.out HKL.out HRS.out);clear hr3;go_wp2
         go_roundg (n-(k+1)+1)
         case measure=>omega
         case rel=>exact ⟨k+1,false,xs,F,by omega,rfl,rfl,by go_num,HA2,hv,hF,hb⟩
     ·have i3:¬(k:Int)<(n:Int):=by omega
      have HR:=Lib.hid (show xs=Y by rw [← HI.out.1,show 60-j=60-(j+1)+1 by omega];exact (hAp HA.out (by rw [← L.out];omega)).symm);clear hk2;go_wp2;go_ret;exact ⟨_,rfl,⟨F,by rw [← HR.out];exact hv,hF⟩,hb⟩
  ·obtain rfl:j=60:=by omega
   have HR:=Lib.hid (show xs=Y from HI.out.1);clear hj60;go_wp2;go_ret;exact ⟨_,rfl,⟨F,by rw [← HR.out];exact hv,hF⟩,hb⟩
end Go.Proofs.YtpihighajaeabaaGreat
namespace Go.Proofs.YtpihighajaeabaaGreat
open Go.RowKit
set_option linter.unusedVariables false
end Go.Proofs.YtpihighajaeabaaGreat
namespace Go.Proofs.YtpihighajaeabaaGreat
open Go.RowKit
set_option linter.unusedVariables false
end Go.Proofs.YtpihighajaeabaaGreat
namespace Go.Proofs.YtpihighajaeabaaGreat
open Go.RowKit
set_option linter.unusedVariables false
end Go.Proofs.YtpihighajaeabaaGreat
namespace Go.Proofs.YtpihighajaeabaaGreat
open Go.RowKit
set_option linter.unusedVariables false
end Go.Proofs.YtpihighajaeabaaGreat
namespace Go.Proofs.YtpihighajaeabaaGreat
open Go.RowKit
set_option linter.unusedVariables false
set_option linter.unusedSimpArgs false
end Go.Proofs.YtpihighajaeabaaGreat
namespace Go.Proofs.YtpihighajaeabaaGreat
open Go.RowKit
set_option linter.unusedVariables false
set_option linter.unusedSimpArgs false
def dAc (s:tA) (id:Int) (x:gA):Bool:=MC s.wanted (nD s.items id) x && s.best.all fun b=>b==id || !(MC s.wanted (nD s.items b) x)
def KD (s:tA) (id:Int):List Int:=if tB s && s.best.contains id then jG (dAc s id) s.items else []
def byL (s:tA) (x:gA):List Int:=(tD s.items s.wanted x.id 1).filter fun d=>s.best.contains d
def pP (s:tA) (D:List Int) (k:Nat):List Int:=(D.take k).filter fun d=>s.best.contains d
theorem fAt {s:tA} {D:List Int} {k:Nat} {d:Int} (hx:D[k]? = some d) (h:s.best.contains d=true):pP s D (k+1)=pP s D k++[d]:=by
 unfold pP;rw [List.take_add_one,hx,List.filter_append];simp only [Option.toList_some,List.filter_cons,List.filter_nil,h,if_true]
theorem hAq {s:tA} {D:List Int} {k:Nat} {d:Int} (hx:D[k]? = some d) (h:s.best.contains d=false):pP s D (k+1)=pP s D k:=by
 unfold pP;rw [List.take_add_one,hx,List.filter_append];simp only [Option.toList_some,List.filter_cons,List.filter_nil,h,List.append_nil,Bool.false_eq_true,if_false]
theorem fAu {s:tA} {x:gA} {k:Nat} (h:(tD s.items s.wanted x.id 1).length≤k):pP s (tD s.items s.wanted x.id 1) k=byL s x:=by unfold pP byL;rw [List.take_of_length_le h]
theorem fAv {s:tA} {D:List Int} {k:Nat}:(pP s D k).length≤k:=by
 unfold pP;exact Nat.le_trans (List.length_filter_le _ _) (by rw [List.length_take];omega)
theorem ZB {s:tA} (h:tB s=true):dB s.items s.wanted=true∧s.best=mD s.items s.wanted:=by
 unfold tB at h;simp only [Bool.and_eq_true,decide_eq_true_iff] at h;exact ⟨h.1,h.2.1⟩
theorem xD {l:List gA} (h:WA l=true) {y:gA} (hy:y∈l):nD l y.id=y:=by
 rcases PB l y.id with ⟨_,hn⟩ | ⟨j,x,hf,hx,hid⟩
 ·exact absurd rfl (hn y hy)
 ·rw [KE hf hx];exact yM h (List.mem_of_getElem? hx) hy hid
theorem vS:∀ {l:List gA} {o:Option Int},IA o l=true→(l.map (·.id)).Nodup
 | [],_,_=>List.nodup_nil
 | z::l,o,h=>by
  have h2:IA (some z.id) l=true:=by
   cases o<;>simp only [IA,Bool.and_eq_true] at h<;>exact h.2
  rw [List.map_cons,List.nodup_cons];refine ⟨fun hm=>?_,vS h2⟩;obtain ⟨y,hy,e⟩:=List.mem_map.1 hm;have:=VN h2 y hy;omega
theorem fAw {L:List Int} {id:Int} (hn:L.Nodup) (hm:id∈L) (ha:∀d∈L,d=id):L=[id]:=by
 match L,hn,hm,ha with
 | [a],_,_,ha=>rw [ha a (by simp)]
 | a::b::T,hn,_,ha=>
  have h1:=ha a (by simp);have h2:=ha b (by simp);rw [h1,h2] at hn;simp at hn
theorem cM {s:tA} (h:tB s=true) {b:Int} (hb:b∈s.best):∃y∈s.items,y.id=b:=by
 obtain ⟨h1,h2⟩:=ZB h;rw [h2] at hb;unfold mD at hb;obtain ⟨y,hy,e⟩:=List.mem_map.1 hb;exact ⟨y,(List.mem_filter.1 hy).1,e⟩
theorem XV {s:tA} (h:tB s=true) {x:gA} (hx:x∈s.items) {d:Int}:d∈byL s x↔∃y∈s.items,y.id=d∧MC s.wanted y x=true∧d∈s.best:=by
 obtain ⟨h1,_⟩:=ZB h;have hI:=sA h1;have hok:qB s.items s.wanted x.id=true:=by
  unfold qB;rcases PB s.items x.id with ⟨_,hn⟩ | ⟨j,y,hf,_,_⟩
  ·exact absurd rfl (hn x hx)
  ·rw [h1,hf];simp
 unfold byL tD;rw [if_pos hok,xD hI hx,List.mem_filter];unfold jG;rw [List.mem_map];constructor
 ·rintro ⟨⟨y,hy,e⟩,hb⟩;exact ⟨y,(List.mem_filter.1 hy).1,e,(List.mem_filter.1 hy).2,by simpa using hb⟩
 ·rintro ⟨y,hy,e,hb,hd⟩;exact ⟨⟨y,List.mem_filter.2 ⟨hy,hb⟩,e⟩,by simpa using hd⟩
theorem iAn {s:tA} (h:tB s=true) {id:Int} (hid:id∈s.best) {x:gA} (hx:x∈s.items):decide (byL s x=[id])=dAc s id x:=by
 obtain ⟨h1,_⟩:=ZB h;have hI:=sA h1;rw [Bool.eq_iff_iff,decide_eq_true_eq];unfold dAc;rw [Bool.and_eq_true,List.all_eq_true];constructor
 ·intro hL;refine ⟨?_,fun b hb=>?_⟩
  ·obtain ⟨y,hy,e,hbt,_⟩:=(XV h hx).1 (show id∈byL s x by rw [hL];simp);rw [← e,xD hI hy];exact hbt
  ·by_cases hbi:b=id
   ·simp [hbi]
   ·rcases Bool.eq_false_or_eq_true (MC s.wanted (nD s.items b) x) with hq | hq
    ·obtain ⟨y,hy,e⟩:=cM h hb;rw [← e,xD hI hy] at hq;have:b∈byL s x:=(XV h hx).2 ⟨y,hy,e,hq,hb⟩;rw [hL] at this;exact absurd (by simpa using this) hbi
    ·rw [hq];simp
 ·rintro ⟨hb,ha⟩;refine fAw ?_ ?_ ?_
  ·unfold byL;refine List.Nodup.sublist (List.filter_sublist) ?_;unfold tD
   split
   ·unfold jG;refine List.Nodup.sublist (List.Sublist.map _ List.filter_sublist) ?_;unfold WA at hI;rw [Bool.and_eq_true] at hI;exact vS hI.1
   ·exact List.nodup_nil
  ·obtain ⟨y,hy,e⟩:=cM h hid;rw [← e,xD hI hy] at hb;exact (XV h hx).2 ⟨y,hy,e,hb,hid⟩
  ·intro d hd;obtain ⟨y,hy,e,hbt,hdb⟩:=(XV h hx).1 hd;have:=ha d hdb;rw [← e,xD hI hy,hbt] at this;simp at this;rw [← e];exact this
theorem AY {s:tA} {id:Int} (h:tB s=true) (hc:s.best.contains id=true):KD s id=jG (dAc s id) s.items:=by unfold KD;rw [h,hc];rfl
theorem YV {s:tA} {id:Int} (h:(tB s && s.best.contains id)=false):KD s id=[]:=by unfold KD;rw [h];rfl
theorem dAd (s:tA) (id:Int) (h:True):(KD s id).length≤s.items.length:=by
 unfold KD;split
 ·exact YO _ _
 ·exact Nat.zero_le _
theorem aAo {w:World} {l:List gA} {b o n c:Nat} (h:Rd MA w l [.slice (some ⟨b,o,none⟩) n c]) (hn:n=l.length) (hI:WA l=true) {id:Int} (hid:∃y∈l,y.id=id) :
  ∃(k:Nat) (A:Option Addr) (cc:Nat),UA l id=(k:Int)∧k<n∧LA (nD l id)=true∧w.cell? ⟨b,o+k*2,none⟩=some (.int .i64 (nD l id).id)∧w.cell? ⟨b,o+k*2+1,none⟩=some (.slice A 3 cc)∧Rd XA w (nD l id).vals [.slice A 3 cc]:=by
 obtain ⟨y,hy,e⟩:=hid;rcases PB l id with ⟨_,hno⟩ | ⟨k,x,hf,hx,hxi⟩
 ·exact absurd e (hno y hy)
 ·have hP:=NA hI (List.mem_of_getElem? hx);obtain ⟨b',o',A,cc,eA,_,h0,h1,h2⟩:=mB h hx;injection eA with eA;injection eA with e1 e2;subst e1 e2;rw [YA hP] at h1 h2;refine ⟨k,A,cc,hf,?_,?_,?_,h1,?_⟩
  ·rw [hn];exact (List.getElem?_eq_some_iff.1 hx).1
  ·rw [KE hf hx];exact hP
  ·rw [KE hf hx];exact h0
  ·rw [KE hf hx];exact h2
end Go.Proofs.YtpihighajaeabaaGreat
namespace Go.Proofs.YtpihighajaeabaaGreat
open Go.Shelf
set_option linter.unusedVariables false
def CY:Go.Shelf.Ren:=⟨fun | 5=>79 | 8=>163 | 7=>162 | 19=>216 | 20=>217 | 10=>207 | 11=>208 | 12=>209 | 13=>210 | 14=>211 | 15=>212 | 16=>213 | 17=>214 | 18=>215 | 30=>261 | 31=>262 | 32=>263 | 33=>264 | 34=>265 | 35=>266 | 40=>283 | n=>n,fun | 23=>26 | 25=>3 | 3=>3 | 32=>159 | 22=>26 | 0=>0 | 44=>199 | 46=>201 | 4=>4 | 36=>191 | 35=>190 | 41=>196 | 5=>5 | 9=>9 | 53=>231 | 57=>235 | 63=>247 | 64=>248 | n=>n,fun | n=>n⟩
set_option maxRecDepth 100000 in
theorem hAr:Go.Proofs.SlLaysM.n5 Tryz.prog CY:={
 mixed:=by kernel_rfl
 f5:=⟨Tryz.f79.name,by decide,Tryz.func79.trans (congrArg some (by kernel_rfl))⟩
 f7:=⟨Tryz.f162.name,by decide,Tryz.func162.trans (congrArg some (by kernel_rfl))⟩
 f8:=Tryz.func163.trans (congrArg some (by kernel_rfl))
 f10:=⟨Tryz.f207.name,by decide,Tryz.func207.trans (congrArg some (by kernel_rfl))⟩
 f11:=⟨Tryz.f208.name,by decide,Tryz.func208.trans (congrArg some (by kernel_rfl))⟩
 f12:=⟨Tryz.f209.name,by decide,Tryz.func209.trans (congrArg some (by kernel_rfl))⟩
 f13:=⟨Tryz.f210.name,by decide,Tryz.func210.trans (congrArg some (by kernel_rfl))⟩
 f14:=⟨Tryz.f211.name,by decide,Tryz.func211.trans (congrArg some (by kernel_rfl))⟩
 f15:=⟨Tryz.f212.name,by decide,Tryz.func212.trans (congrArg some (by kernel_rfl))⟩
 f16:=⟨Tryz.f213.name,by decide,Tryz.func213.trans (congrArg some (by kernel_rfl))⟩
 f17:=⟨Tryz.f214.name,by decide,Tryz.func214.trans (congrArg some (by kernel_rfl))⟩
 f18:=⟨Tryz.f215.name,by decide,Tryz.func215.trans (congrArg some (by kernel_rfl))⟩
 f19:=Tryz.func216.trans (congrArg some (by kernel_rfl))
 f20:=Tryz.func217.trans (congrArg some (by kernel_rfl))
 f30:=⟨Tryz.f261.name,by decide,Tryz.func261.trans (congrArg some (by kernel_rfl))⟩
 f31:=Tryz.func262.trans (congrArg some (by kernel_rfl))
 f32:=Tryz.func263.trans (congrArg some (by kernel_rfl))
 f33:=⟨Tryz.f264.name,by decide,Tryz.func264.trans (congrArg some (by kernel_rfl))⟩
 f34:=⟨Tryz.f265.name,by decide,Tryz.func265.trans (congrArg some (by kernel_rfl))⟩
 f35:=⟨Tryz.f266.name,by decide,Tryz.func266.trans (congrArg some (by kernel_rfl))⟩
 f40:=⟨Tryz.f283.name,by decide,Tryz.func283.trans (congrArg some (by kernel_rfl))⟩
 t0:=Tryz.underlying0
 a0:=Tryz.isAgg0
 z0:=Tryz.sizeOf0
 v0:=Tryz.zeroValue0
 t3:=Tryz.underlying3
 a3:=Tryz.isAgg3
 z3:=Tryz.sizeOf3
 v3:=Tryz.zeroValue3
 t4:=Tryz.underlying4
 a4:=Tryz.isAgg4
 z4:=Tryz.sizeOf4
 v4:=Tryz.zeroValue4
 t5:=Tryz.underlying5
 a5:=Tryz.isAgg5
 z5:=Tryz.sizeOf5
 v5:=Tryz.zeroValue5
 t9:=Tryz.underlying9
 a9:=Tryz.isAgg9
 z9:=Tryz.sizeOf9
 v9:=Tryz.zeroValue9
 t22:=Tryz.underlying26
 a22:=Tryz.isAgg26
 z22:=Tryz.sizeOf26
 v22:=Tryz.zeroValue26
 t23:=Tryz.underlying26
 a23:=Tryz.isAgg26
 z23:=Tryz.sizeOf26
 v23:=Tryz.zeroValue26
 t25:=Tryz.underlying3
 a25:=Tryz.isAgg3
 z25:=Tryz.sizeOf3
 v25:=Tryz.zeroValue3
 t32:=Tryz.underlying159
 a32:=Tryz.isAgg159
 z32:=Tryz.sizeOf159
 v32:=Tryz.zeroValue159
 t35:=Tryz.underlying190
 a35:=Tryz.isAgg190
 z35:=Tryz.sizeOf190
 v35:=Tryz.zeroValue190
 t36:=Tryz.underlying191
 a36:=Tryz.isAgg191
 z36:=Tryz.sizeOf191
 v36:=Tryz.zeroValue191
 t41:=Tryz.underlying196
 a41:=Tryz.isAgg196
 z41:=Tryz.sizeOf196
 v41:=Tryz.zeroValue196
 t44:=Tryz.underlying199
 a44:=Tryz.isAgg199
 z44:=Tryz.sizeOf199
 v44:=Tryz.zeroValue199
 t46:=Tryz.underlying201
 a46:=Tryz.isAgg201
 z46:=Tryz.sizeOf201
 v46:=Tryz.zeroValue201
 t53:=Tryz.underlying231
 a53:=Tryz.isAgg231
 z53:=Tryz.sizeOf231
 v53:=Tryz.zeroValue231
 t57:=Tryz.underlying235
 a57:=Tryz.isAgg235
 z57:=Tryz.sizeOf235
 v57:=Tryz.zeroValue235
 t63:=Tryz.underlying247
 a63:=Tryz.isAgg247
 z63:=Tryz.sizeOf247
 v63:=Tryz.zeroValue247
 t64:=Tryz.underlying248
 a64:=Tryz.isAgg248
 z64:=Tryz.sizeOf248
 v64:=Tryz.zeroValue248 }
def ZV:Go.Shelf.Ren:=⟨fun | 6=>81 | 15=>163 | 14=>164 | 28=>216 | 29=>217 | 20=>218 | 21=>219 | 22=>220 | 23=>221 | 24=>222 | 25=>223 | 26=>224 | 27=>225 | 46=>267 | 47=>262 | 48=>263 | 49=>268 | 50=>269 | 57=>284 | n=>n,fun | 22=>24 | 24=>30 | 25=>95 | 3=>3 | 39=>159 | 0=>0 | 53=>199 | 55=>201 | 4=>4 | 46=>191 | 45=>190 | 50=>196 | 5=>5 | 9=>9 | 66=>231 | 70=>235 | 76=>247 | 77=>248 | n=>n,fun | n=>n⟩
set_option maxRecDepth 100000 in
theorem fAx:Go.Proofs.SlLaysF0.n6 Tryz.prog ZV:={
 mixed:=by kernel_rfl
 f6:=⟨Tryz.f81.name,by decide,Tryz.func81.trans (congrArg some (by kernel_rfl))⟩
 f14:=⟨Tryz.f164.name,by decide,Tryz.func164.trans (congrArg some (by kernel_rfl))⟩
 f15:=Tryz.func163.trans (congrArg some (by kernel_rfl))
 f20:=⟨Tryz.f218.name,by decide,Tryz.func218.trans (congrArg some (by kernel_rfl))⟩
 f21:=⟨Tryz.f219.name,by decide,Tryz.func219.trans (congrArg some (by kernel_rfl))⟩
 f22:=⟨Tryz.f220.name,by decide,Tryz.func220.trans (congrArg some (by kernel_rfl))⟩
 f23:=⟨Tryz.f221.name,by decide,Tryz.func221.trans (congrArg some (by kernel_rfl))⟩
 f24:=⟨Tryz.f222.name,by decide,Tryz.func222.trans (congrArg some (by kernel_rfl))⟩
 f25:=⟨Tryz.f223.name,by decide,Tryz.func223.trans (congrArg some (by kernel_rfl))⟩
 f26:=⟨Tryz.f224.name,by decide,Tryz.func224.trans (congrArg some (by kernel_rfl))⟩
 f27:=⟨Tryz.f225.name,by decide,Tryz.func225.trans (congrArg some (by kernel_rfl))⟩
 f28:=Tryz.func216.trans (congrArg some (by kernel_rfl))
 f29:=Tryz.func217.trans (congrArg some (by kernel_rfl))
 f46:=⟨Tryz.f267.name,by decide,Tryz.func267.trans (congrArg some (by kernel_rfl))⟩
 f47:=Tryz.func262.trans (congrArg some (by kernel_rfl))
 f48:=Tryz.func263.trans (congrArg some (by kernel_rfl))
 f49:=⟨Tryz.f268.name,by decide,Tryz.func268.trans (congrArg some (by kernel_rfl))⟩
 f50:=⟨Tryz.f269.name,by decide,Tryz.func269.trans (congrArg some (by kernel_rfl))⟩
 f57:=⟨Tryz.f284.name,by decide,Tryz.func284.trans (congrArg some (by kernel_rfl))⟩
 t0:=Tryz.underlying0
 a0:=Tryz.isAgg0
 z0:=Tryz.sizeOf0
 v0:=Tryz.zeroValue0
 t3:=Tryz.underlying3
 a3:=Tryz.isAgg3
 z3:=Tryz.sizeOf3
 v3:=Tryz.zeroValue3
 t4:=Tryz.underlying4
 a4:=Tryz.isAgg4
 z4:=Tryz.sizeOf4
 v4:=Tryz.zeroValue4
 t5:=Tryz.underlying5
 a5:=Tryz.isAgg5
 z5:=Tryz.sizeOf5
 v5:=Tryz.zeroValue5
 t9:=Tryz.underlying9
 a9:=Tryz.isAgg9
 z9:=Tryz.sizeOf9
 v9:=Tryz.zeroValue9
 t22:=Tryz.underlying24
 a22:=Tryz.isAgg24
 z22:=Tryz.sizeOf24
 v22:=Tryz.zeroValue24
 t25:=Tryz.underlying95
 a25:=Tryz.isAgg95
 z25:=Tryz.sizeOf95
 v25:=Tryz.zeroValue95
 t39:=Tryz.underlying159
 a39:=Tryz.isAgg159
 z39:=Tryz.sizeOf159
 v39:=Tryz.zeroValue159
 t45:=Tryz.underlying190
 a45:=Tryz.isAgg190
 z45:=Tryz.sizeOf190
 v45:=Tryz.zeroValue190
 t46:=Tryz.underlying191
 a46:=Tryz.isAgg191
 z46:=Tryz.sizeOf191
 v46:=Tryz.zeroValue191
 t50:=Tryz.underlying196
 a50:=Tryz.isAgg196
 z50:=Tryz.sizeOf196
 v50:=Tryz.zeroValue196
 t53:=Tryz.underlying199
 a53:=Tryz.isAgg199
 z53:=Tryz.sizeOf199
 v53:=Tryz.zeroValue199
 t55:=Tryz.underlying201
 a55:=Tryz.isAgg201
 z55:=Tryz.sizeOf201
 v55:=Tryz.zeroValue201
 t66:=Tryz.underlying231
 a66:=Tryz.isAgg231
 z66:=Tryz.sizeOf231
 v66:=Tryz.zeroValue231
 t70:=Tryz.underlying235
 a70:=Tryz.isAgg235
 z70:=Tryz.sizeOf235
 v70:=Tryz.zeroValue235
 t76:=Tryz.underlying247
 a76:=Tryz.isAgg247
 z76:=Tryz.sizeOf247
 v76:=Tryz.zeroValue247
 t77:=Tryz.underlying248
 a77:=Tryz.isAgg248
 z77:=Tryz.sizeOf248
 v77:=Tryz.zeroValue248 }
end Go.Proofs.YtpihighajaeabaaGreat
namespace Go.Proofs.YtpihighajaeabaaGreat
open Go.RowKit
set_option linter.unusedVariables false
set_option linter.unusedSimpArgs false
def rH (l:List Int):List Int:=l.mergeSort fun x y=>decide (x≤y)
theorem kN (l:List Int):(rH l).Perm l:=List.mergeSort_perm l _
theorem aW (l:List Int):(rH l).Pairwise (·≤·):=by
 have h:=List.pairwise_mergeSort (le:=fun x y:Int=>decide (x≤y)) (fun a b c h1 h2=>by simp at *;omega) (fun a b=>by simp;omega) l;exact h.imp (fun h=>by simpa using h)
theorem qP (l:List Int):(rH l).length=l.length:=(kN l).length_eq
theorem xS:∀ {xs:List Int} {us:List (List Value)} {fs:List (List Nat)} {w:World},dG (fun x u f=>RG w x u f∧u.length=1) xs us fs→us.flatten=xs.map (Value.int .i64)∧fs.flatten=[]
 | [],[],[],_,_=>⟨rfl,rfl⟩
 | x::xs,u::us,f::fs,w,h=>by
  have ih:=xS (xs:=xs) (w:=w) h.2;obtain ⟨⟨hu,hf⟩,_⟩:=h.1;rw [List.flatten_cons,List.flatten_cons,ih.1,ih.2,hu,hf];exact ⟨rfl,rfl⟩
 | [],_::_,_,_,h | [],[],_::_,_,h | _::_,[],_,_,h | _::_,_::_,[],_,h=>h.elim
theorem dAe {w:World} {xs:List Int} {v:Value} {F:List Nat} (h:ZA w xs [v] F):w.ownsRow 0 3 1 v xs.length (xs.map (Value.int .i64))∧F=v.ownBlock.toList:=by
 obtain ⟨v',us,Fs,e,hown,hall,hF⟩:=h;injection e with e;subst e;obtain ⟨h1,h2⟩:=xS hall;rw [h1] at hown;rw [h2,List.append_nil] at hF;exact ⟨hown,hF⟩
theorem dAf {w:World} {xs:List Int} {v:Value} (h:w.ownsRow 0 3 1 v xs.length (xs.map (Value.int .i64))):ZA w xs [v] v.ownBlock.toList:=by
 refine ⟨v,xs.map (fun x=>[Value.int .i64 x]),List.replicate xs.length [],rfl,?_,?_,?_⟩
 ·have:(xs.map (fun x=>[Value.int .i64 x])).flatten=xs.map (Value.int .i64):=by
   clear h
   induction xs with
   | nil=>rfl
   | cons x xs ih=>rw [List.map_cons,List.flatten_cons,List.map_cons];simp_all
  rw [this];exact h
 ·clear h
  induction xs with
  | nil=>trivial
  | cons x xs ih=>exact ⟨⟨⟨rfl,rfl⟩,rfl⟩,ih⟩
 ·rw [NK,List.append_nil]
def hAs (w:World) (xs:List Int) (v:Value) (F:List Nat) (e:Ending) (w':World):Prop:=e=.returned (.tuple #[])∧ZA w' (rH xs) [v] F∧SB F w w'∧∀w0:World,Bw w0 w→(∀b∈F,w0.heap.size≤b)→Bw w0 w'
set_option maxRecDepth 100000 in
theorem fAy (w:World) (xs:List Int) (g c:Nat) (F:List Nat) (h:ZA w xs [.slice (some ⟨g,0,none⟩) xs.length c] F) (hn:xs.length≤1048576) :
  Calls Tryz.prog 79 #[.slice (some ⟨g,0,none⟩) xs.length c] w (hAs w xs (.slice (some ⟨g,0,none⟩) xs.length c) F):=by
 obtain ⟨hown,rfl⟩:=dAe h;rcases hown.2 with ⟨h0,_⟩ | ⟨g',cap,cur,hv,hbase,hb,h1,h2,h3,h4⟩
 ·cases h0
 injection hv with hv1 hv2 hv3;injection hv1 with hv1;injection hv1 with hv1;subst hv1 hv3;have hcon:=AnyM.slices_Sort_int hAr g 0 c xs w (Go.holds_of_blockI hb (by simpa using h4)) (Array.getElem?_eq_some_iff.1 hb).1 (by omega)
 change Calls Tryz.prog 79 _ _ _ at hcon
 refine hcon.mono ?_;rintro e w' ⟨rfl,n,os,rfl⟩;have hlen:(xs.mergeSort fun x y=>decide (x≤y)).length=xs.length:=by simp
 have ho:=Go.ownsRow_sortedI (base:=0) (n:=n) (os:=os) hlen hbase hb h1 h2 h3;have hg:=Go.grownBy_sortedI (w:=w) (g:=g) (n:=n) (os:=os) (xs.mergeSort fun x y=>decide (x≤y)).toArray;refine ⟨rfl,?_,SB.of_grown hg hg.size (by simp [Value.ownBlock]),fun w0 hbw hF=>hbw.grown hg (fun k hk=>hF k (by simpa [Value.ownBlock] using hk.symm))⟩;have:=dAf (w:=Go.Sort.grow (Go.Sort.putRow (Value.int .i64) (Go.Sort.ahead w n) g 0 (xs.mergeSort fun x y=>decide (x≤y)).toArray) os) (xs:=rH xs) (v:=.slice (some ⟨g,0,none⟩) xs.length c) (by rw [qP];exact ho);exact this
end Go.Proofs.YtpihighajaeabaaGreat
