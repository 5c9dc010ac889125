/- Lines on comparisons and standings, and valid standings, in both programs. -/
import Derived.Test.YtpihighajaeabaaGreatQParseT
import Derived.Test.YtpihighajaeabaaGreatQFind
import Derived.Test.YtpihighajaeabaaGreatQFmtP
import Derived.Test.YtpihighajaeabaaGreatQOwn2
import Derived.Test.YtpihighajaeabaaGreatQBestS
namespace Go.Proofs.YtpihighajaeabaaGreat
open Go.RowKit
set_option linter.unusedVariables false
set_option linter.unusedSimpArgs false
theorem GQ {s:ByteArray} {k:Nat} {c:UInt8} (h:(bl s)[k]? = some c) (W:World):(Instr.index 9 (.string s) (.int .i64 (k:Int))).run Tryz.prog W=.ok (.int .u8 (c.toNat:Int)) W:=by
 have hk:k<s.size:=by rw [← VC];exact (List.getElem?_eq_some_iff.1 h).1
 have hc:s[k]=c:=by
  rw [OZ s k hk] at h;exact Option.some.inj h
 rw [run_index_string W 9 s .i64 k Tryz.underlying9,dif_pos ⟨by omega,by omega⟩];subst hc;rfl
theorem fA9 {s:ByteArray} {a b:Nat} (hab:a≤b) (hb:b≤s.size) (W:World):(Instr.slice 9 (.string s) (some (.int .i64 (a:Int))) (some (.int .i64 (b:Int))) none).run Tryz.prog W=.ok (.string (s.extract a b)) W:=by
 rw [run_slice_string_if W 9 s .i64 .i64 a b Tryz.underlying9,if_pos ⟨by omega,by omega⟩,if_pos ⟨by omega,by omega⟩];rfl
theorem GV {s:ByteArray} {a:Nat} (ha:a≤s.size) (W:World):(Instr.slice 9 (.string s) (some (.int .i64 (a:Int))) none none).run Tryz.prog W=.ok (.string (s.extract a s.size)) W:=by
 rw [run_slice_string_from_if W 9 s .i64 a Tryz.underlying9,if_pos ⟨by omega,by omega⟩];rfl
theorem iAc (c:UInt8):0≤(c.toNat:Int)∧(c.toNat:Int)≤255:=by have:=c.toNat_lt;omega
theorem Ret.pair {w w':World} {v v' u u':Value} (h:v=v') (k:u=u') (hb:Bw w w'):Ret w (.tuple #[v',u']) (.returned (.tuple #[v,u])) w':=⟨by rw [h,k],hb⟩
theorem qU:∀ {l:List UInt8} {n:Int},(∀c∈l,yD c=true)→0≤n→0≤dvi n l∧dvi n l<(n+1)*10 ^ l.length
 | [],n,_,hn=>by simp [dvi];omega
 | c::l,n,hc,hn=>by
  have h1:=hc c (by simp);unfold yD at h1;rw [decide_eq_true_eq] at h1;have h2:=qU (l:=l) (n:=n*10+((c.toNat:Int)-48)) (fun c hc2=>hc c (by simp [hc2])) (by omega);refine ⟨h2.1,Int.lt_of_lt_of_le h2.2 ?_⟩;rw [List.length_cons,Int.pow_succ,Int.mul_comm (10 ^ l.length) 10,← Int.mul_assoc];exact Int.mul_le_mul_of_nonneg_right (by omega) (Int.pow_nonneg (by omega))
theorem fAa {l:List UInt8} {k:Nat} (h:∀c∈l,yD c=true) (hl:l.length≤k):0≤dvi 0 l∧dvi 0 l<10 ^ k:=by
 have h1:=qU (n:=0) h (by omega);have hp:(10:Int) ^ l.length≤10 ^ k:=by
  have:=Nat.pow_le_pow_right (n:=10) (by omega) hl
  exact_mod_cast this
 omega
theorem mL {s:ByteArray} {k a:Nat} {c:UInt8} (h:(bl s)[k]? = some c) (ha:a≤k):((bl s).take (k+1)).drop a=((bl s).take k).drop a++[c]:=by
 have hk:k<(bl s).length:=(List.getElem?_eq_some_iff.1 h).1;rw [List.take_add_one,h,List.drop_append,List.length_take];have:a-min k (bl s).length=0:=by omega
 rw [this];rfl
def IV (s:ByteArray) (a:Nat):Prop:=(a=0∨(a=1∧(bl s)[0]? = some 45))∧(a=0→(bl s)[0]?≠some 45)
theorem fAb {s:ByteArray} {a:Nat} (hA:IV s a) (h1:a+1≤s.size) (h2:s.size≤a+9) (hd:∀c∈(bl s).drop a,yD c=true) :
  pI s=if EA (if a=1 then -(dvi 0 ((bl s).drop a)) else dvi 0 ((bl s).drop a))=s then (if a=1 then -(dvi 0 ((bl s).drop a)) else dvi 0 ((bl s).drop a),true) else (0,false):=by
 obtain ⟨ha,h0⟩:=hA;have hl:=VC s;have hne:(bl s).drop a≠[]:=fun e=>by
  have:=congrArg List.length e;rw [List.length_drop] at this;simp at this;omega
 have hle:((bl s).drop a).length≤9:=by rw [List.length_drop];omega
 rcases ha with rfl | ⟨rfl,h45⟩
 ·have hs:CJ s ((bl s).drop 0):=⟨hne,hle,hd,.inr (by simp)⟩;have hn:¬bl s=45::(bl s).drop 0:=fun e=>by
   have:=congrArg List.length e;simp at this
  rw [gP hs,if_neg hn];rfl
 ·have e:bl s=45::(bl s).drop 1:=by
   have:=NB h45
   simpa using this
  have hs:CJ s ((bl s).drop 1):=⟨hne,hle,hd,.inl e⟩;rw [gP hs,if_pos e];rfl
theorem LR {s:ByteArray} {a:Nat} (hA:IV s a) (h:s.size≤a∨a+9<s.size∨∃c∈(bl s).drop a,yD c=false):pI s=(0,false):=by
 obtain ⟨ha,h0⟩:=hA;refine iAu (fun ds hd=>?_);have hl:=VC s;obtain ⟨d1,d2,d3,d4⟩:=hd;have hp:0<ds.length:=List.length_pos_iff.2 d1;have e:(bl s).drop a=ds:=by
  rcases ha with rfl | ⟨rfl,h45⟩
  ·rcases d4 with e | e
   ·exact absurd (by rw [e];rfl) (h0 rfl)
   ·rw [e];rfl
  ·rcases d4 with e | e
   ·rw [e];rfl
   ·rw [e] at h45
    cases ds with
    | nil=>simp at h45
    | cons c l=>
     simp at h45;exact absurd h45 (yX (d3 c (by simp)))
 rcases h with h | h | ⟨c,hc,hcd⟩
 ·have:=congrArg List.length e;rw [List.length_drop] at this;omega
 ·have:=congrArg List.length e;rw [List.length_drop] at this;omega
 ·rw [e] at hc;rw [d3 c hc] at hcd;cases hcd
theorem LX {s:ByteArray} {k a:Nat} {c:UInt8} (h:(bl s)[k]? = some c) (ha:a≤k):c∈(bl s).drop a:=by
 obtain ⟨hk,e⟩:=List.getElem?_eq_some_iff.1 h;refine List.mem_iff_getElem?.2 ⟨k-a,?_⟩;rw [List.getElem?_drop,show a+(k-a)=k by omega];exact h
theorem kH {x y:ByteArray} (h:x=y):(x.toList==y.toList)=true:=by rw [h];simp
theorem QF {x y:ByteArray} (h:¬x=y):(x.toList==y.toList)=false:=by
 rw [← Bool.not_eq_true];intro e;rw [beq_iff_eq,dP,dP] at e;exact h (yH e)
theorem SJ {n:Int} (h : -1000000000≤n∧n≤100000000000):(Lit.int .i64 n).wf=true:=by
 simp [Lit.wf,IntKind.min,IntKind.max,IntKind.signed,IntKind.bits];omega
theorem DF {l:List UInt8} {a:Nat}:(l.take a).drop a=[]:=by
 apply List.drop_eq_nil_of_le;rw [List.length_take];omega
set_option maxRecDepth 100000 in
set_option maxHeartbeats 1600000 in
theorem xG (w:World) (s:ByteArray) (hs:s.size≤1048576):Calls Tryz.prog 248 #[.string s] w (Ret w (.tuple #[.int .i64 (pI s).1,.bool (pI s).2])):=by
 obtain ⟨Y,hY⟩:∃Y,Y=pI s:=⟨_,rfl⟩;have HY:=Lib.hid hY;rw [← hY];clear hY;by_cases h0:s.size=0
 ·have HE:=Lib.hid (LR (s:=s) (a:=0) ⟨.inl rfl,fun _=>by rw [wR.2 h0];simp⟩ (.inl (by omega)));have ew:inB 0 1 9=false:=by decide
  have ez:(s.size:Int)=0:=by omega
  go_enter Tryz.func248,Tryz.ntmps248;go_wp2_with fail;refine (JC _ _ _ _).mono ?_;rintro e w2 ⟨rfl,hb2⟩;rw [ew];clear ew;go_wp2;refine bodyPost_ret (v:=.tuple #[.int .i64 0,.bool false]) (by simp [results,Tryz.results248,go_sem]) rfl (Ret.pair (by rw [HY.out,HE.out]) (by rw [HY.out,HE.out]) hb2)
 ·obtain ⟨c0,hc0⟩:=rA (xs:=bl s) (k:=0) (by rw [VC];omega);have hidx0:=GQ hc0;rw [show ((0:Nat):Int)=0 from rfl] at hidx0;have hs1:(s.size:Int) > 0:=by omega
  by_cases h45:c0=45
  ·have HP:=Lib.hid (show IV s 1 from ⟨.inr ⟨rfl,by rw [hc0,h45]⟩,fun h=>by omega⟩);rw [h45] at hidx0;have e0:(((45:UInt8).toNat:Int))=45:=rfl;rw [e0] at hidx0;clear hc0 h45 e0;go_enter Tryz.func248,Tryz.ntmps248;by_cases hlen:1+1≤s.size∧s.size≤1+9
   ·obtain ⟨hl1,hl2⟩:=hlen;have ew:inB ((s.size:Int)-1) 1 9=true:=qC.2 (by omega);go_wp2_with fail;refine (JC _ _ _ _).mono ?_;rintro e w2 ⟨rfl,hb2⟩;rw [ew];clear ew;go_wp2
    go_loopw [5,6] (fun n i w'=>∃(k:Nat) (V:Int),1≤k∧k≤s.size∧i=.int .i64 k∧n=.int .i64 V∧0≤V∧V≤999999999∧Hid (V=dvi 0 (((bl s).take k).drop 1))∧Hid (∀c∈((bl s).take k).drop 1,yD c=true)∧Bw w w') (fun n i _=>s.size-(intOf i).toNat)
    case atStart=>exact ⟨1,0,by omega,by omega,by go_num,rfl,by omega,by omega,Lib.hid (by rw [DF];rfl),Lib.hid (by rw [DF];simp),hb2⟩
    case round=>
     obtain ⟨k,V,hk0,hk,rfl,rfl,v1,v2,HV,HD,hb⟩:=hrel;by_cases hlt:k<s.size
     ·obtain ⟨c,hc⟩:=rA (xs:=bl s) (k:=k) (by rw [VC];exact hlt);have hidx:=GQ hc;have hts:=mL (a:=1) hc hk0;have HC:=Lib.hid (LX (a:=1) hc hk0);have HV2:=Lib.hid (show V*10+((c.toNat:Int)-48)=dvi 0 (((bl s).take (k+1)).drop 1) by rw [hts,sX,← HV.out]);obtain ⟨x,hx⟩:∃x:Int,x=(c.toNat:Int):=⟨_,rfl⟩;have hxb:0≤x∧x≤255:=by rw [hx];exact iAc c
      have HDG:=Lib.hid (show yD c=decide (48≤x∧x≤57) by unfold yD;rw [decide_eq_decide,hx];omega);rw [← hx] at hidx HV2;have HV8:=Lib.hid (show V≤99999999 by
       have hl:=VC s;have:=(fAa (k:=8) HD.out (by rw [List.length_drop,List.length_take];omega)).2;rw [← HV.out] at this;have e8:(10:Int) ^ 8=100000000:=by decide
       omega)
      have HTS:=Lib.hid hts;have hx1:=hxb.1;have hx2:=hxb.2;have hv8:=HV8.out;clear hc hts hx hxb;by_cases hdig:48≤x∧x≤57
      ·have h1:=hdig.1;have h2:=hdig.2;have HD2:=Lib.hid (show ∀d∈((bl s).take (k+1)).drop 1,yD d=true from fun d hd=>by
        rw [HTS.out,List.mem_append,List.mem_singleton] at hd;rcases hd with hd | rfl
        ·exact HD.out d hd
        ·rw [HDG.out];exact decide_eq_true ⟨h1,h2⟩)
       clear hdig;go_wp2
       go_roundw
       case rel=>exact ⟨k+1,V*10+(x-48),by omega,by omega,by go_num,by go_num,by omega,by omega,HV2,HD2,hb⟩
       case measure=>simp [intOf];omega
      ·have HN:=Lib.hid (show yD c=false by rw [HDG.out];exact decide_eq_false hdig);have HE:=Lib.hid (LR HP.out (.inr (.inr ⟨c,HC.out,HN.out⟩)));by_cases h1:x<48
       ·go_wp2;refine bodyPost_ret (v:=.tuple #[.int .i64 0,.bool false]) (by simp [results,Tryz.results248,go_sem]) rfl (Ret.pair (by rw [HY.out,HE.out]) (by rw [HY.out,HE.out]) hb)
       ·have h2:57<x:=by omega
        clear hdig;go_wp2;refine bodyPost_ret (v:=.tuple #[.int .i64 0,.bool false]) (by simp [results,Tryz.results248,go_sem]) rfl (Ret.pair (by rw [HY.out,HE.out]) (by rw [HY.out,HE.out]) hb)
     ·obtain rfl:k=s.size:=by omega
      have ht:(bl s).take s.size=bl s:=List.take_of_length_le (by rw [VC];omega);have HE:=Lib.hid (fAb HP.out hl1 hl2 (by have:=HD.out;rw [ht] at this;exact this));rw [ht] at HV;rw [← HV.out] at HE;have wf:=SJ (n:=-V) (by omega);go_wp2_with fail;refine (OB _ _ wf).mono ?_;rintro e w3 ⟨rfl,hb3⟩;obtain ⟨F,hF⟩:∃F,F=EA (-V):=⟨_,rfl⟩;rw [← hF];have HF:=Lib.hid hF;clear hF wf;by_cases hq:F=s
      ·have HQ:=Lib.hid (show pI s=(-V,true) by rw [HE.out];exact if_pos (by rw [← hq,HF.out];rfl));have e1:=kH hq;have e2:(F.toList != s.toList)=false:=by rw [bne,e1];rfl
       clear hq HE;go_wp2;refine bodyPost_ret (v:=.tuple #[.int .i64 (-V),.bool true]) (by simp [results,Tryz.results248,go_sem]) rfl (Ret.pair (by rw [HY.out,HQ.out]) (by rw [HY.out,HQ.out]) (hb.then hb3))
      ·have HQ:=Lib.hid (show pI s=(0,false) by rw [HE.out];exact if_neg (fun e=>hq (by rw [HF.out];exact e)));have e1:=QF hq;have e2:(F.toList != s.toList)=true:=by rw [bne,e1];rfl
       clear hq HE;go_wp2;refine bodyPost_ret (v:=.tuple #[.int .i64 0,.bool false]) (by simp [results,Tryz.results248,go_sem]) rfl (Ret.pair (by rw [HY.out,HQ.out]) (by rw [HY.out,HQ.out]) (hb.then hb3))
   ·have HE:=Lib.hid (LR HP.out (by omega));have ew:inB ((s.size:Int)-1) 1 9=false:=by
     cases h:inB ((s.size:Int)-1) 1 9 with
     | false=>rfl
     | true=>have:=qC.1 h;omega
    go_wp2_with fail;refine (JC _ _ _ _).mono ?_;rintro e w2 ⟨rfl,hb2⟩;rw [ew];clear ew hlen;go_wp2;refine bodyPost_ret (v:=.tuple #[.int .i64 0,.bool false]) (by simp [results,Tryz.results248,go_sem]) rfl (Ret.pair (by rw [HY.out,HE.out]) (by rw [HY.out,HE.out]) hb2)
  ·have HP:=Lib.hid (show IV s 0 from ⟨.inl rfl,fun _=>by rw [hc0];simpa using h45⟩);obtain ⟨x0,hx0⟩:∃x:Int,x=(c0.toNat:Int):=⟨_,rfl⟩;have e45:(x0==45)=false:=by
    rw [hx0];have:c0.toNat≠45:=fun e=>h45 (UInt8.toNat_inj.1 (by rw [e];rfl))
    simp;omega
   rw [← hx0] at hidx0;clear hc0 h45 hx0;go_enter Tryz.func248,Tryz.ntmps248;by_cases hlen:0+1≤s.size∧s.size≤0+9
   ·obtain ⟨hl1,hl2⟩:=hlen;have ew:inB ((s.size:Int)) 1 9=true:=qC.2 (by omega);go_wp2_with fail;refine (JC _ _ _ _).mono ?_;rintro e w2 ⟨rfl,hb2⟩;rw [ew];clear ew;go_wp2
    go_loopw [5,6] (fun n i w'=>∃(k:Nat) (V:Int),0≤k∧k≤s.size∧i=.int .i64 k∧n=.int .i64 V∧0≤V∧V≤999999999∧Hid (V=dvi 0 (((bl s).take k).drop 0))∧Hid (∀c∈((bl s).take k).drop 0,yD c=true)∧Bw w w') (fun n i _=>s.size-(intOf i).toNat)
    case atStart=>exact ⟨0,0,by omega,by omega,by go_num,rfl,by omega,by omega,Lib.hid (by rw [DF];rfl),Lib.hid (by rw [DF];simp),hb2⟩
    case round=>
     obtain ⟨k,V,hk0,hk,rfl,rfl,v1,v2,HV,HD,hb⟩:=hrel;by_cases hlt:k<s.size
     ·obtain ⟨c,hc⟩:=rA (xs:=bl s) (k:=k) (by rw [VC];exact hlt);have hidx:=GQ hc;have hts:=mL (a:=0) hc hk0;have HC:=Lib.hid (LX (a:=0) hc hk0);have HV2:=Lib.hid (show V*10+((c.toNat:Int)-48)=dvi 0 (((bl s).take (k+1)).drop 0) by rw [hts,sX,← HV.out]);obtain ⟨x,hx⟩:∃x:Int,x=(c.toNat:Int):=⟨_,rfl⟩;have hxb:0≤x∧x≤255:=by rw [hx];exact iAc c
      have HDG:=Lib.hid (show yD c=decide (48≤x∧x≤57) by unfold yD;rw [decide_eq_decide,hx];omega);rw [← hx] at hidx HV2;have HV8:=Lib.hid (show V≤99999999 by
       have hl:=VC s;have:=(fAa (k:=8) HD.out (by rw [List.length_drop,List.length_take];omega)).2;rw [← HV.out] at this;have e8:(10:Int) ^ 8=100000000:=by decide
       omega)
      have HTS:=Lib.hid hts;have hx1:=hxb.1;have hx2:=hxb.2;have hv8:=HV8.out;clear hc hts hx hxb;by_cases hdig:48≤x∧x≤57
      ·have h1:=hdig.1;have h2:=hdig.2;have HD2:=Lib.hid (show ∀d∈((bl s).take (k+1)).drop 0,yD d=true from fun d hd=>by
        rw [HTS.out,List.mem_append,List.mem_singleton] at hd;rcases hd with hd | rfl
        ·exact HD.out d hd
        ·rw [HDG.out];exact decide_eq_true ⟨h1,h2⟩)
       clear hdig;go_wp2
       go_roundw
       case rel=>exact ⟨k+1,V*10+(x-48),by omega,by omega,by go_num,by go_num,by omega,by omega,HV2,HD2,hb⟩
       case measure=>simp [intOf];omega
      ·have HN:=Lib.hid (show yD c=false by rw [HDG.out];exact decide_eq_false hdig);have HE:=Lib.hid (LR HP.out (.inr (.inr ⟨c,HC.out,HN.out⟩)));by_cases h1:x<48
       ·go_wp2;refine bodyPost_ret (v:=.tuple #[.int .i64 0,.bool false]) (by simp [results,Tryz.results248,go_sem]) rfl (Ret.pair (by rw [HY.out,HE.out]) (by rw [HY.out,HE.out]) hb)
       ·have h2:57<x:=by omega
        clear hdig;go_wp2;refine bodyPost_ret (v:=.tuple #[.int .i64 0,.bool false]) (by simp [results,Tryz.results248,go_sem]) rfl (Ret.pair (by rw [HY.out,HE.out]) (by rw [HY.out,HE.out]) hb)
     ·obtain rfl:k=s.size:=by omega
      have ht:(bl s).take s.size=bl s:=List.take_of_length_le (by rw [VC];omega);have HE:=Lib.hid (fAb HP.out hl1 hl2 (by have:=HD.out;rw [ht] at this;exact this));rw [ht] at HV;rw [← HV.out] at HE;have wf:=SJ (n:=V) (by omega);go_wp2_with fail;refine (OB _ _ wf).mono ?_;rintro e w3 ⟨rfl,hb3⟩;obtain ⟨F,hF⟩:∃F,F=EA (V):=⟨_,rfl⟩;rw [← hF];have HF:=Lib.hid hF;clear hF wf;by_cases hq:F=s
      ·have HQ:=Lib.hid (show pI s=(V,true) by rw [HE.out];exact if_pos (by rw [← hq,HF.out];rfl));have e1:=kH hq;have e2:(F.toList != s.toList)=false:=by rw [bne,e1];rfl
       clear hq HE;go_wp2;refine bodyPost_ret (v:=.tuple #[.int .i64 (V),.bool true]) (by simp [results,Tryz.results248,go_sem]) rfl (Ret.pair (by rw [HY.out,HQ.out]) (by rw [HY.out,HQ.out]) (hb.then hb3))
      ·have HQ:=Lib.hid (show pI s=(0,false) by rw [HE.out];exact if_neg (fun e=>hq (by rw [HF.out];exact e)));have e1:=QF hq;have e2:(F.toList != s.toList)=true:=by rw [bne,e1];rfl
       clear hq HE;go_wp2;refine bodyPost_ret (v:=.tuple #[.int .i64 0,.bool false]) (by simp [results,Tryz.results248,go_sem]) rfl (Ret.pair (by rw [HY.out,HQ.out]) (by rw [HY.out,HQ.out]) (hb.then hb3))
   ·have HE:=Lib.hid (LR HP.out (by omega));have ew:inB ((s.size:Int)) 1 9=false:=by
     cases h:inB ((s.size:Int)) 1 9 with
     | false=>rfl
     | true=>have:=qC.1 h;omega
    go_wp2_with fail;refine (JC _ _ _ _).mono ?_;rintro e w2 ⟨rfl,hb2⟩;rw [ew];clear ew hlen;go_wp2;refine bodyPost_ret (v:=.tuple #[.int .i64 0,.bool false]) (by simp [results,Tryz.results248,go_sem]) rfl (Ret.pair (by rw [HY.out,HE.out]) (by rw [HY.out,HE.out]) hb2)
end Go.Proofs.YtpihighajaeabaaGreat
namespace Go.Proofs.YtpihighajaeabaaGreat
open Go.RowKit
set_option linter.unusedVariables false
set_option linter.unusedSimpArgs false
def DM (s sep:ByteArray) (f a k:Nat):List ByteArray:=(SG (bl sep) f (((bl s).take k).drop a) ((bl s).drop k)).map mkS
theorem cAr (s sep:ByteArray):PF s sep=DM s sep (s.size+1) 0 0:=rfl
theorem hAe {s sep:ByteArray} {f a k:Nat} (hk:k+sep.size≤s.size) (h:s.extract k (k+sep.size)=sep):DM s sep (f+1) a k=s.extract a k::DM s sep f (k+sep.size) (k+sep.size):=by
 have hl:=VC s;have hn:=VC sep;unfold DM;have e1:((bl s).drop k).take (bl sep).length=bl sep:=by
  have:=BF s k (k+sep.size);rw [h,List.drop_take] at this;rw [hn,show sep.size=k+sep.size-k by omega];exact this.symm
 have hle:(bl sep).length≤((bl s).drop k).length:=by rw [List.length_drop];omega
 rw [SG,if_pos hle,if_pos e1,List.map_cons,List.drop_drop,hn,← BF,BJ,DF]
theorem fAc {s sep:ByteArray} {f a k:Nat} (hn:0<sep.size) (ha:a≤k) (hk:k+sep.size≤s.size) (h:¬s.extract k (k+sep.size)=sep):DM s sep (f+1) a k=DM s sep f a (k+1):=by
 have hl:=VC s;have hn:=VC sep;unfold DM;have hle:(bl sep).length≤((bl s).drop k).length:=by rw [List.length_drop];omega
 have e1:¬((bl s).drop k).take (bl sep).length=bl sep:=by
  intro e;apply h;apply yH;rw [BF,List.drop_take,show k+sep.size-k=(bl sep).length by omega];exact e
 rw [SG,if_pos hle,if_neg e1,List.drop_drop];have hk2:k<s.size:=by omega
 rw [gAz s hk2,hAa s hk2,List.drop_append,List.length_take];have:a-min k (bl s).length=0:=by omega
 rw [this];rfl
theorem fAd {s sep:ByteArray} {f a k:Nat} (ha:a≤k) (hk:k≤s.size) (h:s.size<k+sep.size):DM s sep f a k=[s.extract a s.size]:=by
 have hl:=VC s;have hn:=VC sep;unfold DM;have e2:((bl s).take k).drop a++(bl s).drop k=bl (s.extract a s.size):=by
  rw [BF,List.take_of_length_le (i:=s.size) (by omega)]
  conv=>rhs;rw [← List.take_append_drop k (bl s)]
  rw [List.drop_append,List.length_take];have:a-min k (bl s).length=0:=by omega
  rw [this];rfl
 have e1:SG (bl sep) f (((bl s).take k).drop a) ((bl s).drop k)=[((bl s).take k).drop a++(bl s).drop k]:=by
  cases f with
  | zero=>rfl
  | succ f=>rw [SG,if_neg (by rw [List.length_drop];omega)]
 rw [e1,e2,List.map_cons,BJ];rfl
set_option maxRecDepth 100000 in
set_option maxHeartbeats 1600000 in
theorem MR (w:World) (s sep:ByteArray) (hs:s.size≤1048576) (hn:0<sep.size) (hn2:sep.size≤1024):Calls Tryz.prog 147 #[.string s,.string sep] w (BC w (pF GK w.heap.size (PF s sep))):=by
 obtain ⟨i0,hi,hz0,hz1,hz2⟩:=info_parts UK;have hv0:=PA (e:=9) (sz:=1) (R:=KW) w;obtain ⟨Y,hY⟩:∃Y,Y=PF s sep:=⟨_,rfl⟩;have HY:=Lib.hid (hY.trans (cAr s sep));rw [← hY];clear hY;go_enter Tryz.func147,Tryz.ntmps147;go_wp2
 go_loopw [5,6,7] (fun t v i w'=>∃(f a k:Nat) (out:List ByteArray) (F:List Nat),a≤k∧k≤s.size∧s.size+1≤f+k∧i=.int .i64 k∧v=.int .i64 a∧GK w' out [t] F∧pA w.heap.size F∧out.length≤k∧Hid (Y=out++DM s sep f a k)∧Bw w w') (fun t v i _=>s.size-(intOf i).toNat)
 case atStart=>exact ⟨s.size+1,0,0,[],_,by omega,by omega,by omega,rfl,rfl,hv0,⟨by simp,by simp⟩,by simp,by exact HY,(Bw.refl _).alloc _⟩
 case round=>
  obtain ⟨f,a,k,out,F,ha,hk,hf,rfl,rfl,hv,hF,hol,HE,hb⟩:=hrel;by_cases hit:k+sep.size≤s.size
  ·have h1:∀W,(Instr.slice 9 (.string s) (some (.int .i64 (k:Int))) (some (.int .i64 ((k:Int)+(sep.size:Int)))) none).run Tryz.prog W=.ok (.string (s.extract k (k+sep.size))) W:=fun W=>by
    have:=fA9 (a:=k) (b:=k+sep.size) (by omega) hit W
    rwa [Int.natCast_add] at this
   have h2:=fA9 (s:=s) (a:=a) (b:=k) ha hk;obtain ⟨f',rfl⟩:∃f',f=f'+1:=⟨f-1,by omega⟩;by_cases he:s.extract k (k+sep.size)=sep
   ·have HS:=Lib.hid (hAe (f:=f') (a:=a) hit he);obtain ⟨q,hq⟩:∃q,q=s.extract k (k+sep.size):=⟨_,rfl⟩;rw [← hq] at h1;have e1:=kH (hq.trans he);obtain ⟨p,hp⟩:∃p,p=s.extract a k:=⟨_,rfl⟩;rw [← hp] at h2 HS;clear hq he hp hv0;have hvW:=(kB (B:=w.heap.size)).bw ((Bw.refl wr).alloc (.cells #[.string p] 9)) hb.size hv;have hFm:=(kB (B:=0)).lt hv;have hbW:=hb.alloc (.cells #[.string p] 9);have hcl:=cell_one_new wr (.string p) 9;clear hv;go_wp2_with (at_builtin;refine rB _ rfl (.tmp 25) (.tmp 30) 58 rfl w 9 i0 _ 1 16 Tryz.underlying58 hi hz0 hz1 hz2 rfl (by omega) FE _ out F rfl hvW hF ⟨wr.heap.size,0,none⟩ 1 rfl p [.string p] [] hcl ⟨rfl,rfl⟩ rfl wr.heap.size hFm pA.nil hb.size (by omega) (by omega) hbW ?_;intro v' w' F' hv' hF' hb')
    go_roundw
    case rel=>exact ⟨f',k+sep.size,k+sep.size,out++[p],F',by omega,by omega,by omega,by go_num,by go_num,hv',hF',by simp;omega,by show _=_;rw [HE.out,HS.out];simp,hb'⟩
    case measure=>simp [intOf];omega
   ·have HS:=Lib.hid (fAc (f:=f') hn ha hit he);obtain ⟨q,hq⟩:∃q,q=s.extract k (k+sep.size):=⟨_,rfl⟩;rw [← hq] at h1 he;have e1:=QF he;clear hq he hv0 h2;go_wp2
    go_roundw
    case rel=>exact ⟨f',a,k+1,out,F,by omega,by omega,by omega,by go_num,rfl,hv,hF,by omega,by show _=_;rw [HE.out,HS.out],hb⟩
    case measure=>simp [intOf];omega
  ·have HS:=Lib.hid (fAd (f:=f) (sep:=sep) ha hk (by omega));have h1:=GV (s:=s) (a:=a) (by omega);obtain ⟨p,hp⟩:∃p,p=s.extract a s.size:=⟨_,rfl⟩;rw [← hp] at h1 HS;clear hp hv0;have hvW:=(kB (B:=w.heap.size)).bw ((Bw.refl wr).alloc (.cells #[.string p] 9)) hb.size hv;have hFm:=(kB (B:=0)).lt hv;have hbW:=hb.alloc (.cells #[.string p] 9);have hcl:=cell_one_new wr (.string p) 9;clear hv;go_wp2_with (at_builtin;refine rB _ rfl (.tmp 39) (.tmp 43) 58 rfl w 9 i0 _ 1 16 Tryz.underlying58 hi hz0 hz1 hz2 rfl (by omega) FE _ out F rfl hvW hF ⟨wr.heap.size,0,none⟩ 1 rfl p [.string p] [] hcl ⟨rfl,rfl⟩ rfl wr.heap.size hFm pA.nil hb.size (by omega) (by omega) hbW ?_;intro v' w' F' hv' hF' hb');go_ret;exact ⟨_,rfl,⟨F',by rw [HE.out,HS.out];exact hv',hF'⟩,hb'⟩
end Go.Proofs.YtpihighajaeabaaGreat
namespace Go.Proofs.YtpihighajaeabaaGreat
open Go.RowKit
set_option linter.unusedVariables false
set_option linter.unusedSimpArgs false
theorem EJ (sep:List UInt8):∀(f:Nat) (pre l:List UInt8),∀p∈SG sep f pre l,p.length≤pre.length+l.length
 | 0,pre,l,p,hp=>by rw [SG,List.mem_singleton] at hp;rw [hp,List.length_append];exact Nat.le_refl _
 | f+1,pre,l,p,hp=>by
  rw [SG] at hp
  split at hp
  ·split at hp
   ·rcases List.mem_cons.1 hp with rfl | hp
    ·omega
    ·have:=EJ sep f [] _ p hp;rw [List.length_drop] at this;simp at this;omega
   ·have:=EJ sep f _ _ p hp;rw [List.length_append,List.length_take,List.length_drop] at this;omega
  ·rw [List.mem_singleton] at hp;rw [hp,List.length_append];exact Nat.le_refl _
theorem NR (sep:List UInt8):∀(f:Nat) (pre l:List UInt8),(SG sep f pre l).length≤f+1
 | 0,pre,l=>by rw [SG];simp
 | f+1,pre,l=>by
  rw [SG]
  split
  ·split
   ·have:=NR sep f [] (l.drop sep.length);rw [List.length_cons];omega
   ·have:=NR sep f (pre++l.take 1) (l.drop 1);omega
  ·simp
theorem FJ (c:UInt8):∀(pre l:List UInt8),∀p∈WE c pre l,p.length≤pre.length+l.length
 | pre,[],p,hp=>by rw [WE,List.mem_singleton] at hp;rw [hp];simp
 | pre,x::l,p,hp=>by
  rw [WE] at hp
  split at hp
  ·rcases List.mem_cons.1 hp with rfl | hp
   ·omega
   ·have:=FJ c [] l p hp;simp only [List.length_nil,List.length_cons] at this ⊢;omega
  ·have:=FJ c _ l p hp;simp only [List.length_append,List.length_cons,List.length_nil] at this ⊢;omega
theorem TJ {s sep t:ByteArray} (h:t∈PF s sep):t.size≤s.size:=by
 unfold PF at h;obtain ⟨p,hp,rfl⟩:=List.mem_map.1 h;have:=EJ _ _ _ _ p hp;rw [YN];rw [VC] at this
 simpa using this
theorem OR {s t:ByteArray} {c:UInt8} (h:t∈mG s c):t.size≤s.size:=by
 unfold mG at h;obtain ⟨p,hp,rfl⟩:=List.mem_map.1 h;have:=FJ _ _ _ p hp;rw [YN];rw [VC] at this
 simpa using this
theorem PR (s sep:ByteArray):(PF s sep).length≤s.size+2:=by unfold PF;rw [List.length_map];exact NR _ _ _ _
def pK (P:List ByteArray) (k:Nat):List Int:=(P.take k).map zH
theorem MX {P:List ByteArray} {k:Nat} {t:ByteArray} (h:P[k]? = some t):pK P (k+1)=pK P k++[zH t]:=by unfold pK;rw [List.take_add_one,h,List.map_append];rfl
theorem RZ (P:List ByteArray) (k:Nat):(pK P k).length≤k:=by unfold pK;rw [List.length_map,List.length_take];omega
theorem SZ {P:List ByteArray} {k:Nat} (h:P.length≤k):pK P k=P.map zH:=by unfold pK;rw [List.take_of_length_le h]
set_option maxRecDepth 100000 in
set_option maxHeartbeats 1600000 in
theorem EM (w:World) (s:ByteArray) (hs:s.size≤1048576):Calls Tryz.prog 273 #[.string s] w (BC w (pF ZA w.heap.size (RH s))):=by
 obtain ⟨i0,hi,hz0,hz1,hz2⟩:=info_parts PC;have hv0:=PA (e:=3) (sz:=1) (R:=RG) w;have A0:Bw w (w.alloc (.cells #[] 3)):=(Bw.refl w).alloc _;obtain ⟨P,hP⟩:∃P,P=PF s ⟨#[44]⟩:=⟨_,rfl⟩;have hcall:=MR (w.alloc (.cells #[] 3)) s ⟨#[44]⟩ hs (by decide) (by decide);rw [← hP] at hcall;have HY:=Lib.hid (show RH s=P.map zH by rw [hP];rfl);have HM:=Lib.hid (show ∀t∈P,t.size≤s.size from fun t ht=>TJ (by rw [← hP];exact ht));have HL:=Lib.hid (show P.length≤s.size+2 by rw [hP];exact PR _ _);clear hP;go_enter Tryz.func273,Tryz.ntmps273;go_wp2_with fail;refine hcall.mono ?_;rintro e w2 ⟨v1,rfl,⟨FX,oX,fX⟩,hb2⟩;have B2:=A0.then hb2;have hv2:=(aA (B:=w.heap.size)).bw hb2 A0.size hv0;have zX:∀z∈FX,z∉[w.heap.size]:=fun z hz=>by have h1:=fX.ge z hz;simp at h1;simp only [List.mem_singleton];omega
 have hl:=PD oX;obtain ⟨A,n,c,rfl,L0,Lc,Lm⟩:=iA hl;unfold maxLen at Lm;have L:=Lib.hid L0;clear L0;have OX:=Lib.hid oX;have ZX:=Lib.hid zX;have ZS:=Lib.hid (show w.heap.size<w2.heap.size by have:=hb2.size;simp at this;omega);clear oX zX hl hv0 fX hcall;go_wp2
 go_loopg [3,12] n (fun g s i w'=>∃(k:Nat) (F:List Nat),k≤n∧g=n-k∧i=.int .i64 k∧ZA w' (pK P k) [s] F∧pA w.heap.size F∧Bw w w'∧SB [w.heap.size] w2 w'∧Hid (∀z∈F,z=w.heap.size∨w2.heap.size≤z))
 case atStart=>exact ⟨0,_,by omega,rfl,rfl,hv2,⟨by simp,by simp⟩,B2,SB.refl _ _,Lib.hid (fun z hz=>.inl (by simpa using hz))⟩
 case round=>
  clear hv2 B2 hb2 A0;obtain ⟨k,F,hk,rfl,rfl,hv,hF,hb,hO,HF⟩:=hrel;by_cases hlt:k<n
  ·obtain ⟨x,hx⟩:=rA (xs:=P) (k:=k) (by have:=L.out;omega);obtain ⟨ba,oa,rfl,_,hcx⟩:=cE (PD (hO.keeps kB OX.out ZX.out)) hx;have HS:=Lib.hid (MX hx);have hxs:=HM.out x (List.mem_of_getElem? hx);have hcall:=xG wr x (by omega);obtain ⟨N,hN⟩:∃N,N=zH x:=⟨_,rfl⟩;obtain ⟨b,hbb⟩:∃b,b=(pI x).2:=⟨_,rfl⟩;rw [← hbb,show (pI x).1=N from hN.symm] at hcall;rw [← hN] at HS;have HNL:=Lib.hid (RZ P k);have HLL:=Lib.hid (show n≤s.size+2 by rw [L.out];exact HL.out);have i1:(0:Int)≤(k:Int):=by omega
   have i2:(k:Int)<(n:Int):=by omega
   clear hx hxs hN hbb;go_wp2_with fail;refine hcall.mono ?_;rintro e w4 ⟨rfl,hb4⟩;have hbb:=hb.then hb4;have hv4:=(aA (B:=w.heap.size)).bw hb4 hb.size hv;have hA:=(Bw.refl w4).alloc (.cells #[.int .i64 N] 3);have hvW:=(aA (B:=w.heap.size)).bw hA hbb.size hv4;have hFm:=(aA (B:=0)).lt hv4;have hbW:=hbb.then hA;have hcl:=cell_one_new w4 (.int .i64 N) 3;have hOW:=Lib.hid (hO.then ((hb4.then hA).only []) (by simp));have hbs:=hbb.size;clear hv hv4 hcall hO;go_wp2_with (at_builtin;refine mC _ rfl (.tmp 21) (.tmp 23) 26 rfl w 3 i0 _ 1 8 Tryz.underlying26 hi hz0 hz1 hz2 rfl (by omega) nB _ (pK P k) F rfl hvW hF ⟨w4.heap.size,0,none⟩ 1 rfl N [.int .i64 N] [] hcl ⟨rfl,rfl⟩ rfl w4.heap.size hFm pA.nil hbs (by have:=HNL.out;have:=HLL.out;omega) (by have:=HNL.out;have:=HLL.out;omega) hbW ?_;intro v' w' F' hv' hF' hb' hO' hs');have hOn:=SB.push hOW.out hO' HF.out;have HF':=Lib.hid (show ∀z∈F',z=w.heap.size∨w2.heap.size≤z from fun z hz=>(hs' z hz).elim (fun h=>HF.out z h) (fun h=>h.elim (fun h=>by simp at h) (fun h=>.inr (Nat.le_trans hOW.out.1 h))))
   go_roundg (n-(k+1))
   case measure=>omega
   case rel=>exact ⟨k+1,F',by omega,rfl,by go_num,by rw [HS.out];exact hv',hF',hb',hOn,HF'⟩
  ·obtain rfl:k=n:=by omega
   rw [SZ (by rw [← L.out];exact Nat.le_refl _)] at hv;go_wp2;go_ret;exact ⟨_,rfl,⟨F,by rw [HY.out];exact hv,hF⟩,hb⟩
end Go.Proofs.YtpihighajaeabaaGreat
namespace Go.Proofs.YtpihighajaeabaaGreat
open Go.RowKit
set_option linter.unusedVariables false
set_option linter.unusedSimpArgs false
theorem KA (p o:Nat) (w:World) (u:Value):SB [p] w (w.setCell ⟨p,o,none⟩ u):=⟨by simp,fun b _ hn=>Below.heap_setCell _ _ _ _ (by simpa using hn)⟩
theorem SB.bwNext {F:List Nat} {a b c:World} (h:SB F a b) (k:Bw b c):SB F a c:=h.then (k.only F) (fun _ h=>h)
theorem SB.two {p:Nat} {a b c:World} (h:SB [p] a b) (k:SB [p] b c):SB [p] a c:=h.then k (fun _ h=>h)
theorem SB.frozen {F:List Nat} {w w':World} (h:SB F w w') {b:Nat} (hb:b<w.heap.size) (hd:b∉F) (o:Nat):w'.frozen? ⟨b,o,none⟩=w.frozen? ⟨b,o,none⟩:=World.frozen?_of_block (h.2 _ hb hd)
theorem pA.raise {a B m:Nat} {F f F':List Nat} (h:pA a F') (h5:∀b∈F',b∈F∨b∈f∨m≤b) (hF:∀b∈F,B≤b) (hf:∀b∈f,B≤b) (hm:B≤m):pA B F':=
 ⟨h.nodup,fun b hb=>(h5 b hb).elim (hF b) (fun h=>h.elim (hf b) (fun h=>Nat.le_trans hm h))⟩
structure sM (W:World) (b:Nat) (x y:Value):Prop where
 c0:W.cell? ⟨b,0,none⟩=some x
 c1:W.cell? ⟨b,1,none⟩=some y
 fr:∀o,W.frozen? ⟨b,o,none⟩=false
theorem sM.lt {W:World} {b:Nat} {x y:Value} (h:sM W b x y):b<W.heap.size:=World.block_lt_of_cell? _ _ h.c0
theorem sM.only {F:List Nat} {w w':World} {b:Nat} {x y:Value} (h:sM w b x y) (hO:SB F w w') (hd:b∉F):sM w' b x y:=⟨hO.cell h.c0 hd,hO.cell h.c1 hd,fun o=>(hO.frozen h.lt hd o).trans (h.fr o)⟩
theorem sM.bw {w w':World} {b:Nat} {x y:Value} (h:sM w b x y) (hb:Bw w w'):sM w' b x y:=⟨hb.cell h.c0,hb.cell h.c1,fun o=>(kC hb b o h.lt).trans (h.fr o)⟩
theorem sM.new (w:World) (x y:Value) (t:TypeId):sM (w.alloc (.cells #[x,y] t)) w.heap.size x y:=⟨by go_simp,by go_simp,fun o=>by go_simp⟩
theorem xA {W W':World} (hb:Bw W W') {α:Type} {R:Fp α} (hR:VB 0 R) {x:α} {cs:List Value} {F:List Nat} (hx:R W x cs F):R W' x cs F:=hR.bw hb (Nat.zero_le _) hx
theorem QA {W:World} {b o:Nat} {u:Value} {α:Type} {R:Fp α} (hR:VB 0 R) {x:α} {cs:List Value} {F:List Nat} (hx:R W x cs F) (hF:b∉F):R (W.setCell ⟨b,o,none⟩ u) x cs F:=
 (KA b o W u).keeps hR hx fun c hc e=>by simp at e;exact hF (e▸hc)
structure Box (W:World) (b:Nat) (vs:List Value):Prop where
 lt:b<W.heap.size
 c:∀j v,vs[j]? = some v→W.cell? ⟨b,j,none⟩=some v
 fr:∀o,W.frozen? ⟨b,o,none⟩=false
theorem Box.only {F:List Nat} {w w':World} {b:Nat} {vs:List Value} (h:Box w b vs) (hO:SB F w w') (hd:b∉F):Box w' b vs:=⟨Nat.lt_of_lt_of_le h.lt hO.1,fun j v hv=>hO.cell (h.c j v hv) hd,fun o=>(hO.frozen h.lt hd o).trans (h.fr o)⟩
theorem Box.bw {w w':World} {b:Nat} {vs:List Value} (h:Box w b vs) (hb:Bw w w'):Box w' b vs:=h.only (hb.only []) (by simp)
theorem Box.new (w:World) (cs:Array Value) (t:TypeId):Box (w.alloc (.cells cs t)) w.heap.size cs.toList:=⟨by simp,fun j v hv=>by
 have:=World.news_of_block (cs:=cs) (t:=t) (fr:=(0,0)) (heap_alloc_new w (.cells cs t)) j v hv;have hadd:(⟨w.heap.size,0,none⟩:Addr).add j=⟨w.heap.size,j,none⟩:=by unfold Addr.add;split<;>simp_all
 rwa [hadd] at this,fun o=>by go_simp⟩
theorem AT {W:World} {b o:Nat} {x u:Value} (h:W.cell? ⟨b,o,none⟩=some x):(W.setCell ⟨b,o,none⟩ u).cell? ⟨b,o,none⟩=some u:=by go_simp
theorem QR {W:World} {b o k:Nat} {x u:Value} (h:W.cell? ⟨b,k,none⟩=some x) (hk:k≠o):(W.setCell ⟨b,o,none⟩ u).cell? ⟨b,k,none⟩=some x:=by go_simp
theorem Box.set {W:World} {b j:Nat} {vs:List Value} (h:Box W b vs) (hj:j<vs.length) (u:Value):Box (W.setCell ⟨b,j,none⟩ u) b (vs.set j u):=by
 refine ⟨by have:=h.lt;simpa using this,fun k v hv=>?_,fun o=>?_⟩
 ·rw [List.getElem?_set] at hv;by_cases hk:j=k
  ·rw [if_pos hk,if_pos (by omega)] at hv;injection hv with hv;subst hv hk;exact AT (h.c j _ (List.getElem?_eq_getElem hj))
  ·rw [if_neg hk] at hv;exact QR (h.c k v hv) (fun e=>hk e.symm)
 ·have h0:=h.fr o;go_simp
def hAf (W:World) (b:Nat) (a0 a1 a2 a3:Value):World:=(((W.setCell ⟨b,0,none⟩ a0).setCell ⟨b,1,none⟩ a1).setCell ⟨b,2,none⟩ a2).setCell ⟨b,3,none⟩ a3
theorem SI {W:World} {b:Nat} {a0 a1 a2 a3:Value} {α:Type} {R:Fp α} (hR:VB 0 R) {x:α} {cs:List Value} {F:List Nat} (hx:R W x cs F) (hF:b∉F):R (hAf W b a0 a1 a2 a3) x cs F:=QA hR (QA hR (QA hR (QA hR hx hF) hF) hF) hF
theorem Bw.set4 {w W:World} {b:Nat} {a0 a1 a2 a3:Value} (h:Bw w W) (hb:w.heap.size≤b):Bw w (hAf W b a0 a1 a2 a3):=(((h.set (p:=⟨b,0,none⟩) hb _).set (p:=⟨b,1,none⟩) hb _).set (p:=⟨b,2,none⟩) hb _).set (p:=⟨b,3,none⟩) hb _
end Go.Proofs.YtpihighajaeabaaGreat
namespace Go.Proofs.YtpihighajaeabaaGreat
open Go.RowKit
set_option linter.unusedVariables false
set_option linter.unusedSimpArgs false
end Go.Proofs.YtpihighajaeabaaGreat
