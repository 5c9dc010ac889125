/- Items are read, in the program. -/
import Derived.Test.YtpihighajaeabaaGreatXParseT
import Derived.Test.YtpihighajaeabaaGreatXLines
import Derived.Test.YtpihighajaeabaaGreatXExpl
import Derived.Test.YtpihighajaeabaaGreatXOnly
import Derived.Test.YtpihighajaeabaaGreatXDelW
import Derived.Test.YtpihighajaeabaaGreatXCodes
namespace Go.Proofs.YtpihighajaeabaaGreat
open Go.RowKit Go.Proofs.Tryz
set_option linter.all false
set_option maxRecDepth 100000
set_option maxHeartbeats 16000000
theorem TH {s:ByteArray} {k:Nat} {c:UInt8} (h:(bl s)[k]? = some c) (W:World):(Instr.index 9 (.string s) (.int .i64 (k:Int))).run prog W=.ok (.int .u8 (c.toNat:Int)) W:=by
 have hk:k<s.size:=by rw [<-RB];exact (List.getElem?_eq_some_iff.1 h).1
 have hc:s[k]=c:=by
  rw [fAt s k hk] at h;exact Option.some.inj h
 rw [run_index_string W 9 s .i64 k underlying9,dif_pos ⟨by omega,by omega⟩];subst hc;rfl
theorem fAv {s:ByteArray} {a b:Nat} (hab:a<=b) (hb:b<=s.size) (W:World):(Instr.slice 9 (.string s) (some (.int .i64 (a:Int))) (some (.int .i64 (b:Int))) none).run prog W=.ok (.string (s.extract a b)) W:=by
 rw [run_slice_string_if W 9 s .i64 .i64 a b underlying9,if_pos ⟨by omega,by omega⟩,if_pos ⟨by omega,by omega⟩];rfl
theorem fL {s:ByteArray} {a:Nat} (ha:a<=s.size) (W:World):(Instr.slice 9 (.string s) (some (.int .i64 (a:Int))) none none).run prog W=.ok (.string (s.extract a s.size)) W:=by
 rw [run_slice_string_from_if W 9 s .i64 a underlying9,if_pos ⟨by omega,by omega⟩];rfl
theorem lA8 (c:UInt8):0<=(c.toNat:Int)/\(c.toNat:Int)<=255:=by have:=c.toNat_lt;omega
theorem Ret.pair {w w':World} {v v' u u':Value} (h:v=v') (k:u=u') (hb:Bw w w'):Ret w (.tuple #[v',u']) (.returned (.tuple #[v,u])) w':=⟨by rw [h,k],hb⟩
theorem lZ:∀ {l:List UInt8} {n:Int},(∀c∈l,UC c=true)->0<=n->0<=dvi n l/\dvi n l<(n+1)*10 ^ l.length
 | [],n,_,hn=>by simp [dvi];omega
 | c::l,n,hc,hn=>by
  have h1:=hc c (by simp);unfold UC at h1;rw [decide_eq_true_eq] at h1;have h2:=lZ (l:=l) (n:=n*10+((c.toNat:Int)-48)) (fun c hc2=>hc c (by simp [hc2])) (by omega);refine ⟨h2.1,Int.lt_of_lt_of_le h2.2 ?_⟩;rw [List.length_cons,Int.pow_succ,Int.mul_comm (10 ^ l.length) 10,<-Int.mul_assoc];exact Int.mul_le_mul_of_nonneg_right (by omega) (Int.pow_nonneg (by omega))
theorem cW {l:List UInt8} {k:Nat} (h:∀c∈l,UC c=true) (hl:l.length<=k):0<=dvi 0 l/\dvi 0 l<10 ^ k:=by
 have h1:=lZ (n:=0) h (by omega);have hp:(10:Int) ^ l.length<=10 ^ k:=by
  have:=Nat.pow_le_pow_right (n:=10) (by omega) hl
  exact_mod_cast this
 omega
theorem vN {s:ByteArray} {k a:Nat} {c:UInt8} (h:(bl s)[k]? = some c) (ha:a<=k):((bl s).take (k+1)).drop a=((bl s).take k).drop a++[c]:=by
 have hk:k<(bl s).length:=(List.getElem?_eq_some_iff.1 h).1;rw [List.take_add_one,h,List.drop_append,List.length_take];have:a-min k (bl s).length=0:=by omega
 rw [this];rfl
def aAk (s:ByteArray) (a:Nat):Prop:=(a=0\/(a=1/\(bl s)[0]? = some 45))/\(a=0->(bl s)[0]?≠some 45)
theorem lA9 {s:ByteArray} {a:Nat} (hA:aAk s a) (h1:a+1<=s.size) (h2:s.size<=a+9) (hd:∀c∈(bl s).drop a,UC c=true) :
  pI s=if QA (if a=1 then -(dvi 0 ((bl s).drop a)) else dvi 0 ((bl s).drop a))=s then (if a=1 then -(dvi 0 ((bl s).drop a)) else dvi 0 ((bl s).drop a),true) else (0,false):=by
 obtain ⟨ha,h0⟩:=hA;have hl:=RB s;have bc:(bl s).drop a≠[]:=fun e=>by
  have:=congrArg List.length e;rw [List.length_drop] at this;simp at this;omega
 have bb:((bl s).drop a).length<=9:=by rw [List.length_drop];omega
 rcases ha with rfl | ⟨rfl,bd⟩
 ·have hs:sL s ((bl s).drop 0):=⟨bc,bb,hd,.inr (by simp)⟩;have hn:¬bl s=45::(bl s).drop 0:=fun e=>by
   have:=congrArg List.length e;simp at this
  rw [TS hs,if_neg hn];rfl
 ·have e:bl s=45::(bl s).drop 1:=by
   have:=nC bd
   simpa using this
  have hs:sL s ((bl s).drop 1):=⟨bc,bb,hd,.inl e⟩;rw [TS hs,if_pos e];rfl
theorem dW {s:ByteArray} {a:Nat} (hA:aAk s a) (h:s.size<=a\/a+9<s.size\/∃c∈(bl s).drop a,UC c=false):pI s=(0,false):=by
 obtain ⟨ha,h0⟩:=hA;refine oAm (fun ds hd=>?_);have hl:=RB s;obtain ⟨d1,d2,d3,d4⟩:=hd;have hp:0<ds.length:=List.length_pos_iff.2 d1;have e:(bl s).drop a=ds:=by
  rcases ha with rfl | ⟨rfl,bb⟩
  ·rcases d4 with e | e
   ·exact absurd (by rw [e];rfl) (h0 rfl)
   ·rw [e];rfl
  ·rcases d4 with e | e
   ·rw [e];rfl
   ·rw [e] at bb
    cases ds with
    | nil=>simp at bb
    | cons c l=>
     simp at bb;exact absurd bb (cAs (d3 c (by simp)))
 rcases h with h | h | ⟨c,hc,bc⟩
 ·have:=congrArg List.length e;rw [List.length_drop] at this;omega
 ·have:=congrArg List.length e;rw [List.length_drop] at this;omega
 ·rw [e] at hc;rw [d3 c hc] at bc;cases bc
theorem dA4 {s:ByteArray} {k a:Nat} {c:UInt8} (h:(bl s)[k]? = some c) (ha:a<=k):c∈(bl s).drop a:=by
 obtain ⟨hk,e⟩:=List.getElem?_eq_some_iff.1 h;refine List.mem_iff_getElem?.2 ⟨k-a,?_⟩;rw [List.getElem?_drop,show a+(k-a)=k by omega];exact h
theorem JD {x y:ByteArray} (h:x=y):(x.toList==y.toList)=true:=by rw [h];simp
theorem WC {x y:ByteArray} (h:¬x=y):(x.toList==y.toList)=false:=by
 rw [<-Bool.not_eq_true];intro e;rw [beq_iff_eq,qO,qO] at e;exact h (EH e)
theorem fH {n:Int} (h : -1000000000<=n/\n<=100000000000):(Lit.int .i64 n).wf=true:=by
 simp [Lit.wf,IntKind.min,IntKind.max,IntKind.signed,IntKind.bits];omega
theorem gH {l:List UInt8} {a:Nat}:(l.take a).drop a=[]:=by
 apply List.drop_eq_nil_of_le;rw [List.length_take];omega
theorem WH (w:World) (s:ByteArray) (hs:s.size<=1048576):Calls prog 248 #[.string s] w (Ret w (.tuple #[.int .i64 (pI s).1,.bool (pI s).2])):=by
 obtain ⟨Y,hY⟩:=pA7 (pI s);have HY:=pA6 hY;rw [<-hY];clear hY;by_cases h0:s.size=0
 ·have HE:=pA6 (dW (s:=s) (a:=0) ⟨.inl rfl,fun _=>by rw [DK.2 h0];simp⟩ (.inl (by omega)));have ew:inB 0 1 9=false:=by decide
  have ez:(s.size:Int)=0:=by omega
  go_enter func248,ntmps248;go_wp2_with fail;refine (rD _ _ _ _).mono ?_;rintro e w2 ⟨rfl,bc⟩;rw [ew];clear ew;go_wp2;refine bodyPost_ret (v:=.tuple #[.int .i64 0,.bool false]) (by simp [results,results248,go_sem]) rfl (Ret.pair (by rw [HY.out,HE.out]) (by rw [HY.out,HE.out]) bc)
 ·obtain ⟨c0,bn⟩:=tA (xs:=bl s) (k:=0) (by rw [RB];omega);have bb:=TH bn;rw [show ((0:Nat):Int)=0 from rfl] at bb;have hs1:(s.size:Int) > 0:=by omega
  by_cases h45:c0=45
  ·have HP:=pA6 (show aAk s 1 from ⟨.inr ⟨rfl,by rw [bn,h45]⟩,fun h=>by omega⟩);rw [h45] at bb;have e0:(((45:UInt8).toNat:Int))=45:=rfl;rw [e0] at bb;clear bn h45 e0;go_enter func248,ntmps248;by_cases hlen:1+1<=s.size/\s.size<=1+9
   ·obtain ⟨bv,bx⟩:=hlen;have ew:inB ((s.size:Int)-1) 1 9=true:=pD.2 (by omega);go_wp2_with fail;refine (rD _ _ _ _).mono ?_;rintro e w2 ⟨rfl,bc⟩;rw [ew];clear ew;go_wp2
    go_loopw [5,6] (fun n i w'=>∃(k:Nat) (V:Int),1<=k/\k<=s.size/\i=.int .i64 k/\n=.int .i64 V/\0<=V/\V<=999999999/\Hid (V=dvi 0 (((bl s).take k).drop 1))/\Hid (∀c∈((bl s).take k).drop 1,UC c=true)/\Bw w w') (fun n i _=>s.size-(intOf i).toNat)
    case atStart=>exact ⟨1,0,by omega,by omega,by go_num,rfl,by omega,by omega,pA6 (by rw [gH];rfl),pA6 (by rw [gH];simp),bc⟩
    case round=>
     obtain ⟨k,V,bp,hk,rfl,rfl,v1,v2,HV,HD,hb⟩:=hrel;by_cases hlt:k<s.size
     ·obtain ⟨c,hc⟩:=tA (xs:=bl s) (k:=k) (by rw [RB];exact hlt);have bd:=TH hc;have bf:=vN (a:=1) hc bp;have HC:=pA6 (dA4 (a:=1) hc bp);have bk:=pA6 (show V*10+((c.toNat:Int)-48)=dvi 0 (((bl s).take (k+1)).drop 1) by rw [bf,UV,<-HV.out]);obtain ⟨x,hx⟩:=pA7 ((c.toNat:Int):Int);have bg:0<=x/\x<=255:=by rw [hx];exact lA8 c
      have bj:=pA6 (show UC c=decide (48<=x/\x<=57) by unfold UC;rw [decide_eq_decide,hx];omega);rw [<-hx] at bd bk;have bt:=pA6 (show V<=99999999 by
       have hl:=RB s;have:=(cW (k:=8) HD.out (by rw [List.length_drop,List.length_take];omega)).2;rw [<-HV.out] at this;have e8:(10:Int) ^ 8=100000000:=by decide
       omega)
      have bs:=pA6 bf;have cc:=bg.1;have cd:=bg.2;have cb:=bt.out;clear hc bf hx bg;by_cases hdig:48<=x/\x<=57
      ·have h1:=hdig.1;have h2:=hdig.2;have bq:=pA6 (show ∀d∈((bl s).take (k+1)).drop 1,UC d=true from fun d hd=>by
        rw [bs.out,List.mem_append,List.mem_singleton] at hd;rcases hd with hd | rfl
        ·exact HD.out d hd
        ·rw [bj.out];exact decide_eq_true ⟨h1,h2⟩)
       clear hdig;go_wp2
       go_roundw
       case rel=>exact ⟨k+1,V*10+(x-48),by omega,by omega,by go_num,by go_num,by omega,by omega,bk,bq,hb⟩
       case measure=>simp [intOf];omega
      ·have HN:=pA6 (show UC c=false by rw [bj.out];exact decide_eq_false hdig);have HE:=pA6 (dW HP.out (.inr (.inr ⟨c,HC.out,HN.out⟩)));by_cases h1:x<48;rotate_left
       focus
        have h2:57<x:=by omega
        clear hdig
       rotate_right
       all_goals
        go_wp2;refine bodyPost_ret (v:=.tuple #[.int .i64 0,.bool false]) (by simp [results,results248,go_sem]) rfl (Ret.pair (by rw [HY.out,HE.out]) (by rw [HY.out,HE.out]) hb)
     ·obtain rfl:k=s.size:=by omega
      have ht:(bl s).take s.size=bl s:=List.take_of_length_le (by rw [RB];omega);have HE:=pA6 (lA9 HP.out bv bx (by have:=HD.out;rw [ht] at this;exact this));rw [ht] at HV;rw [<-HV.out] at HE;have wf:=fH (n:=-V) (by omega);go_wp2_with fail;refine (dD _ _ wf).mono ?_;rintro e w3 ⟨rfl,bm⟩;obtain ⟨F,hF⟩:=pA7 (QA (-V));rw [<-hF];have HF:=pA6 hF;clear hF wf;by_cases hq:F=s
      ·have HQ:=pA6 (show pI s=(-V,true) by rw [HE.out];exact if_pos (by rw [<-hq,HF.out];rfl));have e1:=JD hq;have e2:(F.toList != s.toList)=false:=by rw [bne,e1];rfl
       clear hq HE;go_wp2;refine bodyPost_ret (v:=.tuple #[.int .i64 (-V),.bool true]) (by simp [results,results248,go_sem]) rfl (Ret.pair (by rw [HY.out,HQ.out]) (by rw [HY.out,HQ.out]) (hb.then bm))
      ·have HQ:=pA6 (show pI s=(0,false) by rw [HE.out];exact if_neg (fun e=>hq (by rw [HF.out];exact e)));have e1:=WC hq;have e2:(F.toList != s.toList)=true:=by rw [bne,e1];rfl
       clear hq HE;go_wp2;refine bodyPost_ret (v:=.tuple #[.int .i64 0,.bool false]) (by simp [results,results248,go_sem]) rfl (Ret.pair (by rw [HY.out,HQ.out]) (by rw [HY.out,HQ.out]) (hb.then bm))
   ·have HE:=pA6 (dW HP.out (by omega));have ew:inB ((s.size:Int)-1) 1 9=false:=by
     cases h:inB ((s.size:Int)-1) 1 9 with
     | false=>rfl
     | true=>have:=pD.1 h;omega
    go_wp2_with fail;refine (rD _ _ _ _).mono ?_;rintro e w2 ⟨rfl,bc⟩;rw [ew];clear ew hlen;go_wp2;refine bodyPost_ret (v:=.tuple #[.int .i64 0,.bool false]) (by simp [results,results248,go_sem]) rfl (Ret.pair (by rw [HY.out,HE.out]) (by rw [HY.out,HE.out]) bc)
  ·have HP:=pA6 (show aAk s 0 from ⟨.inl rfl,fun _=>by rw [bn];simpa using h45⟩);obtain ⟨x0,bz⟩:=pA7 ((c0.toNat:Int):Int);have e45:(x0==45)=false:=by
    rw [bz];have:c0.toNat≠45:=fun e=>h45 (UInt8.toNat_inj.1 (by rw [e];rfl))
    simp;omega
   rw [<-bz] at bb;clear bn h45 bz;go_enter func248,ntmps248;by_cases hlen:0+1<=s.size/\s.size<=0+9
   ·obtain ⟨bv,bx⟩:=hlen;have ew:inB ((s.size:Int)) 1 9=true:=pD.2 (by omega);go_wp2_with fail;refine (rD _ _ _ _).mono ?_;rintro e w2 ⟨rfl,bc⟩;rw [ew];clear ew;go_wp2
    go_loopw [5,6] (fun n i w'=>∃(k:Nat) (V:Int),0<=k/\k<=s.size/\i=.int .i64 k/\n=.int .i64 V/\0<=V/\V<=999999999/\Hid (V=dvi 0 (((bl s).take k).drop 0))/\Hid (∀c∈((bl s).take k).drop 0,UC c=true)/\Bw w w') (fun n i _=>s.size-(intOf i).toNat)
    case atStart=>exact ⟨0,0,by omega,by omega,by go_num,rfl,by omega,by omega,pA6 (by rw [gH];rfl),pA6 (by rw [gH];simp),bc⟩
    case round=>
     obtain ⟨k,V,bp,hk,rfl,rfl,v1,v2,HV,HD,hb⟩:=hrel;by_cases hlt:k<s.size
     ·obtain ⟨c,hc⟩:=tA (xs:=bl s) (k:=k) (by rw [RB];exact hlt);have bd:=TH hc;have bf:=vN (a:=0) hc bp;have HC:=pA6 (dA4 (a:=0) hc bp);have bk:=pA6 (show V*10+((c.toNat:Int)-48)=dvi 0 (((bl s).take (k+1)).drop 0) by rw [bf,UV,<-HV.out]);obtain ⟨x,hx⟩:=pA7 ((c.toNat:Int):Int);have bg:0<=x/\x<=255:=by rw [hx];exact lA8 c
      have bj:=pA6 (show UC c=decide (48<=x/\x<=57) by unfold UC;rw [decide_eq_decide,hx];omega);rw [<-hx] at bd bk;have bt:=pA6 (show V<=99999999 by
       have hl:=RB s;have:=(cW (k:=8) HD.out (by rw [List.length_drop,List.length_take];omega)).2;rw [<-HV.out] at this;have e8:(10:Int) ^ 8=100000000:=by decide
       omega)
      have bs:=pA6 bf;have cc:=bg.1;have cd:=bg.2;have cb:=bt.out;clear hc bf hx bg;by_cases hdig:48<=x/\x<=57
      ·have h1:=hdig.1;have h2:=hdig.2;have bq:=pA6 (show ∀d∈((bl s).take (k+1)).drop 0,UC d=true from fun d hd=>by
        rw [bs.out,List.mem_append,List.mem_singleton] at hd;rcases hd with hd | rfl
        ·exact HD.out d hd
        ·rw [bj.out];exact decide_eq_true ⟨h1,h2⟩)
       clear hdig;go_wp2
       go_roundw
       case rel=>exact ⟨k+1,V*10+(x-48),by omega,by omega,by go_num,by go_num,by omega,by omega,bk,bq,hb⟩
       case measure=>simp [intOf];omega
      ·have HN:=pA6 (show UC c=false by rw [bj.out];exact decide_eq_false hdig);have HE:=pA6 (dW HP.out (.inr (.inr ⟨c,HC.out,HN.out⟩)));by_cases h1:x<48;rotate_left
       focus
        have h2:57<x:=by omega
        clear hdig
       rotate_right
       all_goals
        go_wp2;refine bodyPost_ret (v:=.tuple #[.int .i64 0,.bool false]) (by simp [results,results248,go_sem]) rfl (Ret.pair (by rw [HY.out,HE.out]) (by rw [HY.out,HE.out]) hb)
     ·obtain rfl:k=s.size:=by omega
      have ht:(bl s).take s.size=bl s:=List.take_of_length_le (by rw [RB];omega);have HE:=pA6 (lA9 HP.out bv bx (by have:=HD.out;rw [ht] at this;exact this));rw [ht] at HV;rw [<-HV.out] at HE;have wf:=fH (n:=V) (by omega);go_wp2_with fail;refine (dD _ _ wf).mono ?_;rintro e w3 ⟨rfl,bm⟩;obtain ⟨F,hF⟩:=pA7 (QA (V));rw [<-hF];have HF:=pA6 hF;clear hF wf;by_cases hq:F=s
      ·have HQ:=pA6 (show pI s=(V,true) by rw [HE.out];exact if_pos (by rw [<-hq,HF.out];rfl));have e1:=JD hq;have e2:(F.toList != s.toList)=false:=by rw [bne,e1];rfl
       clear hq HE;go_wp2;refine bodyPost_ret (v:=.tuple #[.int .i64 (V),.bool true]) (by simp [results,results248,go_sem]) rfl (Ret.pair (by rw [HY.out,HQ.out]) (by rw [HY.out,HQ.out]) (hb.then bm))
      ·have HQ:=pA6 (show pI s=(0,false) by rw [HE.out];exact if_neg (fun e=>hq (by rw [HF.out];exact e)));have e1:=WC hq;have e2:(F.toList != s.toList)=true:=by rw [bne,e1];rfl
       clear hq HE;go_wp2;refine bodyPost_ret (v:=.tuple #[.int .i64 0,.bool false]) (by simp [results,results248,go_sem]) rfl (Ret.pair (by rw [HY.out,HQ.out]) (by rw [HY.out,HQ.out]) (hb.then bm))
   ·have HE:=pA6 (dW HP.out (by omega));have ew:inB ((s.size:Int)) 1 9=false:=by
     cases h:inB ((s.size:Int)) 1 9 with
     | false=>rfl
     | true=>have:=pD.1 h;omega
    go_wp2_with fail;refine (rD _ _ _ _).mono ?_;rintro e w2 ⟨rfl,bc⟩;rw [ew];clear ew hlen;go_wp2;refine bodyPost_ret (v:=.tuple #[.int .i64 0,.bool false]) (by simp [results,results248,go_sem]) rfl (Ret.pair (by rw [HY.out,HE.out]) (by rw [HY.out,HE.out]) bc)
theorem dA5 {s:ByteArray} {k:Nat} {c:UInt8} (h:(bl s)[k]? = some c):((bl s).take (k+1)).filter UC=((bl s).take k).filter UC++(if UC c then [c] else []):=by
 rw [List.take_add_one,h,List.filter_append]
 cases hd:UC c with
 | true=>simp [hd]
 | false=>simp [hd]
theorem YP (l:List UInt8):∀c∈l.filter UC,UC c=true:=fun c hc=>(List.mem_filter.1 hc).2
theorem VU {s:ByteArray} (h:9<(dg s).length\/10<s.size):pI s=(0,false):=by
 unfold pI okI;rcases h with h | h
 ·rw [decide_eq_false (by omega),Bool.false_and,if_neg (by simp)]
 ·rw [decide_eq_false (p:=s.size<=10) (by omega),Bool.false_and,Bool.and_false,if_neg (by simp)]
theorem fAw {s:ByteArray} (h1:(dg s).length<=9) (h2:s.size<=10):pI s=if QA (RO s)=s then (RO s,true) else (0,false):=by
 unfold pI okI;rw [decide_eq_true h1,decide_eq_true h2,Bool.true_and,Bool.true_and];by_cases hf:QA (RO s)=s
 ·rw [decide_eq_true hf,if_pos rfl,if_pos hf]
 ·rw [decide_eq_false hf,if_neg (by simp),if_neg hf]
theorem lM (w:World) (s:ByteArray) (hs:s.size<=1048576):Calls prog 254 #[.string s] w (Ret w (.tuple #[.int .i64 (pI s).1,.bool (pI s).2])):=by
 obtain ⟨Y,hY⟩:=pA7 (pI s);have HY:=pA6 hY;rw [<-hY];clear hY;go_enter func254,ntmps254;go_wp2
 go_loopw [4,5,6] (fun n t i w'=>∃(k N:Nat) (V:Int),k<=s.size/\k<=11/\N<=k/\i=.int .i64 k/\t=.int .i64 N/\n=.int .i64 V/\0<=V/\V<=100000000000/\Hid (V=dvi 0 (((bl s).take k).filter UC))/\Hid (N=(((bl s).take k).filter UC).length)/\Bw w w') (fun n t i _=>11-(intOf i).toNat)
 case atStart=>exact ⟨0,0,0,by omega,by omega,by omega,rfl,rfl,rfl,by omega,by omega,pA6 rfl,pA6 rfl,Bw.refl _⟩
 case round=>
  obtain ⟨k,N,V,hk0,hk,hNk,rfl,rfl,rfl,v1,v2,HV,HN,hb⟩:=hrel;by_cases hlt:k<s.size/\k<11
  ·obtain ⟨bm,hlt2⟩:=hlt;obtain ⟨c,hc⟩:=tA (xs:=bl s) (k:=k) (by rw [RB];exact bm);have bk:=TH hc;have bs:=dA5 hc;obtain ⟨x,hx⟩:=pA7 ((c.toNat:Int):Int);have bp:0<=x/\x<=255:=by rw [hx];exact lA8 c
   have bf:=pA6 (show UC c=decide (48<=x/\x<=57) by unfold UC;rw [decide_eq_decide,hx];omega);rw [<-hx] at bk;have bv:=pA6 (show V<=9999999999 by
    have:=(cW (k:=10) (YP ((bl s).take k)) (by rw [<-HN.out];omega)).2;rw [<-HV.out] at this;have e8:(10:Int) ^ 10=10000000000:=by decide
    omega)
   have bq:=pA6 bs;have HX:=pA6 hx;have hx1:=bp.1;have hx2:=bp.2;have hv8:=bv.out;clear hc bs hx bp;by_cases hdig:48<=x/\x<=57
   ·have h1:=hdig.1;have h2:=hdig.2;have HT:=pA6 (show ((bl s).take (k+1)).filter UC=((bl s).take k).filter UC++[c] by rw [bq.out,bf.out,decide_eq_true hdig];rfl);have bj:=pA6 (show V*10+(x-48)=dvi 0 (((bl s).take (k+1)).filter UC) by rw [HT.out,UV,<-HV.out,HX.out]);have bg:=pA6 (show N+1=(((bl s).take (k+1)).filter UC).length by rw [HT.out,List.length_append,<-HN.out];rfl);clear hdig;go_wp2
    go_roundw
    case rel=>exact ⟨k+1,N+1,V*10+(x-48),by omega,by omega,by omega,by go_num,by go_num,by go_num,by omega,by omega,bj,bg,hb⟩
    case measure=>simp [intOf];omega
   ·have HT:=pA6 (show ((bl s).take (k+1)).filter UC=((bl s).take k).filter UC by rw [bq.out,bf.out,decide_eq_false hdig];simp);have bj:=pA6 (show V=dvi 0 (((bl s).take (k+1)).filter UC) by rw [HT.out,<-HV.out]);have bg:=pA6 (show N=(((bl s).take (k+1)).filter UC).length by rw [HT.out,<-HN.out]);by_cases h1:x<48;rotate_left
    focus
     have h2:57<x:=by omega
    rotate_right
    all_goals
     clear hdig;go_wp2
     go_roundw
     case rel=>exact ⟨k+1,N,V,by omega,by omega,by omega,by go_num,rfl,rfl,by omega,by omega,bj,bg,hb⟩
     case measure=>simp [intOf];omega
  ·have bf:=pA6 (show ((bl s).take k).filter UC=dg s by
    unfold dg;by_cases h11:k=11
    ·rw [h11]
    ·rw [List.take_of_length_le (i:=k) (by rw [RB];omega),List.take_of_length_le (i:=11) (by rw [RB];omega)])
   rw [bf.out] at HN HV;by_cases h0:s.size=0
   ·have HR:=pA6 (show V=RO s by unfold RO;rw [<-HV.out,DK.2 h0];rfl);have ez:¬((s.size:Int) > 0):=by omega
    have bt:=pA6 (show N=0 by rw [HN.out];unfold dg;rw [DK.2 h0];rfl);obtain rfl:=bt.out;have HE:=pA6 (fAw (s:=s) (by rw [<-HN.out];omega) (by omega));have wf:=fH (n:=V) (by have h1:=HR.out;unfold RO dg at h1;rw [DK.2 h0] at h1;simp [dvi] at h1;omega);rw [<-HR.out] at HE;go_wp2_with fail;refine (yC _ _ wf).mono ?_;rintro e w3 ⟨rfl,bc⟩;obtain ⟨F,hF⟩:=pA7 (QA V);rw [<-hF];have hq:¬F=s:=fun e=>by
     have h1:=(mB wf).1;rw [<-hF,e] at h1;omega
    have HQ:=pA6 (show pI s=(0,false) by rw [HE.out];exact if_neg (fun e=>hq (by rw [hF];exact e)));have e1:=WC hq;have e2:(F.toList != s.toList)=true:=by rw [bne,e1];rfl
    clear hq HE hF wf;go_wp2;refine bodyPost_ret (v:=.tuple #[.int .i64 0,.bool false]) (by simp [results,results254,go_sem]) rfl (Ret.pair (by rw [HY.out,HQ.out]) (by rw [HY.out,HQ.out]) (hb.then bc))
   ·obtain ⟨c0,bd⟩:=tA (xs:=bl s) (k:=0) (by rw [RB];omega);have bb:=TH bd;rw [show ((0:Nat):Int)=0 from rfl] at bb;have hs1:(s.size:Int) > 0:=by omega
    by_cases h45:c0=45
    ·have HR:=pA6 (show -V=RO s by unfold RO;rw [if_pos (by rw [List.head?_eq_getElem?,bd,h45]),<-HV.out]);rw [h45] at bb;have e0:(((45:UInt8).toNat:Int))=45:=rfl;rw [e0] at bb;clear bd h45 e0;by_cases h9:N<=9
     ·by_cases h10:s.size<=10
      ·have HE:=pA6 (fAw (by rw [<-HN.out];exact h9) h10);have bz:V<=999999999:=by
        have:=(cW (l:=dg s) (k:=9) (YP _) (by rw [<-HN.out];exact h9)).2;rw [<-HV.out] at this;have e9:(10:Int) ^ 9=1000000000:=by decide
        omega
       have wf:=fH (n:=-V) (by omega);rw [<-HR.out] at HE;go_wp2_with fail;refine (yC _ _ wf).mono ?_;rintro e w3 ⟨rfl,bc⟩;obtain ⟨F,hF⟩:=pA7 (QA (-V));rw [<-hF];have HF:=pA6 hF;clear hF wf;by_cases hq:F=s
       ·have HQ:=pA6 (show pI s=(-V,true) by rw [HE.out];exact if_pos (by rw [<-hq,HF.out]));have e1:=JD hq;have e2:(F.toList != s.toList)=false:=by rw [bne,e1];rfl
        clear hq HE;go_wp2;refine bodyPost_ret (v:=.tuple #[.int .i64 (-V),.bool true]) (by simp [results,results254,go_sem]) rfl (Ret.pair (by rw [HY.out,HQ.out]) (by rw [HY.out,HQ.out]) (hb.then bc))
       ·have HQ:=pA6 (show pI s=(0,false) by rw [HE.out];exact if_neg (fun e=>hq (by rw [HF.out];exact e)));have e1:=WC hq;have e2:(F.toList != s.toList)=true:=by rw [bne,e1];rfl
        clear hq HE;go_wp2;refine bodyPost_ret (v:=.tuple #[.int .i64 0,.bool false]) (by simp [results,results254,go_sem]) rfl (Ret.pair (by rw [HY.out,HQ.out]) (by rw [HY.out,HQ.out]) (hb.then bc))
      ·have HQ:=pA6 (VU (s:=s) (.inr (by omega)));have g9:¬((N:Int) > 9):=by omega
       have bx:(s.size:Int) > 10:=by omega
       clear h9 h10;go_wp2
       all_goals exact bodyPost_ret (v:=.tuple #[.int .i64 0,.bool false]) (by simp [results,results254,go_sem]) rfl (Ret.pair (by rw [HY.out,HQ.out]) (by rw [HY.out,HQ.out]) hb)
     ·have HQ:=pA6 (VU (s:=s) (.inl (by rw [<-HN.out];omega)));have g9:(N:Int) > 9:=by omega
      clear h9;go_wp2
      all_goals exact bodyPost_ret (v:=.tuple #[.int .i64 0,.bool false]) (by simp [results,results254,go_sem]) rfl (Ret.pair (by rw [HY.out,HQ.out]) (by rw [HY.out,HQ.out]) hb)
    ·have HR:=pA6 (show V=RO s by unfold RO;rw [if_neg (by rw [List.head?_eq_getElem?,bd];simpa using h45),<-HV.out]);obtain ⟨x0,bn⟩:=pA7 ((c0.toNat:Int):Int);have e45:(x0==45)=false:=by
      rw [bn];have:c0.toNat≠45:=fun e=>h45 (UInt8.toNat_inj.1 (by rw [e];rfl))
      simp;omega
     rw [<-bn] at bb;clear bd h45 bn;by_cases h9:N<=9
     ·by_cases h10:s.size<=10
      ·have HE:=pA6 (fAw (by rw [<-HN.out];exact h9) h10);have bz:V<=999999999:=by
        have:=(cW (l:=dg s) (k:=9) (YP _) (by rw [<-HN.out];exact h9)).2;rw [<-HV.out] at this;have e9:(10:Int) ^ 9=1000000000:=by decide
        omega
       have wf:=fH (n:=V) (by omega);rw [<-HR.out] at HE;go_wp2_with fail;refine (yC _ _ wf).mono ?_;rintro e w3 ⟨rfl,bc⟩;obtain ⟨F,hF⟩:=pA7 (QA (V));rw [<-hF];have HF:=pA6 hF;clear hF wf;by_cases hq:F=s
       ·have HQ:=pA6 (show pI s=(V,true) by rw [HE.out];exact if_pos (by rw [<-hq,HF.out]));have e1:=JD hq;have e2:(F.toList != s.toList)=false:=by rw [bne,e1];rfl
        clear hq HE;go_wp2;refine bodyPost_ret (v:=.tuple #[.int .i64 (V),.bool true]) (by simp [results,results254,go_sem]) rfl (Ret.pair (by rw [HY.out,HQ.out]) (by rw [HY.out,HQ.out]) (hb.then bc))
       ·have HQ:=pA6 (show pI s=(0,false) by rw [HE.out];exact if_neg (fun e=>hq (by rw [HF.out];exact e)));have e1:=WC hq;have e2:(F.toList != s.toList)=true:=by rw [bne,e1];rfl
        clear hq HE;go_wp2;refine bodyPost_ret (v:=.tuple #[.int .i64 0,.bool false]) (by simp [results,results254,go_sem]) rfl (Ret.pair (by rw [HY.out,HQ.out]) (by rw [HY.out,HQ.out]) (hb.then bc))
      ·have HQ:=pA6 (VU (s:=s) (.inr (by omega)));have g9:¬((N:Int) > 9):=by omega
       have bx:(s.size:Int) > 10:=by omega
       clear h9 h10;go_wp2
       all_goals exact bodyPost_ret (v:=.tuple #[.int .i64 0,.bool false]) (by simp [results,results254,go_sem]) rfl (Ret.pair (by rw [HY.out,HQ.out]) (by rw [HY.out,HQ.out]) hb)
     ·have HQ:=pA6 (VU (s:=s) (.inl (by rw [<-HN.out];omega)));have g9:(N:Int) > 9:=by omega
      clear h9;go_wp2
      all_goals exact bodyPost_ret (v:=.tuple #[.int .i64 0,.bool false]) (by simp [results,results254,go_sem]) rfl (Ret.pair (by rw [HY.out,HQ.out]) (by rw [HY.out,HQ.out]) hb)
def qP (s sep:ByteArray) (f a k:Nat):List ByteArray:=(xI (bl sep) f (((bl s).take k).drop a) ((bl s).drop k)).map mkS
theorem jA4 (s sep:ByteArray):rH s sep=qP s sep (s.size+1) 0 0:=rfl
theorem nA8 {s sep:ByteArray} {f a k:Nat} (hk:k+sep.size<=s.size) (h:s.extract k (k+sep.size)=sep):qP s sep (f+1) a k=s.extract a k::qP s sep f (k+sep.size) (k+sep.size):=by
 have hl:=RB s;have hn:=RB sep;unfold qP;have e1:((bl s).drop k).take (bl sep).length=bl sep:=by
  have:=jD s k (k+sep.size);rw [h,List.drop_take] at this;rw [hn,show sep.size=k+sep.size-k by omega];exact this.symm
 have bb:(bl sep).length<=((bl s).drop k).length:=by rw [List.length_drop];omega
 rw [xI,if_pos bb,if_pos e1,List.map_cons,List.drop_drop,hn,<-jD,nJ,gH]
theorem lAa {s sep:ByteArray} {f a k:Nat} (hn:0<sep.size) (ha:a<=k) (hk:k+sep.size<=s.size) (h:¬s.extract k (k+sep.size)=sep):qP s sep (f+1) a k=qP s sep f a (k+1):=by
 have hl:=RB s;have hn:=RB sep;unfold qP;have bc:(bl sep).length<=((bl s).drop k).length:=by rw [List.length_drop];omega
 have e1:¬((bl s).drop k).take (bl sep).length=bl sep:=by
  intro e;apply h;apply EH;rw [jD,List.drop_take,show k+sep.size-k=(bl sep).length by omega];exact e
 rw [xI,if_pos bc,if_neg e1,List.drop_drop];have bb:k<s.size:=by omega
 rw [nA4 s bb,nA5 s bb,List.drop_append,List.length_take];have:a-min k (bl s).length=0:=by omega
 rw [this];rfl
theorem lAb {s sep:ByteArray} {f a k:Nat} (ha:a<=k) (hk:k<=s.size) (h:s.size<k+sep.size):qP s sep f a k=[s.extract a s.size]:=by
 have hl:=RB s;have hn:=RB sep;unfold qP;have e2:((bl s).take k).drop a++(bl s).drop k=bl (s.extract a s.size):=by
  rw [jD,List.take_of_length_le (i:=s.size) (by omega)]
  conv=>rhs;rw [<-List.take_append_drop k (bl s)]
  rw [List.drop_append,List.length_take];have:a-min k (bl s).length=0:=by omega
  rw [this];rfl
 have e1:xI (bl sep) f (((bl s).take k).drop a) ((bl s).drop k)=[((bl s).take k).drop a++(bl s).drop k]:=by
  cases f with
  | zero=>rfl
  | succ f=>rw [xI,if_neg (by rw [List.length_drop];omega)]
 rw [e1,e2,List.map_cons,nJ];rfl
theorem fW (w:World) (s sep:ByteArray) (hs:s.size<=1048576) (hn:0<sep.size) (hn2:sep.size<=1024):Calls prog 147 #[.string s,.string sep] w (WB w (nE RJ w.heap.size (rH s sep))):=by
 obtain ⟨i0,hi,bn,bp,bq⟩:=info_parts wK;have bb:=MA (e:=9) (sz:=1) (R:=RX) w;obtain ⟨Y,hY⟩:=pA7 (rH s sep);have HY:=pA6 (hY.trans (jA4 s sep));rw [<-hY];clear hY;go_enter func147,ntmps147;go_wp2
 go_loopw [5,6,7] (fun t v i w'=>∃(f a k:Nat) (out:List ByteArray) (F:List Nat),a<=k/\k<=s.size/\s.size+1<=f+k/\i=.int .i64 k/\v=.int .i64 a/\RJ w' out [t] F/\sA w.heap.size F/\out.length<=k/\Hid (Y=out++qP s sep f a k)/\Bw w w') (fun t v i _=>s.size-(intOf i).toNat)
 case atStart=>exact ⟨s.size+1,0,0,[],_,by omega,by omega,by omega,rfl,rfl,bb,⟨by simp,by simp⟩,by simp,by exact HY,(Bw.refl _).alloc _⟩
 case round=>
  obtain ⟨f,a,k,out,F,ha,hk,hf,rfl,rfl,hv,hF,hol,HE,hb⟩:=hrel;by_cases hit:k+sep.size<=s.size
  ·have h1:∀W,(Instr.slice 9 (.string s) (some (.int .i64 (k:Int))) (some (.int .i64 ((k:Int)+(sep.size:Int)))) none).run prog W=.ok (.string (s.extract k (k+sep.size))) W:=fun W=>by
    have:=fAv (a:=k) (b:=k+sep.size) (by omega) hit W
    rwa [Int.natCast_add] at this
   have h2:=fAv (s:=s) (a:=a) (b:=k) ha hk;obtain ⟨f',rfl⟩:∃f',f=f'+1:=⟨f-1,by omega⟩;by_cases he:s.extract k (k+sep.size)=sep
   ·have HS:=pA6 (nA8 (f:=f') (a:=a) hit he);obtain ⟨q,hq⟩:=pA7 (s.extract k (k+sep.size));rw [<-hq] at h1;have e1:=JD (hq.trans he);obtain ⟨p,hp⟩:=pA7 (s.extract a k);rw [<-hp] at h2 HS;clear hq he hp bb;have bm:=(iB (B:=w.heap.size)).bw ((Bw.refl wr).alloc (.cells #[.string p] 9)) hb.size hv;have bd:=(iB (B:=0)).lt hv;have bg:=hb.alloc (.cells #[.string p] 9);have bj:=cell_one_new wr (.string p) 9;clear hv;go_wp2_with (at_builtin;refine lB _ rfl (.tmp 25) (.tmp 30) 58 rfl w 9 i0 _ 1 16 underlying58 hi bn bp bq rfl (by omega) JE _ out F rfl bm hF ⟨wr.heap.size,0,none⟩ 1 rfl p [.string p] [] bj ⟨rfl,rfl⟩ rfl wr.heap.size bd sA.nil hb.size (by omega) (by omega) bg ?_;intro v' w' F' bk bc bf)
    go_roundw
    case rel=>exact ⟨f',k+sep.size,k+sep.size,out++[p],F',by omega,by omega,by omega,by go_num,by go_num,bk,bc,by simp;omega,by show _=_;rw [HE.out,HS.out];simp,bf⟩
    case measure=>simp [intOf];omega
   ·have HS:=pA6 (lAa (f:=f') hn ha hit he);obtain ⟨q,hq⟩:=pA7 (s.extract k (k+sep.size));rw [<-hq] at h1 he;have e1:=WC he;clear hq he bb h2;go_wp2
    go_roundw
    case rel=>exact ⟨f',a,k+1,out,F,by omega,by omega,by omega,by go_num,rfl,hv,hF,by omega,by show _=_;rw [HE.out,HS.out],hb⟩
    case measure=>simp [intOf];omega
  ·have HS:=pA6 (lAb (f:=f) (sep:=sep) ha hk (by omega));have h1:=fL (s:=s) (a:=a) (by omega);obtain ⟨p,hp⟩:=pA7 (s.extract a s.size);rw [<-hp] at h1 HS;clear hp bb;have bm:=(iB (B:=w.heap.size)).bw ((Bw.refl wr).alloc (.cells #[.string p] 9)) hb.size hv;have bd:=(iB (B:=0)).lt hv;have bg:=hb.alloc (.cells #[.string p] 9);have bj:=cell_one_new wr (.string p) 9;clear hv;go_wp2_with (at_builtin;refine lB _ rfl (.tmp 39) (.tmp 43) 58 rfl w 9 i0 _ 1 16 underlying58 hi bn bp bq rfl (by omega) JE _ out F rfl bm hF ⟨wr.heap.size,0,none⟩ 1 rfl p [.string p] [] bj ⟨rfl,rfl⟩ rfl wr.heap.size bd sA.nil hb.size (by omega) (by omega) bg ?_;intro v' w' F' bk bc bf);go_ret;exact ⟨_,rfl,⟨F',by rw [HE.out,HS.out];exact bk,bc⟩,bf⟩
theorem lAc {c x:UInt8} {pre l:List UInt8} (h:x=c):TD c pre (x::l)=pre::TD c [] l:=by rw [TD,if_pos h]
theorem jA5 {c x:UInt8} {pre l:List UInt8} (h:¬x=c):TD c pre (x::l)=TD c (pre++[x]) l:=by rw [TD,if_neg h]
theorem XJ (w:World) (s:ByteArray) (c:UInt8) (X:Int) (hX:X=(c.toNat:Int)) (hs:s.size<=1048576):Calls prog 149 #[.string s,.int .u8 X] w (WB w (nE RJ w.heap.size (MD s c))):=by
 obtain ⟨i0,hi,bx,bz,cb⟩:=info_parts wK;have bc:=MA (e:=9) (sz:=1) (R:=RX) w;obtain ⟨Y,hY⟩:=pA7 (MD s c);have HY:=pA6 (show Y=[]++(TD c (bl ⟨#[]⟩) ((bl s).drop 0)).map mkS from hY);rw [<-hY];have bs:=pA6 hX;clear hY hX;go_enter func149,ntmps149;go_wp2
 go_loopw [5,6,7] (fun t v i w'=>∃(k:Nat) (p:ByteArray) (out:List ByteArray) (F:List Nat),k<=s.size/\i=.int .i64 k/\v=.string p/\p.size<=k/\RJ w' out [t] F/\sA w.heap.size F/\out.length<=k/\Hid (Y=out++(TD c (bl p) ((bl s).drop k)).map mkS)/\Bw w w') (fun t v i _=>s.size-(intOf i).toNat)
 case atStart=>exact ⟨0,⟨#[]⟩,[],_,by omega,rfl,rfl,by decide,bc,⟨by simp,by simp⟩,by simp,HY,(Bw.refl _).alloc _⟩
 case round=>
  obtain ⟨k,p,out,F,hk,rfl,rfl,hpk,hv,hF,hol,HE,hb⟩:=hrel;by_cases hlt:k<s.size
  ·obtain ⟨x,hx⟩:=tA (xs:=bl s) (k:=k) (by rw [RB];exact hlt);have bn:=TH hx;have hd:=nC hx;obtain ⟨xi,bb⟩:=pA7 ((x.toNat:Int):Int);rw [<-bb] at bn;by_cases he:x=c
   ·have HS:=pA6 (show TD c (bl p) ((bl s).drop k)=bl p::TD c (bl ⟨#[]⟩) ((bl s).drop (k+1)) by rw [hd];exact lAc he);have e0:xi=X:=by rw [bb,he,bs.out]
    have e1:(xi==X)=true:=by simpa using e0
    clear hx hd bb he bc e0;have bq:=(iB (B:=w.heap.size)).bw ((Bw.refl wr).alloc (.cells #[.string p] 9)) hb.size hv;have bf:=(iB (B:=0)).lt hv;have bk:=hb.alloc (.cells #[.string p] 9);have bm:=cell_one_new wr (.string p) 9;clear hv;go_wp2_with (at_builtin;refine lB _ rfl (.tmp 20) (.tmp 22) 58 rfl w 9 i0 _ 1 16 underlying58 hi bx bz cb rfl (by omega) JE _ out F rfl bq hF ⟨wr.heap.size,0,none⟩ 1 rfl p [.string p] [] bm ⟨rfl,rfl⟩ rfl wr.heap.size bf sA.nil hb.size (by omega) (by omega) bk ?_;intro v' w' F' bp bd bj)
    go_roundw
    case rel=>exact ⟨k+1,⟨#[]⟩,out++[p],F',by omega,by go_num,rfl,by show 0<=_;omega,bp,bd,by simp;omega,by show _=_;rw [HE.out,HS.out,List.map_cons,nJ];simp,bj⟩
    case measure=>simp [intOf];omega
   ·have e1:(xi==X)=false:=by
     rw [bb,bs.out];have:x.toNat≠c.toNat:=fun e=>he (UInt8.toNat_inj.1 e)
     simp;omega
    have bt:s.extract k (k+1)=mkS [x]:=EH (by
     rw [jD,List.drop_take,hd,show k+1-k=1 by omega];rfl)
    have h1:∀W,(Instr.slice 9 (.string s) (some (.int .i64 (k:Int))) (some (.int .i64 ((k:Int)+1))) none).run prog W=.ok (.string (mkS [x])) W:=fun W=>by
     have:=fAv (s:=s) (a:=k) (b:=k+1) (by omega) (by omega) W;rw [Int.natCast_add,bt] at this;exact this
    have bg:∀W,(Op.stringOp .add p (mkS [x])).run prog W=.ok (.string (p++mkS [x])) W:=fun W=>run_string_add_sum W _ _ (by rw [IJ];simp;omega)
    have HS:=pA6 (show TD c (bl p) ((bl s).drop k)=TD c (bl (p++mkS [x])) ((bl s).drop (k+1)) by rw [hd,IB,RS];exact jA5 he);have hq:(p++mkS [x]).size=p.size+1:=by rw [lA,IJ];rfl
    obtain ⟨q,bv⟩:=pA7 (p++mkS [x]);rw [<-bv] at bg HS hq;have HQ:=pA6 hq;clear hx hd bb he bc bt bv hq;go_wp2
    go_roundw
    case rel=>exact ⟨k+1,q,out,F,by omega,by go_num,rfl,by rw [HQ.out];omega,hv,hF,by omega,by show _=_;rw [HE.out,HS.out],hb⟩
    case measure=>simp [intOf];omega
  ·have HS:=pA6 (show (TD c (bl p) ((bl s).drop k)).map mkS=[p] by rw [List.drop_of_length_le (by rw [RB];omega),TD,List.map_cons,nJ];rfl);clear bc;have bq:=(iB (B:=w.heap.size)).bw ((Bw.refl wr).alloc (.cells #[.string p] 9)) hb.size hv;have bf:=(iB (B:=0)).lt hv;have bk:=hb.alloc (.cells #[.string p] 9);have bm:=cell_one_new wr (.string p) 9;clear hv;go_wp2_with (at_builtin;refine lB _ rfl (.tmp 31) (.tmp 33) 58 rfl w 9 i0 _ 1 16 underlying58 hi bx bz cb rfl (by omega) JE _ out F rfl bq hF ⟨wr.heap.size,0,none⟩ 1 rfl p [.string p] [] bm ⟨rfl,rfl⟩ rfl wr.heap.size bf sA.nil hb.size (by omega) (by omega) bk ?_;intro v' w' F' bp bd bj);go_ret;exact ⟨_,rfl,⟨F',by rw [HE.out,HS.out];exact bp,bd⟩,bj⟩
theorem wL (sep:List UInt8):∀(f:Nat) (pre l:List UInt8),∀p∈xI sep f pre l,p.length<=pre.length+l.length
 | 0,pre,l,p,hp=>by rw [xI,List.mem_singleton] at hp;rw [hp,List.length_append];exact Nat.le_refl _
 | f+1,pre,l,p,hp=>by
  rw [xI] at hp
  split at hp
  ·split at hp
   ·rcases List.mem_cons.1 hp with rfl | hp
    ·omega
    ·have:=wL sep f [] _ p hp;rw [List.length_drop] at this;simp at this;omega
   ·have:=wL sep f _ _ p hp;rw [List.length_append,List.length_take,List.length_drop] at this;omega
  ·rw [List.mem_singleton] at hp;rw [hp,List.length_append];exact Nat.le_refl _
theorem gW (sep:List UInt8):∀(f:Nat) (pre l:List UInt8),(xI sep f pre l).length<=f+1
 | 0,pre,l=>by rw [xI];simp
 | f+1,pre,l=>by
  rw [xI]
  split
  ·split
   ·have:=gW sep f [] (l.drop sep.length);rw [List.length_cons];omega
   ·have:=gW sep f (pre++l.take 1) (l.drop 1);omega
  ·simp
theorem xL (c:UInt8):∀(pre l:List UInt8),∀p∈TD c pre l,p.length<=pre.length+l.length
 | pre,[],p,hp=>by rw [TD,List.mem_singleton] at hp;rw [hp];simp
 | pre,x::l,p,hp=>by
  rw [TD] at hp
  split at hp
  ·rcases List.mem_cons.1 hp with rfl | hp
   ·omega
   ·have:=xL c [] l p hp;simp only [List.length_nil,List.length_cons] at this ⊢;omega
  ·have:=xL c _ l p hp;simp only [List.length_append,List.length_cons,List.length_nil] at this ⊢;omega
theorem iW (c:UInt8):∀(pre l:List UInt8),(TD c pre l).length<=l.length+1
 | pre,[]=>by rw [TD];simp
 | pre,x::l=>by
  rw [TD]
  split
  ·have:=iW c [] l;simp only [List.length_cons];omega
  ·have:=iW c (pre++[x]) l;simp only [List.length_cons];omega
theorem pAn {s sep t:ByteArray} (h:t∈rH s sep):t.size<=s.size:=by
 unfold rH at h;obtain ⟨p,hp,rfl⟩:=List.mem_map.1 h;have:=wL _ _ _ _ p hp;rw [IJ];rw [RB] at this
 simpa using this
theorem iH {s t:ByteArray} {c:UInt8} (h:t∈MD s c):t.size<=s.size:=by
 unfold MD at h;obtain ⟨p,hp,rfl⟩:=List.mem_map.1 h;have:=xL _ _ _ p hp;rw [IJ];rw [RB] at this
 simpa using this
theorem jW (s sep:ByteArray):(rH s sep).length<=s.size+2:=by unfold rH;rw [List.length_map];exact gW _ _ _ _
theorem wN (s:ByteArray) (c:UInt8):(MD s c).length<=s.size+1:=by unfold MD;rw [List.length_map];have:=iW c [] (bl s);rw [RB] at this;exact this
theorem lAd (s:ByteArray) (c:UInt8):0<(MD s c).length:=by
 unfold MD;rw [List.length_map];exact List.length_pos_iff.2 (ZQ _ _ _)
def mM (P:List ByteArray) (k:Nat):List Int:=(P.take k).map oJ
theorem dA6 {P:List ByteArray} {k:Nat} {t:ByteArray} (h:P[k]? = some t):mM P (k+1)=mM P k++[oJ t]:=by unfold mM;rw [List.take_add_one,h,List.map_append];rfl
theorem fAx (P:List ByteArray) (k:Nat):(mM P k).length<=k:=by unfold mM;rw [List.length_map,List.length_take];omega
theorem fAy {P:List ByteArray} {k:Nat} (h:P.length<=k):mM P k=P.map oJ:=by unfold mM;rw [List.take_of_length_le h]
theorem tP (w:World) (s:ByteArray) (hs:s.size<=1048576):Calls prog 273 #[.string s] w (WB w (nE WA w.heap.size (JJ s))):=by
 obtain ⟨i0,hi,cm,cn,cp⟩:=info_parts xC;have bn:=MA (e:=3) (sz:=1) (R:=IF) w;have A0:Bw w (w.alloc (.cells #[] 3)):=(Bw.refl w).alloc _;obtain ⟨P,hP⟩:=pA7 (rH s ⟨#[44]⟩);have bb:=fW (w.alloc (.cells #[] 3)) s ⟨#[44]⟩ hs (by decide) (by decide);rw [<-hP] at bb;have HY:=pA6 (show JJ s=P.map oJ by rw [hP];rfl);have HM:=pA6 (show ∀t∈P,t.size<=s.size from fun t ht=>pAn (by rw [<-hP];exact ht));have HL:=pA6 (show P.length<=s.size+2 by rw [hP];exact jW _ _);clear hP;go_enter func273,ntmps273;go_wp2_with fail;refine bb.mono ?_;rintro e w2 ⟨v1,rfl,⟨FX,oX,fX⟩,bd⟩;have B2:=A0.then bd;have bp:=(aA (B:=w.heap.size)).bw bd A0.size bn;have zX:∀z∈FX,z∉[w.heap.size]:=fun z hz=>by have h1:=fX.ge z hz;simp at h1;simp only [List.mem_singleton];omega
 have hl:=DC oX;obtain ⟨A,n,c,rfl,L,Lc,Lm⟩:=yA hl;have OX:=pA6 oX;have ZX:=pA6 zX;have ZS:=pA6 (show w.heap.size<w2.heap.size by have:=bd.size;simp at this;omega);clear oX zX hl bn fX bb;go_wp2
 go_loopg [3,12] n (fun g s i w'=>∃(k:Nat) (F:List Nat),k<=n/\g=n-k/\i=.int .i64 k/\WA w' (mM P k) [s] F/\sA w.heap.size F/\Bw w w'/\TB [w.heap.size] w2 w'/\Hid (∀z∈F,z=w.heap.size\/w2.heap.size<=z))
 ·exact ⟨0,_,by omega,rfl,rfl,bp,⟨by simp,by simp⟩,B2,TB.refl _ _,pA6 (fun z hz=>.inl (by simpa using hz))⟩
 ·clear bp B2 bd A0;obtain ⟨k,F,hk,rfl,rfl,hv,hF,hb,hO,HF⟩:=hrel;by_cases hlt:k<n
  ·obtain ⟨x,hx⟩:=tA (xs:=P) (k:=k) (by have:=L.out;omega);obtain ⟨ba,oa,rfl,_,hcx⟩:=BC (DC (hO.keeps iB OX.out ZX.out)) hx;have HS:=pA6 (dA6 hx);have ck:=HM.out x (List.mem_of_getElem? hx);have bb:=WH wr x (by omega);obtain ⟨N,hN⟩:=pA7 (oJ x);obtain ⟨b,bc⟩:=pA7 ((pI x).2);rw [<-bc,show (pI x).1=N from hN.symm] at bb;rw [<-hN] at HS;have bk:=pA6 (fAx P k);have bj:=pA6 (show n<=s.size+2 by rw [L.out];exact HL.out);have i1:(0:Int)<=(k:Int):=by omega
   have i2:(k:Int)<(n:Int):=by omega
   clear hx ck hN bc;go_wp2_with fail;refine bb.mono ?_;rintro e w4 ⟨rfl,bf⟩;have bc:=hb.then bf;have bg:=(aA (B:=w.heap.size)).bw bf hb.size hv;have hA:=(Bw.refl w4).alloc (.cells #[.int .i64 N] 3);have cj:=(aA (B:=w.heap.size)).bw hA bc.size bg;have bt:=(aA (B:=0)).lt bg;have cb:=bc.then hA;have cd:=cell_one_new w4 (.int .i64 N) 3;have bm:=pA6 (hO.then ((bf.then hA).only []) (by simp));have cc:=bc.size;clear hv bg bb hO;go_wp2_with (at_builtin;refine iC _ rfl (.tmp 21) (.tmp 23) 26 rfl w 3 i0 _ 1 8 underlying26 hi cm cn cp rfl (by omega) YA _ (mM P k) F rfl cj hF ⟨w4.heap.size,0,none⟩ 1 rfl N [.int .i64 N] [] cd ⟨rfl,rfl⟩ rfl w4.heap.size bt sA.nil cc (by have:=bk.out;have:=bj.out;omega) (by have:=bk.out;have:=bj.out;omega) cb ?_;intro v' w' F' cg bs bz bv cf);have bx:=TB.push bm.out bv HF.out;have bq:=pA6 (show ∀z∈F',z=w.heap.size\/w2.heap.size<=z from fun z hz=>(cf z hz).elim (fun h=>HF.out z h) (fun h=>h.elim (fun h=>by simp at h) (fun h=>.inr (Nat.le_trans bm.out.1 h))))
   go_roundg (n-(k+1))
   ·exact ⟨k+1,F',by omega,rfl,by go_num,by rw [HS.out];exact cg,bs,bz,bx,bq⟩
   ·omega
  ·obtain rfl:k=n:=by omega
   rw [fAy (by rw [<-L.out];exact Nat.le_refl _)] at hv;go_wp2;go_ret;exact ⟨_,rfl,⟨F,by rw [HY.out];exact hv,hF⟩,hb⟩
theorem YJ (w:World) (s:ByteArray) (hs:s.size<=1048576):Calls prog 278 #[.string s] w (Ret w (.int .i64 (tG s))):=by
 have bb:=lM w s hs;obtain ⟨Y,hY⟩:=pA7 (tG s);rw [<-hY];unfold tG at hY;obtain ⟨b,hb⟩:=pA7 ((pI s).2);obtain ⟨N,hN⟩:=pA7 ((pI s).1);rw [<-hb,<-hN] at bb hY;clear hb hN
 cases b
 rotate_left
 focus
  have HY:=pA6 (show Y=N from hY)
 rotate_right
 focus
  have HY:=pA6 (show Y = -100000 from hY)
 all_goals
  clear hY;go_enter func278,ntmps278;go_wp2_with fail;refine bb.mono ?_;rintro e w1 ⟨rfl,bc⟩;go_wp2;go_ret;exact Ret.int HY.out.symm bc
theorem nM {x:iA} (h:gB x=true):∀v∈x.vals,(Lit.int .i64 v).wf=true:=fun v hv=>fH (by have:=QE h hv;omega)
theorem oM {x:iA} (h:gB x=true):(GC x.vals ⟨#[44]⟩).size<=100:=by
 have h1:=OF ⟨#[44]⟩ (nM h);have e:(⟨#[44]⟩:ByteArray).size=1:=rfl;rw [e,jB h] at h1;omega
theorem aAl (w:World) (x:iA) (v:Value) (h:Rd aB w x.vals [v]):Calls prog 275 #[.agg #[.int .i64 x.id,v]] w (Ret w (.string (FC x))):=by
 have B0:Bw w (w.alloc (.cells #[.int .i64 x.id,v] 30)):=(Bw.refl w).alloc _;go_enter func275,ntmps275;go_wp2_with fail;refine (cG _ x _ (h.bw dA B0)).mono ?_;rintro e w3 ⟨rfl,bb⟩;obtain ⟨p0,p1⟩:C2 w3 w.heap.size (.int .i64 x.id) v:=bb.c2 (by unfold C2;go_simp);have B3:=B0.then bb;rcases pA8 (gB x) with e1 | e1
 ·have E1:=pA6 e1;rw [e1];clear e1;have hp:=pA6 (fH (n:=x.id) (by have:=lE E1.out;omega));have s0:=pA p0;have s1:=pA p1;have k1:=h.bw dA B3;obtain ⟨P,hP⟩:=pA7 (QA x.id);obtain ⟨Q,hQ⟩:=pA7 (GC x.vals ⟨#[44]⟩);have bc:P.size<=20:=by rw [hP];exact (mB hp.out).2
  have bd:Q.size<=100:=by rw [hQ];exact oM E1.out
  have cP:∀W,Calls prog 125 #[.int .i64 x.id] W (Ret W (.string P)):=fun W=>by rw [hP];exact dD W x.id hp.out
  have cQ:∀s:eC w3,Calls prog 132 #[v,.string ⟨#[44]⟩] s.1 (Ret s.1 (.string Q)):=fun s=>by rw [hQ];exact CL _ x.vals ⟨#[44]⟩ _ (k1.bw dA s.bw) (nM E1.out) (by have:=jB E1.out;omega) (by show 1<=1024;omega)
  have HF:=pA6 (show P++⟨#[58]⟩++Q=FC x by rw [FC,E1.out,hP,hQ];rfl);have e1:(⟨#[58]⟩:ByteArray).size=1:=rfl;have a1:∀W,(Op.stringOp .add P ⟨#[58]⟩).run prog W=.ok (.string (P++⟨#[58]⟩)) W:=fun W=>run_string_add_sum W _ _ (by omega)
  have a2:∀W,(Op.stringOp .add (P++⟨#[58]⟩) Q).run prog W=.ok (.string (P++⟨#[58]⟩++Q)) W:=fun W=>run_string_add_sum W _ _ (by rw [lA];omega)
  clear p0 p1 hP hQ bc bd e1 k1;go_wp2;refine IA (by kernel_rfl) ?_
  repeat (first | go_big_quiet_skip | (go_big_quiet_want;go_big_quiet_op;first | go_big_quiet_on | (apply Exists.intro;refine ⟨fun _=>?_,?_⟩;(· (((first | (go_at_call 125;exact DA (cP _)) | (exact DA (cQ _))))));go_big_quiet_on)))
  refine JA fun wq hbq=>?_
  try dsimp only at *
  go_wp2;go_ret;exact Ret.str HF.out (B3.then hbq)
 ·have E1:=pA6 e1;rw [e1];clear e1;go_wp2;go_ret;exact Ret.str (by rw [FC,E1.out];rfl) (B3)
theorem sH (w:World) (x:iA) (v:Value) (h:Rd aB w x.vals [v]):Calls prog 62 #[.agg #[.int .i64 x.id,v]] w (Ret w (.string (FC x))):=by
 have B0:Bw w (w.alloc (.cells #[.int .i64 x.id,v] 30)):=(Bw.refl w).alloc _;go_enter func62,ntmps62;go_wp2_with fail;refine (XG _ x _ (h.bw dA B0)).mono ?_;rintro e w3 ⟨rfl,bb⟩;obtain ⟨p0,p1⟩:C2 w3 w.heap.size (.int .i64 x.id) v:=bb.c2 (by unfold C2;go_simp);have B3:=B0.then bb;rcases pA8 (gB x) with e1 | e1
 ·have E1:=pA6 e1;rw [e1];clear e1;have hp:=pA6 (fH (n:=x.id) (by have:=lE E1.out;omega));have s0:=pA p0;have s1:=pA p1;have k1:=h.bw dA B3;obtain ⟨P,hP⟩:=pA7 (QA x.id);obtain ⟨Q,hQ⟩:=pA7 (GC x.vals ⟨#[44]⟩);have bc:P.size<=20:=by rw [hP];exact (mB hp.out).2
  have bd:Q.size<=100:=by rw [hQ];exact oM E1.out
  have cP:∀W,Calls prog 64 #[.int .i64 x.id] W (Ret W (.string P)):=fun W=>by rw [hP];exact yC W x.id hp.out
  have cQ:∀s:eC w3,Calls prog 145 #[v] s.1 (Ret s.1 (.string Q)):=fun s=>by rw [hQ];exact WQ _ x.vals _ (k1.bw dA s.bw) (nM E1.out) (by have:=jB E1.out;omega)
  have HF:=pA6 (show P++⟨#[58]⟩++Q=FC x by rw [FC,E1.out,hP,hQ];rfl);have e1:(⟨#[58]⟩:ByteArray).size=1:=rfl;have a1:∀W,(Op.stringOp .add P ⟨#[58]⟩).run prog W=.ok (.string (P++⟨#[58]⟩)) W:=fun W=>run_string_add_sum W _ _ (by omega)
  have a2:∀W,(Op.stringOp .add (P++⟨#[58]⟩) Q).run prog W=.ok (.string (P++⟨#[58]⟩++Q)) W:=fun W=>run_string_add_sum W _ _ (by rw [lA];omega)
  clear p0 p1 hP hQ bc bd e1 k1;go_wp2;refine IA (by kernel_rfl) ?_
  repeat (first | go_big_quiet_skip | (go_big_quiet_want;go_big_quiet_op;first | go_big_quiet_on | (apply Exists.intro;refine ⟨fun _=>?_,?_⟩;(· (((first | (go_at_call 64;exact DA (cP _)) | (exact DA (cQ _))))));go_big_quiet_on)))
  refine JA fun wq hbq=>?_
  try dsimp only at *
  go_wp2;go_ret;exact Ret.str HF.out (B3.then hbq)
 ·have E1:=pA6 e1;rw [e1];clear e1;go_wp2;go_ret;exact Ret.str (by rw [FC,E1.out];rfl) (B3)
theorem xJ (x:iA):(FC x).size<=130:=by
 unfold FC
 split
 ·rename_i h
  have h1:=(mB (fH (n:=x.id) (by have:=lE h;omega))).2;have h2:=oM h;have e:(⟨#[58]⟩:ByteArray).size=1:=rfl;rw [lA,lA];omega
 ·show 0<=130;omega
theorem pJ (w:World):zH w QJ [.int .i64 0,.slice none 0 0] []:=⟨_,rfl,XB w⟩
theorem dAa {s:ByteArray} (h:(rH s ⟨#[58]⟩).length≠2):YF s=(QJ,false):=by
 have:XP s=none:=by
  unfold XP
  split
  ·rename_i a b e;rw [e] at h;exact absurd rfl h
  ·rfl
 unfold YF pOf;rw [this]
theorem nW {s sep:ByteArray} (h:s.size=0) (hn:0<sep.size):(rH s sep).length=1:=by
 unfold rH;rw [DK.2 h,List.length_map,xI,if_neg (by rw [RB];simp only [List.length_nil];omega)];rfl
theorem pW {s:ByteArray} {c:UInt8} (h:s.size=0):MD s c=[⟨#[]⟩]:=by
 unfold MD;rw [DK.2 h,TD];rfl
theorem WU {α:Type} {P:List α} (h:P.length=2):∃a b,P=[a,b]:=by
 match P,h with
 | [a,b],_=>exact ⟨a,b,rfl⟩
theorem jA8 {s a b:ByteArray} (h:rH s ⟨#[58]⟩=[a,b]):YF s=if FC ⟨oJ a,JJ b⟩=s then (⟨oJ a,JJ b⟩,true) else (QJ,false):=by
 have hr:XP s=some ⟨oJ a,JJ b⟩:=by unfold XP;rw [h]
 have hs:s.size≠0:=fun h0=>by
  have:=nW (sep:=⟨#[58]⟩) h0 (by decide);rw [h] at this;cases this
 unfold YF pOf;rw [hr];dsimp only;by_cases hc:FC ⟨oJ a,JJ b⟩=s
 ·rw [if_pos ⟨hs,hc⟩,if_pos hc]
 ·rw [if_neg (fun e=>hc e.2),if_neg hc]
def oAn (W:World) (b:Nat) (a0 a1:Value):World:=(W.setCell ⟨b,0,none⟩ a0).setCell ⟨b,1,none⟩ a1
theorem sW {W:World} {b:Nat} {a0 a1:Value} {α:Type} {R:Fp α} (hR:tC 0 R) {x:α} {cs:List Value} {F:List Nat} (hx:R W x cs F) (hF:b∉F):R (oAn W b a0 a1) x cs F:=UA hR (UA hR hx hF) hF
theorem Bw.put2 {w W:World} {b:Nat} {a0 a1:Value} (h:Bw w W) (hb:w.heap.size<=b):Bw w (oAn W b a0 a1):=(h.set (p:=⟨b,0,none⟩) hb _).set (p:=⟨b,1,none⟩) hb _
theorem dAb (w:World) (s:ByteArray) (hs:s.size<=1048576):Calls prog 247 #[.string s] w (WB w (JK zH w.heap.size (YF s).1 (.bool (YF s).2))):=by
 obtain ⟨Y,hY⟩:=pA7 (YF s);have HY:=pA6 hY;rw [<-hY];have A0:Bw w (w.alloc (.cells #[.int .i64 0,.slice none 0 0] 30)):=(Bw.refl w).alloc _;have bR:=Box.new w #[.int .i64 0,.slice none 0 0] 30;obtain ⟨P,hP⟩:=pA7 (rH s ⟨#[58]⟩);have bb:=fW (w.alloc (.cells #[.int .i64 0,.slice none 0 0] 30)) s ⟨#[58]⟩ hs (by decide) (by decide);rw [<-hP] at bb;have HP:=pA6 hP;have HM:=pA6 (show ∀t∈P,t.size<=s.size from fun t ht=>pAn (by rw [<-hP];exact ht));clear hP hY;go_enter func247,ntmps247;go_wp2_with fail;refine bb.mono ?_;rintro e w1 ⟨v1,rfl,⟨F1,o1,f1⟩,cf⟩;have r1:=DC o1;obtain ⟨A,n,c,rfl,L,Lc,Lm⟩:=yA r1;have B1:=A0.then cf;replace bR:=bR.bw cf;clear bb o1 f1;by_cases hn:n=2
 ·subst hn;obtain ⟨a,b,bd⟩:=WU (P:=P) (by rw [<-L.out]);have HQ:=pA6 (jA8 (s:=s) (a:=a) (b:=b) (by rw [<-HP.out,bd]));obtain ⟨ba,oa,rfl,_,ca⟩:=BC (k:=0) r1 (x:=a) (by rw [bd];rfl);obtain ⟨_,_,e,_,cb⟩:=BC (k:=1) r1 (x:=b) (by rw [bd];rfl);injection e with e;injection e with e1 e2;subst e1 e2;have cn:=HM.out a (by rw [bd];simp);have cp:=HM.out b (by rw [bd];simp);rw [Nat.add_zero] at ca;have bb:=tP w1 b (by omega);clear bd L cp;go_wp2_with fail;refine bb.mono ?_;rintro e w2 ⟨v2,rfl,⟨F2,o2,f2⟩,bk⟩;have r2:=xA o2;obtain ⟨A2,n2,c2,rfl,l2,_⟩:=qA r2;have L2:=pA6 l2;have B2:=B1.then bk;have bf:=(Bw.refl w2).alloc (.cells #[.int .i64 0,.slice A2 n2 c2] 30);have bX:=Box.new w2 #[.int .i64 0,.slice A2 n2 c2] 30;have cd:=(aA (B:=0)).lt o2;have ck:sA w.heap.size F2:=f2.mono B1.size;have cm:w.heap.size<w2.heap.size:=by have:=bR.lt;have:=bk.size;omega
  have cq:w.heap.size∉F2:=fun h=>by have:=f2.ge _ h;have:=bR.lt;omega
  obtain ⟨bx,bq⟩:=pA7 w2.heap.size;obtain ⟨W,hW⟩:=pA7 (w2.alloc (.cells #[.int .i64 0,.slice A2 n2 c2] 30));rw [<-hW] at bf bX;rw [<-bq] at bX cd cm;have nF:bx∉F2:=fun h=>by have:=cd _ h;omega
  have HW:=pA6 hW;have HB:=pA6 bq;have bb:=WH W a (by omega);obtain ⟨N,hN⟩:=pA7 (oJ a);obtain ⟨bo,cg⟩:=pA7 ((pI a).2);rw [<-cg,show (pI a).1=N from hN.symm] at bb;rw [<-hN] at HQ;have cc:=bf.cell (bk.cell ca);have bn:=pA6 (show w.heap.size<=bx/\w.heap.size≠bx by omega);rw [HW.out] at cc;clear l2 hW bq hN cg ca cb r1 cn;go_wp2_with fail;rw [<-HW.out];clear cc;refine bb.mono ?_;rintro e w3 ⟨rfl,bm⟩;rw [<-HB.out];have o3:=nA (bf.then bm) aA o2;have bp:=bX.bw bm;have bs:=((bR.bw bk).bw bf).bw bm;have B3:=(B2.then bf).then bm;have o4:=UA (b:=bx) (o:=0) (u:=.int .i64 N) aA o3 nF;have bz:=bp.set (j:=0) (by simp) (.int .i64 N);have bt:=bs.only (GA bx 0 w3 (.int .i64 N)) (by simp;exact bn.out.2);have B4:=B3.set (p:=⟨bx,0,none⟩) bn.out.1 (.int .i64 N);have k6:Calls prog 275 #[.agg #[.int .i64 N,.slice A2 n2 c2]] (w3.setCell ⟨bx,0,none⟩ (.int .i64 N)) (Ret (w3.setCell ⟨bx,0,none⟩ (.int .i64 N)) (.string (FC ⟨N,JJ b⟩))):=aAl _ ⟨N,JJ b⟩ _ (xA o4);obtain ⟨T,hT⟩:=pA7 (FC ⟨N,JJ b⟩);rw [<-hT] at k6 HQ;obtain ⟨x0,x1,xf⟩:=bp.a2;clear bb bX bR bp bs o3 hT;go_wp2_with fail;refine k6.mono ?_;rintro e w5 ⟨rfl,bg⟩;clear x0 x1 xf;have cj:=bz.bw bg;have bv:=bt.bw bg;have o5:=nA bg aA o4;have B5:=B4.then bg;have bc:=bn.out.2;have bj:bx≠w.heap.size:=fun h=>bc h.symm
  clear k6 bz bt o4 B4 bg;by_cases hq:T=s
  ·have HE:=pA6 (show Y=(⟨N,JJ b⟩,true) by rw [HY.out,HQ.out,if_pos hq]);have e1:=JD hq;have e2:(T.toList != s.toList)=false:=by rw [bne,e1];rfl
   obtain ⟨x0,x1,xf⟩:=cj.a2;obtain ⟨r0,r1,rf⟩:=bv.a2;clear hq;go_wp2;refine bodyPost_ret (v:=.tuple #[.agg #[.int .i64 N,.slice A2 n2 c2],.bool true]) (by simp [results,results247,go_sem,r0,r1,bc,bj]) rfl ?_;exact ⟨_,rfl,⟨_,by rw [HE.out],F2,by rw [HE.out];exact ⟨_,rfl,sW aA o5 cq⟩,ck⟩,B5.put2 (Nat.le_refl _)⟩
  ·have HE:=pA6 (show Y=(QJ,false) by rw [HY.out,HQ.out,if_neg hq]);have e1:=WC hq;have e2:(T.toList != s.toList)=true:=by rw [bne,e1];rfl
   obtain ⟨r0,r1,rf⟩:=bv.a2;clear hq;go_wp2;refine bodyPost_ret (v:=.tuple #[.agg #[.int .i64 0,.slice none 0 0],.bool false]) (by simp [results,results247,go_sem,r0,r1,bc,bj]) rfl ?_;exact ⟨_,rfl,⟨_,by rw [HE.out],[],by rw [HE.out];exact pJ _,sA.nil⟩,B5.put2 (Nat.le_refl _)⟩
 ·have HQ:=pA6 (dAa (s:=s) (by rw [<-HP.out,<-L.out];exact hn));have e1:((n:Int) != 2)=true:=by simp;omega
  obtain ⟨r0,r1,rf⟩:=bR.a2;clear hn;go_wp2;refine bodyPost_ret (v:=.tuple #[.agg #[.int .i64 0,.slice none 0 0],.bool false]) (by simp [results,results247,go_sem,r0,r1]) rfl ?_;exact ⟨_,rfl,⟨_,by rw [HY.out,HQ.out],[],by rw [HY.out,HQ.out];exact pJ _,sA.nil⟩,B1.put2 (Nat.le_refl _)⟩
end Go.Proofs.YtpihighajaeabaaGreat
