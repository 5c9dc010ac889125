/- For every input, FnConsolePrefix returns true and leaves its argument as it was. No condition. -/
import Derived.Test.YtpihighajaeabaaGreatRows
import Derived.Test.YtpihighajaeabaaGreatXConX
import Derived.Test.YtpihighajaeabaaGreatXDrawRC
import Derived.Test.YtpihighajaeabaaGreatXOpenB
namespace Go.Proofs.YtpihighajaeabaaGreat
open Go.RowKit Go.ChangeShapes Go.WideShapes Go.ChangeAt Go.Proofs.Tryz
set_option linter.all false
set_option maxRecDepth 100000
set_option maxHeartbeats 16000000
theorem mAt (w:World) (a s:ByteArray) (h:∃r,s=a++r) (hs:s.size<=1048576):Calls prog 68 #[.string a,.string s] w (Ret w (.bool true)):=by
 obtain ⟨r,hr⟩:=h;have hz:a.size<=s.size:=by rw [hr,lA];omega
 have i1:(a.size:Int)<=(s.size:Int):=by omega
 have t1:=iAd (s:=s) (b:=a.size) hz;have e:s.extract 0 a.size=a:=EH (by rw [jD,List.drop_zero,hr,IB,List.take_left' (RB a)]);rw [e] at t1;have e1:=JD (rfl:a=a);clear e hr hz;go_enter func68,ntmps68;go_wp2;go_ret;exact Ret.bool rfl (Bw.refl _)
theorem hAr {l:List UInt8} {k:Nat} {x:UInt8} (h:l[k]? = some x):SJ (l.take (k+1))=if x=10 then SJ (l.take k)+1 else SJ (l.take k):=by
 rw [List.take_add_one,h,AT];by_cases hx:x=10
 ·rw [if_pos hx,hx];rfl
 ·rw [if_neg hx];have:SJ (some x).toList=0:=by unfold SJ;simp [hx]
  omega
theorem mAu (l:List UInt8):SJ l<=l.length:=List.length_filter_le _ _
def St1 (s:ByteArray) (K j l f fr c:Nat):Prop:=(j<=s.size/\YO (bl s) K j l f fr c)\/(j=s.size+1/\FY s K l f c)
theorem FY.sizes {s:ByteArray} {K l f c:Nat} (h:FY s K l f c):c<=s.size:=h.le
theorem kO (w:World) (x0:List Int) (v:Value) (h0:Rd aO w x0 [v]) (q0:MM x0):Calls prog 8 #[v] w (Ret w (.bool true)):=by
 have bb:=pA0 w x0 v h0;go_enter func8,ntmps8;go_wp2_with fail;refine bb.mono ?_;rintro e w1 ⟨rfl,bj⟩;clear bb;by_cases hbig:1048576<x0.length
 ·have e1:decide (1048576<x0.length)=true:=decide_eq_true hbig;rw [e1];clear e1;go_wp2;go_ret;exact ⟨rfl,bj⟩
 ·have e1:decide (1048576<x0.length)=false:=decide_eq_false hbig;rw [e1];clear e1;have bb:=CT w1 x0 v (h0.bw iO bj) q0;go_wp2_with fail;refine bb.mono ?_;rintro e w2 ⟨s,rfl,hs,bp⟩;clear bb;have B2:=bj.then bp;obtain ⟨Y,hY⟩:=pA7 (yI s);have HY:=pA6 hY;have YS:=pA6 (show Y.size<=1048576 by rw [hY];exact kAi s);have k1:=mS w2 s;rw [<-hY] at k1;have k2:=fun W=>bAs W s
  simp only [<-hY] at k2;have K2:=pA6 k2;have HS:=pA6 hs;have e1:=JD (rfl:Y=Y);clear hY k2;have bb:=k1;go_wp2_with fail;refine bb.mono ?_;rintro e w3 ⟨rfl,bq⟩;clear bb;have bb:=K2.out w3;go_wp2_with fail;refine bb.mono ?_;rintro e w4 ⟨rfl,bs⟩;clear bb;have B4:=(B2.then bq).then bs;have cn:=iAh q0 0;have bx:=pA4 w4 x0 0 v (h0.bw iO B4) q0 (by omega) (by omega);obtain ⟨A,hA⟩:∃A:Nat,atM x0 0=(A:Int):=⟨(atM x0 0).toNat,by omega⟩;rw [hA] at bx;obtain ⟨Q,hQ⟩:=pA7 (A % 9);have hm1:(A:Int).tmod 9=(Q:Int):=by rw [Int.tmod_eq_emod_of_nonneg (by omega)];omega
  have hm2:(A:Int) % 9=(Q:Int):=by omega
  have hQ8:Q<=8:=by omega
  clear k1 hA cn hQ;have bb:=bx;go_wp2_with fail;refine bb.mono ?_;rintro e w5 ⟨rfl,bt⟩;clear bb;have B5:=B4.then bt;obtain ⟨K,hK⟩:=pA7 (1+Q:Nat);have hKi:(1+(Q:Int))=(K:Int):=by omega
  have cf:0<K:=by omega
  have hK9:K<=9:=by omega
  have hwK:IntKind.i64.wrap (1+(Q:Int))=(K:Int):=by simp [IntKind.wrap,IntKind.bits,IntKind.signed];omega
  clear hK bj bp bq bs bt B2 B4 hbig;go_wp2
  go_loopg [5,6,7,9,10] (s.size+1) (fun gg cv lv fv frv iv w'=>∃(c l f fr j:Nat),j<=s.size+1/\gg=s.size+1-j/\cv=.int .i64 c/\lv=.int .i64 l/\fv=.int .i64 f/\frv=.int .i64 fr/\iv=.int .i64 j/\Hid (St1 s K j l f fr c)/\Bw w w')
  ·exact ⟨0,0,0,0,0,by omega,by omega,rfl,rfl,rfl,rfl,rfl,pA6 (.inl ⟨Nat.zero_le _,YO.start _ cf⟩),B5⟩
  ·obtain ⟨c,l,f,fr,j,hj,rfl,rfl,rfl,rfl,rfl,rfl,HI,hB⟩:=hrel;have HB:=pA6 hB;clear B5;rcases HI.out with ⟨cm,bc⟩ | ⟨rfl,HT⟩
   ·have cq:=bc.sizes (by rw [RB];exact cm);have hs2:s.size<=200000:=HS.out;obtain ⟨z1,z2,z3,z4⟩:=cq;have b1:(l:Int)<=200000:=by omega
    have b2:(f:Int)<=200000:=by omega
    have b3:(j:Int)<=200000:=by omega
    have i0:(j:Int)<=(s.size:Int):=by omega
    by_cases hlt:j<s.size
    ·have i1:(j:Int)<(s.size:Int):=by omega
     have e2:((j:Int)==(s.size:Int))=false:=by simp;omega
     obtain ⟨x,hx⟩:=tA (xs:=bl s) (k:=j) (by rw [RB];exact hlt);have bf:=TH hx;obtain ⟨xi,bd⟩:=pA7 ((x.toNat:Int):Int);rw [<-bd] at bf;by_cases h10:x=10
     ·have e3:(xi != 10)=false:=by rw [bd,h10];rfl
      rw [h10] at hx;have hn:=bc.line hx;clear hx bd h10;by_cases hfr:fr<j
      ·have i3:(fr:Int)<(j:Int):=by omega
       rw [if_pos hfr] at hn;by_cases hk:l+1=K
       ·have e4:((l:Int)+1==(K:Int))=true:=by simp;omega
        rw [if_pos hk] at hn;have HN:=pA6 hn;clear hn hk bc hfr
        as_aux_lemma=>
         go_wp2
         go_roundg (s.size+1-(j+1))
         ·exact ⟨j+1,l+1,f+1,j+1,j+1,by omega,rfl,rfl,by go_num,by go_num,by go_num,by go_num,pA6 (.inl ⟨by omega,HN.out⟩),hB⟩
         ·omega
       ·have e4:((l:Int)+1==(K:Int))=false:=by simp;omega
        rw [if_neg hk] at hn;have HN:=pA6 hn;clear hn hk bc hfr
        as_aux_lemma=>
         go_wp2
         go_roundg (s.size+1-(j+1))
         ·exact ⟨c,l+1,f+1,j+1,j+1,by omega,rfl,rfl,by go_num,by go_num,by go_num,by go_num,pA6 (.inl ⟨by omega,HN.out⟩),hB⟩
         ·omega
      ·have i3:¬(fr:Int)<(j:Int):=by omega
       rw [if_neg hfr] at hn;by_cases hk:l+1=K
       ·have e4:((l:Int)+1==(K:Int))=true:=by simp;omega
        rw [if_pos hk] at hn;have HN:=pA6 hn;clear hn hk bc hfr
        as_aux_lemma=>
         go_wp2
         go_roundg (s.size+1-(j+1))
         ·exact ⟨j+1,l+1,f,j+1,j+1,by omega,rfl,rfl,by go_num,by go_num,by go_num,by go_num,pA6 (.inl ⟨by omega,HN.out⟩),hB⟩
         ·omega
       ·have e4:((l:Int)+1==(K:Int))=false:=by simp;omega
        rw [if_neg hk] at hn;have HN:=pA6 hn;clear hn hk bc hfr
        as_aux_lemma=>
         go_wp2
         go_roundg (s.size+1-(j+1))
         ·exact ⟨c,l+1,f,j+1,j+1,by omega,rfl,rfl,by go_num,by go_num,by go_num,by go_num,pA6 (.inl ⟨by omega,HN.out⟩),hB⟩
         ·omega
     ·have e3:(xi != 10)=true:=by
       rw [bd];have:x.toNat≠(10:UInt8).toNat:=fun e=>h10 (UInt8.toNat_inj.1 e)
       simp at this ⊢;omega
      have HN:=pA6 (bc.skip hx h10);clear hx bd h10 bc
      as_aux_lemma=>
       go_wp2
       go_roundg (s.size+1-(j+1))
       ·exact ⟨c,l,f,fr,j+1,by omega,rfl,rfl,by go_num,by go_num,by go_num,by go_num,pA6 (.inl ⟨by omega,HN.out⟩),hB⟩
       ·omega
    ·obtain rfl:s.size=j:=by omega
     by_cases hfr:fr=s.size
     ·have e2:((fr:Int)==(s.size:Int))=true:=by simp;omega
      have HN:=pA6 (bc.done hfr);clear bc hfr
      as_aux_lemma=>
       go_wp2
       go_roundg (s.size+1-(s.size+1))
       ·exact ⟨c,l,f,fr,s.size+1,by omega,rfl,rfl,by go_num,by go_num,by go_num,by go_num,pA6 (.inr ⟨rfl,HN.out⟩),hB⟩
       ·omega
     ·have e2:((fr:Int)==(s.size:Int))=false:=by simp;omega
      have HN:=pA6 (bc.more hfr).1;have i3:(fr:Int)<(s.size:Int):=by have:=(bc.more hfr).2;omega
      by_cases hk:l+1=K;rotate_left
      focus
       have e4:((l:Int)+1==(K:Int))=false:=by simp;omega
      rotate_right
      focus
       have e4:((l:Int)+1==(K:Int))=true:=by simp;omega
      all_goals
       clear bc hfr hk
       as_aux_lemma=>
        go_wp2
        go_roundg (s.size+1-(s.size+1))
        ·exact ⟨c,l+1,f+1,s.size+1,s.size+1,by omega,rfl,rfl,by go_num,by go_num,by go_num,by go_num,pA6 (.inr ⟨rfl,HN.out⟩),hB⟩
        ·omega
   ·have i0:¬((s.size+1:Nat):Int)<=(s.size:Int):=by omega
    have hY:=HY.out
    as_aux_lemma=>
     have TO:=pA6 HT;by_cases hbig:60<l\/3000<s.size
     ·have bn:=pA6 (hY.trans (mAn HT hbig));have e1:Y.toList.isEmpty=true:=vG (by rw [bn.out];rfl);by_cases h6:60<l
      ·have i6:(60:Int)<(l:Int):=by omega
       clear HT hbig hY;go_wp2;go_ret;exact Ret.bool rfl HB.out
      ·have i6:¬(60:Int)<(l:Int):=by omega
       have i7:(3000:Int)<(s.size:Int):=by omega
       clear HT hbig hY;go_wp2;go_ret;exact Ret.bool rfl HB.out
     ·have i6:¬(60:Int)<(l:Int):=by omega
      have i7:¬(3000:Int)<(s.size:Int):=by omega
      obtain ⟨hc,hr⟩:=hAp HT (fun h=>hbig (.inl h)) (fun h=>hbig (.inr h));rw [<-hY] at hc hr;have HC:=pA6 hc;have HR:=pA6 hr;have cg:Y.size<=1048576:=YS.out;have cc:=pA6 HT.le;clear HT hbig hY hc hr;go_wp2
      go_loopg [11,12] (Y.size) (fun gg n i w'=>∃(k:Nat),k<=Y.size/\gg=Y.size-k/\i=.int .i64 k/\n=.int .i64 ((SJ ((bl Y).take k):Nat):Int)/\Bw w w')
      ·exact ⟨0,by omega,by omega,rfl,rfl,HB.out⟩
      ·obtain ⟨k,hk,rfl,rfl,rfl,hB⟩:=hrel;obtain ⟨n,hn⟩:=pA7 (SJ ((bl Y).take k));have hnk:n<=k:=by rw [hn];refine Nat.le_trans (mAu _) ?_;rw [List.length_take];omega
       rw [<-hn];by_cases hlt:k<Y.size
       ·have j1:(k:Int)<(Y.size:Int):=by omega
        obtain ⟨x,hx⟩:=tA (xs:=bl Y) (k:=k) (by rw [RB];exact hlt);have bf:=TH hx;have bg:=hAr hx;rw [<-hn] at bg;obtain ⟨xi,bd⟩:=pA7 ((x.toNat:Int):Int);rw [<-bd] at bf;by_cases h10:x=10
        ·have e3:(xi==10)=true:=by rw [bd,h10];rfl
         rw [if_pos h10] at bg;have bk:=pA6 bg;clear bg hx bd h10 hn;go_wp2
         go_roundg (Y.size-(k+1))
         ·exact ⟨k+1,by omega,rfl,by go_num,by rw [bk.out];go_num,hB⟩
         ·omega
        ·have e3:(xi==10)=false:=by
          rw [bd];have:x.toNat≠(10:UInt8).toNat:=fun e=>h10 (UInt8.toNat_inj.1 e)
          simp at this ⊢;omega
         rw [if_neg h10] at bg;have bk:=pA6 bg;clear bg hx bd h10 hn;go_wp2
         go_roundg (Y.size-(k+1))
         ·exact ⟨k+1,by omega,rfl,by go_num,by rw [bk.out],hB⟩
         ·omega
       ·have j1:¬(k:Int)<(Y.size:Int):=by omega
        have cb:n=f:=by rw [hn,List.take_of_length_le (by rw [RB];omega)];exact HC.out
        have ef:((n:Int)==(f:Int))=true:=by rw [cb];simp
        have cp:=iAd (s:=s) (b:=c) cc.out;obtain ⟨P,hP⟩:=pA7 (s.extract 0 c);have hr:=HR.out;rw [<-hP] at hr;simp only [<-hP] at cp;have bm:=mS wr P;obtain ⟨Z,hZ⟩:=pA7 (yI P);rw [<-hZ] at bm hr;have bv:=fun W=>mAt W Z Y hr cg
        have cd:=pA6 bv;clear hn cb hP hZ hr bv hlt;go_wp2_with fail;refine bm.mono ?_;rintro e w7 ⟨rfl,cj⟩;clear bm;have bz:=cd.out w7;go_wp2_with fail;refine bz.mono ?_;rintro e w8 ⟨rfl,ck⟩;clear bz;go_wp2;go_ret;exact Ret.bool rfl ((hB.then cj).then ck)
theorem NM (os:Os) (started:os.Started) (H:Type) (enc:TypeId×Value->H) :
  ReturnsInHanded {} Tryz.checked os 8 .any (Rows.fnConsolePrefixSpec.pre6 enc prog Tryz.f8 Rows.fnConsolePrefixRow.domain false) (Rows.fnConsolePrefixSpec.post enc prog Tryz.f8 false true false false):=by
 refine returnsInHanded_of_change (C:=Tryz.checked) lA3 started (by kernel_rfl) func8
  (ChangeSpec.witness6 (enc:=enc) (C:=Tryz.checked) false ⟨#[],#[.slice none 0 0],[]⟩ 8 (by kernel_rfl) (by kernel_rfl) (by kernel_rfl) (by kernel_rfl)) ?_
 intro W bf bb ds gs before bc hW hcnd _;have bd:∀(j:Nat) t v,Tryz.f8.params[j]? = some t->bb[j]? = some v->Value.okWide prog W .any bf t v:=bc;have bm:=hW;obtain ⟨p,q,bk,hV,rfl,hfz,hnd⟩:=hW;have hA:DataW.TrodAll enc prog W 0 (fun _=>true) true Tryz.f8.params.toList bb.toList ds p:=bk;rw [Tryz.params8] at hA bd;obtain ⟨v0,vs0,d0,ds0,p0,q0,hargs,rfl,rfl,h0,r0⟩:=trodAll_cons hA;obtain ⟨rfl,rfl,rfl⟩:=trodAll_nil r0;obtain rfl:bb=#[v0]:=by cases bb;simp_all
 obtain ⟨rfl,rfl⟩:=trodVars_none hV;have k0:=h0;have bn:∀x∈p0,x.block<W.heap.size:=by obtain ⟨m,hm⟩:=k0;exact DataW.trod_lt m _ _ _ hm
 obtain ⟨a0,bj,bg,rfl⟩:=okWide_slice underlying22 (bd 0 22 v0 rfl rfl);obtain ⟨x0,R0,Q0⟩:∃xs,Rd aO W xs [.slice a0 bj bg]/\MM xs:=by obtain ⟨m,hm⟩:=h0;exact nAx hm
 clear bk bc;refine (kO W x0 _ R0 Q0).mono fun e W' ⟨he,bel⟩=>?_
 subst he;exact ⟨_,rfl,_,_,_,[],_,[],bm,trodAll_mk1 (shut_bool underlying4 _),(trodAll_cons_mk (Below.trod lA4 (by kernel_rfl) (of_decide_eq_true (by kernel_rfl)) k0 bel bn) trodAll_mk0),rfl,Below.frame bel _,fun h=>by cases h⟩
theorem FnConsolePrefix_holds:Rows.FnConsolePrefixSaid:=
 OpenClaim.holds_of_wide 8 Tryz.f8 rfl rfl rfl rfl rfl rfl rfl ⟨rfl,rfl,rfl,rfl,rfl⟩ rfl rfl rfl rfl rfl (by kernel_rfl) func8 (by kernel_rfl)
  (of_decide_eq_true (by kernel_rfl)) (by unfold Func.isWrapper;first | (rw [if_pos (by decide +kernel)];kernel_rfl) | (rw [if_neg (by decide +kernel)];exact ⟨rfl,rfl⟩))
  (fun os started H enc _=>NM os started H enc)
end Go.Proofs.YtpihighajaeabaaGreat
