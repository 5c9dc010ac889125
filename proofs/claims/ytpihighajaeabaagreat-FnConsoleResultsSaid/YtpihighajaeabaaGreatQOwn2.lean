/- More words for owned memory. -/
import Derived.Test.YtpihighajaeabaaGreatProg
import Derived.Test.YtpihighajaeabaaGreatQOwn
import Derived.StillTailTactics
namespace Go.Proofs.YtpihighajaeabaaGreat
open Go.RowKit
set_option linter.unusedVariables false
theorem LJ {α:Type} {xs ys:List α} {k:Nat} {x y:α} (h:xs.take k=ys.take k) (hx:xs[k]? = some x) (hy:ys[k]? = some y) (e:x=y):xs.take (k+1)=ys.take (k+1):=by
 rw [List.take_add_one,List.take_add_one,h,hx,hy,e]
theorem EI {α:Type} {xs ys:List α} {k:Nat} (h:xs.take k=ys.take k) (hx:xs.length≤k) (hy:ys.length≤k):xs=ys:=by
 rwa [List.take_of_length_le hx,List.take_of_length_le hy] at h
theorem SK {α:Type} {xs ys:List α} {k:Nat} {x y:α} (hx:xs[k]? = some x) (hy:ys[k]? = some y) (e:x≠y):xs≠ys:=by
 rintro rfl;rw [hx] at hy;injection hy with hy;exact e hy
theorem rA {α:Type} {xs:List α} {k:Nat} (h:k<xs.length):∃x,xs[k]? = some x:=⟨_,List.getElem?_eq_getElem h⟩
theorem NB {α:Type} {xs:List α} {k:Nat} {x:α} (h:xs[k]? = some x):xs.drop k=x::xs.drop (k+1):=by
 obtain ⟨hk,rfl⟩:=List.getElem?_eq_some_iff.1 h;exact List.drop_eq_getElem_cons hk
theorem lD {P:Program} {f:FuncId} {args:Array Value} {w:World} {v v':Value} (h:Calls P f args w (Ret w v)) (e:v=v'):Calls P f args w (Ret w v'):=e▸h
set_option maxHeartbeats 400000 in
theorem iAr (w : World) (xs ys : List Int) (v1 v2 : Value) (h1 : Rd XA w xs [v1]) (h2 : Rd XA w ys [v2]) :
    Calls Tryz.prog 91 #[v1, v2] w (Ret w (.bool (decide (xs = ys)))) := by
  obtain ⟨A1, n1, c1, rfl, a1, a2, a3⟩ := iA h1
  obtain ⟨A2, n2, c2, rfl, b1, b2, b3⟩ := iA h2
  unfold maxLen at a3 b3
  have L1 := Lib.hid a1
  have L2 := Lib.hid b1
  clear a1 b1
  by_cases hl : n1 = n2
  · subst hl
    go_enter Tryz.func91, Tryz.ntmps91
    go_wp2
    go_loopw [5] (fun i w' => ∃ k : Nat, k ≤ n1 ∧ i = .int .i64 k ∧ xs.take k = ys.take k ∧ Bw w w') (fun i _ => n1 - (intOf i).toNat)
    case atStart => exact ⟨0, by omega, rfl, by simp, Bw.refl _⟩
    case round =>
      obtain ⟨k, hk, rfl, he, hb⟩ := hrel
      have HE := Lib.hid he
      clear he
      by_cases hlt : k < n1
      · obtain ⟨x, hx⟩ := rA (xs := xs) (k := k) (by rw [← L1.out]; exact hlt)
        obtain ⟨y, hy⟩ := rA (xs := ys) (k := k) (by rw [← L2.out]; exact hlt)
        obtain ⟨ba, oa, rfl, _, hcx⟩ := GB (h1.bw dA hb) hx
        obtain ⟨bb, ob, rfl, _, hcy⟩ := GB (h2.bw dA hb) hy
        have HX := Lib.hid hx
        have HY := Lib.hid hy
        clear hx hy h1 h2
        go_wp2
        go_quiet (fail)
        go_wp2
        · have hne : (x != y) = true := by assumption
          go_ret
          exact Ret.bool (by simpa using SK HX.out HY.out (by simpa using hne)) (hb.drewN _)
        · have hne : x = y := by first | assumption | (have : (x != y) = false := by assumption
                                                       simpa using this)
          go_roundw
          case rel => exact ⟨k + 1, by omega, by go_num, LJ HE.out HX.out HY.out hne, hb.drewN _⟩
          case measure => simp [intOf]; omega
      · go_wp2
        go_ret
        exact Ret.bool (by simpa using EI HE.out (by rw [← L1.out]; omega) (by rw [← L2.out]; omega)) hb
  · go_enter Tryz.func91, Tryz.ntmps91
    go_wp2
    go_ret
    exact Ret.bool (by simp; intro e; exact hl (by rw [L1.out, L2.out, e])) (Bw.refl _)
set_option maxHeartbeats 400000 in
theorem jF (w : World) (xs ys : List Int) (v1 v2 : Value) (h1 : Rd XA w xs [v1]) (h2 : Rd XA w ys [v2]) :
    Calls Tryz.prog 93 #[v1, v2] w (Ret w (.bool (decide (xs = ys)))) := by
  obtain ⟨A1, n1, c1, rfl, a1, a2, a3⟩ := iA h1
  obtain ⟨A2, n2, c2, rfl, b1, b2, b3⟩ := iA h2
  unfold maxLen at a3 b3
  have L1 := Lib.hid a1
  have L2 := Lib.hid b1
  clear a1 b1
  by_cases hl : n1 = n2
  · subst hl
    go_enter Tryz.func93, Tryz.ntmps93
    go_wp2
    go_loopw [13] (fun i w' => ∃ k : Nat, k ≤ n1 ∧ i = .int .i64 k ∧ xs.take k = ys.take k ∧ Bw w w') (fun i _ => n1 - (intOf i).toNat)
    case atStart => exact ⟨0, by omega, rfl, by simp, Bw.refl _⟩
    case round =>
      obtain ⟨k, hk, rfl, he, hb⟩ := hrel
      have HE := Lib.hid he
      clear he
      by_cases hlt : k < n1
      · obtain ⟨x, hx⟩ := rA (xs := xs) (k := k) (by rw [← L1.out]; exact hlt)
        obtain ⟨y, hy⟩ := rA (xs := ys) (k := k) (by rw [← L2.out]; exact hlt)
        obtain ⟨ba, oa, rfl, _, hcx⟩ := GB (h1.bw dA hb) hx
        obtain ⟨bb, ob, rfl, _, hcy⟩ := GB (h2.bw dA hb) hy
        have HX := Lib.hid hx
        have HY := Lib.hid hy
        clear hx hy h1 h2
        go_wp2
        go_quiet (fail)
        go_wp2
        · have hne : (x != y) = true := by assumption
          go_ret
          exact Ret.bool (by simpa using SK HX.out HY.out (by simpa using hne)) (hb.drewN _)
        · have hne : x = y := by first | assumption | (have : (x != y) = false := by assumption
                                                       simpa using this)
          go_roundw
          case rel => exact ⟨k + 1, by omega, by go_num, LJ HE.out HX.out HY.out hne, hb.drewN _⟩
          case measure => simp [intOf]; omega
      · go_wp2
        go_ret
        exact Ret.bool (by simpa using EI HE.out (by rw [← L1.out]; omega) (by rw [← L2.out]; omega)) hb
  · go_enter Tryz.func93, Tryz.ntmps93
    go_wp2
    go_ret
    exact Ret.bool (by simp; intro e; exact hl (by rw [L1.out, L2.out, e])) (Bw.refl _)
theorem PC:(Tryz.prog.info? 3).map (fun i=>(i.zero,i.size,i.bytes))=some (some (.int .i64 0),1,8):=by kernel_rfl
abbrev ZA:Fp (List Int):=fSl 3 1 RG
theorem aA {B:Nat}:VB B ZA:=xB nB
theorem FI {B:Nat} {w:World} {xs:List Int} {cs:List Value} {F:List Nat} (h:ZA w xs cs F):XA w (fun b=>b∈F∨b<B) xs cs:=DI PT (fun _ _ _ h=>gAr h) h
theorem AA {w:World} {xs:List Int} {cs:List Value} {F:List Nat} (h:ZA w xs cs F):Rd XA w xs cs:=Rd.of dA (B:=0) (FI h) ((aA (B:=0)).lt h) (Nat.zero_le _)
def pF {α:Type} (f:Fp α) (B:Nat) (x:α) (w:World) (v:Value):Prop:=∃F,f w x [v] F∧pA B F
end Go.Proofs.YtpihighajaeabaaGreat
namespace Go.Proofs.YtpihighajaeabaaGreat
open Go.RowKit
set_option linter.unusedVariables false
abbrev XF:Fp (List lB):=fSl 214 2 QQ
theorem zA {B:Nat}:VB B XF:=xB UE
theorem ST {B:Nat} {w:World} {xs:List lB} {cs:List Value} {F:List Nat} (h:XF w xs cs F):RB w (fun b=>b∈F∨b<B) xs cs:=DI PQ (fun _ _ _ h=>eAi h) h
theorem TC {w:World} {xs:List lB} {cs:List Value} {F:List Nat} (h:XF w xs cs F):Rd RB w xs cs:=Rd.of DA (B:=0) (ST h) ((zA (B:=0)).lt h) (Nat.zero_le _)
set_option maxHeartbeats 400000 in
theorem gAo (w:World) (xs ys:List lB) (v1 v2:Value) (h1:Rd RB w xs [v1]) (h2:Rd RB w ys [v2]) :
  Calls Tryz.prog 230 #[v1,v2] w (Ret w (.bool (decide (xs=ys)))):=by
 obtain ⟨A1,n1,c1,rfl,a1,a2,a3⟩:=iA h1;obtain ⟨A2,n2,c2,rfl,b1,b2,b3⟩:=iA h2;unfold maxLen at a3 b3;have L1:=Lib.hid a1;have L2:=Lib.hid b1;clear a1 b1;by_cases hl:n1=n2
 ·subst hl;go_enter Tryz.func230,Tryz.ntmps230;go_wp2
  go_loopw [5] (fun i w'=>∃k:Nat,k≤n1∧i=.int .i64 k∧xs.take k=ys.take k∧Bw w w') (fun i _=>n1-(intOf i).toNat)
  case atStart=>exact ⟨0,by omega,rfl,by simp,Bw.refl _⟩
  case round=>
   obtain ⟨k,hk,rfl,he,hb⟩:=hrel;have HE:=Lib.hid he;clear he;by_cases hlt:k<n1
   ·obtain ⟨x,hx⟩:=rA (xs:=xs) (k:=k) (by rw [← L1.out];exact hlt);obtain ⟨y,hy⟩:=rA (xs:=ys) (k:=k) (by rw [← L2.out];exact hlt);obtain ⟨ba,oa,rfl,_,hcx,hcx'⟩:=YE (h1.bw DA hb) hx;obtain ⟨bb,ob,rfl,_,hcy,hcy'⟩:=YE (h2.bw DA hb) hy;have HX:=Lib.hid hx;have HY:=Lib.hid hy;clear hx hy h1 h2;by_cases hxy:x=y
    ·subst hxy;go_wp2
     go_quiet (fail)
     go_wp2
     go_roundw
     case rel=>exact ⟨k+1,by omega,by go_num,LJ HE.out HX.out HY.out rfl,hb.drewN _⟩
     case measure=>simp [intOf];omega
    ·have HN:=Lib.hid hxy;have hxy':¬(x.fst=y.fst∧x.snd=y.snd):=fun h=>hxy ((lB.eq_iff x y).2 h)
     have fin:∀W,Bw w W→Ret w (.bool (decide (xs=ys))) (.returned (.bool false)) W:=fun W hW=>Ret.bool (by simpa using SK HX.out HY.out hxy) hW
     clear hxy;by_cases h1:x.fst=y.fst
     ·have h2:¬x.snd=y.snd:=fun h=>hxy' ⟨h1,h⟩
      clear hxy';go_wp2
      go_quiet (fail)
      go_wp2;go_ret;exact fin _ (hb.drewN _)
     ·clear hxy';go_wp2
      go_quiet (fail)
      go_wp2;go_ret;exact fin _ (hb.drewN _)
   ·go_wp2;go_ret;exact Ret.bool (by simpa using EI HE.out (by rw [← L1.out];omega) (by rw [← L2.out];omega)) hb
 ·go_enter Tryz.func230,Tryz.ntmps230;go_wp2;go_ret;exact Ret.bool (by simp;intro e;exact hl (by rw [L1.out,L2.out,e])) (Bw.refl _)
set_option maxHeartbeats 400000 in
theorem QM (w:World) (xs ys:List lB) (v1 v2:Value) (h1:Rd RB w xs [v1]) (h2:Rd RB w ys [v2]) :
  Calls Tryz.prog 238 #[v1,v2] w (Ret w (.bool (decide (xs=ys)))):=by
 obtain ⟨A1,n1,c1,rfl,a1,a2,a3⟩:=iA h1;obtain ⟨A2,n2,c2,rfl,b1,b2,b3⟩:=iA h2;unfold maxLen at a3 b3;have L1:=Lib.hid a1;have L2:=Lib.hid b1;clear a1 b1;by_cases hl:n1=n2
 ·subst hl;go_enter Tryz.func238,Tryz.ntmps238;go_wp2
  go_loopw [13] (fun i w'=>∃k:Nat,k≤n1∧i=.int .i64 k∧xs.take k=ys.take k∧Bw w w') (fun i _=>n1-(intOf i).toNat)
  case atStart=>exact ⟨0,by omega,rfl,by simp,Bw.refl _⟩
  case round=>
   obtain ⟨k,hk,rfl,he,hb⟩:=hrel;have HE:=Lib.hid he;clear he;by_cases hlt:k<n1
   ·obtain ⟨x,hx⟩:=rA (xs:=xs) (k:=k) (by rw [← L1.out];exact hlt);obtain ⟨y,hy⟩:=rA (xs:=ys) (k:=k) (by rw [← L2.out];exact hlt);obtain ⟨ba,oa,rfl,_,hcx,hcx'⟩:=YE (h1.bw DA hb) hx;obtain ⟨bb,ob,rfl,_,hcy,hcy'⟩:=YE (h2.bw DA hb) hy;have HX:=Lib.hid hx;have HY:=Lib.hid hy;clear hx hy h1 h2;by_cases hxy:x=y
    ·subst hxy;go_wp2
     go_quiet (fail)
     go_wp2
     go_roundw
     case rel=>exact ⟨k+1,by omega,by go_num,LJ HE.out HX.out HY.out rfl,hb.drewN _⟩
     case measure=>simp [intOf];omega
    ·have HN:=Lib.hid hxy;have hxy':¬(x.fst=y.fst∧x.snd=y.snd):=fun h=>hxy ((lB.eq_iff x y).2 h)
     have fin:∀W,Bw w W→Ret w (.bool (decide (xs=ys))) (.returned (.bool false)) W:=fun W hW=>Ret.bool (by simpa using SK HX.out HY.out hxy) hW
     clear hxy;by_cases h1:x.fst=y.fst
     ·have h2:¬x.snd=y.snd:=fun h=>hxy' ⟨h1,h⟩
      clear hxy';go_wp2
      go_quiet (fail)
      go_wp2;go_ret;exact fin _ (hb.drewN _)
     ·clear hxy';go_wp2
      go_quiet (fail)
      go_wp2;go_ret;exact fin _ (hb.drewN _)
   ·go_wp2;go_ret;exact Ret.bool (by simpa using EI HE.out (by rw [← L1.out];omega) (by rw [← L2.out];omega)) hb
 ·go_enter Tryz.func238,Tryz.ntmps238;go_wp2;go_ret;exact Ret.bool (by simp;intro e;exact hl (by rw [L1.out,L2.out,e])) (Bw.refl _)
end Go.Proofs.YtpihighajaeabaaGreat
namespace Go.Proofs.YtpihighajaeabaaGreat
open Go.RowKit
set_option linter.unusedVariables false
theorem rG {W w1:World} (hb:Bw W w1):∀b o,b<W.heap.size→w1.cell? ⟨b,o,none⟩=W.cell? ⟨b,o,none⟩:=fun b o h=>Below.cell (p:=⟨b,o,none⟩) hb h
theorem kC {W w1:World} (hb:Bw W w1):∀b o,b<W.heap.size→w1.frozen? ⟨b,o,none⟩=W.frozen? ⟨b,o,none⟩:=fun b o h=>Below.frozen (p:=⟨b,o,none⟩) hb h
def inB (x lo hi:Int):Bool:=decide (lo≤x∧x≤hi)
def LA (x:gA):Bool:=inB x.id 0 99 && (decide (x.vals.length=3) && x.vals.all fun v=>inB v 0 9)
def LO (l:List Int):Bool:=l.all fun v=>inB v 0 9
theorem JC (w:World) (x lo hi:Int):Calls Tryz.prog 94 #[.int .i64 x,.int .i64 lo,.int .i64 hi] w (Ret w (.bool (inB x lo hi))):=by
 by_cases h1:lo≤x<;>by_cases h2:x≤hi
 all_goals
  go_enter Tryz.func94,Tryz.ntmps94;go_wp2;go_ret;exact Ret.bool (by simp [inB,h1,h2]) (Bw.refl _)
theorem GI (w:World) (x lo hi:Int):Calls Tryz.prog 103 #[.int .i64 x,.int .i64 lo,.int .i64 hi] w (Ret w (.bool (inB x lo hi))):=by
 by_cases h1:lo≤x<;>by_cases h2:x≤hi
 all_goals
  go_enter Tryz.func103,Tryz.ntmps103;go_wp2;go_ret;exact Ret.bool (by simp [inB,h1,h2]) (Bw.refl _)
theorem MW {α:Type} {xs:List α} {k:Nat} {x:α} (hx:xs[k]? = some x) (f:α→Bool):(xs.drop k).all f=(f x && (xs.drop (k+1)).all f):=by
 rw [NB hx,List.all_cons]
set_option maxHeartbeats 400000 in
theorem NW (w:World) (xs:List Int) (v:Value) (h:Rd XA w xs [v]):Calls Tryz.prog 157 #[v] w (Ret w (.bool (LO xs))):=by
 obtain ⟨A,n,c,rfl,a1,a2,a3⟩:=iA h;unfold maxLen at a3;have L1:=Lib.hid a1;clear a1;go_enter Tryz.func157,Tryz.ntmps157;go_wp2
 go_loopw [7] (fun i w'=>∃k:Nat,k≤n∧i=.int .i64 k∧Hid (LO xs=(xs.drop k).all fun v=>inB v 0 9)∧Bw w w') (fun i _=>n-(intOf i).toNat)
 case atStart=>exact ⟨0,by omega,rfl,rfl,Bw.refl _⟩
 case round=>
  obtain ⟨k,hk,rfl,HE,hb⟩:=hrel;by_cases hlt:k<n
  ·obtain ⟨x,hx⟩:=rA (xs:=xs) (k:=k) (by rw [← L1.out];exact hlt);obtain ⟨ba,oa,rfl,_,hcx⟩:=GB (h.bw dA hb) hx;have HS:=Lib.hid (MW hx (fun v=>inB v 0 9));clear hx h;go_wp2_with fail;refine (JC _ _ _ _).mono ?_;rintro e w2 ⟨rfl,hb2⟩;have hbb:=hb.then hb2;by_cases hi:inB x 0 9=true
   ·go_wp2
    go_roundw
    case rel=>exact ⟨k+1,by omega,by go_num,by show _=_;rw [HE.out,HS.out];simp [hi],hbb⟩
    case measure=>simp [intOf];omega
   ·have hi':inB x 0 9=false:=by simpa using hi
    clear hi;go_wp2;go_ret;exact Ret.bool (by rw [HE.out,HS.out];simp [hi']) hbb
  ·go_wp2;go_ret;exact Ret.bool (by rw [HE.out,List.drop_of_length_le (by rw [← L1.out];omega)];simp) hb
set_option maxHeartbeats 400000 in
theorem IE (w:World) (x:gA) (v:Value) (h:Rd XA w x.vals [v]):Calls Tryz.prog 76 #[.agg #[.int .i64 x.id,v]] w (Ret w (.bool (LA x))):=by
 obtain ⟨A,n,c,rfl,a1,a2,a3⟩:=iA h;unfold maxLen at a3;have L1:=Lib.hid a1;clear a1;go_enter Tryz.func76,Tryz.ntmps76;go_wp2_with fail;refine (JC _ _ _ _).mono ?_;rintro e w2 ⟨rfl,hb2⟩;have B2:=((Bw.refl w).alloc _).then hb2;have hc:=rG hb2;by_cases h1:inB x.id 0 99=true
 ·by_cases h2:n=3
  ·have h3:((n:Int)==3)=true:=by simp [h2]
   have H2:=Lib.hid h2;clear h2;go_wp2_with fail;refine (NW _ x.vals _ (h.bw dA B2)).mono ?_;rintro e w3 ⟨rfl,hb3⟩;go_wp2;go_ret;exact Ret.bool (by have e1:=L1.out;have e2:=H2.out;rw [e2] at e1;simp [LA,LO,h1,← e1]) (B2.then hb3)
  ·have h3:((n:Int)==3)=false:=by simp;omega
   go_wp2;go_ret;exact Ret.bool (by have e1:=L1.out;rw [e1] at h2;simp [LA,h1,h2]) B2
 ·have h1':inB x.id 0 99=false:=by simpa using h1
  clear h1;go_wp2;go_ret;exact Ret.bool (by simp [LA,h1']) B2
set_option maxHeartbeats 400000 in
theorem MH (w:World) (x:gA) (v:Value) (h:Rd XA w x.vals [v]):Calls Tryz.prog 84 #[.agg #[.int .i64 x.id,v]] w (Ret w (.bool (LA x))):=by
 obtain ⟨A,n,c,rfl,a1,a2,a3⟩:=iA h;unfold maxLen at a3;have L1:=Lib.hid a1;clear a1;go_enter Tryz.func84,Tryz.ntmps84;go_wp2
 go_loopw [3] (fun i w'=>∃k:Nat,k≤n∧i=.int .i64 k∧Hid ((x.vals.all fun v=>inB v 0 9)=(x.vals.drop k).all fun v=>inB v 0 9)∧Bw (w.alloc (.cells #[.int .i64 x.id,.slice A n c] 30)) w') (fun i _=>n-(intOf i).toNat)
 case atStart=>exact ⟨0,by omega,rfl,rfl,Bw.refl _⟩
 case round=>
  obtain ⟨k,hk,rfl,HE,hb⟩:=hrel;have hc:=rG hb;have B1:=((Bw.refl w).alloc _).then hb;by_cases hlt:k<n
  ·obtain ⟨y,hx⟩:=rA (xs:=x.vals) (k:=k) (by rw [← L1.out];exact hlt);obtain ⟨ba,oa,rfl,_,hcx⟩:=GB (h.bw dA B1) hx;have HS:=Lib.hid (MW hx (fun v=>inB v 0 9));clear hx h;go_wp2_with fail;refine (GI _ _ _ _).mono ?_;rintro e w2 ⟨rfl,hb2⟩;have hbb:=hb.then hb2;clear hc;by_cases hi:inB y 0 9=true
   ·go_wp2
    go_roundw
    case rel=>exact ⟨k+1,by omega,by go_num,by show _=_;rw [HE.out,HS.out];simp [hi],hbb⟩
    case measure=>simp [intOf];omega
   ·have hi':inB y 0 9=false:=by simpa using hi
    clear hi;go_wp2;go_ret;exact Ret.bool (by rw [LA,HE.out,HS.out];simp [hi']) (B1.then hb2)
  ·have HA:Hid ((x.vals.all fun v=>inB v 0 9)=true):=by
    show _=_
    rw [HE.out,List.drop_of_length_le (by rw [← L1.out];omega)];rfl
   go_wp2_with fail;refine (GI _ _ _ _).mono ?_;rintro e w2 ⟨rfl,hb2⟩;have hc2:=rG (hb.then hb2);clear hc;by_cases h1:inB x.id 0 99=true
   ·by_cases h2:n=3
    ·have h3:((n:Int)==3)=true:=by simp [h2]
     have H2:=Lib.hid h2;clear h2;go_wp2;go_ret;exact Ret.bool (by have e1:=L1.out;have e2:=H2.out;rw [e2] at e1;simp [LA,HA.out,h1,← e1]) (B1.then hb2)
    ·have h3:((n:Int)==3)=false:=by simp;omega
     go_wp2;go_ret;exact Ret.bool (by have e1:=L1.out;rw [e1] at h2;simp [LA,h1,h2]) (B1.then hb2)
   ·have h1':inB x.id 0 99=false:=by simpa using h1
    clear h1;go_wp2;go_ret;exact Ret.bool (by simp [LA,h1']) (B1.then hb2)
theorem ZE:(Tryz.prog.info? 30).map (fun i=>(i.zero,i.size,i.bytes))=some (some (.agg #[.int .i64 0,.slice none 0 0]),2,32):=by kernel_rfl
def BG:Fp gA:=fun w x cs F=>∃v,cs=[.int .i64 x.id,v]∧ZA w x.vals [v] F
theorem YB {B:Nat}:VB B BG:=
 ⟨fun hw ⟨v,e,h⟩=>⟨v,e,aA.step hw h⟩,fun ⟨v,e,h⟩=>(aA (B:=B)).lt h,fun ⟨v,e,h⟩ u hu=>by
  rw [e] at hu;simp at hu;rcases hu with rfl | rfl
  ·rfl
  ·exact (aA (B:=B)).one h _ (by simp)⟩
theorem eAk {B:Nat} {w:World} {x:gA} {cs:List Value} {F:List Nat} (h:BG w x cs F):eF w (fun b=>b∈F∨b<B) x cs:=by
 obtain ⟨v,e,h⟩:=h;exact ⟨v,e,FI h⟩
abbrev fD:Fp (List gA):=fSl 30 2 BG
theorem yA {B:Nat}:VB B fD:=xB YB
theorem SL {B:Nat} {w:World} {xs:List gA} {cs:List Value} {F:List Nat} (h:fD w xs cs F):MA w (fun b=>b∈F∨b<B) xs cs:=DI UB (fun _ _ _ h=>eAk h) h
theorem vC {w:World} {xs:List gA} {cs:List Value} {F:List Nat} (h:fD w xs cs F):Rd MA w xs cs:=Rd.of jA (B:=0) (SL h) ((yA (B:=0)).lt h) (Nat.zero_le _)
def bAc (w:World) (x:gA) (e:Ending) (w':World):Prop:=∃v,e=.returned (.agg #[.int .i64 x.id,v])∧pF ZA w.heap.size x.vals w' v∧Bw w w'
theorem VB.bw {α:Type} {f:Fp α} {B:Nat} (hg:VB B f) {w w':World} (hb:Bw w w') (hB:B≤w.heap.size) {x:α} {cs:List Value} {F:List Nat} (h:f w x cs F):f w' x cs F:=
 hg.step (fun b hbF=>Below.block hb b (hbF.elim (hg.lt h b) (fun h=>Nat.lt_of_lt_of_le h hB))) h
def NH {α:Type} (f:α→Nat):List α→Nat
 | []=>0
 | x::xs=>f x+NH f xs
theorem jV {α:Type} (f:α→Nat):∀ {xs:List α} {x:α},x∈xs→f x≤NH f xs
 | y::ys,x,h=>by
  rcases List.mem_cons.1 h with rfl | h
  ·simp only [NH];omega
  ·have:=jV f h;simp only [NH];omega
theorem cA2 {α:Type} (f:α→Nat) {xs:List α} {k:Nat} {x:α} (h:xs[k]? = some x):NH f (xs.drop k)=f x+NH f (xs.drop (k+1)):=by rw [NB h,NH]
def eC (xs:List gA):Nat:=xs.length+NH (fun x=>x.vals.length) xs
end Go.Proofs.YtpihighajaeabaaGreat
namespace Go.Proofs.YtpihighajaeabaaGreat
open Go.RowKit
set_option linter.unusedVariables false
theorem BN {α:Type} {e:TypeId} {sz:Nat} {R:Fp α} {w:World} {v:Value} {xs:List α} {F:List Nat} (h:fSl e sz R w xs [v] F) (hne:0<xs.length):∃g c,v=.slice (some ⟨g,0,none⟩) xs.length c∧xs.length≤c∧c≤maxLen∧g∈F:=by
 obtain ⟨v',us,Fs,hv,hown,_,hF⟩:=h;injection hv with hv;subst hv;rcases hown.2 with ⟨_,h0⟩ | ⟨g,cap,cur,rfl,_,_,hc,hm,_⟩
 ·omega
 ·exact ⟨g,cap,rfl,hc,hm,by rw [hF];simp [Value.ownBlock]⟩
theorem PA {α:Type} {e:TypeId} {sz:Nat} {R:Fp α} (w:World):fSl e sz R (w.alloc (.cells #[] e)) [] [.slice (some ⟨w.heap.size,0,none⟩) 0 0] [w.heap.size]:=by
 refine ⟨_,[],[],rfl,?_,trivial,by simp [Value.ownBlock]⟩;exact World.ownsRow_made w #[] 0 (Nat.zero_le _) (Nat.zero_le _) (by simp)
theorem VG {α:Type} {e:TypeId} {sz:Nat} {R:Fp α} {w:World} {v:Value} {xs:List α} {F:List Nat} (h:fSl e sz R w xs [v] F) (hne:0<xs.length):∃g L c,v=.slice (some ⟨g,0,none⟩) L c∧Hid (xs.length=L)∧L≤c∧c≤maxLen∧0<L:=by
 obtain ⟨g,c,e,h1,h2,_⟩:=BN h hne;exact ⟨g,xs.length,c,e,rfl,h1,h2,hne⟩
end Go.Proofs.YtpihighajaeabaaGreat
