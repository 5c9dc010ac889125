/- Pairs as text, in both programs. -/
import Derived.Test.YtpihighajaeabaaGreatXCodes
import Derived.Test.YtpihighajaeabaaGreatXLines3
import Derived.Test.YtpihighajaeabaaGreatXArePairs
import Derived.Test.YtpihighajaeabaaGreatXArePairsS
import Derived.Test.YtpihighajaeabaaGreatXIntss
namespace Go.Proofs.YtpihighajaeabaaGreat
open Go.RowKit Go.Proofs.Tryz
set_option linter.all false
set_option maxRecDepth 100000
set_option maxHeartbeats 16000000
def WE (p:EB):ByteArray:=QA p.fst++⟨#[62]⟩++QA p.snd
def SC (l:List EB):List ByteArray:=l.map WE
def UB (l:List EB):ByteArray:=if ZB l then (if l=[] then ⟨#[110,111,110,101]⟩ else dF (SC l) ⟨#[44]⟩) else ⟨#[]⟩
theorem kN (a b c:ByteArray):a++b++c=a++(b++c):=by
 apply ByteArray.ext;simp [ByteArray.data_append,Array.append_assoc]
theorem bH {n:Int} (h:0<=n/\n<=9):(Lit.int .i64 n).wf=true:=bC (by omega)
theorem aP {p:EB} (h:(0<=p.fst/\p.fst<=9)/\0<=p.snd/\p.snd<=9):1<=(WE p).size/\(WE p).size<=41:=by
 unfold WE;rw [lA,lA];have h1:=mB (bH h.1);have h2:=mB (bH h.2);have e:(⟨#[62]⟩:ByteArray).size=1:=rfl;omega
theorem WX {l:List EB} {k:Nat} {x:EB} (h:l[k]? = some x):SC (l.take (k+1))=SC (l.take k)++[WE x]:=by
 unfold SC;rw [List.take_add_one,h];simp
theorem lN:∀ {l:List EB},(∀p∈l,(0<=p.fst/\p.fst<=9)/\0<=p.snd/\p.snd<=9)->wE ⟨#[44]⟩ (SC l)<=42*l.length
 | [],_=>by simp [SC,wE,JH]
 | p::l,h=>by
  have h1:=(aP (h p (by simp))).2;have h2:=lN (l:=l) (fun q hq=>h q (by simp [hq]));have e:wE ⟨#[44]⟩ (SC (p::l))=(WE p).size+1+wE ⟨#[44]⟩ (SC l):=rfl;rw [e,List.length_cons];omega
theorem mN (l:List EB):(UB l).size<=400:=by
 unfold UB
 split
 ·rename_i h
  split
  ·show 4<=400;omega
  ·have h1:=bM ⟨#[44]⟩ (SC l) 0 ⟨#[]⟩;have h2:=lN (fun p hp=>bI (dI h) hp);have h3:=WJ h;have e0:(⟨#[]⟩:ByteArray).size=0:=rfl;unfold dF;omega
 ·show 0<=400;omega
theorem iAx {x y:Int} (hx:0<=x/\x<=9) (hy:0<=y/\y<=9) :
  (∀W,(Op.stringOp .add (QA x) ⟨#[62]⟩).run prog W=.ok (.string (QA x++⟨#[62]⟩)) W) /\
  (∀W,(Op.stringOp .add (QA x++⟨#[62]⟩) (QA y)).run prog W=.ok (.string (QA x++⟨#[62]⟩++QA y)) W):=by
 have h1:=(mB (bH hx)).2;have h2:=(mB (bH hy)).2;have e:(⟨#[62]⟩:ByteArray).size=1:=rfl;exact ⟨fun W=>run_string_add_sum W _ _ (by omega),fun W=>run_string_add_sum W _ _ (by rw [lA];omega)⟩
theorem RG {a b:ByteArray} (h:a.size+b.size<=100000):∀W,(Op.stringOp .add a b).run prog W=.ok (.string (a++b)) W:=fun W=>run_string_add_sum W _ _ (by omega)
theorem pL (w:World) (l:List EB) (v:Value) (h:Rd MC w l [v]):Calls prog 239 #[v] w (Ret w (.string (UB l))):=by
 obtain ⟨i0,hi,cm,cn,cp⟩:=info_parts wK;obtain ⟨T,hT⟩:=pA7 (UB l);rw [<-hT];have HT:=pA6 hT;clear hT;obtain ⟨A,n,c,rfl,L,Lc,Lm⟩:=yA h;go_enter func239,ntmps239;go_wp2_with fail;refine (rV _ l _ h).mono ?_;rintro e w1 ⟨rfl,bd⟩;rcases pA8 (ZB l) with e1 | e1
 ·have E1:=pA6 e1;rw [e1];clear e1;by_cases hn:n=0
  ·have HF:=pA6 (show T=⟨#[110,111,110,101]⟩ by rw [HT.out,UB,if_pos E1.out,if_pos (List.eq_nil_of_length_eq_zero (by rw [<-L.out];exact hn))]);subst hn;go_wp2;go_ret;exact Ret.str (by rw [HF.out]) (bd)
  ·have e0:((n:Int)==0)=false:=by rw [beq_eq_false_iff_ne];omega
   have n8:n<=8:=by rw [L.out];exact WJ E1.out
   have HM:=pA6 (fun p (hp:p∈l)=>bI (dI E1.out) hp);have HF:=pA6 (show T=dF (SC l) ⟨#[44]⟩ by rw [HT.out,UB,if_pos E1.out,if_neg (fun hh=>hn (by rw [L.out,hh];rfl))]);have bs:=MA (e:=9) (sz:=1) (R:=RX) w1;have hs:=bd.size;have bn:=bd.alloc (.cells #[] 9);have HH:=pA6 h;clear hn HT h;go_wp2
   go_loopg [3,15] n (fun g s i w'=>∃(k:Nat) (F:List Nat),k<=n/\g=n-k/\i=.int .i64 k/\RJ w' (SC (l.take k)) [s] F/\sA w.heap.size F/\Bw w w')
   ·exact ⟨0,_,by omega,rfl,rfl,bs,⟨by simp,by simpa using hs⟩,bn⟩
   ·clear bs bn;obtain ⟨k,F,hk,rfl,rfl,hv,hF,hb⟩:=hrel;have h:=HH.out;by_cases hlt:k<n
    ·obtain ⟨p,hx⟩:=tA (xs:=l) (k:=k) (by have:=L.out;omega);obtain ⟨ba,oa,rfl,_,d0,d1⟩:=FG h hx;replace d0:=hb.cell d0;replace d1:=hb.cell d1;have i1:(0:Int)<=(k:Int):=by omega
     have i2:(k:Int)<(n:Int):=by omega
     obtain ⟨m1,m2⟩:=HM.out p (List.mem_of_getElem? hx);have HS:=pA6 (WX hx);have bb:=pA6 (show (SC (l.take k)).length<=8 by unfold SC;rw [List.length_map,List.length_take];omega);obtain ⟨x,bk⟩:=pA7 p.fst;obtain ⟨y,bm⟩:=pA7 p.snd;rw [<-bk] at m1 d0;rw [<-bm] at m2 d1;obtain ⟨a1,a2⟩:=iAx m1 m2;have c1:=fun W=>dD W x (bH m1)
     have c2:=fun W=>dD W y (bH m2)
     obtain ⟨P,hP⟩:=pA7 (QA x);obtain ⟨Q,hQ⟩:=pA7 (QA y);have bv:=pA6 (show WE p=P++⟨#[62]⟩++Q by rw [hP,hQ,bk,bm];rfl);simp only [<-hP] at c1;simp only [<-hQ] at c2;rw [<-hP] at a1 a2;rw [<-hQ] at a2;have C1:=pA6 c1;have C2:=pA6 c2;obtain ⟨W,hW⟩:=pA7 (wr.alloc (.cells #[.int .i64 x,.int .i64 y] 214));have D1:Bw wr W.drew:=by rw [hW];exact ((Bw.refl wr).alloc _).drew
     have q0:W.drew.cell? ⟨wr.heap.size,0,none⟩=some (.int .i64 x):=by rw [hW];go_simp
     have q1:W.drew.cell? ⟨wr.heap.size,1,none⟩=some (.int .i64 y):=by rw [hW];go_simp
     have HW:=pA6 hW;have bf:=(iB (B:=0)).lt hv;have bp:wr.heap.size∉F:=fun e=>by have:=bf _ e;omega
     have bt:=(iB (B:=w.heap.size)).bw D1 hb.size hv;have bj:=hb.then D1;have hB:=Bw.refl W.drew;clear hx m1 m2 bk bm hP hQ c1 c2 hW hv h;go_wp2_with fail;rw [<-HW.out]
     go_region_held3 (fun w'=>w'.cell? ⟨wr.heap.size,0,none⟩=some (.int .i64 x)/\w'.cell? ⟨wr.heap.size,1,none⟩=some (.int .i64 y)) (first | exact ⟨q0,q1⟩ | exact ⟨hB.cell q0,hB.cell q1⟩ | exact ⟨(hB.then ((Bw.refl _).alloc _)).cell q0,(hB.then ((Bw.refl _).alloc _)).cell q1⟩ | exact ⟨n0,n1⟩)
      (first
       | (go_at_call_of 125 (Value.int IntKind.i64 x);refine (C1.out _).mono ?_;rintro e' w5 ⟨rfl,bg⟩;replace hB:=hB.then bg)
       | (go_at_call_of 125 (Value.int IntKind.i64 y);refine (C2.out _).mono ?_;rintro e' w5 ⟨rfl,bg⟩;replace hB:=hB.then bg)
       | (have hA:=(Bw.refl w5).alloc (.cells #[.string (P++⟨#[62]⟩++Q)] 9);have bc:=hB.then hA;have ck:=(iB (B:=w.heap.size)).bw bc bj.size bt;have bz:=(iB (B:=0)).lt bt;have cd:=bj.then bc;have cf:=cell_one_new w5 (.string (P++⟨#[62]⟩++Q)) 9;refine RE _ (by rfl) (.tmp 19) (.tmp 28) 58 (by rfl) w 9 i0 _ 1 16 underlying58 hi cm cn cp rfl (by omega) JE _ (SC (l.take k)) F (by rfl) ck hF ⟨w5.heap.size,0,none⟩ 1 (by rfl) (P++⟨#[62]⟩++Q) [.string (P++⟨#[62]⟩++Q)] [] cf ⟨rfl,rfl⟩ rfl W.drew.heap.size bz sA.nil bj.size (by have:=bb.out;omega) (by have:=bb.out;omega) cd ?_;intro v' w' F' cj bx cb bq hs';have n0:=bq.cell (bc.cell q0) bp;have n1:=bq.cell (bc.cell q1) bp)
       | fail)
     all_goals
      go_wp2
      go_roundg (n-(k+1))
      ·exact ⟨k+1,F',by omega,rfl,by go_num,by rw [HS.out,bv.out];exact cj,bx,cb⟩
      ·omega
    ·obtain rfl:k=n:=by omega
     rw [List.take_of_length_le (by rw [<-L.out];exact Nat.le_refl _)] at hv;have cg:=lN HM.out;rw [<-L.out] at cg;go_wp2_with fail;refine (TU _ (SC l) ⟨#[44]⟩ _ (DC hv) (by omega) (by show 1<=1024;omega)).mono ?_;rintro e w3 ⟨rfl,cc⟩;go_wp2;go_ret;exact Ret.str (by rw [HF.out]) (hb.then cc)
 ·have HF:=pA6 (show T=⟨#[]⟩ by rw [HT.out,UB,e1];rfl);rw [e1];clear e1;go_wp2;go_ret;exact Ret.str (by rw [HF.out]) (bd)
theorem bP (w:World) (l:List EB) (v:Value) (h:Rd MC w l [v]):Calls prog 196 #[v] w (Ret w (.string (UB l))):=by
 obtain ⟨T,hT⟩:=pA7 (UB l);rw [<-hT];have HT:=pA6 hT;clear hT;obtain ⟨A,n,c,rfl,L,Lc,Lm⟩:=yA h;go_enter func196,ntmps196;go_wp2_with fail;refine (oV _ l _ h).mono ?_;rintro e w1 ⟨rfl,bf⟩;rcases pA8 (ZB l) with e1 | e1
 ·have E1:=pA6 e1;rw [e1];clear e1;have n8:n<=8:=by rw [L.out];exact WJ E1.out
  have HM:=pA6 (fun p (hp:p∈l)=>bI (dI E1.out) hp);have HH:=pA6 h;clear h;go_wp2
  go_loopg [3,4] n (fun g s i w'=>∃(k:Nat) (acc:ByteArray),k<=n/\g=n-k/\i=.int .i64 k/\s=.string acc/\Hid (dF (SC l) ⟨#[44]⟩=gl ⟨#[44]⟩ k acc ((SC l).drop k))/\acc.size<=42*k/\(0<k->1<=acc.size)/\Bw w w')
  ·exact ⟨0,_,by omega,rfl,rfl,rfl,rfl,Nat.zero_le _,by omega,bf⟩
  ·clear bf;obtain ⟨k,acc,hk,rfl,rfl,rfl,HE,g1,g2,hb⟩:=hrel;have h:=HH.out;by_cases hlt:k<n
   ·obtain ⟨p,hx⟩:=tA (xs:=l) (k:=k) (by have:=L.out;omega);obtain ⟨ba,oa,rfl,_,d0,d1⟩:=FG h hx;replace d0:=hb.cell d0;replace d1:=hb.cell d1;have i1:(0:Int)<=(k:Int):=by omega
    have i2:(k:Int)<(n:Int):=by omega
    have bn:=HM.out p (List.mem_of_getElem? hx);have bp:=aP bn;obtain ⟨m1,m2⟩:=bn;have HS:=pA6 (SU (sep:=⟨#[44]⟩) (acc:=acc) (l:=SC l) (k:=k) (t:=WE p) (by unfold SC;rw [List.getElem?_map,hx];rfl));obtain ⟨x,bg⟩:=pA7 p.fst;obtain ⟨y,bj⟩:=pA7 p.snd;rw [<-bg] at m1 d0;rw [<-bj] at m2 d1;have z1:=(mB (bH m1)).2;have z2:=(mB (bH m2)).2;have c1:=fun W=>yC W x (bH m1)
    have c2:=fun W=>yC W y (bH m2)
    obtain ⟨P,hP⟩:=pA7 (QA x);obtain ⟨Q,hQ⟩:=pA7 (QA y);have bd:WE p=P++⟨#[62]⟩++Q:=by rw [hP,hQ,bg,bj];rfl
    have HPT:=pA6 bd;simp only [<-hP] at c1 z1;simp only [<-hQ] at c2 z2;have eg:(⟨#[62]⟩:ByteArray).size=1:=rfl;have ec:(⟨#[44]⟩:ByteArray).size=1:=rfl;obtain ⟨B,bc⟩:=pA7 ((if 0<k then acc++⟨#[44]⟩ else acc));have bq:B.size<=42*k+1:=by rw [bc];split;(rw [lA];omega);omega
    have b1:∀W,(Op.stringOp .add B P).run prog W=.ok (.string (B++P)) W:=RG (by omega);have b2:∀W,(Op.stringOp .add (B++P) ⟨#[62]⟩).run prog W=.ok (.string (B++P++⟨#[62]⟩)) W:=RG (by rw [lA];omega);have b3:∀W,(Op.stringOp .add (B++P++⟨#[62]⟩) Q).run prog W=.ok (.string (B++P++⟨#[62]⟩++Q)) W:=RG (by rw [lA,lA];omega);have b0:∀W,(Op.stringOp .add acc ⟨#[44]⟩).run prog W=.ok (.string (acc++⟨#[44]⟩)) W:=RG (by omega);have HN:=pA6 (show gl ⟨#[44]⟩ k acc ((SC l).drop k)=gl ⟨#[44]⟩ (k+1) (B++P++⟨#[62]⟩++Q) ((SC l).drop (k+1)) by
     have hq:∀X:ByteArray,X++(P++⟨#[62]⟩++Q)=X++P++⟨#[62]⟩++Q:=fun X=>by rw [kN X P,kN X (P++_)]
     rw [HS.out,bd,hq,bc])
    have bm:(B++P++⟨#[62]⟩++Q).size<=42*(k+1)/\1<=(B++P++⟨#[62]⟩++Q).size:=by
     rw [bd,lA,lA] at bp;rw [lA,lA,lA];omega
    have s0:=pA d0;have s1:=pA d1;have f1:∀s:eC wr,Calls prog 64 #[.int .i64 x] s.1 (Ret s.1 (.string P)):=fun s=>c1 s.1
    have f2:∀s:eC wr,Calls prog 64 #[.int .i64 y] s.1 (Ret s.1 (.string Q)):=fun s=>c2 s.1
    have bk:=bm;clear hx m1 m2 bg bj hP hQ c1 c2 bp bd z1 z2 eg ec bq g1 g2 HS bm;by_cases hk0:0<k;rotate_left
    focus
     have k0:¬(0:Int)<(k:Int):=by omega
     rw [if_neg hk0] at bc
    rotate_right
    focus
     have k0:(0:Int)<(k:Int):=by omega
     rw [if_pos hk0] at bc
    all_goals
     subst bc;clear hk0;go_wp2;refine IA (by kernel_rfl) ?_
     repeat (first | go_big_quiet_skip | (go_big_quiet_want;go_big_quiet_op;first | go_big_quiet_on | (apply Exists.intro;refine ⟨fun _=>?_,?_⟩;(· (((go_at_call 64;first | (with_reducible exact DA (f1 _)) | (with_reducible exact DA (f2 _))))));go_big_quiet_on)))
     refine JA fun wq hbq=>?_
     try dsimp only at *
     have h:=HH.out;have bs:=hb.then hbq;clear f1 f2 s0 s1 d0 d1;go_wp2
     go_roundg (n-(k+1))
     ·exact ⟨k+1,_,by omega,rfl,by go_num,rfl,by show _=_;rw [HE.out,HN.out],bk.1,fun _=>bk.2,bs⟩
     ·omega
   ·obtain rfl:k=n:=by omega
    have bb:dF (SC l) ⟨#[44]⟩=acc:=by rw [HE.out,List.drop_of_length_le (by unfold SC;rw [List.length_map,<-L.out];exact Nat.le_refl _)];rfl
    by_cases hk0:k=0
    ·have hl:l=[]:=List.eq_nil_of_length_eq_zero (by rw [<-L.out];exact hk0);have ha:acc=⟨#[]⟩:=by rw [<-bb,hl];rfl
     have HF:=pA6 (show T=⟨#[110,111,110,101]⟩ by rw [HT.out,UB,if_pos E1.out,if_pos hl]);have b1:acc.toList.isEmpty=true:=by rw [ha,ByteArray.toList_eq];rfl
     clear hl ha bb hk0 HE;go_wp2;go_ret;exact Ret.str (by rw [HF.out]) (hb)
    ·have hl:¬l=[]:=fun hh=>hk0 (by rw [L.out,hh];rfl)
     have HF:=pA6 (show T=acc by rw [HT.out,UB,if_pos E1.out,if_neg hl,bb]);have b1:acc.toList.isEmpty=false:=LG (by have:=g2 (by omega);omega);clear hl bb hk0 HE g1 g2;go_wp2;go_ret;exact Ret.str (by rw [HF.out]) (hb)
 ·have HF:=pA6 (show T=⟨#[]⟩ by rw [HT.out,UB,e1];rfl);rw [e1];clear e1;go_wp2;go_ret;exact Ret.str (by rw [HF.out]) (bf)
end Go.Proofs.YtpihighajaeabaaGreat
