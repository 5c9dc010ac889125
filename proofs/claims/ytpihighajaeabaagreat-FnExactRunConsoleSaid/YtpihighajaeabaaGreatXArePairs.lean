/- Valid pairs in the program. -/
import Derived.Test.YtpihighajaeabaaGreatXArePairsS
import Derived.Laws.Rows
import Derived.Laws.Tables
import Derived.Deep.WholeRow
namespace Go.Proofs.YtpihighajaeabaaGreat
open Go.RowKit Go.Proofs.Tryz
set_option linter.all false
set_option maxRecDepth 100000
set_option maxHeartbeats 16000000
def eD (M:Nat->Nat->Bool):Array Value:=Array.ofFn fun k:Fin 100=>.bool (M (k.1 / 10) (k.1 % 10))
theorem rF (M:Nat->Nat->Bool):(eD M).size=100:=by simp [eD]
theorem DJ {M:Nat->Nat->Bool} {i j:Nat} (hi:i<10) (hj:j<10):(eD M)[i*10+j]? = some (.bool (M i j)):=by
 have hk:i*10+j<100:=by omega
 have e1:(i*10+j) / 10=i:=by omega
 have e2:(i*10+j) % 10=j:=by omega
 simp [eD,hk,e1,e2]
def fAg (M:Nat->Nat->Bool) (i j:Nat) (b:Bool):Nat->Nat->Bool:=fun a c=>if a=i/\c=j then b else M a c
theorem OY {M:Nat->Nat->Bool} {i j:Nat} {b:Bool} (hi:i<10) (hj:j<10):(eD M).setIfInBounds (i*10+j) (.bool b)=eD (fAg M i j b):=by
 apply Array.ext_getElem?;intro k;rw [Array.getElem?_setIfInBounds];by_cases hk:i*10+j=k
 ·subst hk;rw [if_pos rfl,if_pos (by rw [rF];omega),DJ hi hj];simp [fAg]
 ·rw [if_neg hk];by_cases hk2:k<100
  ·simp only [eD,Array.getElem?_ofFn,hk2,dif_pos,fAg];rw [if_neg (by omega)]
  ·rw [Array.getElem?_eq_none (by rw [rF];omega),Array.getElem?_eq_none (by rw [rF];omega)]
theorem LT {M M':Nat->Nat->Bool} (h:∀i j,i<10->j<10->M i j=M' i j):eD M=eD M':=by
 apply Array.ext_getElem?;intro k;by_cases hk2:k<100
 ·simp only [eD,Array.getElem?_ofFn,hk2,dif_pos];rw [h _ _ (by omega) (by omega)]
 ·rw [Array.getElem?_eq_none (by rw [rF];omega),Array.getElem?_eq_none (by rw [rF];omega)]
theorem kK (M:Nat->Nat->Bool):(eD M).all (·.oneCell')=true:=by
 rw [Array.all_eq_true];intro i hi;simp [eD,Value.oneCell']
def Row (w:World) (g:Nat) (t:TypeId) (cs:Array Value):Prop:=w.heap[g]? = some (.cells cs t (0,0))
section
variable {w w':World} {g:Nat} {t:TypeId} {cs:Array Value}
theorem Row.lt (h:Row w g t cs):g<w.heap.size:=by
 rcases Nat.lt_or_ge g w.heap.size with hlt | hge
 ·exact hlt
 ·unfold Row at h;rw [Array.getElem?_eq_none hge] at h;cases h
theorem Row.cell (h:Row w g t cs) (i:Nat):w.cell? ⟨g,i,none⟩=cs[i]?:=cell_of_row w g i cs t (0,0) h
theorem Row.frozen (h:Row w g t cs) (i:Nat):w.frozen? ⟨g,i,none⟩=false:=by
 unfold Row at h;simp [World.frozen?,h]
theorem Row.bw (h:Row w g t cs) (hb:Bw w w'):Row w' g t cs:=(Below.block hb g h.lt).trans h
theorem Row.put (h:Row w g t cs) (i:Nat) (u:Value):Row (w.setCell ⟨g,i,none⟩ u) g t (cs.setIfInBounds i u):=by
 unfold Row at h ⊢;simp [World.setCell,Array.getElem?_modify,h]
theorem Row.far (h:Row w g t cs) {p:Addr} (hp:g≠p.block) (u:Value):Row (w.setCell p u) g t cs:=(Below.heap_setCell w p u g hp).trans h
end
theorem fAh {l:List EB} {k:Nat} {p:EB} (h:l[k]? = some p) {a b:Nat} (ha:p.fst=a) (hb:p.snd=b):PM (l.take (k+1))=fAg (PM (l.take k)) a b true:=by
 funext i j
 have e:l.take (k+1)=l.take k++[p]:=by rw [List.take_add_one,h];rfl
 rw [e];unfold fAg PM;rw [List.any_append];simp only [List.any_cons,List.any_nil,Bool.or_false,ha,hb];by_cases h1:i=a/\j=b
 ·rw [if_pos h1];simp [h1.1,h1.2]
 ·rw [if_neg h1];have:(decide ((a:Int)=(i:Int)) && decide ((b:Int)=(j:Int)))=false:=by
   simp;intro h2 h3;exact h1 ⟨by omega,by omega⟩
  rw [this,Bool.or_false]
def cI (B:Nat->Nat->Bool) (k i j:Nat):Nat->Nat->Bool:=fun a c=>if a<i\/(a=i/\c<j) then oD B (k+1) a c else oD B k a c
theorem fAi (B:Nat->Nat->Bool) (k:Nat):cI B k 0 0=oD B k:=by funext a c;unfold cI;rw [if_neg (by omega)]
theorem iAp (B:Nat->Nat->Bool) (k i:Nat):eD (cI B k i 10)=eD (cI B k (i+1) 0):=LT fun a c ha hc=>by
 unfold cI;by_cases h:a<i+1
 ·rw [if_pos (by omega),if_pos (by omega)]
 ·rw [if_neg (by omega),if_neg (by omega)]
theorem iAq (B:Nat->Nat->Bool) (k:Nat):eD (cI B k 10 0)=eD (oD B (k+1)):=LT fun a c ha hc=>by unfold cI;rw [if_pos (by omega)]
theorem kAs (B:Nat->Nat->Bool) (k i j:Nat):cI B k i j i j=oD B k i j:=by unfold cI;rw [if_neg (by omega)]
theorem kAt (B:Nat->Nat->Bool) (k i j:Nat):cI B k i j i k=oD B k i k:=by unfold cI;split;exact iAj;rfl
theorem kAu (B:Nat->Nat->Bool) (k i j:Nat):cI B k i j k j=oD B k k j:=by unfold cI;split;exact iAk;rfl
theorem fAj (B:Nat->Nat->Bool) (k i j:Nat):fAg (cI B k i j) i j (oD B k i j || (oD B k i k && oD B k k j))=cI B k i (j+1):=by
 funext a c
 unfold fAg;by_cases h:a=i/\c=j
 ·obtain ⟨rfl,rfl⟩:=h;rw [if_pos ⟨rfl,rfl⟩];unfold cI;rw [if_pos (by omega)];rfl
 ·rw [if_neg h];unfold cI;by_cases h2:a<i\/(a=i/\c<j)
  ·rw [if_pos h2,if_pos (by omega)]
  ·rw [if_neg h2,if_neg (by omega)]
theorem pV:(prog.info? 228).map (·.size)=some 100:=by kernel_rfl
theorem fAk {w:World} {g:Nat} {t:TypeId} {cs:Array Value} (h:Row w g t cs) (c:Array Value):Row (w.setRow g c) g t c:=by
 unfold Row at h ⊢;simp [World.setRow,Array.getElem?_modify,h]
theorem Bw.setRow {a w:World} (h:Bw a w) {g:Nat} (hg:a.heap.size<=g) (c:Array Value):Bw a (w.setRow g c):=by
 have k:Below a.heap.size a w:=h;refine ⟨k.os,k.tape,k.output,?_,fun b hb=>?_⟩
 ·have:=k.size;simp only [World.setRow,Array.size_modify];exact this
 ·rw [<-k.block b hb];simp only [World.setRow,Array.getElem?_modify];rw [if_neg (by omega)]
theorem qV {P:Program} {o:Oper} {a:Act} {w:World} {K K':Act->Prop} (h:o.quiet P a (fun w'=>w'=w) K) (hK:∀a,K a->K' a):o.still P a w K':=by
 obtain ⟨v,hv,hn⟩:=h;have:=hv w rfl;unfold Oper.still;unfold Oper.quietAt at this
 revert this
 cases (execOp a.eval o).run P w with
 | ok r w'=>
  cases r with
  | value u=>intro ⟨h1,h2⟩;subst h2;exact ⟨h1,hK _ hn⟩
  | skip=>intro ⟨h1,h2⟩;subst h2;exact ⟨h1,hK _ hn⟩
  | enter f args=>intro ⟨h1,h2⟩;exact ⟨h1,v,h2,hK _ hn⟩
  | _=>intro h;exact h.elim
 | _=>intro h;exact h.elim
theorem dG {P:Program} {ops:Array Oper} {w:World} {Q:Act->Prop}:∀ {l:List Oper} {a:Act},wpQuiet P ops (fun w'=>w'=w) Q l a->wpStill P ops w Q l a
 | [],a,h=>h
 | o::l,a,h=>by
  unfold wpQuiet at h;unfold wpStill;by_cases hw:Region.wanted o (yielded ops a.tmps)=true
  ·rw [if_pos hw] at h ⊢;exact qV h fun _ h=>dG h
  ·rw [if_neg hw] at h ⊢;exact dG h
theorem hAx (w:World) (l:List EB) (v:Value) (h:Rd MC w l [v]) (hl:pE l=true):Calls prog 259 #[v] w (Ret w (.agg (eD (oD (PM l) 10)))):=by
 obtain ⟨A,n,c,rfl,L,Lc,Lm⟩:=yA h;have HL:=pA6 hl;clear hl;go_enter func259,ntmps259;go_wp2
 go_loopg [11] n (fun g i w'=>∃k:Nat,k<=n/\g=n-k/\i=.int .i64 k/\Row w' (w.heap.size+1) 228 (eD (PM (l.take k)))/\(∃cs,Row w' w.heap.size 228 cs/\cs.size=100)/\Bw w w')
 ·refine ⟨0,by omega,rfl,rfl,?_,⟨_,(Below.heap_alloc _ _ _ (by simp)).trans (heap_alloc_new w _),by kernel_rfl⟩,(((Bw.refl w).alloc _).alloc _)⟩;have e:=heap_alloc_new (w.alloc (.cells Tryz.zeroCells228 228)) (.cells Tryz.zeroCells228 228);rw [show (w.alloc (.cells Tryz.zeroCells228 228)).heap.size=w.heap.size+1 by simp] at e;refine e.trans ?_;exact congrArg (fun c=>some (Obj.cells c 228 (0,0))) (show _=eD (PM []) by kernel_rfl)
 ·obtain ⟨k,hk,rfl,rfl,R0,⟨cs,R1,bb⟩,hb⟩:=hrel;by_cases hlt:k<n
  ·obtain ⟨p,hp⟩:=tA (xs:=l) (k:=k) (by have:=L.out;omega);obtain ⟨ba,oa,rfl,_,cf,cg⟩:=FG h hp;obtain ⟨⟨p1,p2⟩,p3,p4⟩:=bI HL.out (List.mem_of_getElem? hp);obtain ⟨a,bv⟩:∃a:Nat,p.fst=a:=⟨p.fst.toNat,by omega⟩;obtain ⟨b,bz⟩:∃b:Nat,p.snd=b:=⟨p.snd.toNat,by omega⟩;have ha:a<10:=by omega
   have cd:b<10:=by omega
   have ha':(a:Int)<10:=by omega
   have hb':(b:Int)<10:=by omega
   have HS:=pA6 (fAh hp bv bz);rw [bv] at cf;rw [bz] at cg;have hx0:=hb.cell cf;have hx1:=hb.cell cg;have cj:(wr.alloc (.cells #[.int .i64 a,.int .i64 b] 214)).cell? ⟨wr.heap.size,0,none⟩=some (.int .i64 a):=by go_simp
   have ck:(wr.alloc (.cells #[.int .i64 a,.int .i64 b] 214)).cell? ⟨wr.heap.size,1,none⟩=some (.int .i64 b):=by go_simp
   obtain ⟨W,hW⟩:=pA7 (wr.alloc (.cells #[.int .i64 a,.int .i64 b] 214));have bt:Bw wr W:=by rw [hW];exact (Bw.refl wr).alloc _
   rw [<-hW] at cj ck;have hz:w.heap.size+1<wr.heap.size:=R0.lt;have bp:=R0.bw bt;have cc:=R1.bw bt;have bj:=bp.cell (a*10+b);rw [DJ ha cd] at bj;have cp:=bp.frozen (a*10+b);have bc:Row W.drew (w.heap.size+1) 228 (eD (PM (l.take k))):=bp;have bd:Row W.drew w.heap.size 228 cs:=cc;have R2:=bc.put (a*10+b) (.bool true);rw [OY ha cd,<-HS.out] at R2;have R3:=bd.far (p:=⟨w.heap.size+1,a*10+b,none⟩) (by dsimp only;omega) (.bool true);have bf:=(hb.then bt.drew).set (p:=⟨w.heap.size+1,a*10+b,none⟩) (by dsimp only;omega) (.bool true);clear hp bv bz R0 R1 bp cc bc bd;go_wp2_with fail;rw [<-hW];obtain ⟨q,hq⟩:=pA7 wr.heap.size;rw [<-hq] at cj ck ⊢;clear hW hq;refine wp_region_still_tail 6 (by kernel_rfl) (by kernel_rfl) ?_;simp only [List.take_succ_cons,List.take_zero,List.drop_succ_cons,List.drop_zero];refine dG (w:=W.drew) ?_
   repeat (first | go_big_quiet_skip | (go_big_quiet_want;go_big_quiet_op;go_big_quiet_on))
   refine wpQuiet_nil ?_
   change wpList _ _ _ _ _ W.drew
   go_wp2
   go_roundg (n-(k+1))
   ·exact ⟨k+1,by omega,rfl,by go_num,R2,⟨cs,R3,bb⟩,bf⟩
   ·omega
  ·obtain rfl:k=n:=by omega
   rw [List.take_of_length_le (by rw [<-L.out];exact Nat.le_refl _)] at R0;obtain ⟨B,hB⟩:=pA7 (PM l);rw [<-hB] at R0;have HB:=pA6 hB;have cq:w.heap.size+1<wr.heap.size:=R0.lt;clear hB cq;go_wp2
   go_loopg [22] 10 (fun g i w'=>∃k:Nat,k<=10/\g=10-k/\i=.int .i64 k/\Row w' (w.heap.size+1) 228 (eD (oD B k))/\(∃cs,Row w' w.heap.size 228 cs/\cs.size=100)/\Bw w w')
   ·exact ⟨0,by omega,rfl,rfl,R0,⟨cs,R1,bb⟩,hb⟩
   ·clear R0 R1 bb hb;obtain ⟨k,hk,rfl,rfl,R0,⟨cs,R1,bb⟩,hb⟩:=hrel;by_cases hlt1:k<10
    ·have k1:(k:Int)<10:=by omega
     rw [<-fAi] at R0;go_wp2
     go_loopg [25] 10 (fun g i w'=>∃i':Nat,i'<=10/\g=10-i'/\i=.int .i64 i'/\Row w' (w.heap.size+1) 228 (eD (cI B k i' 0))/\(∃cs,Row w' w.heap.size 228 cs/\cs.size=100)/\Bw w w')
     ·exact ⟨0,by omega,rfl,rfl,R0,⟨cs,R1,bb⟩,hb⟩
     ·clear R0 R1 bb hb;obtain ⟨i,hi,rfl,rfl,R0,⟨cs,R1,bb⟩,hb⟩:=hrel;by_cases hlt2:i<10
      ·have i1:(i:Int)<10:=by omega
       go_wp2
       go_loopg [28] 10 (fun g i2 w'=>∃j:Nat,j<=10/\g=10-j/\i2=.int .i64 j/\Row w' (w.heap.size+1) 228 (eD (cI B k i j))/\(∃cs,Row w' w.heap.size 228 cs/\cs.size=100)/\Bw w w')
       ·exact ⟨0,by omega,rfl,rfl,R0,⟨cs,R1,bb⟩,hb⟩
       ·clear R0 R1 bb hb;obtain ⟨j,hj,rfl,rfl,R0,⟨cs,R1,bb⟩,hb⟩:=hrel;by_cases hlt3:j<10
        ·have j1:(j:Int)<10:=by omega
         have bk:=R0.cell (i*10+j);rw [DJ hlt2 hlt3,kAs] at bk;have bm:=R0.cell (i*10+k);rw [DJ hlt2 hlt1,kAt] at bm;have bn:=R0.cell (k*10+j);rw [DJ hlt1 hlt3,kAu] at bn;have cp:=R0.frozen (i*10+j);have bc:Row wr.drew (w.heap.size+1) 228 (eD (cI B k i j)):=R0;have bd:Row wr.drew w.heap.size 228 cs:=R1;have R2:=bc.put (i*10+j) (.bool (oD B k i j || (oD B k i k && oD B k k j)));rw [OY hlt2 hlt3,fAj] at R2;have R3:=fun u=>bd.far (p:=⟨w.heap.size+1,i*10+j,none⟩) (by dsimp only;omega) u
         have bf:=fun u=>hb.drew.set (p:=⟨w.heap.size+1,i*10+j,none⟩) (by dsimp only;omega) u
         clear R0 R1 bc bd;rcases pA8 (oD B k i j) with x | x<;>rcases pA8 (oD B k i k) with y | y<;>rcases pA8 (oD B k k j) with z | z
         all_goals
          rw [x] at bk;rw [y] at bm;rw [z] at bn;rw [x,y,z] at R2;simp only [Bool.or_true,Bool.true_or,Bool.or_false,Bool.false_or,Bool.and_true,Bool.and_false,Bool.true_and,Bool.false_and,Bool.and_self,Bool.or_self] at R2;have cm:=R3 (.bool true);have bs:=R3 (.bool false);have bx:=bf (.bool true);have bg:=bf (.bool false);clear x y z R3 bf;go_wp2_with fail;refine wp_region_still_tail 23 (by kernel_rfl) (by kernel_rfl) ?_;simp only [List.take_succ_cons,List.take_zero,List.drop_succ_cons,List.drop_zero];refine dG (w:=wr.drew) ?_
          repeat (first | go_big_quiet_skip | (go_big_quiet_want;go_big_quiet_op;go_big_quiet_on))
          refine wpQuiet_nil ?_
          change wpList _ _ _ _ _ wr.drew
          go_wp2
          go_roundg (10-(j+1))
          ·first | exact ⟨j+1,by omega,rfl,by go_num,R2,⟨cs,cm,bb⟩,bx⟩ | exact ⟨j+1,by omega,rfl,by go_num,R2,⟨cs,bs,bb⟩,bg⟩
          ·omega
        ·obtain rfl:j=10:=by omega
         rw [iAp] at R0;go_wp2
         go_roundg (10-(i+1))
         ·exact ⟨i+1,by omega,rfl,by go_num,R0,⟨cs,R1,bb⟩,hb⟩
         ·omega
      ·obtain rfl:i=10:=by omega
       rw [iAq] at R0;go_wp2
       go_roundg (10-(k+1))
       ·exact ⟨k+1,by omega,rfl,by go_num,R0,⟨cs,R1,bb⟩,hb⟩
       ·omega
    ·obtain rfl:k=10:=by omega
     have RR:=fAk R1 (eD (oD B 10));have cn:=hb.setRow (g:=w.heap.size) (Nat.le_refl _) (eD (oD B 10));have cb:cs.size=(eD (oD B 10)).size:=bb.trans (rF _).symm;have bq:=pV;rw [<-rF (oD B 10)] at bq;clear hlt1;go_wp2_with (first | (refine wpList_load_row rfl 228 (.tmp 3) rfl (w.heap.size+1) rfl 228 (eD (oD B 10)) (0,0) _ R0 underlying228 rfl bq ?_) | (refine wpList_store_row rfl 228 (.tmp 2) (.tmp 57) rfl w.heap.size (eD (oD B 10)) rfl rfl 228 cs R1 bq cb (kK _) ?_));refine bodyPost_ret (v:=.agg (eD (oD B 10))) (results_cell_row rfl _ _ w.heap.size 228 (eD (oD B 10)) (0,0) _ rfl RR underlying228 rfl bq) rfl ⟨?_,cn⟩;rw [HB.out]
theorem rV (w:World) (l:List EB) (v:Value) (h:Rd MC w l [v]):Calls prog 237 #[v] w (Ret w (.bool (ZB l))):=by
 obtain ⟨A,n,c,rfl,L,Lc,Lm⟩:=yA h;go_enter func237,ntmps237;go_wp2
 go_loopg [9] n (fun g i w'=>∃k:Nat,k<=n/\g=n-k/\i=.int .i64 k/\Hid (pE l=pE (l.drop k))/\Bw w w')
 ·exact ⟨0,by omega,rfl,rfl,pA6 rfl,Bw.refl _⟩
 ·obtain ⟨k,hk,rfl,rfl,HE,hb⟩:=hrel;by_cases hlt:k<n
  ·obtain ⟨y,hy⟩:=tA (xs:=l) (k:=k) (by have:=L.out;omega);obtain ⟨ba,oa,rfl,_,bs,bt⟩:=FG h hy;have hx0:=hb.cell bs;have hx1:=hb.cell bt;have HS:=pA6 (MQ hy);have A1:Bw wr (wr.alloc (.cells #[.int .i64 y.fst,.int .i64 y.snd] 214)):=(Bw.refl wr).alloc _;clear hy h;go_wp2_with fail;refine (rD _ _ _ _).mono ?_;rintro e w2 ⟨rfl,bc⟩;have q1:w2.cell? ⟨wr.heap.size,1,none⟩=some (.int .i64 y.snd):=bc.cell (by go_simp);have bd:=hb.then (A1.then bc);rcases pA8 (inB y.fst 0 9) with e1 | e1
   ·have E1:=pA6 e1;rw [show inB y.fst 0 9=true from E1.out];clear e1;go_wp2_with fail;refine (rD _ _ _ _).mono ?_;rintro e w3 ⟨rfl,bq⟩;have bm:=bd.then bq;rcases pA8 (inB y.snd 0 9) with e2 | e2
    ·have E2:=pA6 e2;rw [show inB y.snd 0 9=true from E2.out];clear e2;go_wp2
     go_roundg (n-(k+1))
     ·exact ⟨k+1,by omega,rfl,by go_num,pA6 (by rw [HE.out,HS.out,E1.out,E2.out];simp),bm⟩
     ·omega
    ·have E2:=pA6 e2;rw [show inB y.snd 0 9=false from E2.out];clear e2;go_wp2;go_ret;exact Ret.bool (by rw [ZB,HE.out,HS.out,E1.out,E2.out];simp) bm
   ·have E1:=pA6 e1;rw [show inB y.fst 0 9=false from E1.out];clear e1;go_wp2;go_ret;exact Ret.bool (by rw [ZB,HE.out,HS.out,E1.out];simp) bd
  ·obtain rfl:k=n:=by omega
   have HT:=pA6 (show pE l=true by rw [HE.out,List.drop_of_length_le (by rw [<-L.out];exact Nat.le_refl _)];rfl);have HM:=pA6 (show ZB l=(decide (k<=8) && (List.range' 0 (10-0)).all (fun v=>!iD l (v:Int) (v:Int))) by
    unfold ZB;rw [HT.out,List.range_eq_range',<-L.out];simp)
   go_wp2_with fail;refine (hAx _ l _ (h.bw RA hb) HT.out).mono ?_;rintro e w2 ⟨rfl,bc⟩;have bd:=hb.then bc;obtain ⟨B,hB⟩:=pA7 (oD (PM l) 10);rw [<-hB];have HB:=pA6 (show ∀v:Nat,iD l (v:Int) (v:Int)=B v v from fun v=>by rw [hB];rfl);have bg:=pV;rw [<-rF B] at bg;have bp:Tryz.zeroCells228.size=(eD B).size:=by rw [rF];kernel_rfl
   have RR:Row (w2.alloc (.cells (eD B) 228)) w2.heap.size 228 (eD B):=heap_alloc_new _ _;have bk:=bd.alloc (.cells (eD B) 228);have bn:(w2.alloc (.cells Tryz.zeroCells228 228)).heap[w2.heap.size]? = some (.cells Tryz.zeroCells228 228 (0,0)):=heap_alloc_new _ _;have bb:(w2.alloc (.cells Tryz.zeroCells228 228)).setRow w2.heap.size (eD B)=w2.alloc (.cells (eD B) 228):=World.setRow_alloc_new w2 _ _ _;clear hB HE;go_wp2_with (first | (refine wpList_store_row rfl 228 (.tmp 5) (.tmp 25) rfl w2.heap.size (eD B) rfl rfl 228 Tryz.zeroCells228 bn bg bp (kK _) ?_;rw [bb]));clear bg bp bn bb
   go_loopg [26] 10 (fun g i w'=>∃v:Nat,v<=10/\g=10-v/\i=.int .i64 v/\Hid (ZB l=(decide (k<=8) && (List.range' v (10-v)).all (fun v=>!iD l (v:Int) (v:Int))))/\Row w' w2.heap.size 228 (eD B)/\Bw w w')
   ·exact ⟨0,by omega,rfl,rfl,HM,RR,bk⟩
   ·clear HM RR bk;obtain ⟨v,hv,rfl,rfl,HE,R,bf⟩:=hrel;by_cases hlt1:v<10
    ·have v1:(v:Int)<10:=by omega
     have hc:=R.cell (v*10+v);rw [DJ hlt1 hlt1] at hc;have HS:=pA6 (gN (fun v=>!iD l (v:Int) (v:Int)) hlt1);have bj:=pA6 (HB.out v);rcases pA8 (B v v) with e2 | e2
     ·rw [e2] at hc;have E2:=pA6 e2;clear e2;go_wp2;go_ret;exact Ret.bool (by rw [HE.out,HS.out,bj.out,E2.out];simp) bf
     ·rw [e2] at hc;have E2:=pA6 e2;clear e2;go_wp2
      go_roundg (10-(v+1))
      ·exact ⟨v+1,by omega,rfl,by go_num,pA6 (by rw [HE.out,HS.out,bj.out,E2.out];simp),R,bf⟩
      ·omega
    ·obtain rfl:v=10:=by omega
     have HF:=pA6 (show ZB l=decide (k<=8) by rw [HE.out];simp);clear HE;go_wp2;go_ret;exact Ret.bool (by rw [HF.out];simp;omega) bf
end Go.Proofs.YtpihighajaeabaaGreat
