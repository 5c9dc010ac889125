/- Pairs are read, in the program. -/
import Derived.Test.YtpihighajaeabaaGreatXParseI
import Derived.Test.YtpihighajaeabaaGreatXCodes
namespace Go.Proofs.YtpihighajaeabaaGreat
open Go.RowKit Go.Proofs.Tryz
set_option linter.all false
set_option maxRecDepth 100000
set_option maxHeartbeats 16000000
theorem fQ {α β:Type} {f:α->Option β} {x:α} {y:β} (hx:f x=some y):∀ {l:List α} {ys:List β},gI f l=some ys->gI f (l++[x])=some (ys++[y])
 | [],ys,h=>by
  rw [gI] at h;injection h with h;subst h;rw [List.nil_append,gI,hx];rfl
 | z::l,ys,h=>by
  rw [gI] at h
  cases hz:f z with
  | none=>rw [hz] at h;cases h
  | some u=>
   rw [hz] at h;dsimp only at h
   cases hl:gI f l with
   | none=>rw [hl] at h;cases h
   | some us=>
    rw [hl] at h;injection h with h;subst h;rw [List.cons_append,gI,hz];dsimp only;rw [fQ hx hl];rfl
theorem gQ {α β:Type} {f:α->Option β} {x:α} (hx:f x=none):∀ {l:List α},x∈l->gI f l=none
 | z::l,h=>by
  rw [gI];rcases List.mem_cons.1 h with rfl | h
  ·rw [hx]
  ·rw [gQ hx h]
   cases f z<;>rfl
theorem yN {s:ByteArray} {l:List EB} (h:SH s=some l):yE s=if s.size≠0/\UB l=s then (l,true) else ([],false):=by unfold yE pOf;rw [h]
theorem dAc {s:ByteArray} (h:SH s=none):yE s=([],false):=by unfold yE pOf;rw [h]
theorem jA9 {t:ByteArray} (h:(rH t ⟨#[62]⟩).length≠2):mP t=none:=by
 unfold mP
 split
 ·rename_i a b e;rw [e] at h;exact absurd rfl h
 ·rfl
theorem jAa {t a b:ByteArray} (h:rH t ⟨#[62]⟩=[a,b]):mP t=some ⟨oJ a,oJ b⟩:=by unfold mP;rw [h]
theorem NI {W:World} {b o:Nat} {q:Addr} {u x:Value} (h:W.cell? q=some x) (hq:q.block≠b):(W.setCell ⟨b,o,none⟩ u).cell? q=some x:=by
 rw [World.cell?_of_block (Below.heap_setCell _ _ _ _ hq)];exact h
theorem ND {s:ByteArray} {l:List UInt8} (h:s=⟨l.toArray⟩):(s.toList==l)=true:=by rw [h,ByteArray.toList_eq];simp
theorem KD {s:ByteArray} {l:List UInt8} (h:¬s=⟨l.toArray⟩):(s.toList==l)=false:=by
 rw [beq_eq_false_iff_ne,ByteArray.toList_eq];intro e;exact h (ByteArray.ext (by rw [<-e]))
theorem vG {s:ByteArray} (h:s.size=0):s.toList.isEmpty=true:=by rw [qO,DK.2 h];rfl
theorem aAm (w:World) (s:ByteArray) (hs:s.size<=1048576):Calls prog 274 #[.string s] w (WB w (Two AE w.heap.size (yE s).1 (.bool (yE s).2))):=by
 obtain ⟨i0,hi,fj,fk,fm⟩:=info_parts IK;have bn:=MA (e:=214) (sz:=2) (R:=ET) w;have A0:Bw w (w.alloc (.cells #[] 214)):=(Bw.refl w).alloc _;obtain ⟨Y,hY⟩:=pA7 (yE s);have HY:=pA6 hY;rw [<-hY];clear hY;by_cases hnone:s=oP
 ·have HX:=pA6 (show SH s=some [] by unfold SH;rw [if_pos hnone]);have e2:(s.toList==[110,111,110,101])=true:=ND hnone;obtain ⟨qs,df⟩:=pA7 ([]:List EB);rw [<-df] at HX bn;clear df hnone;go_enter func274,ntmps274;have B0:=A0;have dx:sA w.heap.size [w.heap.size]:=⟨by simp,by simp⟩;have hk:=pL (w.alloc (.cells #[] 214)) qs _ (aC bn);have HQ:=pA6 (yN HX.out);obtain ⟨T,hT⟩:=pA7 (UB qs);rw [<-hT] at hk HQ;clear hT;by_cases hs0:s.size=0
  ·have e0:=vG hs0;have HE:=pA6 (show Y=([],false) by rw [HY.out,HQ.out,if_neg (fun h=>h.1 hs0)]);clear hs0 hk;go_wp2;refine bodyPost_ret (v:=.tuple #[.slice (some ⟨((w.alloc (.cells #[] 214))).heap.size,0,none⟩) 0 0,.bool false]) (by simp [results,results274,go_sem]) rfl ?_;rw [HE.out];exact WB.two (MA _) ⟨by simp,fun z hz=>by rw [List.mem_singleton.1 hz];exact Bw.size B0⟩ rfl (Bw.alloc B0 _)
  ·have e0:s.toList.isEmpty=false:=LG (by omega);go_wp2_with fail;refine hk.mono ?_;rintro e w5 ⟨rfl,bd⟩;have o5:=nA bd (CC SF) bn;have B5:=Bw.then B0 bd;clear hk bd;by_cases hq:T=s
   ·have HE:=pA6 (show Y=(qs,true) by rw [HY.out,HQ.out,if_pos ⟨hs0,hq⟩]);have e1:=JD hq;have e2:(T.toList != s.toList)=false:=by rw [bne,e1];rfl
    clear hq hs0;go_wp2;refine bodyPost_ret (v:=.tuple #[.slice (some ⟨w.heap.size,0,none⟩) 0 0,.bool true]) (by simp [results,results274,go_sem]) rfl ?_;rw [HE.out];exact WB.two o5 dx rfl B5
   ·have HE:=pA6 (show Y=([],false) by rw [HY.out,HQ.out,if_neg (fun h=>hq h.2)]);have e1:=WC hq;have e2:(T.toList != s.toList)=true:=by rw [bne,e1];rfl
    clear hq hs0;go_wp2;refine bodyPost_ret (v:=.tuple #[.slice (some ⟨w5.heap.size,0,none⟩) 0 0,.bool false]) (by simp [results,results274,go_sem]) rfl ?_;rw [HE.out];exact WB.two (MA w5) ⟨by simp,fun b hb=>by rw [List.mem_singleton.1 hb];exact B5.size⟩ rfl (B5.alloc _)
 ·obtain ⟨P,hP⟩:=pA7 (rH s ⟨#[44]⟩);have bb:=fW (w.alloc (.cells #[] 214)) s ⟨#[44]⟩ hs (by decide) (by decide);rw [<-hP] at bb;have HR:=pA6 (show SH s=gI mP P by unfold SH;rw [if_neg hnone,hP]);have HM:=pA6 (show ∀t∈P,t.size<=s.size from fun t ht=>pAn (by rw [<-hP];exact ht));have HL:=pA6 (show P.length<=s.size+2 by rw [hP];exact jW _ _);have e2:(s.toList==[110,111,110,101])=false:=KD hnone;clear hP hnone;go_enter func274,ntmps274;go_wp2_with fail;refine bb.mono ?_;rintro e w2 ⟨v1,rfl,⟨FX,oX,fX⟩,bq⟩;have B2:=A0.then bq;have dj:=nA bq EA bn;have zX:∀z∈FX,z∉[w.heap.size]:=fun z hz=>by have h1:=fX.ge z hz;simp at h1;simp only [List.mem_singleton];omega
  have hl:=DC oX;obtain ⟨A,n,c,rfl,L,Lc,Lm⟩:=yA hl;have OX:=pA6 oX;have ZX:=pA6 zX;have ZS:=pA6 (show w.heap.size<w2.heap.size by have:=bq.size;simp at this;omega);clear oX zX hl bn fX bb e2;go_wp2
  go_loopg [4,15] n (fun g sv i w'=>∃(k:Nat) (F:List Nat) (qs:List EB),k<=n/\g=n-k/\i=.int .i64 k/\AE w' qs [sv] F/\sA w.heap.size F/\Bw w w'/\TB [w.heap.size] w2 w'/\Hid (∀z∈F,z=w.heap.size\/w2.heap.size<=z)/\Hid (gI mP (P.take k)=some qs/\qs.length=k))
  ·exact ⟨0,_,[],by omega,rfl,rfl,dj,⟨by simp,by simp⟩,B2,TB.refl _ _,pA6 (fun z hz=>.inl (by simpa using hz)),pA6 ⟨rfl,rfl⟩⟩
  ·clear dj B2 bq A0;obtain ⟨k,F,qs,hk,rfl,rfl,hv,hF,hb,hO,HF,HA⟩:=hrel;by_cases hlt:k<n
   ·obtain ⟨x,hx⟩:=tA (xs:=P) (k:=k) (by have:=L.out;omega);obtain ⟨ba,oa,rfl,_,hcx⟩:=BC (DC (hO.keeps iB OX.out ZX.out)) hx;have dm:=HM.out x (List.mem_of_getElem? hx);have cn:=pA6 hx;have i1:(0:Int)<=(k:Int):=by omega
    have i2:(k:Int)<(n:Int):=by omega
    have dq:=pA6 (show n<=s.size+2 by rw [L.out];exact HL.out);obtain ⟨Q,hQ⟩:=pA7 (rH x ⟨#[62]⟩);have bb:=fW wr x ⟨#[62]⟩ (by omega) (by decide) (by decide);rw [<-hQ] at bb;have HQ:=pA6 hQ;have cm:=pA6 (show ∀t∈Q,t.size<=s.size from fun t ht=>Nat.le_trans (pAn (by rw [<-hQ];exact ht)) dm);clear hx dm hQ;go_wp2_with fail;refine bb.mono ?_;rintro e w4 ⟨v4,rfl,⟨F4,o4,f4⟩,bk⟩;have r4:=DC o4;obtain ⟨A4,n4,c4,rfl,L4,L4c,L4m⟩:=yA r4;have cj:=nA bk EA hv;have bz:=hb.then bk;clear bb o4 f4 hv;by_cases hn4:n4=2
    ·subst hn4;obtain ⟨a,b,bg⟩:=WU (P:=Q) (by rw [<-L4.out]);have HS:=pA6 (show gI mP (P.take (k+1))=some (qs++[⟨oJ a,oJ b⟩]) by rw [List.take_add_one,cn.out];exact fQ (jAa (t:=x) (a:=a) (b:=b) (by rw [<-HQ.out,bg])) HA.out.1);obtain ⟨bc,oc,rfl,_,ca⟩:=BC (k:=0) r4 (x:=a) (by rw [bg];rfl);obtain ⟨_,_,e,_,cb⟩:=BC (k:=1) r4 (x:=b) (by rw [bg];rfl);injection e with e;injection e with e1 e2;subst e1 e2;have hza:=cm.out a (by rw [bg];simp);have hzb:=cm.out b (by rw [bg];simp);rw [Nat.add_zero] at ca;have bf:=(Bw.refl w4).alloc (.cells #[.int .i64 0,.int .i64 0] 214);have bX:=Box.new w4 #[.int .i64 0,.int .i64 0] 214;have bj:=(EA (B:=0)).lt cj;have cz:=World.block_lt_of_cell? _ _ cb;obtain ⟨bx,cd⟩:=pA7 w4.heap.size;obtain ⟨W,hW⟩:=pA7 (w4.alloc (.cells #[.int .i64 0,.int .i64 0] 214));rw [<-hW] at bf bX;rw [<-cd] at bX bj cz;dsimp only at cz;have nF:bx∉F:=fun h=>by have:=bj _ h;omega
     have dk:wr.heap.size<=bx:=by have:=bk.size;omega
     have HW:=pA6 hW;have HB:=pA6 cd;have vW:=nA bf EA cj;have BW:=bk.then bf;have ct:=bf.cell ca;have bv:=bf.cell cb;rw [hW] at ct;have cf:=WH W a (by omega);obtain ⟨N,hN⟩:=pA7 (oJ a);obtain ⟨bo,db⟩:=pA7 ((pI a).2);rw [<-db,show (pI a).1=N from hN.symm] at cf;rw [<-hN] at HS;clear hN db bg L4 ca cb r4 cj bf hW cd;go_wp2_with fail;rw [<-HW.out];clear ct;refine cf.mono ?_;rintro e w5 ⟨rfl,bd⟩;rw [<-HB.out];have vX:=UA (b:=bx) (o:=0) (u:=.int .i64 N) EA (nA bd EA vW) nF;have bt:=bX.bw bd;have cp:=bt.set (j:=0) (by simp) (.int .i64 N);have BX:=(BW.then bd).set (p:=⟨bx,0,none⟩) dk (.int .i64 N);have ds:=NI (b:=bx) (o:=0) (u:=.int .i64 N) (bd.cell bv) (by dsimp only;omega);have cg:=WH (w5.setCell ⟨bx,0,none⟩ (.int .i64 N)) b (by omega);obtain ⟨M,hM⟩:=pA7 (oJ b);obtain ⟨bo',bm⟩:=pA7 ((pI b).2);rw [<-bm,show (pI b).1=M from hM.symm] at cg;rw [<-hM] at HS;obtain ⟨x0,x1,xf⟩:=bt.a2;have dt:=bd.cell bv;clear hM bm cf vW BW bX bt bv;go_wp2_with fail;clear x0 x1 xf;clear dt ds;refine cg.mono ?_;rintro e w6 ⟨rfl,bs⟩;have vY:=UA (b:=bx) (o:=1) (u:=.int .i64 M) EA (nA bs EA vX) nF;have cq:=cp.bw bs;have BY:=(BX.then bs).set (p:=⟨bx,1,none⟩) dk (.int .i64 M);have dn:(w6.setCell ⟨bx,1,none⟩ (.int .i64 M)).heap.size=w6.heap.size:=by simp
     have bp:=(Bw.refl (w6.setCell ⟨bx,1,none⟩ (.int .i64 M))).alloc (.cells #[.int .i64 N,.int .i64 M] 214);have vZ:=nA bp EA vY;have cv:=(EA (B:=0)).lt vY;have fd:=(hb.then BY).then bp;have dd:∀j t,[Value.int .i64 N,.int .i64 M][j]? = some t->((w6.setCell ⟨bx,1,none⟩ (.int .i64 M)).alloc (.cells #[.int .i64 N,.int .i64 M] 214)).cell? ((⟨(w6.setCell ⟨bx,1,none⟩ (.int .i64 M)).heap.size,0,none⟩:Addr).add j)=some t:=World.news_of_block (cs:=#[.int .i64 N,.int .i64 M]) (t:=214) (fr:=(0,0)) (heap_alloc_new _ _);have cx:=pA6 (hO.then ((BY.then bp).only []) (by simp));have dc:=(hb.then BY).size;rw [dn] at dd cv dc;have ck:=pA6 (show qs.length<=s.size+2 by have:=HA.out.2;have:=dq.out;omega);obtain ⟨x0,x1,xf⟩:=cq.a2;clear cg vX vY BX cp cq BY bp dn bs hO bz bd bk;go_wp2_with (at_builtin;refine iC _ rfl (.tmp 42) (.tmp 44) 107 rfl w 214 i0 _ 2 16 underlying107 hi fj fk fm rfl (by omega) SF _ qs F rfl vZ hF ⟨w6.heap.size,0,none⟩ 1 rfl ⟨N,M⟩ [.int .i64 N,.int .i64 M] [] dd ⟨rfl,rfl⟩ rfl w6.heap.size cv sA.nil dc (by have:=ck.out;omega) (by have:=ck.out;omega) fd ?_;intro v' w' F' fg dv fc dz ff);have fb:=TB.push cx.out dz HF.out;have dp:=pA6 (show ∀z∈F',z=w.heap.size\/w2.heap.size<=z from fun z hz=>(ff z hz).elim (fun h=>HF.out z h) (fun h=>h.elim (fun h=>by simp at h) (fun h=>.inr (Nat.le_trans cx.out.1 h))))
     go_roundg (n-(k+1))
     ·exact ⟨k+1,F',_,by omega,rfl,by go_num,fg,dv,fc,fb,dp,pA6 ⟨HS.out,by rw [List.length_append,HA.out.2];rfl⟩⟩
     ·omega
    ·have HE:=pA6 (show Y=([],false) by rw [HY.out];exact dAc (by rw [HR.out];exact gQ (x:=x) (jA9 (by rw [<-HQ.out,<-L4.out];exact hn4)) (List.mem_of_getElem? cn.out)));have e1:((n4:Int) != 2)=true:=by simp;omega
     clear hn4;go_wp2;refine bodyPost_ret (v:=.tuple #[.slice (some ⟨w4.heap.size,0,none⟩) 0 0,.bool false]) (by simp [results,results274,go_sem]) rfl ?_;rw [HE.out];exact WB.two (MA w4) ⟨by simp,fun b hb=>by rw [List.mem_singleton.1 hb];exact bz.size⟩ rfl (bz.alloc _)
   ·obtain rfl:k=n:=by omega
    have HX:=pA6 (show SH s=some qs by rw [HR.out,<-HA.out.1,List.take_of_length_le (by rw [<-L.out];exact Nat.le_refl _)]);clear hlt HA HR HM HL OX ZX L;have cc:=hb;have hk:=pL wr qs _ (aC hv);have HQ:=pA6 (yN HX.out);obtain ⟨T,hT⟩:=pA7 (UB qs);rw [<-hT] at hk HQ;clear hT;by_cases hs0:s.size=0
    ·have e0:=vG hs0;have HE:=pA6 (show Y=([],false) by rw [HY.out,HQ.out,if_neg (fun h=>h.1 hs0)]);clear hs0 hk;go_wp2;refine bodyPost_ret (v:=.tuple #[.slice (some ⟨(wr).heap.size,0,none⟩) 0 0,.bool false]) (by simp [results,results274,go_sem]) rfl ?_;rw [HE.out];exact WB.two (MA _) ⟨by simp,fun z hz=>by rw [List.mem_singleton.1 hz];exact Bw.size cc⟩ rfl (Bw.alloc cc _)
    ·have e0:s.toList.isEmpty=false:=LG (by omega);go_wp2_with fail;refine hk.mono ?_;rintro e w5 ⟨rfl,bd⟩;have o5:=nA bd (CC SF) hv;have B5:=Bw.then cc bd;clear hk bd;by_cases hq:T=s
     ·have HE:=pA6 (show Y=(qs,true) by rw [HY.out,HQ.out,if_pos ⟨hs0,hq⟩]);have e1:=JD hq;have e2:(T.toList != s.toList)=false:=by rw [bne,e1];rfl
      clear hq hs0;go_wp2;refine bodyPost_ret (v:=.tuple #[u4,.bool true]) (by simp [results,results274,go_sem]) rfl ?_;rw [HE.out];exact WB.two o5 hF rfl B5
     ·have HE:=pA6 (show Y=([],false) by rw [HY.out,HQ.out,if_neg (fun h=>hq h.2)]);have e1:=WC hq;have e2:(T.toList != s.toList)=true:=by rw [bne,e1];rfl
      clear hq hs0;go_wp2;refine bodyPost_ret (v:=.tuple #[.slice (some ⟨w5.heap.size,0,none⟩) 0 0,.bool false]) (by simp [results,results274,go_sem]) rfl ?_;rw [HE.out];exact WB.two (MA w5) ⟨by simp,fun b hb=>by rw [List.mem_singleton.1 hb];exact B5.size⟩ rfl (B5.alloc _)
end Go.Proofs.YtpihighajaeabaaGreat
