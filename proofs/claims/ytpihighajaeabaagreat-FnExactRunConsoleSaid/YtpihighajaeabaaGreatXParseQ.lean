/- Pairs are read, in the reference. -/
import Derived.Test.YtpihighajaeabaaGreatXParseP
import Derived.Deep.RegionHeld3
namespace Go.Proofs.YtpihighajaeabaaGreat
open Go.RowKit Go.Proofs.Tryz
set_option linter.all false
set_option maxRecDepth 100000
set_option maxHeartbeats 16000000
theorem jAg {t:ByteArray} (h:(MD t 62).length≠2):nP t=none:=by
 unfold nP
 split
 ·rename_i a b e;rw [e] at h;exact absurd rfl h
 ·rfl
theorem jAh {t a b:ByteArray} (h:MD t 62=[a,b]):nP t=some ⟨tG a,tG b⟩:=by unfold nP;rw [h]
theorem aAr {s:ByteArray} {l:List EB} (h:MI s=some l):yE s=if s.size≠0/\UB l=s then (l,true) else ([],false):=by rw [<-dA2];unfold pOf;rw [h]
theorem aAs {s:ByteArray} (h:MI s=none):yE s=([],false):=by rw [<-dA2];unfold pOf;rw [h]
theorem aAt {s:ByteArray} {l:List EB} (h:MI s=some l):s.size≠0:=fun h0=>by
 have e:s=⟨#[]⟩:=EH (by rw [DK.2 h0];rfl);rw [e] at h;have h2:MI ⟨#[]⟩=none:=by decide
 rw [h2] at h;cases h
theorem aAu:yE oP=([],true):=by
 have h:SH oP=some []:=by unfold SH;rw [if_pos rfl]
 rw [yN h,if_pos ⟨by decide,rfl⟩]
theorem mR (w:World) (s:ByteArray) (hs:s.size<=1048576):Calls prog 288 #[.string s] w (WB w (Two AE w.heap.size (yE s).1 (.bool (yE s).2))):=by
 obtain ⟨i0,hi,dz,fb,fc⟩:=info_parts IK;have ct:=MA (e:=214) (sz:=2) (R:=ET) w;have A0:Bw w (w.alloc (.cells #[] 214)):=(Bw.refl w).alloc _;obtain ⟨Y,hY⟩:=pA7 (yE s);have HY:=pA6 hY;rw [<-hY];clear hY;by_cases hnone:s=oP
 ·have HE:=pA6 (show Y=([],true) by rw [HY.out,hnone];exact aAu);have e2:(s.toList==[110,111,110,101])=true:=ND hnone;clear hnone;go_enter func288,ntmps288;go_wp2;refine bodyPost_ret (v:=.tuple #[.slice (some ⟨w.heap.size,0,none⟩) 0 0,.bool true]) (by simp [results,results288,go_sem]) rfl ?_;rw [HE.out];exact WB.two (MA w) ⟨by simp,fun z hz=>by rw [List.mem_singleton.1 hz];exact Nat.le_refl _⟩ rfl A0
 ·obtain ⟨P,hP⟩:=pA7 (MD s 44);have bb:=XJ (w.alloc (.cells #[] 214)) s 44 44 rfl hs;rw [<-hP] at bb;have HR:=pA6 (show MI s=gI nP P by unfold MI;rw [if_neg hnone,hP]);have HM:=pA6 (show ∀t∈P,t.size<=s.size from fun t ht=>iH (by rw [<-hP];exact ht));have HL:=pA6 (show P.length<=s.size+1 by rw [hP];exact wN _ _);have e2:(s.toList==[110,111,110,101])=false:=KD hnone;clear hP hnone;go_enter func288,ntmps288;go_wp2_with fail;refine bb.mono ?_;rintro e w2 ⟨v1,rfl,⟨FX,oX,fX⟩,bm⟩;have B2:=A0.then bm;have cv:=nA bm EA ct;have zX:∀z∈FX,z∉[w.heap.size]:=fun z hz=>by have h1:=fX.ge z hz;simp at h1;simp only [List.mem_singleton];omega
  have hl:=DC oX;obtain ⟨A,n,c,rfl,L,Lc,Lm⟩:=yA hl;have OX:=pA6 oX;have ZX:=pA6 zX;have ZS:=pA6 (show w.heap.size<w2.heap.size by have:=bm.size;simp at this;omega);clear oX zX hl ct fX bb e2;go_wp2
  go_loopg [4,6] n (fun g sv i w'=>∃(k:Nat) (F:List Nat) (qs:List EB),k<=n/\g=n-k/\i=.int .i64 k/\AE w' qs [sv] F/\sA w.heap.size F/\Bw w w'/\TB [w.heap.size] w2 w'/\Hid (∀z∈F,z=w.heap.size\/w2.heap.size<=z)/\Hid (gI nP (P.take k)=some qs/\qs.length=k))
  ·exact ⟨0,_,[],by omega,rfl,rfl,cv,⟨by simp,by simp⟩,B2,TB.refl _ _,pA6 (fun z hz=>.inl (by simpa using hz)),pA6 ⟨rfl,rfl⟩⟩
  ·clear cv B2 bm A0;obtain ⟨k,F,qs,hk,rfl,rfl,hv,hF,hb,hO,HF,HA⟩:=hrel;by_cases hlt:k<n
   ·obtain ⟨x,hx⟩:=tA (xs:=P) (k:=k) (by have:=L.out;omega);obtain ⟨ba,oa,rfl,_,hcx⟩:=BC (DC (hO.keeps iB OX.out ZX.out)) hx;have db:=HM.out x (List.mem_of_getElem? hx);have cg:=pA6 hx;have i1:(0:Int)<=(k:Int):=by omega
    have i2:(k:Int)<(n:Int):=by omega
    have dj:=pA6 (show n<=s.size+2 by rw [L.out];have:=HL.out;omega);obtain ⟨Q,hQ⟩:=pA7 (MD x 62);have bb:=XJ wr x 62 62 rfl (by omega);rw [<-hQ] at bb;have HQ:=pA6 hQ;have cf:=pA6 (show ∀t∈Q,t.size<=s.size from fun t ht=>Nat.le_trans (iH (by rw [<-hQ];exact ht)) db);clear hx db hQ;go_wp2_with fail;refine bb.mono ?_;rintro e w4 ⟨v4,rfl,⟨F4,o4,f4⟩,bq⟩;have r4:=DC o4;obtain ⟨A4,n4,c4,rfl,L4,L4c,L4m⟩:=yA r4;have cx:=nA bq EA hv;have bn:=hb.then bq;have dk:∀z∈F4,wr.heap.size<=z:=fun z hz=>f4.ge z hz
    have dp:=(EA (B:=0)).lt hv;clear bb f4 hv;by_cases hn4:n4=2
    ·subst hn4;obtain ⟨a,b,bf⟩:=WU (P:=Q) (by rw [<-L4.out]);have HS:=pA6 (show gI nP (P.take (k+1))=some (qs++[⟨tG a,tG b⟩]) by rw [List.take_add_one,cg.out];exact fQ (jAh (t:=x) (a:=a) (b:=b) (by rw [<-HQ.out,bf])) HA.out.1);obtain ⟨bc,oc,rfl,bs,ca⟩:=BC (k:=0) (cA1 (B:=0) o4) (x:=a) (by rw [bf];rfl);obtain ⟨_,_,e,_,cb⟩:=BC (k:=1) r4 (x:=b) (by rw [bf];rfl);injection e with e;injection e with e1 e2;subst e1 e2;have fd:=cf.out a (by rw [bf];simp);have ff:=cf.out b (by rw [bf];simp);rw [Nat.add_zero] at ca;obtain ⟨N,hN⟩:=pA7 (tG a);obtain ⟨M,hM⟩:=pA7 (tG b);rw [<-hN,<-hM] at HS;have bt:=fun W=>YJ W a (by omega)
     have bv:=fun W=>YJ W b (by omega)
     simp only [<-hN] at bt;simp only [<-hM] at bv;have dc:=pA6 bt;have dd:=pA6 bv;have D1:Bw w4 w4.drew:=(Bw.refl w4).drew;have hB:=Bw.refl w4.drew;have bj:w4.drew.cell? ⟨bc,oc,none⟩=some (.string a):=D1.cell ca;have bk:w4.drew.cell? ⟨bc,oc+1,none⟩=some (.string b):=D1.cell (by simpa using cb);have cc:=nA D1 EA cx;have cn:=bn.then D1;have ck:=pA6 (hO.then ((bq.then D1).only []) (by simp));have cd:=pA6 (show qs.length<=s.size+2 by have:=HA.out.2;have:=dj.out;omega);have dn:=(EA (B:=0)).lt cc;have cm:bc∉F:=fun h=>by
      have h1:=dk bc (bs.resolve_right (Nat.not_lt_zero _));have h2:=(hb.then (Bw.refl wr)).size;have h3:=dp bc h;omega
     clear hN hM bt bv bf fd ff ca cb r4 o4 cx hO L4;go_wp2_with fail
     go_region_held3 (fun w'=>w'.cell? ⟨bc,oc,none⟩=some (.string a)/\w'.cell? ⟨bc,oc+1,none⟩=some (.string b)) (first | exact ⟨bj,bk⟩ | exact ⟨hB.cell bj,hB.cell bk⟩ | exact ⟨(hB.then ((Bw.refl _).alloc _)).cell bj,(hB.then ((Bw.refl _).alloc _)).cell bk⟩ | exact cq)
      (first
       | (go_at_call 278;first | ((with_reducible refine (dc.out _).mono ?_);rintro e' w5 ⟨rfl,bd⟩;replace hB:=hB.then bd) | ((with_reducible refine (dd.out _).mono ?_);rintro e' w5 ⟨rfl,bd⟩;replace hB:=hB.then bd))
       | (have hA:=(Bw.refl w5).alloc (.cells #[.int .i64 N,.int .i64 M] 214);have bg:=hB.then hA;have cz:=nA bg EA cc;have dt:=cn.then bg;have cp:∀j t,[Value.int .i64 N,.int .i64 M][j]? = some t->(w5.alloc (.cells #[.int .i64 N,.int .i64 M] 214)).cell? ((⟨w5.heap.size,0,none⟩:Addr).add j)=some t:=World.news_of_block (cs:=#[.int .i64 N,.int .i64 M]) (t:=214) (fr:=(0,0)) (heap_alloc_new w5 _);have cj:=pA6 (ck.out.then (bg.only []) (by simp));refine RE _ (by rfl) (.tmp 29) (.tmp 39) 107 (by rfl) w 214 i0 _ 2 16 underlying107 hi dz fb fc rfl (by omega) SF _ qs F (by rfl) cz hF ⟨w5.heap.size,0,none⟩ 1 (by rfl) ⟨N,M⟩ [.int .i64 N,.int .i64 M] [] cp ⟨rfl,rfl⟩ rfl w4.drew.heap.size dn sA.nil cn.size (by have:=cd.out;omega) (by have:=cd.out;omega) dt ?_;intro v' w' F' dx dm ds bp dv;have cq:=And.intro (bp.cell (bg.cell bj) cm) (bp.cell (bg.cell bk) cm)))
     all_goals
      have dq:=TB.push cj.out bp HF.out;have df:=pA6 (show ∀z∈F',z=w.heap.size\/w2.heap.size<=z from fun z hz=>(dv z hz).elim (fun h=>HF.out z h) (fun h=>h.elim (fun h=>by simp at h) (fun h=>.inr (Nat.le_trans cj.out.1 h))));clear cq cz cp cc ck;go_wp2
      go_roundg (n-(k+1))
      ·exact ⟨k+1,F',_,by omega,rfl,by go_num,dx,dm,ds,dq,df,pA6 ⟨HS.out,by rw [List.length_append,HA.out.2];rfl⟩⟩
      ·omega
    ·have HE:=pA6 (show Y=([],false) by rw [HY.out];exact aAs (by rw [HR.out];exact gQ (x:=x) (jAg (by rw [<-HQ.out,<-L4.out];exact hn4)) (List.mem_of_getElem? cg.out)));have e1:((n4:Int) != 2)=true:=by simp;omega
     clear hn4;go_wp2;refine bodyPost_ret (v:=.tuple #[.slice (some ⟨w4.heap.size,0,none⟩) 0 0,.bool false]) (by simp [results,results288,go_sem]) rfl ?_;rw [HE.out];exact WB.two (MA w4) ⟨by simp,fun z hz=>by rw [List.mem_singleton.1 hz];exact bn.size⟩ rfl (bn.alloc _)
   ·obtain rfl:k=n:=by omega
    have hX:MI s=some qs:=by rw [HR.out,<-HA.out.1,List.take_of_length_le (by rw [<-L.out];exact Nat.le_refl _)]
    have bz:=aAt hX;have HQ:=pA6 (aAr hX);have bx:=bP wr qs _ (aC hv);obtain ⟨T,hT⟩:=pA7 (UB qs);rw [<-hT] at bx HQ;clear hT hX HA HR HM HL OX ZX L;go_wp2_with fail;refine bx.mono ?_;rintro e w5 ⟨rfl,bd⟩;have o5:=nA bd EA hv;have B5:=Bw.then hb bd;clear bx bd hlt;by_cases hq:T=s
    ·have HE:=pA6 (show Y=(qs,true) by rw [HY.out,HQ.out,if_pos ⟨bz,hq⟩]);have e1:=JD hq;have e2:(T.toList != s.toList)=false:=by rw [bne,e1];rfl
     clear hq bz;go_wp2;refine bodyPost_ret (v:=.tuple #[u4,.bool true]) (by simp [results,results288,go_sem]) rfl ?_;rw [HE.out];exact WB.two o5 hF rfl B5
    ·have HE:=pA6 (show Y=([],false) by rw [HY.out,HQ.out,if_neg (fun h=>hq h.2)]);have e1:=WC hq;have e2:(T.toList != s.toList)=true:=by rw [bne,e1];rfl
     clear hq bz;go_wp2;refine bodyPost_ret (v:=.tuple #[.slice (some ⟨w5.heap.size,0,none⟩) 0 0,.bool false]) (by simp [results,results288,go_sem]) rfl ?_;rw [HE.out];exact WB.two (MA w5) ⟨by simp,fun z hz=>by rw [List.mem_singleton.1 hz];exact B5.size⟩ rfl (B5.alloc _)
end Go.Proofs.YtpihighajaeabaaGreat
