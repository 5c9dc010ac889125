/- The console's answers are short. No program in sight. -/
import Derived.Test.YtpihighajaeabaaGreatQVoteA
import Derived.Test.YtpihighajaeabaaGreatQApply
import Derived.Test.YtpihighajaeabaaGreatQSortT
import Derived.Test.YtpihighajaeabaaGreatQDelS2
import Derived.Test.YtpihighajaeabaaGreatQLayLines
import Derived.Test.YtpihighajaeabaaGreatQExpl
import Derived.Test.YtpihighajaeabaaGreatQStandP
import Derived.Test.YtpihighajaeabaaGreatQFmtP
import Derived.Deep.RegionHeld3
import Derived.Test.YtpihighajaeabaaGreatQFmtE
namespace Go.Proofs.YtpihighajaeabaaGreat
open Go.RowKit
set_option linter.unusedVariables false
set_option linter.unusedSimpArgs false
structure CS where
 s:tA
 on:Bool
 voters:List (List kA)
def wOk:ByteArray:=⟨#[111,107]⟩
def wNo:ByteArray:=⟨#[110,111]⟩
def PG:ByteArray:=⟨#[119,104,97,116]⟩
def CE:ByteArray:=⟨#[110,111,32,119,105,115,104]⟩
def KQ:ByteArray:=⟨#[110,111,32,105,116,101,109]⟩
def KU:ByteArray:=⟨#[110,111,32,118,111,116,101,114,115]⟩
def iAf:ByteArray:=⟨#[110,111,110,101]⟩
def dAq:ByteArray:=⟨#[97,100,100]⟩
def jM:ByteArray:=⟨#[99,104,97,110,103,101]⟩
def LU:ByteArray:=⟨#[100,114,111,112]⟩
def gA7:ByteArray:=⟨#[119,104,121]⟩
def QY:ByteArray:=⟨#[98,97,110,100]⟩
def Qq:ByteArray:=⟨#[118,111,116,101,114]⟩
def EL:ByteArray:=⟨#[119,105,115,104]⟩
def bAw:ByteArray:=⟨#[118,111,116,101]⟩
def lQ:ByteArray:=⟨#[98,101,115,116]⟩
def LQ:ByteArray:=⟨#[108,97,121,101,114,115]⟩
def kM:ByteArray:=⟨#[112,114,111,103,114,101,115,115]⟩
def tW:ByteArray:=⟨#[115,116,97,116,101]⟩
def MQ:ByteArray:=⟨#[110,111,114,109,97,108]⟩
def sN (m:CS) (s:tA) (ok:Bool):ByteArray×CS:=if ok then (wOk,⟨s,m.on,m.voters⟩) else (wNo,m)
def FL (m:CS) (e:List kA):ByteArray×CS:=if m.voters.length=5 then (wNo,m) else (EA (m.voters.length+1),⟨m.s,m.on,m.voters++[e]⟩)
def dAr (m:CS) (n:Int):ByteArray:=if (DC m.s.items m.s.wanted n).size=0 then KQ else DC m.s.items m.s.wanted n
def tH (m:CS) (word rest:ByteArray):ByteArray×CS:=
 if word=dAq∧(KG rest).2=true then sN m (cG m.s (KG rest).1) (WF m.s (KG rest).1)
 else if word=jM∧(KG rest).2=true then sN m (CK m.s (KG rest).1) (OG m.s (KG rest).1)
 else if word=LU∧(pI rest).2=true then sN m (PE m.s (pI rest).1) (oF m.s (pI rest).1)
 else if word=gA7∧(pI rest).2=true then (dAr m (pI rest).1,m)
 else if word=QY∧(pI rest).2=true then (nC (UJ m.s.items m.s.wanted (pI rest).1),m)
 else if word=Qq∧(GF rest).2=true then FL m (GF rest).1
 else (PG,m)
noncomputable def eJ (m:CS) (l:ByteArray):ByteArray:=
 if l=bAw then (if m.voters=[] then KU else KF m.s.items m.voters)
 else if l=lQ then nC m.s.best
 else if l=LQ then (if EH m.s.items m.s.wanted=[] then iAf else mE (EH m.s.items m.s.wanted) ⟨#[59,32]⟩)
 else if l=kM then nC (MK m.s.items m.s.wanted)
 else if l=tW then JG m.s
 else if l=EL then JB m.s.wanted
 else if l=MQ then JB (EU m.s.wanted)
 else PG
def zG:List UInt8→Option (List UInt8×List UInt8)
 | []=>none
 | x::l=>if x=32 then some ([],l) else (zG l).map fun p=>(x::p.1,p.2)
noncomputable def oI (m:CS) (l:ByteArray):ByteArray×CS:=match zG (bl l) with
 | some (a,r)=>
  if mkS a=EL∧(GF (mkS r)).2=true then (wOk,⟨SE m.s.items (GF (mkS r)).1,true,m.voters⟩)
  else if m.on=false then (CE,m)
  else tH m (mkS a) (mkS r)
 | none=>if m.on=false then (CE,m) else (eJ m l,m)
noncomputable def GH:CS→List ByteArray→ByteArray
 | _,[]=>⟨#[]⟩
 | m,l::ls=>if l.size=0 then GH m ls else (oI m l).1++⟨#[10]⟩++GH (oI m l).2 ls
abbrev Lay:=Value→Value→Value→Value→Value→Value→List Value
abbrev gA8:Fp (List (List kA)):=fSl 25 1 EC
def okS (s:tA):Prop:=oJ s∧(tB s=true∨s.best=[])
theorem okS.ids {s:tA} (h:okS s):∀v∈s.best,0≤v∧v≤99:=fun v hv=>by
 rcases h.2 with h | h
 ·obtain ⟨h1,h2⟩:=ZB h;rw [h2] at hv;exact qD (sA h1) v hv
 ·rw [h] at hv;cases hv
theorem cI {v:Int} (h:0≤v∧v≤99):(Lit.int .i64 v).wf=true:=by
 simp [Lit.wf,IntKind.min,IntKind.max,IntKind.signed,IntKind.bits];omega
theorem okS.len {s:tA} (h:okS s):s.best.length≤16:=by
 rcases h.2 with h | h
 ·exact DD h
 ·rw [h];exact Nat.zero_le _
theorem bAx {s:tA} {x:gA} (h:okS s):okS (cG s x):=by
 refine ⟨aAs h.1,?_⟩
 cases hc:WF s x with
 | true=>exact .inl (qN hc)
 | false=>rw [show cG s x=s by unfold cG;rw [hc];rfl];exact h.2
theorem bAy {s:tA} {id:Int} (h:okS s):okS (PE s id):=by
 refine ⟨DS h.1,?_⟩
 cases hc:oF s id with
 | true=>exact .inl (rN hc)
 | false=>rw [show PE s id=s by unfold PE;rw [hc];rfl];exact h.2
theorem hAx {s:tA} {x:gA} (h:okS s):okS (CK s x):=by
 unfold CK
 split
 ·exact bAx (bAy h)
 ·exact h
theorem bAz {l:List gA} {e:List kA} (hl:eC l≤1048576) (he:tC e≤1048576):okS (SE l e):=by
 refine ⟨PX hl he,?_⟩
 cases hb:dB l e with
 | true=>
  rw [yI hb];have hl:=sA hb;have hx:bB e=true:=by unfold dB at hb;simp only [Bool.and_eq_true] at hb;exact hb.2
  exact .inl (CL hl hx (by unfold BA;rw [if_pos hb]) ⟨Int.le_refl _,by dsimp only;omega⟩)
 | false=>rw [NX hb];exact .inr rfl
structure StO (L:Lay) (b:Nat) (W:World) (m:CS) (S:XB) (FV:List Nat) (vi vw vb vv:Value):Prop where
 box:Box W b (L vi vw vb (.int .i64 m.s.tests) (.bool m.on) vv)
 dom:∀x,S x→x<W.heap.size∧x≠b∧x∉FV
 ri:MA W S m.s.items [vi]
 rw':RA W S m.s.wanted [vw]
 rb:XA W S m.s.best [vb]
 rv:gA8 W m.voters [vv] FV
 fv:pA b FV
 nb:b∉FV
 small:okS m.s
 five:m.voters.length≤5
def StP (L:Lay) (b:Nat) (W:World) (m:CS):Prop:=∃S FV vi vw vb vv,StO L b W m S FV vi vw vb vv
theorem lM {B:Nat}:VB B gA8:=xB nA
theorem mM {W W':World} {xs:List (List kA)} {v:Value} {F:List Nat} (h:gA8 W xs [v] F) (hF:∀b∈F,W'.heap[b]? = W.heap[b]?):gA8 W' xs [v] F:=
 (lM (B:=0)).step (fun b hb=>by
  rcases hb with hb | hb
  ·exact hF b hb
  ·omega) h
theorem StO.lt {L:Lay} {b:Nat} {W:World} {m:CS} {S:XB} {FV:List Nat} {vi vw vb vv:Value} (h:StO L b W m S FV vi vw vb vv):∀x∈FV,x<W.heap.size:=(lM (B:=0)).lt h.rv
theorem StO.bw {L:Lay} {b:Nat} {W W':World} {m:CS} {S:XB} {FV:List Nat} {vi vw vb vv:Value} (h:StO L b W m S FV vi vw vb vv) (hb:Bw W W'):StO L b W' m S FV vi vw vb vv:=by
 have hA:zN S S W W':=⟨fun _ hx=>hx,fun q hq=>Below.cell hb (h.dom _ hq).1⟩;exact ⟨h.box.bw hb,fun x hx=>⟨Nat.lt_of_lt_of_le (h.dom x hx).1 hb.size,(h.dom x hx).2⟩,jA.step hA h.ri,lA.step hA h.rw',dA.step hA h.rb,mM h.rv (fun x hx=>Below.block hb x (h.lt x hx)),h.fv,h.nb,h.small,h.five⟩
theorem StO.items {L:Lay} {b:Nat} {W:World} {m:CS} {S:XB} {FV:List Nat} {vi vw vb vv:Value} (h:StO L b W m S FV vi vw vb vv):Rd MA W m.s.items [vi]:=jA.step ⟨fun x hx=>(h.dom x hx).1,fun _ _=>rfl⟩ h.ri
theorem StO.wanted {L:Lay} {b:Nat} {W:World} {m:CS} {S:XB} {FV:List Nat} {vi vw vb vv:Value} (h:StO L b W m S FV vi vw vb vv):Rd RA W m.s.wanted [vw]:=lA.step ⟨fun x hx=>(h.dom x hx).1,fun _ _=>rfl⟩ h.rw'
theorem StO.best {L:Lay} {b:Nat} {W:World} {m:CS} {S:XB} {FV:List Nat} {vi vw vb vv:Value} (h:StO L b W m S FV vi vw vb vv):Rd XA W m.s.best [vb]:=dA.step ⟨fun x hx=>(h.dom x hx).1,fun _ _=>rfl⟩ h.rb
theorem StO.vote {L:Lay} {b:Nat} {W:World} {m:CS} {S:XB} {FV:List Nat} {vi vw vb vv:Value} (h:StO L b W m S FV vi vw vb vv):Rd dD W m.voters [vv]:=
 Rd.of dC (B:=0) (DI lA (fun _ _ _ h=>xI h) h.rv) h.lt (Nat.zero_le _)
theorem StO.stand {L:Lay} {b:Nat} {W W0:World} {m:CS} {S:XB} {FV:List Nat} {vi vw vb vv:Value} (h0:StO L b W0 m S FV vi vw vb vv) (hb0:Bw W0 W) {s':tA} {va' vb' vc':Value} {F':List Nat} (o:aC W s' [va',vb',vc',.int .i64 s'.tests] F') (hF:pA W0.heap.size F') (hs:okS s') {W':World} {on:Bool}
  (hO:SB [b] W W') (hbox:Box W' b (L va' vb' vc' (.int .i64 s'.tests) (.bool on) vv)):StO L b W' ⟨s',on,m.voters⟩ (fun x=>S x∨x∈F') FV va' vb' vc' vv:=by
 have h:=h0.bw hb0;have hlt:=(oD (B:=0)).lt o;have hb:b<W0.heap.size:=h0.box.lt;have nF:b∉F':=fun hx=>by have:=hF.ge b hx;omega
 have o':=hO.keeps oD o (fun x hx=>by simp;intro e;exact nF (e▸hx));obtain ⟨v1,v2,v3,G,H,I,e,h1,h2,h3,hFe⟩:=o';injection e with e1 e;injection e with e2 e;injection e with e3 e;subst e1 e2 e3;have hA:zN S (fun x=>S x∨x∈F') W W':=⟨fun _ hx=>.inl hx,fun q hq=>World.cell?_of_block (hO.2 _ (h.dom _ hq).1 (by have:=(h.dom _ hq).2.1;simpa using this))⟩;have hG:∀(F2:List Nat),(∀x∈F2,x∈F')→zN (fun x=>x∈F2∨x<0) (fun x=>S x∨x∈F') W' W':=fun F2 hs=>⟨fun x hx=>hx.elim (fun hx=>.inr (hs x hx)) (fun hx=>absurd hx (Nat.not_lt_zero _)),fun _ _=>rfl⟩
 refine ⟨hbox,fun x hx=>?_,jA.step (hG G (by rw [hFe];intro x hx;simp [hx])) (SL (B:=0) h1),lA.step (hG H (by rw [hFe];intro x hx;simp [hx])) (xI (B:=0) h2),dA.step (hG I (by rw [hFe];intro x hx;simp [hx])) (FI (B:=0) h3),mM h.rv (fun x hx=>hO.2 x (h.lt x hx) (by simp;intro e;exact h.nb (e▸hx))),h.fv,h.nb,hs,h.five⟩;rcases hx with hx | hx
 ·exact ⟨Nat.lt_of_lt_of_le (h.dom x hx).1 hO.1,(h.dom x hx).2⟩
 ·refine ⟨Nat.lt_of_lt_of_le (hlt x hx) hO.1,fun e=>nF (e▸hx),fun hv=>?_⟩;have:=h0.lt x hv;have:=hF.ge x hx;omega
end Go.Proofs.YtpihighajaeabaaGreat
namespace Go.Proofs.YtpihighajaeabaaGreat
open Go.RowKit
set_option linter.unusedVariables false
set_option linter.unusedSimpArgs false
def hAy (w:World) (b:Nat) (s:ByteArray) (vs:List Value) (e:Ending) (W:World):Prop:=e=.returned (.string s)∧SB [b] w W∧Below b w W∧Box W b vs
theorem hAz {w W:World} {b:Nat} {s:ByteArray} {vs:List Value} (hB:Box w b vs) (hb:Bw w W):hAy w b s vs (.returned (.string s)) W:=⟨rfl,hb.only [b],Below.mono hb (Nat.le_of_lt hB.lt),hB.bw hb⟩
def dAs (w:World) (b k:Nat) (a0 a1 a2 a3:Value):World:=(((w.setCell ⟨b,k,none⟩ a0).setCell ⟨b,k+1,none⟩ a1).setCell ⟨b,k+2,none⟩ a2).setCell ⟨b,k+3,none⟩ a3
theorem nM (w:World) (b k:Nat) (a0 a1 a2 a3:Value):SB [b] w (dAs w b k a0 a1 a2 a3):=(((KA b _ _ _).two (KA b _ _ _)).two (KA b _ _ _)).two (KA b _ _ _)
theorem tN (w:World) (b k:Nat) (a0 a1 a2 a3:Value):Below b w (dAs w b k a0 a1 a2 a3):=((((Below.refl b w).setCell (p:=⟨b,k,none⟩) (Nat.le_refl _) _).setCell (p:=⟨b,k+1,none⟩) (Nat.le_refl _) _).setCell (p:=⟨b,k+2,none⟩) (Nat.le_refl _) _).setCell (p:=⟨b,k+3,none⟩) (Nat.le_refl _) _
theorem GS {w:World} {b k:Nat} {vs:List Value} {a0 a1 a2 a3:Value} (hB:Box w b vs) (hk:k+3<vs.length):Box (dAs w b k a0 a1 a2 a3) b ((((vs.set k a0).set (k+1) a1).set (k+2) a2).set (k+3) a3):=
 (((hB.set (j:=k) (by omega) a0).set (j:=k+1) (by simp;omega) a1).set (j:=k+2) (by simp;omega) a2).set (j:=k+3) (by simp;omega) a3
theorem dAt {w:World} {b k:Nat} {s:ByteArray} {vs us:List Value} {a0 a1 a2 a3:Value} {ob:Obj} (hB:Box w b vs) (hk:k+3<vs.length) (hu:us=(((vs.set k a0).set (k+1) a1).set (k+2) a2).set (k+3) a3) :
  hAy w b s us (.returned (.string s)) ((dAs w b k a0 a1 a2 a3).alloc ob):=by
 have hB4:Bw (dAs w b k a0 a1 a2 a3) ((dAs w b k a0 a1 a2 a3).alloc ob):=(Bw.refl _).alloc ob;exact ⟨rfl,(nM w b k a0 a1 a2 a3).bwNext hB4,(tN w b k a0 a1 a2 a3).trans (Below.mono hB4 (by have:=(nM w b k a0 a1 a2 a3).1;have:=hB.lt;omega)),hu▸(GS hB hk).bw hB4⟩
set_option maxRecDepth 100000 in
theorem gA9 (w:World) (b:Nat) (o i0 i1 i2 i3 v:Value) (A0 A1 A2:Option Addr) (n0 c0 n1 c1 n2 c2:Nat) (t:Int) (ok:Bool) (hB:Box w b [o,i0,i1,i2,i3,v]) :
  Calls Tryz.prog 249 #[.pointer (some ⟨b,0,none⟩),.agg #[.slice A0 n0 c0,.slice A1 n1 c1,.slice A2 n2 c2,.int .i64 t],.bool ok] w (hAy w b (if ok then wOk else wNo) (if ok then [o,.slice A0 n0 c0,.slice A1 n1 c1,.slice A2 n2 c2,.int .i64 t,v] else [o,i0,i1,i2,i3,v])):=by
 have B1:Bw w (w.alloc (.cells #[.slice A0 n0 c0,.slice A1 n1 c1,.slice A2 n2 c2,.int .i64 t] 28)):=(Bw.refl w).alloc _;have q0:=hB.c 0 _ rfl;have q1:=hB.c 1 _ rfl;have q2:=hB.c 2 _ rfl;have q3:=hB.c 3 _ rfl;have q4:=hB.c 4 _ rfl;have q5:=hB.c 5 _ rfl;have qf:=hB.fr;have hlt:=hB.lt
 cases ok with
 | true=>
  go_enter Tryz.func249,Tryz.ntmps249;go_wp2;go_ret;exact dAt (k:=1) hB (by simp) rfl
 | false=>
  go_enter Tryz.func249,Tryz.ntmps249;go_wp2;go_ret;exact hAz hB B1
abbrev LI:Lay:=fun vi vw vb t on vv=>[on,vi,vw,vb,t,vv]
abbrev LS:Lay:=fun vi vw vb t on vv=>[vi,vw,vb,t,on,vv]
def ID (L:Lay) (b:Nat) (w:World) (r:ByteArray×CS) (e:Ending) (W:World):Prop:=e=.returned (.string r.1)∧StP L b W r.2∧Below b w W
theorem StO.same {L:Lay} {b:Nat} {W W':World} {m:CS} {S:XB} {FV:List Nat} {vi vw vb vv:Value} (h:StO L b W m S FV vi vw vb vv) (hb:Bw W W') (s:ByteArray):ID L b W (s,m) (.returned (.string s)) W':=
 ⟨rfl,⟨S,FV,vi,vw,vb,vv,h.bw hb⟩,Below.mono hb (Nat.le_of_lt h.box.lt)⟩
theorem StO.put {L:Lay} {b:Nat} {W0 W W':World} {m:CS} {S:XB} {FV:List Nat} {vi vw vb vv:Value} (h0:StO L b W0 m S FV vi vw vb vv) (hb0:Bw W0 W) {s':tA} {ok:Bool} {va' vb' vc':Value} {F':List Nat} (o:aC W s' [va',vb',vc',.int .i64 s'.tests] F') (hF:pA W0.heap.size F') (hs:okS s') {e:Ending}
  (h:hAy W b (if ok then wOk else wNo) (if ok then L va' vb' vc' (.int .i64 s'.tests) (.bool m.on) vv else L vi vw vb (.int .i64 m.s.tests) (.bool m.on) vv) e W'):ID L b W0 (sN m s' ok) e W':=by
 obtain ⟨rfl,hO,hB,hbox⟩:=h;have hlow:Below b W0 W':=(Below.mono hb0 (Nat.le_of_lt h0.box.lt)).trans hB
 cases ok with
 | true=>exact ⟨rfl,⟨_,FV,va',vb',vc',vv,h0.stand hb0 o hF hs hO hbox⟩,hlow⟩
 | false=>
  refine ⟨rfl,⟨S,FV,vi,vw,vb,vv,?_⟩,hlow⟩;have h1:=h0.bw hb0;have hA:zN S S W W':=⟨fun _ hx=>hx,fun q hq=>World.cell?_of_block (hO.2 _ (h1.dom _ hq).1 (by have:=(h1.dom _ hq).2.1;simpa using this))⟩;exact ⟨hbox,fun x hx=>⟨Nat.lt_of_lt_of_le (h1.dom x hx).1 hO.1,(h1.dom x hx).2⟩,jA.step hA h1.ri,lA.step hA h1.rw',dA.step hA h1.rb,mM h1.rv (fun x hx=>hO.2 x (h1.lt x hx) (by simp;intro e;exact h1.nb (e▸hx))),h1.fv,h1.nb,h1.small,h1.five⟩
def RY (b:Nat) (W:World):World:={ W with heap:=W.heap.extract 0 b }
theorem BI {b:Nat} {W:World} (h:b≤W.heap.size):(RY b W).heap.size=b:=by simp [RY];omega
theorem IS {b k:Nat} {W:World} (h:b≤W.heap.size) (hk:k<b):(RY b W).heap[k]? = W.heap[k]?:=by
 show (W.heap.extract 0 b)[k]? = _
 rw [Array.getElem?_extract];simp;omega
theorem iA0 {b:Nat} {W:World} (h:b≤W.heap.size):Bw (RY b W) W:=⟨rfl,rfl,rfl,by rw [BI h];exact h,fun k hk=>by rw [BI h] at hk;exact (IS h hk).symm⟩
theorem aAy {b:Nat} {W W':World} (h:b≤W.heap.size) (hb:Bw (RY b W) W') (hs:W.heap.size≤W'.heap.size):Below b W W':=
 ⟨hb.os,hb.tape,hb.output,hs,fun k hk=>(Below.block hb k (by rw [BI h];exact hk)).trans (IS h hk)⟩
theorem MU {l:List gA} {e:List kA} {n:Int}:∀v∈UJ l e n,0≤v∧v≤99:=fun v hv=>by
 unfold UJ at hv
 split at hv
 ·rename_i hb
  unfold jG at hv;obtain ⟨x,hx,rfl⟩:=List.mem_map.1 hv;exact wD (NA (sA hb) (List.mem_filter.1 hx).1)
 ·cases hv
theorem StO.voter {L:Lay} {b:Nat} {W0 W W1 W2:World} {m:CS} {S:XB} {FV F' F3:List Nat} {vi vw vb vv v':Value} {e:List kA} (h0:StO L b W0 m S FV vi vw vb vv) (hb0:Bw W0 W) (hF3:pA W0.heap.size F3)
  (hv:gA8 W1 (m.voters++[e]) [v'] F') (hF:pA b F') (hO:SB FV W W1) (hs:∀x∈F',x∈FV∨x∈F3∨W.heap.size≤x) (h5:¬m.voters.length=5) (hO2:SB [b] W1 W2)
  (hbox:Box W2 b (L vi vw vb (.int .i64 m.s.tests) (.bool m.on) v')):StO L b W2 ⟨m.s,m.on,m.voters++[e]⟩ S F' vi vw vb v':=by
 have hlt:=h0.box.lt;have hz:=hb0.size;have hz1:=hO.1;have hz2:=hO2.1;have hA:zN S S W0 W2:=⟨fun _ hx=>hx,fun q hq=>World.cell?_of_block (by
  have hd:=h0.dom _ hq;rw [hO2.2 _ (by omega) (by simpa using hd.2.1),hO.2 _ (by omega) hd.2.2];exact Below.block hb0 _ hd.1)⟩
 refine ⟨hbox,fun x hx=>?_,jA.step hA h0.ri,lA.step hA h0.rw',dA.step hA h0.rb,mM hv (fun x hx=>hO2.2 x ((lM (B:=0)).lt hv x hx) ?_),hF,?_,h0.small,?_⟩
 ·have hd:=h0.dom _ hx;refine ⟨by omega,hd.2.1,fun hx2=>?_⟩;rcases hs x hx2 with h | h | h
  ·exact hd.2.2 h
  ·have:=hF3.ge x h;omega
  ·omega
 ·simp;rintro rfl;rcases hs _ hx with h | h | h
  ·exact h0.nb h
  ·have:=hF3.ge _ h;omega
  ·omega
 ·intro hx;rcases hs _ hx with h | h | h
  ·exact h0.nb h
  ·have:=hF3.ge _ h;omega
  ·omega
 ·have:=h0.five;show (m.voters++[e]).length≤5;rw [List.length_append,List.length_singleton];omega
end Go.Proofs.YtpihighajaeabaaGreat
namespace Go.Proofs.YtpihighajaeabaaGreat
open Go.RowKit
set_option linter.unusedVariables false
set_option linter.unusedSimpArgs false
theorem NM (e:List kA):(JB e).size≤4000:=by
 unfold JB
 split
 ·rename_i h
  have h1:=iJ ⟨#[59,32]⟩ (QB e) 0 ⟨#[]⟩;have h2:=jL e;have h3:=(kL h).1;have e0:(⟨#[]⟩:ByteArray).size=0:=rfl;unfold mE;omega
 ·show 0≤4000;omega
end Go.Proofs.YtpihighajaeabaaGreat
namespace Go.Proofs.YtpihighajaeabaaGreat
open Go.RowKit
set_option linter.unusedVariables false
set_option linter.unusedSimpArgs false
theorem JS {X:List (List Int)} {t:ByteArray}:∀ {k:Nat},t∈XH X k→∃j b,j<k∧b∈X∧t=aK j b
 | 0,h=>by cases h
 | k+1,h=>by
  rw [XH] at h;rcases List.mem_append.1 h with h | h
  ·obtain ⟨j,b,h1,h2,h3⟩:=JS h;exact ⟨j,b,by omega,h2,h3⟩
  ·cases hx:X[k]? with
   | none=>rw [hx] at h;cases h
   | some b=>
    rw [hx] at h;exact ⟨k,b,by omega,List.mem_of_getElem? hx,List.mem_singleton.1 h⟩
theorem gAa {l:List gA} {e:List kA} {t:ByteArray} (h:t∈EH l e):1≤t.size∧t.size≤400:=by
 obtain ⟨j,b,h1,h2,rfl⟩:=JS h;have hl:=wJ l e;have h3:=OA (iB (n:=(j:Int)) (by omega));have h4:=lJ (l:=b) (fun x hx=>cI (kQ h2 x hx));have h5:=gQ h2;have e2:(⟨#[58,32]⟩:ByteArray).size=2:=rfl;unfold aK;rw [cA,cA];omega
theorem KS {sep:ByteArray} {n:Nat}:∀ {l:List ByteArray},(∀t∈l,t.size≤n)→TD sep l≤l.length*(n+sep.size)
 | [],_=>by simp [TD,NH]
 | t::l,h=>by
  have h1:=h t (by simp);have h2:=KS (sep:=sep) (l:=l) (fun x hx=>h x (by simp [hx]));have e:TD sep (t::l)=t.size+sep.size+TD sep l:=rfl;rw [e,List.length_cons,Nat.succ_mul];omega
theorem SY (l:List gA) (e:List kA):TD ⟨#[59,32]⟩ (EH l e)≤6432:=by
 have h1:=KS (sep:=⟨#[59,32]⟩) (n:=400) (l:=EH l e) (fun t ht=>(gAa ht).2);have h2:=aAw l e;have e2:(⟨#[59,32]⟩:ByteArray).size=2:=rfl;rw [e2] at h1;have:=Nat.mul_le_mul_right 402 h2;omega
theorem TY {c:Int→Nat} {x y:Int}:∀ {r:List Int},y∈fN c x r→y=x∨y∈r
 | [],h=>.inl (List.mem_singleton.1 h)
 | z::r,h=>by
  rw [fN] at h
  split at h
  ·rcases List.mem_cons.1 h with h | h
   ·exact .inr (by simp [h])
   ·exact (TY h).imp id (fun h=>by simp [h])
  ·rcases List.mem_cons.1 h with h | h
   ·exact .inl h
   ·exact .inr h
theorem NU {c:Int→Nat} {y:Int}:∀ {xs r:List Int},y∈xs.foldl (fun r x=>fN c x r) r→y∈xs∨y∈r
 | [],_,h=>.inr h
 | x::xs,r,h=>by
  rw [List.foldl_cons] at h;rcases NU h with h | h
  ·exact .inl (by simp [h])
  ·rcases TY h with h | h
   ·exact .inl (by simp [h])
   ·exact .inr h
theorem dAu {l:List gA} {e:List kA} {v:Int} (h:v∈MK l e):v∈BA l e:=by
 unfold MK VJ at h;rw [List.mem_reverse] at h;exact (NU h).resolve_right (by simp)
theorem OU {l:List gA} {e:List kA}:∀v∈MK l e,0≤v∧v≤99:=fun v hv=>by
 have h:=dAu hv;unfold BA at h
 split at h
 ·rename_i hb;exact qD (sA hb) v h
 ·cases h
theorem GL {l:List Int} (h:∀v∈l,0≤v∧v≤99) (hl:l.length≤16):(nC l).size≤400:=by
 have:=lJ (l:=l) (fun x hx=>cI (h x hx));omega
theorem dAv (l:List gA) (e:List kA) (id:Int):(DC l e id).size≤2000:=by
 unfold DC
 split
 ·rename_i hc
  split
  ·decide
  ·rcases eH l e id with hcc | ⟨hB,j,p,hf,hp,hid⟩
   ·rw [hcc] at hc;exact absurd hc (by simp)
   have hids:∀v∈tD l e id 1,(Lit.int .i64 v).wf=true:=fun v hv=>iB (by have:=vR hB hv;omega)
   have hvs:∀v∈(TB l e id).vals,(Lit.int .i64 v).wf=true:=fun v hv=>iB (by have:=nK l e id hv;omega)
   have wc:=iB (n:=xC l e id) (by have:=XM l e id hB;omega);have h1:=pE ⟨#[44]⟩ hids;have h2:=pE ⟨#[44]⟩ hvs;have h3:=(OA wc).2;have h4:=kG l e id 1;have h5:=VA (sA hB);have h6:=iL l e id;have e1:(⟨#[44]⟩:ByteArray).size=1:=rfl;have e2:(⟨#[98,101,108,111,119,32]⟩:ByteArray).size=6:=rfl;have e3:(⟨#[32,99,104,97,110,103,101,32,116,111,32]⟩:ByteArray).size=11:=rfl;have e4:(⟨#[32,99,111,115,116,32]⟩:ByteArray).size=6:=rfl;rw [e1] at h1 h2
   repeat rw [cA]
   omega
 ·decide
theorem aAz {s:tA}:(JG s).size≤2000:=by
 unfold JG
 split
 ·rename_i h
  have hb:=ZB h;have hI:=sA hb.1;have h1:=GL (l:=s.best) (by rw [hb.2];exact qD hI) (DD h);have hn:=VA hI;have ht:0≤s.tests∧s.tests≤1000000:=by
   unfold tB inB at h;simp only [Bool.and_eq_true,decide_eq_true_iff] at h;exact h.2.2
  have h2:=(OA (iB (n:=(s.items.length:Int)) (by omega))).2;have h3:=(OA (iB (n:=s.tests) (by omega))).2;have e1:(⟨#[105,116,101,109,115,32]⟩:ByteArray).size=6:=rfl;have e2:(⟨#[32,98,101,115,116,32]⟩:ByteArray).size=6:=rfl;have e3:(⟨#[32,116,101,115,116,115,32]⟩:ByteArray).size=7:=rfl
  repeat rw [cA]
  omega
 ·decide
theorem dAw (l:List gA) (g:List (List kA)):(KF l g).size≤2000:=by
 unfold KF
 split
 ·have h0:=(OA (gM (WP l g))).2;have h1:=(OA (gM (jI l g (BH l g)))).2;have h2:=(OA (gM (jI l g (RF l g)))).2;have z1:(⟨#[99,111,110,100,111,114,99,101,116,32]⟩:ByteArray).size=10:=rfl;have z2:(⟨#[32,98,111,114,100,97,32]⟩:ByteArray).size=7:=rfl;have z3:(⟨#[32,97,112,112,114,111,118,97,108,32]⟩:ByteArray).size=10:=rfl
  repeat rw [cA]
  omega
 ·decide
theorem MS (m:CS) (s:tA) (ok:Bool):(sN m s ok).1.size≤10000:=by
 cases ok
 ·exact (by decide:wNo.size≤10000)
 ·exact (by decide:wOk.size≤10000)
theorem bA0 (m:CS) (e:List kA) (h:m.voters.length≤5):(FL m e).1.size≤10000:=by
 unfold FL
 split
 ·exact (by decide:wNo.size≤10000)
 ·have:=(OA (iB (n:=((m.voters.length:Int)+1)) (by omega))).2;exact Nat.le_trans this (by decide)
theorem dAx (m:CS) (word rest:ByteArray) (h5:m.voters.length≤5):(tH m word rest).1.size≤10000:=by
 unfold tH
 split
 ·exact MS _ _ _
 ·split
  ·exact MS _ _ _
  ·split
   ·exact MS _ _ _
   ·split
    ·unfold dAr;have:=dAv m.s.items m.s.wanted (pI rest).1
     split
     ·exact (by decide:KQ.size≤10000)
     ·show (DC _ _ _).size≤10000;omega
    ·split
     ·have:=GL (l:=UJ m.s.items m.s.wanted (pI rest).1) MU (zU _ _ _);exact Nat.le_trans this (by decide)
     ·split
      ·exact bA0 _ _ h5
      ·exact (by decide:PG.size≤10000)
theorem gAb (m:CS) (l:ByteArray) (hb:okS m.s):(eJ m l).size≤10000:=by
 have h1:=dAw m.s.items m.voters;have h2:=GL hb.ids hb.len;have h3:=GL (l:=MK m.s.items m.s.wanted) OU (CU _ _);have h4:=aAz (s:=m.s);have h5:=NM m.s.wanted;have h6:=NM (EU m.s.wanted);have h7:=iJ ⟨#[59,32]⟩ (EH m.s.items m.s.wanted) 0 ⟨#[]⟩;have h8:=SY m.s.items m.s.wanted;have e0:(⟨#[]⟩:ByteArray).size=0:=rfl;have h9:(mE (EH m.s.items m.s.wanted) ⟨#[59,32]⟩).size≤6432:=by unfold mE;omega
 unfold eJ
 split
 ·split
  ·decide
  ·omega
 ·split
  ·omega
  ·split
   ·split
    ·decide
    ·omega
   ·split
    ·omega
    ·split
     ·omega
     ·split
      ·omega
      ·split
       ·omega
       ·decide
theorem UY (m:CS) (l:ByteArray) (hb:okS m.s) (h5:m.voters.length≤5):(oI m l).1.size≤10000:=by
 unfold oI
 split
 ·split
  ·exact (by decide:wOk.size≤10000)
  ·split
   ·exact (by decide:CE.size≤10000)
   ·exact dAx m _ _ h5
 ·split
  ·exact (by decide:CE.size≤10000)
  ·exact gAb m l hb
end Go.Proofs.YtpihighajaeabaaGreat
