/- The library's sort of items by their numbers. -/
import Derived.Test.YtpihighajaeabaaGreatProg
import Derived.Shelf.SortM.Plain
import Derived.Shelf.SlSortCmp.WholeK
import Derived.Test.YtpihighajaeabaaGreatXCodes
import Derived.Sort.OwnSortedInts
namespace Go.Proofs.YtpihighajaeabaaGreat
open Go.Shelf Go.RowKit Go.Proofs.Tryz
set_option linter.all false
set_option maxRecDepth 100000
set_option maxHeartbeats 16000000
def eAc:Go.Shelf.Ren:=⟨fun | 5=>79 | 8=>163 | 7=>162 | 19=>216 | 20=>217 | 10=>207 | 11=>208 | 12=>209 | 13=>210 | 14=>211 | 15=>212 | 16=>213 | 17=>214 | 18=>215 | 30=>261 | 31=>262 | 32=>263 | 33=>264 | 34=>265 | 35=>266 | 40=>283 | n=>n,fun | 23=>26 | 25=>3 | 3=>3 | 32=>159 | 22=>26 | 0=>0 | 44=>199 | 46=>201 | 4=>4 | 36=>191 | 35=>190 | 41=>196 | 5=>5 | 9=>9 | 53=>231 | 57=>235 | 63=>247 | 64=>248 | n=>n,fun | n=>n⟩
theorem nAj:Go.Proofs.SlLaysM.n5 prog eAc:={
 mixed:=by kernel_rfl
 f5:=⟨Tryz.f79.name,by decide,func79.trans (congrArg some (by kernel_rfl))⟩
 f7:=⟨Tryz.f162.name,by decide,func162.trans (congrArg some (by kernel_rfl))⟩
 f8:=func163.trans (congrArg some (by kernel_rfl))
 f10:=⟨Tryz.f207.name,by decide,func207.trans (congrArg some (by kernel_rfl))⟩
 f11:=⟨Tryz.f208.name,by decide,func208.trans (congrArg some (by kernel_rfl))⟩
 f12:=⟨Tryz.f209.name,by decide,func209.trans (congrArg some (by kernel_rfl))⟩
 f13:=⟨Tryz.f210.name,by decide,func210.trans (congrArg some (by kernel_rfl))⟩
 f14:=⟨Tryz.f211.name,by decide,func211.trans (congrArg some (by kernel_rfl))⟩
 f15:=⟨Tryz.f212.name,by decide,func212.trans (congrArg some (by kernel_rfl))⟩
 f16:=⟨Tryz.f213.name,by decide,func213.trans (congrArg some (by kernel_rfl))⟩
 f17:=⟨Tryz.f214.name,by decide,func214.trans (congrArg some (by kernel_rfl))⟩
 f18:=⟨Tryz.f215.name,by decide,func215.trans (congrArg some (by kernel_rfl))⟩
 f19:=func216.trans (congrArg some (by kernel_rfl))
 f20:=func217.trans (congrArg some (by kernel_rfl))
 f30:=⟨Tryz.f261.name,by decide,func261.trans (congrArg some (by kernel_rfl))⟩
 f31:=func262.trans (congrArg some (by kernel_rfl))
 f32:=func263.trans (congrArg some (by kernel_rfl))
 f33:=⟨Tryz.f264.name,by decide,func264.trans (congrArg some (by kernel_rfl))⟩
 f34:=⟨Tryz.f265.name,by decide,func265.trans (congrArg some (by kernel_rfl))⟩
 f35:=⟨Tryz.f266.name,by decide,func266.trans (congrArg some (by kernel_rfl))⟩
 f40:=⟨Tryz.f283.name,by decide,func283.trans (congrArg some (by kernel_rfl))⟩
 t0:=underlying0
 a0:=Tryz.isAgg0
 z0:=Tryz.sizeOf0
 v0:=Tryz.zeroValue0
 t3:=underlying3
 a3:=Tryz.isAgg3
 z3:=Tryz.sizeOf3
 v3:=Tryz.zeroValue3
 t4:=underlying4
 a4:=Tryz.isAgg4
 z4:=Tryz.sizeOf4
 v4:=Tryz.zeroValue4
 t5:=underlying5
 a5:=Tryz.isAgg5
 z5:=Tryz.sizeOf5
 v5:=Tryz.zeroValue5
 t9:=underlying9
 a9:=Tryz.isAgg9
 z9:=Tryz.sizeOf9
 v9:=Tryz.zeroValue9
 t22:=underlying26
 a22:=Tryz.isAgg26
 z22:=Tryz.sizeOf26
 v22:=Tryz.zeroValue26
 t23:=underlying26
 a23:=Tryz.isAgg26
 z23:=Tryz.sizeOf26
 v23:=Tryz.zeroValue26
 t25:=underlying3
 a25:=Tryz.isAgg3
 z25:=Tryz.sizeOf3
 v25:=Tryz.zeroValue3
 t32:=underlying159
 a32:=Tryz.isAgg159
 z32:=Tryz.sizeOf159
 v32:=Tryz.zeroValue159
 t35:=underlying190
 a35:=Tryz.isAgg190
 z35:=Tryz.sizeOf190
 v35:=Tryz.zeroValue190
 t36:=underlying191
 a36:=Tryz.isAgg191
 z36:=Tryz.sizeOf191
 v36:=Tryz.zeroValue191
 t41:=underlying196
 a41:=Tryz.isAgg196
 z41:=Tryz.sizeOf196
 v41:=Tryz.zeroValue196
 t44:=underlying199
 a44:=Tryz.isAgg199
 z44:=Tryz.sizeOf199
 v44:=Tryz.zeroValue199
 t46:=underlying201
 a46:=Tryz.isAgg201
 z46:=Tryz.sizeOf201
 v46:=Tryz.zeroValue201
 t53:=underlying231
 a53:=Tryz.isAgg231
 z53:=Tryz.sizeOf231
 v53:=Tryz.zeroValue231
 t57:=underlying235
 a57:=Tryz.isAgg235
 z57:=Tryz.sizeOf235
 v57:=Tryz.zeroValue235
 t63:=underlying247
 a63:=Tryz.isAgg247
 z63:=Tryz.sizeOf247
 v63:=Tryz.zeroValue247
 t64:=underlying248
 a64:=Tryz.isAgg248
 z64:=Tryz.sizeOf248
 v64:=Tryz.zeroValue248 }
def bA9:Go.Shelf.Ren:=⟨fun | 6=>81 | 15=>163 | 14=>164 | 28=>216 | 29=>217 | 20=>218 | 21=>219 | 22=>220 | 23=>221 | 24=>222 | 25=>223 | 26=>224 | 27=>225 | 46=>267 | 47=>262 | 48=>263 | 49=>268 | 50=>269 | 57=>284 | n=>n,fun | 22=>24 | 24=>30 | 25=>95 | 3=>3 | 39=>159 | 0=>0 | 53=>199 | 55=>201 | 4=>4 | 46=>191 | 45=>190 | 50=>196 | 5=>5 | 9=>9 | 66=>231 | 70=>235 | 76=>247 | 77=>248 | n=>n,fun | n=>n⟩
theorem lAx:Go.Proofs.SlLaysF0.n6 prog bA9:={
 mixed:=by kernel_rfl
 f6:=⟨Tryz.f81.name,by decide,func81.trans (congrArg some (by kernel_rfl))⟩
 f14:=⟨Tryz.f164.name,by decide,func164.trans (congrArg some (by kernel_rfl))⟩
 f15:=func163.trans (congrArg some (by kernel_rfl))
 f20:=⟨Tryz.f218.name,by decide,func218.trans (congrArg some (by kernel_rfl))⟩
 f21:=⟨Tryz.f219.name,by decide,func219.trans (congrArg some (by kernel_rfl))⟩
 f22:=⟨Tryz.f220.name,by decide,func220.trans (congrArg some (by kernel_rfl))⟩
 f23:=⟨Tryz.f221.name,by decide,func221.trans (congrArg some (by kernel_rfl))⟩
 f24:=⟨Tryz.f222.name,by decide,func222.trans (congrArg some (by kernel_rfl))⟩
 f25:=⟨Tryz.f223.name,by decide,func223.trans (congrArg some (by kernel_rfl))⟩
 f26:=⟨Tryz.f224.name,by decide,func224.trans (congrArg some (by kernel_rfl))⟩
 f27:=⟨Tryz.f225.name,by decide,func225.trans (congrArg some (by kernel_rfl))⟩
 f28:=func216.trans (congrArg some (by kernel_rfl))
 f29:=func217.trans (congrArg some (by kernel_rfl))
 f46:=⟨Tryz.f267.name,by decide,func267.trans (congrArg some (by kernel_rfl))⟩
 f47:=func262.trans (congrArg some (by kernel_rfl))
 f48:=func263.trans (congrArg some (by kernel_rfl))
 f49:=⟨Tryz.f268.name,by decide,func268.trans (congrArg some (by kernel_rfl))⟩
 f50:=⟨Tryz.f269.name,by decide,func269.trans (congrArg some (by kernel_rfl))⟩
 f57:=⟨Tryz.f284.name,by decide,func284.trans (congrArg some (by kernel_rfl))⟩
 t0:=underlying0
 a0:=Tryz.isAgg0
 z0:=Tryz.sizeOf0
 v0:=Tryz.zeroValue0
 t3:=underlying3
 a3:=Tryz.isAgg3
 z3:=Tryz.sizeOf3
 v3:=Tryz.zeroValue3
 t4:=underlying4
 a4:=Tryz.isAgg4
 z4:=Tryz.sizeOf4
 v4:=Tryz.zeroValue4
 t5:=underlying5
 a5:=Tryz.isAgg5
 z5:=Tryz.sizeOf5
 v5:=Tryz.zeroValue5
 t9:=underlying9
 a9:=Tryz.isAgg9
 z9:=Tryz.sizeOf9
 v9:=Tryz.zeroValue9
 t22:=underlying24
 a22:=Tryz.isAgg24
 z22:=Tryz.sizeOf24
 v22:=Tryz.zeroValue24
 t25:=underlying95
 a25:=Tryz.isAgg95
 z25:=Tryz.sizeOf95
 v25:=Tryz.zeroValue95
 t39:=underlying159
 a39:=Tryz.isAgg159
 z39:=Tryz.sizeOf159
 v39:=Tryz.zeroValue159
 t45:=underlying190
 a45:=Tryz.isAgg190
 z45:=Tryz.sizeOf190
 v45:=Tryz.zeroValue190
 t46:=underlying191
 a46:=Tryz.isAgg191
 z46:=Tryz.sizeOf191
 v46:=Tryz.zeroValue191
 t50:=underlying196
 a50:=Tryz.isAgg196
 z50:=Tryz.sizeOf196
 v50:=Tryz.zeroValue196
 t53:=underlying199
 a53:=Tryz.isAgg199
 z53:=Tryz.sizeOf199
 v53:=Tryz.zeroValue199
 t55:=underlying201
 a55:=Tryz.isAgg201
 z55:=Tryz.sizeOf201
 v55:=Tryz.zeroValue201
 t66:=underlying231
 a66:=Tryz.isAgg231
 z66:=Tryz.sizeOf231
 v66:=Tryz.zeroValue231
 t70:=underlying235
 a70:=Tryz.isAgg235
 z70:=Tryz.sizeOf235
 v70:=Tryz.zeroValue235
 t76:=underlying247
 a76:=Tryz.isAgg247
 z76:=Tryz.sizeOf247
 v76:=Tryz.zeroValue247
 t77:=underlying248
 a77:=Tryz.isAgg248
 z77:=Tryz.sizeOf248
 v77:=Tryz.zeroValue248 }
def kG (l:List Int):List Int:=l.mergeSort fun x y=>decide (x<=y)
theorem CM (l:List Int):(kG l).Perm l:=List.mergeSort_perm l _
theorem LR (l:List Int):(kG l).Pairwise (·<=·):=by
 have h:=List.pairwise_mergeSort (le:=fun x y:Int=>decide (x<=y)) (fun a b c h1 h2=>by simp at *;omega) (fun a b=>by simp;omega) l;exact h.imp (fun h=>by simpa using h)
theorem nT (l:List Int):(kG l).length=l.length:=(CM l).length_eq
theorem gAo {l m:List Int} (hp:m.Perm l) (hs:m.Pairwise (·<=·)):m=kG l:=
 List.Perm.eq_of_pairwise (fun a b _ _ h1 h2=>by omega) hs (LR l) (hp.trans (CM l).symm)
theorem iX:∀ {xs:List Int} {us:List (List Value)} {fs:List (List Nat)} {w:World},IH (fun x u f=>IF w x u f/\u.length=1) xs us fs->us.flatten=xs.map (Value.int .i64)/\fs.flatten=[]
 | [],[],[],_,_=>⟨rfl,rfl⟩
 | x::xs,u::us,f::fs,w,h=>by
  have ih:=iX (xs:=xs) (w:=w) h.2;obtain ⟨⟨hu,hf⟩,_⟩:=h.1;rw [List.flatten_cons,List.flatten_cons,ih.1,ih.2,hu,hf];exact ⟨rfl,rfl⟩
 | [],_::_,_,_,h | [],[],_::_,_,h | _::_,[],_,_,h | _::_,_::_,[],_,h=>h.elim
theorem jAv {w:World} {xs:List Int} {v:Value} {F:List Nat} (h:WA w xs [v] F):w.ownsRow 0 3 1 v xs.length (xs.map (Value.int .i64))/\F=v.ownBlock.toList:=by
 obtain ⟨v',us,Fs,e,hown,hall,hF⟩:=h;injection e with e;subst e;obtain ⟨h1,h2⟩:=iX hall;rw [h1] at hown;rw [h2,List.append_nil] at hF;exact ⟨hown,hF⟩
theorem jAw {w:World} {xs:List Int} {v:Value} (h:w.ownsRow 0 3 1 v xs.length (xs.map (Value.int .i64))):WA w xs [v] v.ownBlock.toList:=by
 refine ⟨v,xs.map (fun x=>[Value.int .i64 x]),List.replicate xs.length [],rfl,?_,?_,?_⟩
 ·have:(xs.map (fun x=>[Value.int .i64 x])).flatten=xs.map (Value.int .i64):=by
   clear h
   induction xs with
   | nil=>rfl
   | cons x xs ih=>rw [List.map_cons,List.flatten_cons,List.map_cons];simp_all
  rw [this];exact h
 ·clear h
  induction xs with
  | nil=>trivial
  | cons x xs ih=>exact ⟨⟨⟨rfl,rfl⟩,rfl⟩,ih⟩
 ·rw [TM,List.append_nil]
def nAk (w:World) (xs:List Int) (v:Value) (F:List Nat) (e:Ending) (w':World):Prop:=e=.returned (.tuple #[])/\WA w' (kG xs) [v] F/\TB F w w'/\∀w0:World,Bw w0 w->(∀b∈F,w0.heap.size<=b)->Bw w0 w'
theorem lAy (w:World) (xs:List Int) (g c:Nat) (F:List Nat) (h:WA w xs [.slice (some ⟨g,0,none⟩) xs.length c] F) (hn:xs.length<=1048576) :
  Calls prog 79 #[.slice (some ⟨g,0,none⟩) xs.length c] w (nAk w xs (.slice (some ⟨g,0,none⟩) xs.length c) F):=by
 obtain ⟨bf,rfl⟩:=jAv h;rcases bf.2 with ⟨h0,_⟩ | ⟨g',cap,cur,hv,bb,hb,h1,h2,h3,h4⟩
 ·cases h0
 injection hv with hv1 hv2 hv3;injection hv1 with hv1;injection hv1 with hv1;subst hv1 hv3;have bc:=AnyM.slices_Sort_int nAj g 0 c xs w (Go.holds_of_blockI hb (by simpa using h4)) (Array.getElem?_eq_some_iff.1 hb).1 (by omega)
 change Calls prog 79 _ _ _ at bc
 refine bc.mono ?_;rintro e w' ⟨rfl,n,os,rfl⟩;have bd:(xs.mergeSort fun x y=>decide (x<=y)).length=xs.length:=by simp
 have ho:=Go.ownsRow_sortedI (base:=0) (n:=n) (os:=os) bd bb hb h1 h2 h3;have hg:=Go.grownBy_sortedI (w:=w) (g:=g) (n:=n) (os:=os) (xs.mergeSort fun x y=>decide (x<=y)).toArray;refine ⟨rfl,?_,TB.of_grown hg hg.size (by simp [Value.ownBlock]),fun w0 hbw hF=>hbw.grown hg (fun k hk=>hF k (by simpa [Value.ownBlock] using hk.symm))⟩;have:=jAw (w:=Go.Sort.grow (Go.Sort.putRow (Value.int .i64) (Go.Sort.ahead w n) g 0 (xs.mergeSort fun x y=>decide (x<=y)).toArray) os) (xs:=kG xs) (v:=.slice (some ⟨g,0,none⟩) xs.length c) (by rw [nT];exact ho);exact this
theorem kA0 {α β:Type} (f:α->β) {m l2:List β} (hp:l2.Perm m):∀l1:List α,l1.map f=m->∃l:List α,l.Perm l1/\l.map f=l2:=by
 induction hp with
 | nil=>intro l1 h;exact ⟨[],by simp at h;rw [h],rfl⟩
 | cons x _ ih=>
  intro l1 h
  cases l1 with
  | nil=>simp at h
  | cons a l1=>
   rw [List.map_cons] at h;injection h with h1 h2;obtain ⟨l,hl,hm⟩:=ih l1 h2;exact ⟨a::l,hl.cons a,by rw [List.map_cons,hm,h1]⟩
 | swap x y l=>
  intro l1 h
  match l1,h with
  | a::b::l1,h=>
   simp only [List.map_cons,List.cons.injEq] at h;obtain ⟨h1,h2,h3⟩:=h;exact ⟨b::a::l1,List.Perm.swap a b l1,by simp [h1,h2,h3]⟩
 | trans _ _ ih1 ih2=>
  intro l1 h;obtain ⟨l,hl,hm⟩:=ih2 l1 h;obtain ⟨l',bb,bc⟩:=ih1 l hm;exact ⟨l',bb.trans hl,bc⟩
theorem pT (cur F:Array Value) (h:F.size<=cur.size):(Go.Sort.putCells id 0 F cur).toList.take F.size=F.toList:=by
 apply List.ext_getElem?;intro j;by_cases hj:j<F.size
 ·rw [List.getElem?_take_of_lt hj,Array.getElem?_toList];simp [Go.Sort.putCells,hj,show j<cur.size by omega]
 ·rw [List.getElem?_take_eq_none (by omega),List.getElem?_eq_none (by simp;omega)]
theorem kX {α:Type} [Inhabited α] (enc:α->List Value) (k:Nat) (hk0:0<k) (hk:∀x,(enc x).length=k) (d:Array α):(Go.Sort.flatK enc k d).toList=(d.toList.map enc).flatten:=by
 have hl:((d.toList.map enc).flatten).length=d.size*k:=by
  rw [KF (sz:=k) (by intro u hu;obtain ⟨x,_,rfl⟩:=List.mem_map.1 hu;exact hk x)];simp
 apply List.ext_getElem?;intro t;by_cases ht:t<d.size*k
 ·have hd:t / k<d.size:=Nat.div_lt_of_lt_mul (by rw [Nat.mul_comm];exact ht);have h1:(d.toList.map enc)[t / k]? = some (enc d[t / k]!):=by rw [List.getElem?_map,Array.getElem?_toList];simp [hd]
  have h2:=UG (us:=d.toList.map enc) (sz:=k) (k:=t / k) (j:=t % k) (by intro u hu;obtain ⟨x,_,rfl⟩:=List.mem_map.1 hu;exact hk x) h1 (Nat.mod_lt _ hk0);rw [Nat.div_add_mod' t k] at h2;rw [h2,Array.getElem?_toList,Array.getElem?_eq_getElem (by simpa using ht)];have h3:=Go.Sort.get_flatK enc k d t ht;rw [getElem!_pos _ _ (by simpa using ht)] at h3;rw [h3,List.getElem?_eq_getElem (by rw [hk];exact Nat.mod_lt _ hk0),getElem!_pos _ _ (by rw [hk];exact Nat.mod_lt _ hk0)]
 ·rw [List.getElem?_eq_none (by simp;omega),List.getElem?_eq_none (by omega)]
abbrev IC:Type:={ q:Int×Value // 0<=q.1/\q.1<=99/\q.2.oneCell'=true }
instance:Inhabited IC:=⟨⟨(0,.int .i64 0),by decide,by decide,rfl⟩⟩
def cJ (x:IC):List Value:=[.int .i64 x.1.1,x.1.2]
def gAr (x y:IC):Int:=x.1.1-y.1.1
theorem nAm (x y:IC):Go.Proofs.ltOf gAr x y=decide (x.1.1<y.1.1):=by unfold Go.Proofs.ltOf gAr;rw [decide_eq_decide];omega
theorem oAt:Go.Sort.SWO (Go.Proofs.ltOf gAr) where
 irrefl x:=by rw [nAm];simp
 trans x y z h1 h2:=by rw [nAm] at *;simp at *;omega
 ntrans x y z h1 h2:=by rw [nAm] at *;simp at *;omega
theorem oAe (x y:IC) (W:World):Calls prog 82 #[.agg #[.int .i64 x.1.1,x.1.2],.agg #[.int .i64 y.1.1,y.1.2]] W fun e w'=>e=.returned (.int .i64 (gAr x y))/\∃q os',w'=Go.Sort.grow (W.drewN q) os':=by
 obtain ⟨⟨a,va⟩,h1,h2,h3⟩:=x;obtain ⟨⟨b,vb⟩,k1,k2,k3⟩:=y;simp only at h1 h2 h3 k1 k2 k3;unfold gAr;dsimp only;go_enter func82,ntmps82;go_wp2;go_ret;exact ⟨rfl,0,_,by rw [Go.Sort.alloc_eq_grow,Go.Sort.alloc_eq_grow,Go.Sort.grow_grow];rfl⟩
theorem oAu (blk off size:Nat) (w:World):Go.Proofs.CmpLays prog 82 #[] cJ 2 gAr blk off size w:=fun _ _ _ _ x y=>oAe x y _
theorem EP:∀ {xs:List iA} {us:List (List Value)} {fs:List (List Nat)} {w:World},IH (fun x u f=>zH w x u f/\u.length=2) xs us fs->(∀x∈xs,0<=x.id/\x.id<=99) ->
  ∃zs:List (iA×IC×List Nat),zs.map (·.1)=xs/\zs.map (fun z=>cJ z.2.1)=us/\zs.map (·.2.2)=fs/\∀z∈zs,z.1.id=z.2.1.1.1/\zH w z.1 (cJ z.2.1) z.2.2
 | [],[],[],_,_,_=>⟨[],rfl,rfl,rfl,by simp⟩
 | x::xs,u::us,f::fs,w,h,hI=>by
  obtain ⟨zs,h1,h2,h3,h4⟩:=EP (xs:=xs) (w:=w) h.2 (fun y hy=>hI y (by simp [hy]));obtain ⟨⟨v,hu,hv⟩,_⟩:=h.1;have bb:v.oneCell'=true:=(aA (B:=0)).one hv v (by simp);have hx:=hI x (by simp);refine ⟨(x,⟨(x.id,v),hx.1,hx.2,bb⟩,f)::zs,by simp [h1],?_,by simp [h3],fun z hz=>?_⟩
  ·rw [List.map_cons,h2,hu];rfl
  ·rcases List.mem_cons.1 hz with rfl | hz
   ·exact ⟨rfl,v,rfl,hv⟩
   ·exact h4 z hz
 | [],_::_,_,_,h,_ | [],[],_::_,_,h,_ | _::_,[],_,_,h,_ | _::_,_::_,[],_,h,_=>h.elim
theorem NR {w:World}:∀ {zs:List (iA×IC×List Nat)},(∀z∈zs,zH w z.1 (cJ z.2.1) z.2.2)->IH (fun x u f=>zH w x u f/\u.length=2) (zs.map (·.1)) (zs.map (fun z=>cJ z.2.1)) (zs.map (·.2.2))
 | [],_=>trivial
 | z::zs,h=>⟨⟨h z (by simp),rfl⟩,NR (zs:=zs) (fun y hy=>h y (by simp [hy]))⟩
def mA2 (w:World) (xs:List iA) (g:Nat) (v:Value) (F:List Nat) (e:Ending) (w':World):Prop:=e=.returned (.tuple #[])/\∃ys F',ys.Perm xs/\ys.Pairwise (fun a b=>a.id<=b.id)/\tD w' ys [v] F'/\F'.Perm F/\TB [g] w w'/\∀w0:World,Bw w0 w->w0.heap.size<=g->Bw w0 w'
theorem mU (w:World) (xs:List iA) (g c:Nat) (F:List Nat) (h:tD w xs [.slice (some ⟨g,0,none⟩) xs.length c] F) (hnd:F.Nodup) (hI:∀x∈xs,0<=x.id/\x.id<=99) (hn:xs.length<=1048576) :
  Calls prog 81 #[.slice (some ⟨g,0,none⟩) xs.length c,.func (.func 82) #[] #[]] w (mA2 w xs g (.slice (some ⟨g,0,none⟩) xs.length c) F):=by
 obtain ⟨v,us,fs,e,bk,bt,hF⟩:=h;injection e with e;subst e;obtain ⟨zs,e1,e2,e3,hz⟩:=EP bt hI;rcases bk.2 with ⟨h0,_⟩ | ⟨g',cap,cc,hv,hbase,hb,h1,h2,h3,h4⟩
 ·cases h0
 injection hv with hv1 hv2 hv3;injection hv1 with hv1;injection hv1 with hv1;subst hv1 hv3;have cb:zs.length=xs.length:=by rw [<-e1,List.length_map]
 obtain ⟨d,hd⟩:=pA7 ((zs.map (·.2.1)).toArray:Array IC);have bg:d.size=xs.length:=by rw [hd];simp [cb]
 have bx:(Go.Sort.flatK cJ 2 d).toList=us.flatten:=by
  rw [kX cJ 2 (by omega) (fun _=>rfl),hd,<-e2];simp [List.map_map,Function.comp_def]
 have hH:Go.Sort.HoldsK cJ 2 w g 0 d:=by
  intro j hj;have cj:j<us.flatten.length:=by rw [<-bx];simpa using hj
  refine ⟨?_,by simp [World.frozen?,hb]⟩;have hc:=bk.cells (g:=g) rfl j _ (List.getElem?_eq_getElem cj);have bs:(⟨g,0,none⟩:Addr).add j=⟨g,0+j,none⟩:=by unfold Addr.add;split<;>simp_all
  rw [bs] at hc;rw [hc]
  congr 1
  rw [getElem!_pos _ j hj];simp only [<-bx,Array.getElem_toList];rfl
 have hg:g<w.heap.size:=(Array.getElem?_eq_some_iff.1 hb).1;have eg:∀args w,(callFunc 82 args).run prog w=.ok (.enter 82 args) w:=enters_of func82 (by kernel_rfl) rfl;have bf:=Go.Proofs.AnyQ.slices_SortFunc lAx 2 Tryz.isAgg30 Tryz.sizeOf30 cJ (fun _=>rfl) (fun x v hv=>by simp [cJ] at hv;rcases hv with rfl | rfl<;>first | rfl | exact x.2.2.2) gAr oAt 82 #[] g 0 c d w eg (oAu g 0 d.size w) hH hg (by omega)
 change Calls prog 81 _ _ _ at bf
 rw [bg] at bf;refine bf.mono ?_;rintro e w' ⟨rfl,d',n,os,hp,hs,rfl⟩;have bd:d'.size=d.size:=hp.1;have bm:d'.toList.Perm d.toList:=by
  have h5:=hp.2.2;have q1:d'.extract 0 xs.length=d':=by rw [<-bg,<-bd];simp
  have q2:d.extract 0 xs.length=d:=by rw [<-bg];simp
  rwa [q1,q2] at h5
 obtain ⟨bb,bn,bz⟩:=kA0 (fun z:iA×IC×List Nat=>z.2.1) bm zs (by rw [hd]);have bv:∀z∈bb,z.1.id=z.2.1.1.1/\zH w z.1 (cJ z.2.1) z.2.2:=fun z h=>hz z (bn.mem_iff.1 h)
 have bc:bb.length=xs.length:=by rw [bn.length_eq,cb]
 obtain ⟨W',bq⟩:=pA7 (Go.Proofs.sortWorldK cJ 2 w g 0 n d' os);rw [<-bq];have bp:w.grownBy W' (some g):=by
  rw [bq];refine ⟨rfl,rfl,rfl,by simp [Go.Proofs.sortWorldK,Go.Sort.putRowK],fun k hk hne=>?_⟩;unfold Go.Proofs.sortWorldK Go.Sort.putRowK;rw [Go.Sort.heap_grow_old _ _ (by simpa using hk)];have:g≠k:=fun e=>hne (by rw [e])
  simp [Go.Sort.putRow,Go.Sort.mapBlock,Go.Sort.ahead,Array.getElem?_modify,this]
 have cf:W'.heap[g]? = some (.cells (Go.Sort.putCells id 0 (Go.Sort.flatK cJ 2 d') cc) 30 (0,0)):=by
  rw [bq];unfold Go.Proofs.sortWorldK Go.Sort.putRowK;rw [Go.Sort.heap_grow_old _ _ (by simpa using hg)];simp [Go.Sort.putRow,Go.Sort.mapBlock,Go.Sort.ahead,Array.getElem?_modify,hb,Go.Sort.onCells]
 have cd:g∉fs.flatten:=by
  rw [hF] at hnd;simp [Value.ownBlock] at hnd
  simpa using hnd.1
 refine ⟨rfl,bb.map (·.1),[g]++(bb.map (·.2.2)).flatten,?_,?_,?_,?_,TB.of_grown bp bp.size (by simp),fun w0 hbw hge=>hbw.grown bp (fun k hk=>by injection hk with hk;omega)⟩
 ·rw [<-e1];exact bn.map _
 ·rw [List.pairwise_map,List.pairwise_iff_getElem];intro i j hi hj cg;have h6:=hs i j (Nat.zero_le _) cg (by rw [<-bc];simpa using hj);rw [nAm] at h6;have h7:∀k (hk:k<bb.length),d'[k]!.1.1=bb[k].1.id:=fun k hk=>by
   rw [(bv _ (List.getElem_mem hk)).1];have h8:d'.toList[k]? = some bb[k].2.1:=by rw [<-bz,List.getElem?_map,List.getElem?_eq_getElem hk];rfl
   rw [Array.getElem?_toList] at h8;have h9:k<d'.size:=by rw [bd,bg,<-bc];exact hk
   rw [getElem!_pos d' k h9];rw [Array.getElem?_eq_getElem h9] at h8;injection h8 with h8;rw [h8]
  rw [h7 j hj,h7 i hi] at h6;simp at h6;exact h6
 ·have bj:=NR (w:=W') (zs:=bb) (fun z h=>(sD (B:=0)).step (fun b hb=>?_) (bv z h).2)
  ·refine ⟨_,bb.map (fun z=>cJ z.2.1),bb.map (·.2.2),rfl,?_,bj,rfl⟩;have e4:bb.map (fun z=>cJ z.2.1)=d'.toList.map cJ:=by rw [<-bz,List.map_map];rfl
   have e5:(bb.map (·.1)).length=xs.length:=by rw [List.length_map,bc]
   rw [e4,<-kX cJ 2 (by omega) (fun _=>rfl),e5];refine ⟨by simp [bd,bg],.inr ⟨g,c,_,rfl,Nat.zero_le _,cf,h1,h2,by simp [Go.Sort.putCells,h3],?_⟩⟩;have e6:(Go.Sort.flatK cJ 2 d').size=xs.length*2:=by simp [bd,bg]
   rw [<-e6];exact pT _ _ (by rw [e6,h3];exact Nat.mul_le_mul_right 2 h1)
  ·rcases hb with hb | hb
   ·have hm:b∈fs.flatten:=by
     rw [<-e3];exact List.mem_flatten.2 ⟨z.2.2,List.mem_map.2 ⟨z,bn.mem_iff.1 h,rfl⟩,hb⟩
    exact bp.block b ((sD (B:=0)).lt (bv z h).2 b hb) (fun e=>by injection e with e;exact cd (e▸hm))
   ·omega
 ·rw [hF,<-e3];exact (List.Perm.refl [g]).append ((bn.map _).flatten)
end Go.Proofs.YtpihighajaeabaaGreat
