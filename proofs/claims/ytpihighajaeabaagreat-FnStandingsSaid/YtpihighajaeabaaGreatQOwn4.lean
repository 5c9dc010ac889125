/- Appending a whole list in a region that draws its order. -/
import Derived.Test.YtpihighajaeabaaGreatQLawH
import Derived.Test.YtpihighajaeabaaGreatQOwn3
namespace Go.Proofs.YtpihighajaeabaaGreat
open Go.RowKit
set_option linter.unusedVariables false
set_option linter.unusedSimpArgs false
/-- since w nothing has turned but the cursor, and what is new -/
structure Dn (w0 w : World) (p : Nat) (W : World) : Prop where
  only : Only [p] w W
  at' : At w0 p W
  lt : p < w.heap.size
  le : w0.heap.size ≤ w.heap.size
theorem Dn.start {w0 w : World} {p : Nat} (h : At w0 p w) : Dn w0 w p w := ⟨Only.refl _ _, h, h.lt, h.bw.size⟩
theorem Dn.call {w0 w W W' : World} {p : Nat} (h : Dn w0 w p W) (hO : Only [p] W W') (hA : At w0 p W') : Dn w0 w p W' := ⟨h.only.two hO, hA, h.lt, h.le⟩
theorem Dn.bw {w0 w W W' : World} {p : Nat} (h : Dn w0 w p W) (hb : Bw W W') : Dn w0 w p W' := ⟨h.only.bwNext hb, h.at'.bwStep hb, h.lt, h.le⟩
theorem Dn.alloc {w0 w W : World} {p : Nat} (h : Dn w0 w p W) (o : Obj) : Dn w0 w p (W.alloc o) := h.bw ((Bw.refl W).alloc o)
theorem Dn.drew {w0 w W : World} {p : Nat} (h : Dn w0 w p W) : Dn w0 w p W.drew := h.bw (Bw.refl W).drew
theorem Dn.next {w0 w W W' : World} {p : Nat} {F : List Nat} (h : Dn w0 w p W) (hO : Only F W W') (hF : ∀ b ∈ F, w.heap.size ≤ b) (hb : Bw w0 W') : Dn w0 w p W' :=
  ⟨⟨Nat.le_trans h.only.1 hO.1, fun b hb hn => (hO.2 b (Nat.lt_of_lt_of_le hb h.only.1) (fun e => by have := hF b e; omega)).trans (h.only.2 b hb hn)⟩, h.at'.onlyStep hO (fun b hb => by have := hF b hb; have := h.lt; omega) hb, h.lt, h.le⟩
theorem Dn.set {w0 w W : World} {p b o : Nat} (h : Dn w0 w p W) (hb : w.heap.size ≤ b) (u : Value) : Dn w0 w p (W.setCell ⟨b, o, none⟩ u) :=
  h.next (only_setCell b o W u) (by simpa using hb) (h.at'.bw.set (by have := h.le; dsimp only; omega) u)
theorem Dn.size {w0 w W : World} {p : Nat} (h : Dn w0 w p W) : w.heap.size ≤ W.heap.size := h.only.1
theorem Dn.ret {w0 w W : World} {p : Nat} {R : World → Value → Prop} {v : Value} (h : Dn w0 w p W) (hR : R W v) : RetD w0 p w R (.returned v) W := ⟨v, rfl, hR, h.only, h.at'⟩
/-- what is owned stands when the cursor turns -/
theorem Dn.keep {w0 w W W' : World} {p : Nat} (h : Dn w0 w p W) (hO : Only [p] W W') {α : Type} {R : Fp α} (hR : GoodF 0 R) {x : α} {cs : List Value} {F : List Nat} (hx : R W x cs F) (hF : ∀ b ∈ F, w.heap.size ≤ b) : R W' x cs F :=
  hO.keeps hR hx fun b hb e => by have := hF b hb; have := h.lt; simp at e; omega
/-- an append in a drawing function -/
theorem wpList_pushD {α : Type} {P : Program} {ops : Array Oper} {rest : List Oper} {o : Oper} {a : Act} {Q : Exit → Act → World → Prop} (W : World) (hgd : o.guard = none) (s x : Operand) (t : TypeId)
    (ho : o.op = .call { callee := .builtin .append, args := #[s, x], argTypes := #[t, t] })
    (w0 w : World) (p : Nat) (hD : Dn w0 w p W) (B : Nat) (hB : w.heap.size ≤ B) (hBW : B ≤ W.heap.size) (e : TypeId) (i : TypeInfo) (z : Value) (sz bytes : Nat) (ht : P.underlying t = some (.slice e)) (hi : P.info? e = some i) (hz : i.zero = some z)
    (hsize : i.size = sz) (hby : i.bytes = bytes) (hzs : z.cells.size = sz) (hsz : 0 < sz)
    {R : Fp α} (hR : GoodF 0 R) (v : Value) (xs : List α) (F : List Nat) (hs : a.eval s = v) (hv : fSl e sz R W xs [v] F) (hF : Fresh B F)
    (ad : Addr) (c : Nat) (hx : a.eval x = .slice (some ad) 1 c) (y : α) (u : List Value) (f : List Nat) (hu : ∀ j t, u[j]? = some t → W.cell? (ad.add j) = some t)
    (hy : R W y u f) (hul : u.length = sz) (m : Nat) (hFm : ∀ b ∈ F, b < m) (hf : Fresh m f) (hm : B ≤ m) (hbytes : (xs.length + 1) * bytes ≤ 140737488355328) (hlen : xs.length < 4611686018427387904)
    (h : ∀ v' w' F', fSl e sz R w' (xs ++ [y]) [v'] F' → Fresh B F' → Dn w0 w p w' → Only F W w' → wpList P ops Q rest (a.put o.dst v') w') : wpList P ops Q (o :: rest) a W := by
  have hle := hD.le
  refine wpList_push2 W hgd s x t ho w0 e i z sz bytes ht hi hz hsize hby hzs hsz (hR.mono (Nat.zero_le _)) v xs F hs hv (hF.mono (by omega)) ad c hx y u f hu hy hul m hFm hf (by omega) hbytes hlen hD.at'.bw ?_
  intro v' w' F' hv' hF' hb' hO' h5
  exact h v' w' F' hv' (hF'.raise h5 hF.ge (fun b hb => Nat.le_trans hm (hf.ge b hb)) hBW) (hD.next hO' (fun b hb => Nat.le_trans hB (hF.ge b hb)) hb') hO'
/-- what the items that are drawn look like -/
def gItem3 (x : GItem) : Prop := (-100 ≤ x.id ∧ x.id ≤ 1000) ∧ x.vals.length = 3 ∧ ∀ y ∈ x.vals, -100 ≤ y ∧ y ≤ 100
def gItem (x : GItem) : Prop := (-100 ≤ x.id ∧ x.id ≤ 1000) ∧ x.vals.length ≤ 4 ∧ ∀ y ∈ x.vals, -100 ≤ y ∧ y ≤ 100
theorem gItem3.g {x : GItem} (h : gItem3 x) : gItem x := ⟨h.1, by have := h.2.1; omega, h.2.2⟩
theorem fInts_tri (w : World) (a b c : Int) : fInts (w.alloc (.cells #[.int .i64 a, .int .i64 b, .int .i64 c] 3)) [a, b, c] [.slice (some ⟨w.heap.size, 0, none⟩) 3 3] [w.heap.size] := by
  refine ⟨_, [[.int .i64 a], [.int .i64 b], [.int .i64 c]], [[], [], []], rfl, ?_, ?_, rfl⟩
  · exact ⟨rfl, .inr ⟨w.heap.size, 3, #[.int .i64 a, .int .i64 b, .int .i64 c], rfl, Nat.zero_le _, heap_alloc_new w _, Nat.le_refl 3, (by decide : 3 ≤ maxLen), rfl, rfl⟩⟩
  · exact ⟨⟨⟨rfl, rfl⟩, rfl⟩, ⟨⟨rfl, rfl⟩, rfl⟩, ⟨⟨rfl, rfl⟩, rfl⟩, trivial⟩
set_option maxRecDepth 100000 in
set_option maxHeartbeats 3200000 in
theorem D_l2Items (w0 w : World) (p : Nat) (hA : At w0 p w) (most : Int) (h1 : 0 ≤ most) (h2 : most ≤ 16) : Calls Tryz.prog 128 #[.pointer (some ⟨p, 0, none⟩), .int .i64 most] w
    (RetD w0 p w (DL fItems w.heap.size fun xs => (xs.length : Int) ≤ most ∧ ∀ x ∈ xs, gItem3 x)) := by
  obtain ⟨i0, hi, hz0, hz1, hz2⟩ := info_parts info_Item
  have D0 := Dn.start hA
  have D1 := D0.alloc (.cells #[] 30)
  have D2 := D1.alloc (.cells #[.int .i64 2, .int .i64 4, .int .i64 10] 3)
  have hv0 := fSl_empty (e := 30) (sz := 2) (R := fItem) w
  have hv1 := keepBw ((Bw.refl _).alloc (.cells #[.int .i64 2, .int .i64 4, .int .i64 10] 3)) (fSl_good fItem_good) hv0
  have hl := fInts_tri (w.alloc (.cells #[] 30)) 2 4 10
  have hlt := hA.lt
  have hcall := D_l1PickInt w0 _ p D2.at' [2, 4, 10] _ _ hl (by simp; omega) (by decide) (by decide)
  rw [show (w.alloc (.cells #[] 30)).heap.size = w.heap.size + 1 from by simp] at hcall
  clear hl hv0
  go_enter Tryz.func128, Tryz.ntmps128
  go_wp2_with fail
  refine hcall.mono ?_
  rintro e w1 ⟨v1, rfl, ⟨wide, hw, rfl⟩, hO1, hA1⟩
  have D3 := D2.call hO1 hA1
  have hv2 := D2.keep hO1 (fSl_good fItem_good) hv1 (by simp)
  have hw2 : 0 < wide ∧ wide ≤ 10 := by simp at hw; omega
  have hcall2 := D_l1Below w0 w1 p hA1 3 (by omega) (by omega)
  clear hcall hw hv1 D1 D2 hO1
  go_wp2_with fail
  refine hcall2.mono ?_
  rintro e w2 ⟨v2, rfl, ⟨id0, rfl, id1, id2⟩, hO2, hA2⟩
  have D4 := D3.call hO2 hA2
  have hv3 := D3.keep hO2 (fSl_good fItem_good) hv2 (by simp)
  have hcall3 := D_l1Below w0 w2 p hA2 (most + 1) (by omega) (by omega)
  clear hcall2 hv2 D3 hO2
  go_wp2_with fail
  refine hcall3.mono ?_
  rintro e w3 ⟨v3, rfl, ⟨N0, rfl, N1, N2⟩, hO3, hA3⟩
  have D5 := D4.call hO3 hA3
  have hv4 := D4.keep hO3 (fSl_good fItem_good) hv3 (by simp)
  obtain ⟨N, rfl⟩ : ∃ N : Nat, N0 = (N : Int) := ⟨N0.toNat, by omega⟩
  clear hcall3 hv3 D4 hO3 hA1 hA2
  go_wp2
  have HN := Lib.hid N2
  have Hid0 := Lib.hid (And.intro id1 id2)
  clear id1 id2 N1 N2
  go_loopg [5, 7, 8] N (fun g s t z w' => ∃ (k : Nat) (n : Nat) (q : Int) (xs : List GItem) (F : List Nat), n = g ∧ z = .int .i64 n ∧ t = .int .i64 q ∧ Hid (k + n = N ∧ 0 ≤ q ∧ q ≤ 2 + 2 * k ∧ xs.length = k ∧ ∀ x ∈ xs, gItem3 x) ∧ fItems w' xs [s] F ∧ Fresh w.heap.size F ∧ Dn w0 w p w')
  case atStart => exact ⟨0, N, id0, [], [w.heap.size], rfl, rfl, rfl, Lib.hid ⟨by omega, by have := Hid0.out; omega, by have := Hid0.out; omega, rfl, by simp⟩, hv4, ⟨by simp, by simp⟩, D5⟩
  case round =>
    clear hv4 D5 hA3
    obtain ⟨k, n, q, xs, F, rfl, rfl, rfl, HI, hv, hF, hD⟩ := hrel
    have hk16 : k + n ≤ 16 := by have := HI.out.1; have := HN.out; omega
    have hq : 0 ≤ q ∧ q ≤ 34 := by have := HI.out.2; omega
    by_cases hn : 0 < n
    · have n1 : (0 : Int) < (n : Int) := by omega
      have hcall := D_l2Item w0 wr p hD.at' q wide hw2.1 (by omega)
      go_wp2_with fail
      refine hcall.mono ?_
      rintro e w4 ⟨v4, rfl, ⟨x, u, F2, rfl, o2, f2, HX⟩, hO4, hA4⟩
      have D4 := hD.call hO4 hA4
      obtain ⟨A2, n2, c2, rfl, l2, _⟩ := rSl_open (fInts_Rd o2)
      have HL2 := Lib.hid l2
      have HXX := Lib.hid HX
      have hv4 := hD.keep hO4 (fSl_good fItem_good) hv hF.ge
      have hFm := (fSl_good (sz := 2) (e := 30) (fItem_good (B := 0))).lt hv
      have DW := D4.alloc (.cells #[.int .i64 x.id, .slice A2 n2 c2] 30)
      have hvW := keepBw ((Bw.refl w4).alloc (.cells #[.int .i64 x.id, .slice A2 n2 c2] 30)) (fSl_good fItem_good) hv4
      have oW := keepBw ((Bw.refl w4).alloc (.cells #[.int .i64 x.id, .slice A2 n2 c2] 30)) fInts_good o2
      have hcl : ∀ j t, [Value.int .i64 x.id, .slice A2 n2 c2][j]? = some t → (w4.alloc (.cells #[.int .i64 x.id, .slice A2 n2 c2] 30)).cell? ((⟨w4.heap.size, 0, none⟩ : Addr).add j) = some t := World.news_of_block (cs := #[.int .i64 x.id, .slice A2 n2 c2]) (t := 30) (fr := (0, 0)) (heap_alloc_new w4 _)
      have hxl : xs.length = k := HI.out.2.2.2.1
      have HXL := Lib.hid hxl
      have hz1' := DW.size
      have hz2' := hD.size
      have HF2 := f2
      clear hcall l2 HX hv hv4 o2 hxl hO4 hA4
      go_wp2_with (at_builtin; refine wpList_pushD _ rfl (.tmp 23) (.tmp 28) 24 rfl w0 w p DW w.heap.size (Nat.le_refl _) hz1' 30 i0 _ 2 32 Tryz.underlying24 hi hz0 hz1 hz2 rfl (by omega) fItem_good _ xs F rfl hvW hF ⟨w4.heap.size, 0, none⟩ 1 rfl x [.int .i64 x.id, .slice A2 n2 c2] F2 hcl ⟨_, rfl, oW⟩ rfl wr.heap.size hFm f2 hz2' (by have := HXL.out; omega) (by have := HXL.out; omega) ?_; intro v5 w5 F5 hv5 hF5 hD5 hO5)
      have hcall5 := D_l1Below w0 w5 p hD5.at' 2 (by omega) (by omega)
      go_wp2_with fail
      refine hcall5.mono ?_
      rintro e w6 ⟨v6, rfl, ⟨z6, rfl, z61, z62⟩, hO6, hA6⟩
      have D6 := hD5.call hO6 hA6
      have hv6 := hD5.keep hO6 (fSl_good fItem_good) hv5 hF5.ge
      have HG := Lib.hid (show gItem3 x from by
        obtain ⟨e1, e2, e3⟩ := HXX.out
        exact ⟨by rw [e1]; omega, e2, fun y hy => by have := e3 y hy; omega⟩)
      have HI2 := HI
      obtain ⟨m, rfl⟩ : ∃ m, n = m + 1 := ⟨n - 1, by omega⟩
      clear hcall5 hv5 hvW oW hcl hO5 hO6 DW D4
      go_wp2
      go_roundg m
      case measure => omega
      case rel => exact ⟨k + 1, m, q + 1 + z6, xs ++ [x], F5, rfl, by go_num, rfl, Lib.hid ⟨by have := HI.out.1; omega, by omega, by have := HI.out.2.2.1; omega, by rw [List.length_append, HI.out.2.2.2.1]; rfl, fun y hy => (List.mem_append.1 hy).elim (HI.out.2.2.2.2 y) (fun h => by rw [List.mem_singleton.1 h]; exact HG.out)⟩, hv6, hF5, D6⟩
    · obtain rfl : n = 0 := by omega
      have HR := Lib.hid (show (xs.length : Int) ≤ most by have := HI.out.1; have := HI.out.2.2.2.1; have := HN.out; omega)
      clear hn
      go_wp2
      go_ret
      exact hD.ret ⟨xs, F, hv, hF, HR.out, HI.out.2.2.2.2⟩
end Go.Proofs.YtpihighajaeabaaGreat

namespace Go.Proofs.YtpihighajaeabaaGreat
open Go.RowKit
set_option linter.unusedVariables false
theorem wp_append_all {α : Type} {P : Program} {o : Oper} {a : Act} {K : Act → World → Prop} {Q : Exit → Act → World → Prop} (W : World) (s x : Operand) (t : TypeId)
    (ho : o.op = .call { callee := .builtin .append, args := #[s, x], argTypes := #[t, t] })
    (w0 : World) (e : TypeId) (i : TypeInfo) (z : Value) (sz bytes : Nat) (ht : P.underlying t = some (.slice e)) (hi : P.info? e = some i) (hz : i.zero = some z)
    (hsize : i.size = sz) (hby : i.bytes = bytes) (hzs : z.cells.size = sz) (hsz : 0 < sz)
    {R : Fp α} (hR : GoodF w0.heap.size R) (v : Value) (xs : List α) (F : List Nat) (hs : a.eval s = v) (hv : fSl e sz R W xs [v] F) (hF : Fresh w0.heap.size F)
    (sv : Value) (hx : a.eval x = sv) {R' : Rep α} {S : Blocks} (ys : List α) (hsrc : rSl sz R' W S ys [sv]) (hRR : ∀ y u, R' W S y u → R W y u [])
    (hbytes : (xs.length + ys.length) * bytes ≤ 140737488355328) (hlen : xs.length + ys.length < 4611686018427387904) (hbw : Bw w0 W)
    (h : ∀ v' w' F', fSl e sz R w' (xs ++ ys) [v'] F' → Fresh w0.heap.size F' → Bw w0 w' → Only F W w' → (∀ b ∈ F', b ∈ F ∨ W.heap.size ≤ b) → K (a.put o.dst v') w') : o.wp P a W K Q := by
  obtain ⟨v0, us, Fs, hv0, hown, hall, hFe⟩ := hv
  injection hv0 with hv0
  subst hv0
  obtain ⟨A, c, hsv, hc1, hc2, hk⟩ := hsrc
  injection hsv with hsv
  subst hsv
  have hl := all3_len hall
  have hvg : ∀ k, v.ownBlock = some k → w0.heap.size ≤ k := fun k hk => hF.ge k (by rw [hFe]; simp [hk])
  by_cases hy0 : ys = [] ∧ A = none
  · obtain ⟨rfl, rfl⟩ := hy0
    have hrun := run_append_of_nil (P := P) W 0 t o.type e i sz ht hi v xs.length us.flatten hown c
    unfold Oper.wp execOp
    simp only [ho, resolve, invoke, builtin, Sem.run_bind, Sem.run_pure, Result.andThen_ok, List.map_toArray, List.map_cons, List.map_nil, hs, hx]
    rw [show (List.length ([] : List α)) = 0 from rfl, hrun]
    exact (h v W F (by rw [List.append_nil]; exact ⟨v, us, Fs, rfl, hown, hall, hFe⟩) hF hbw (Only.refl F W) (fun b hb => .inl hb))
  · obtain ⟨vs, hvl, hvs⟩ := choose_list (P := fun k y u => ∃ b o, A = some ⟨b, o, none⟩ ∧ u.length = sz ∧ (∀ j t, u[j]? = some t → W.cell? ⟨b, o + k * sz + j, none⟩ = some t) ∧ R' W S y u) (ys := ys) (fun k y hy => by
      obtain ⟨b, o, u, e, _, hul, hcl, hr⟩ := hk k y hy
      exact ⟨u, b, o, e, hul, hcl, hr⟩)
    have hvsl : ∀ u ∈ vs, u.length = sz := fun u hu => by
      obtain ⟨k, hku⟩ := List.mem_iff_getElem?.1 hu
      obtain ⟨y, hy⟩ : ∃ y, ys[k]? = some y := ⟨_, List.getElem?_eq_getElem (by rw [← hvl]; exact (List.getElem?_eq_some_iff.1 hku).1)⟩
      obtain ⟨u', hu', _, _, _, hul, _⟩ := hvs k y hy
      rw [hku] at hu'
      injection hu' with hu'
      rw [hu']; exact hul
    have hR0 : ∀ k y u, ys[k]? = some y → vs[k]? = some u → R W y u [] := fun k y u hy hu => by
      obtain ⟨u', hu', _, _, _, _, _, hr⟩ := hvs k y hy
      rw [hu] at hu'
      injection hu' with hu'
      subst hu'
      exact hRR _ _ hr
    obtain ⟨ad, had⟩ : ∃ ad, A = some ad := by
      cases hA : A with
      | some ad => exact ⟨ad, rfl⟩
      | none =>
        exfalso
        apply hy0
        refine ⟨?_, hA⟩
        cases hys : ys with
        | nil => rfl
        | cons y l =>
          obtain ⟨b, o, _, e, _⟩ := hk 0 y (by rw [hys]; rfl)
          rw [hA] at e; cases e
    have hnews : ∀ j u, vs.flatten[j]? = some u → W.cell? (ad.add j) = some u := by
      intro j u hj
      have hjl : j < vs.length * sz := by rw [← flat_len hvsl]; exact (List.getElem?_eq_some_iff.1 hj).1
      have hkk : j / sz < vs.length := Nat.div_lt_of_lt_mul (by rw [Nat.mul_comm]; exact hjl)
      obtain ⟨y, hy⟩ : ∃ y, ys[j / sz]? = some y := ⟨_, List.getElem?_eq_getElem (by rw [← hvl]; exact hkk)⟩
      obtain ⟨u', hu', b, o, e, hul, hcl, _⟩ := hvs _ y hy
      have hm : j % sz < sz := Nat.mod_lt _ hsz
      have hf := flatten_at hvsl hu' hm
      have hdm : j / sz * sz + j % sz = j := by rw [Nat.mul_comm]; exact Nat.div_add_mod j sz
      rw [hdm, hj] at hf
      have := hcl _ _ hf.symm
      rw [e] at had
      injection had with had
      subst had
      have ea : (⟨b, o, none⟩ : Addr).add j = ⟨b, o + j / sz * sz + j % sz, none⟩ := by
        unfold Addr.add
        split
        · rename_i h0; subst h0; simp
        · simp only [Addr.mk.injEq, true_and, and_true]; omega
      rw [ea]; exact this
    have hone : ∀ u ∈ vs.flatten, u.oneCell' = true := fun u hu => by
      obtain ⟨l, hl', hul⟩ := List.mem_flatten.1 hu
      obtain ⟨k, hku⟩ := List.mem_iff_getElem?.1 hl'
      obtain ⟨y, hy⟩ : ∃ y, ys[k]? = some y := ⟨_, List.getElem?_eq_getElem (by rw [← hvl]; exact (List.getElem?_eq_some_iff.1 hku).1)⟩
      exact hR.one (hR0 k y l hy hku) u hul
    obtain ⟨v', w', hrun, hown', hgrow, _, hat⟩ := run_append_own_at (P := P) W 0 t o.type e i z sz bytes ht hi hz hsize hby hzs hsz v xs.length us.flatten hown ad ys.length c vs.flatten (by rw [flat_len hvsl, hvl]) hnews hone
      (by simp only [maxLen]; omega) hbytes (Nat.zero_le _)
    have hbw' : Bw w0 w' := hbw.grown hgrow hvg
    have hvF : ∀ b, b ∈ Fs.flatten → some b ≠ v.ownBlock := by
      intro b hb e
      have hn := hF.nodup
      rw [hFe, List.nodup_append] at hn
      exact hn.2.2 b (by simp [← e]) b hb rfl
    have hlts : ∀ b ∈ Fs.flatten, b < W.heap.size := fun b hb => (fSl_good hR).lt (⟨v, us, Fs, rfl, hown, hall, rfl⟩ : fSl e sz R W xs [v] _) b (List.mem_append_right _ hb)
    have hold : ∀ b, b < w0.heap.size → w'.heap[b]? = W.heap[b]? := fun b hb => hgrow.block b (Nat.lt_of_lt_of_le hb hbw.size) (fun e => by have := hvg b e.symm; omega)
    unfold Oper.wp execOp
    simp only [ho, resolve, invoke, builtin, Sem.run_bind, Sem.run_pure, Result.andThen_ok, List.map_toArray, List.map_cons, List.map_nil, hs, hx, had, hrun]
    have hrep : (List.replicate ys.length ([] : List Nat)).flatten = [] := by simp
    refine (h v' w' (v'.ownBlock.toList ++ (Fs ++ List.replicate ys.length []).flatten) ⟨v', us ++ vs, Fs ++ List.replicate ys.length [], rfl, ?_, ?_, rfl⟩ ⟨?_, ?_⟩ hbw' ⟨hgrow.size, fun b hb hn => hgrow.block b hb (fun e => hn (by rw [hFe]; simp [← e]))⟩ ?_)
    · rw [List.length_append, List.flatten_append]; exact hown'
    · refine all3_append (all3_imp (fun x u f' hf' hx => ⟨hR.step (fun b hb => ?_) hx.1, hx.2⟩) hall) (all3_of (by rw [hvl]) fun k y u hy hu => ⟨hR.step (fun b hb => ?_) (hR0 k y u hy hu), hvsl u (List.mem_iff_getElem?.2 ⟨k, hu⟩)⟩)
      · rcases hb with hb | hb
        · have hb' : b ∈ Fs.flatten := List.mem_flatten.2 ⟨_, hf', hb⟩
          exact hgrow.block b (hlts b hb') (hvF b hb')
        · exact hold b hb
      · rcases hb with hb | hb
        · simp at hb
        · exact hold b hb
    · rw [List.flatten_append, hrep, List.append_nil, List.nodup_append]
      have hn := hF.nodup
      rw [hFe, List.nodup_append] at hn
      refine ⟨by cases v'.ownBlock <;> simp, hn.2.1, fun p hp q hq e => ?_⟩
      subst e
      have hp' : v'.ownBlock = some p := by simpa using hp
      rcases hat with e | e
      · exact hvF p hq (by rw [← e, hp'])
      · rw [hp'] at e
        injection e with e
        have := hlts p hq; omega
    · intro b hb
      rcases List.mem_append.1 hb with hb | hb
      · have hb' : v'.ownBlock = some b := by simpa using hb
        rcases hat with e | e
        · exact hvg b (by rw [← e, hb'])
        · rw [hb'] at e
          injection e with e
          have := hbw.size
          omega
      · rw [List.flatten_append, hrep, List.append_nil] at hb
        exact hF.ge b (by rw [hFe]; exact List.mem_append_right _ hb)
    · intro b hb
      rcases List.mem_append.1 hb with hb | hb
      · have hb' : v'.ownBlock = some b := by simpa using hb
        rcases hat with e | e
        · exact .inl (by rw [hFe]; simp [← e, hb'])
        · rw [hb'] at e
          injection e with e
          exact .inr (by omega)
      · rw [List.flatten_append, hrep, List.append_nil] at hb
        exact .inl (by rw [hFe]; exact List.mem_append_right _ hb)
theorem step_append_all {α : Type} {P : Program} {ops : Array Oper} {o : Oper} {a : Act} {K : Act → World → Prop} {Q : Exit → Act → World → Prop} {E : Prop} (W : World) (hgd : o.guard = none) (s x : Operand) (t : TypeId)
    (ho : o.op = .call { callee := .builtin .append, args := #[s, x], argTypes := #[t, t] })
    (w0 : World) (e : TypeId) (i : TypeInfo) (z : Value) (sz bytes : Nat) (ht : P.underlying t = some (.slice e)) (hi : P.info? e = some i) (hz : i.zero = some z)
    (hsize : i.size = sz) (hby : i.bytes = bytes) (hzs : z.cells.size = sz) (hsz : 0 < sz)
    {R : Fp α} (hR : GoodF w0.heap.size R) (v : Value) (xs : List α) (F : List Nat) (hs : a.eval s = v) (hv : fSl e sz R W xs [v] F) (hF : Fresh w0.heap.size F)
    (sv : Value) (hx : a.eval x = sv) {R' : Rep α} {S : Blocks} (ys : List α) (hsrc : rSl sz R' W S ys [sv]) (hRR : ∀ y u, R' W S y u → R W y u [])
    (hbytes : (xs.length + ys.length) * bytes ≤ 140737488355328) (hlen : xs.length + ys.length < 4611686018427387904) (hbw : Bw w0 W)
    (h : ∀ v' w' F', fSl e sz R w' (xs ++ ys) [v'] F' → Fresh w0.heap.size F' → Bw w0 w' → Only F W w' → (∀ b ∈ F', b ∈ F ∨ W.heap.size ≤ b) → K (a.put o.dst v') w') : if Region.wanted o (yielded ops a.tmps) = true then Oper.wp P o a W K Q else E := by
  have hw : Region.wanted o (yielded ops a.tmps) = true := by simp [Region.wanted, hgd]
  rw [if_pos hw]
  exact wp_append_all W s x t ho w0 e i z sz bytes ht hi hz hsize hby hzs hsz hR v xs F hs hv hF sv hx ys hsrc hRR hbytes hlen hbw h
end Go.Proofs.YtpihighajaeabaaGreat
