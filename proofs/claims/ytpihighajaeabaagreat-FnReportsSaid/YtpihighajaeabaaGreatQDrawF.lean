/- Draws: expressions. -/
import Derived.Test.YtpihighajaeabaaGreatQExprS
import Derived.Test.YtpihighajaeabaaGreatQCopyW
import Derived.Test.YtpihighajaeabaaGreatQBoxT
import Derived.Test.YtpihighajaeabaaGreatQDrawE
import Derived.Test.YtpihighajaeabaaGreatQAboveA
namespace Go.Proofs.YtpihighajaeabaaGreat
open Go.RowKit
set_option linter.unusedVariables false
set_option linter.unusedSimpArgs false
theorem I_operands (w : World) (op : Int) : Calls Tryz.prog 184 #[.int .i64 op] w (Ret w (.int .i64 (opnds op))) := by
  by_cases h0 : op = 0
  · have q0 : (op == 0) = true := by simpa using h0
    have E := Lib.hid (show opnds op = 0 by rw [opnds, if_pos h0])
    clear h0
    go_enter Tryz.func184, Tryz.ntmps184
    go_wp2
    go_ret
    exact Ret.int (E.out.symm) (Bw.refl _)
  have q0 : (op == 0) = false := by simpa using h0
  by_cases h3 : op = 3
  · have q3 : (op == 3) = true := by simpa using h3
    have E := Lib.hid (show opnds op = 1 by rw [opnds, if_neg h0, if_pos h3])
    clear h0 h3
    go_enter Tryz.func184, Tryz.ntmps184
    go_wp2
    go_ret
    exact Ret.int (E.out.symm) (Bw.refl _)
  · have q3 : (op == 3) = false := by simpa using h3
    have E := Lib.hid (show opnds op = 2 by rw [opnds, if_neg h0, if_neg h3])
    clear h0 h3
    go_enter Tryz.func184, Tryz.ntmps184
    go_wp2
    go_ret
    exact Ret.int (E.out.symm) (Bw.refl _)
theorem opnds_bd (op : Int) : 0 ≤ opnds op ∧ opnds op ≤ 2 := by
  unfold opnds
  repeat' split
  all_goals omega
set_option maxRecDepth 100000 in
set_option maxHeartbeats 3200000 in
theorem I_IsExpression (w : World) (e : List GNode) (v : Value) (h : Rd rNodes w e [v]) : Calls Tryz.prog 133 #[v] w (Ret w (.bool (isExpr e))) := by
  obtain ⟨A, n, c, rfl, L0, Lc, Lm⟩ := rSl_open h
  unfold maxLen at Lm
  have L := Lib.hid L0
  clear L0
  go_enter Tryz.func133, Tryz.ntmps133
  go_wp2
  go_loopg [3, 8] n (fun g d i w' => ∃ (k : Nat) (m : Int), k ≤ n ∧ g = n - k ∧ d = .int .i64 m ∧ i = .int .i64 k ∧ 0 ≤ m ∧ m ≤ k ∧ Hid (isExpr e = exprAt e k m) ∧ Bw w w')
  case atStart => exact ⟨0, 0, by omega, rfl, rfl, rfl, by omega, by omega, Lib.hid rfl, Bw.refl _⟩
  case round =>
    obtain ⟨k, m, hk, rfl, rfl, rfl, m0, mk, HE, hb⟩ := hrel
    by_cases hlt : k < n
    · obtain ⟨x, hx⟩ := get_of_lt (xs := e) (k := k) (by have := L.out; omega)
      obtain ⟨ba, oa, Al, cl, Ap, cp, rfl, _, c0, c1, c2, c3, c4, c5, hl, hp⟩ := rNodes_at h hx
      have i1 : (0 : Int) ≤ (k : Int) := by omega
      have i2 : (k : Int) < (n : Int) := by omega
      replace c0 := hb.cell c0
      replace c1 := hb.cell c1
      replace c2 := hb.cell c2
      replace c3 := hb.cell c3
      replace c4 := hb.cell c4
      replace c5 := hb.cell c5
      have D1 : Bw wr (wr.alloc (.cells #[.int .i64 x.op, .int .i64 x.wish.kind, .int .i64 x.wish.field, .int .i64 x.wish.value, .slice Al x.wish.list.length cl, .slice Ap x.wish.pairs.length cp] 111)) := (Bw.refl wr).alloc _
      have HH := Lib.hid h
      have hbx := World.block_lt_of_cell? _ _ c0
      have hO0 := opnds_bd x.op
      obtain ⟨O, hO⟩ : ∃ O, O = opnds x.op := ⟨_, rfl⟩
      have key : ∀ W, Calls Tryz.prog 184 #[.int .i64 x.op] W (Ret W (.int .i64 O)) := fun W => by rw [hO]; exact I_operands W x.op
      have HGOOD := Lib.hid (show nodeOk x m = true → isExpr e = exprAt e (k + 1) (m - O + 1) from fun hg => by rw [HE.out, exprAt_good hx hg, hO])
      have HBAD := Lib.hid (show nodeOk x m = false → isExpr e = false from fun hg => by rw [HE.out, exprAt_bad hx hg])
      have HN := Lib.hid (show nodeOk x m = (inB x.op 0 4 && (decide (O ≤ m) && if x.op = 0 then isWish x.wish else decide (x.wish = noWish))) by rw [hO]; rfl)
      rw [← hO] at hO0
      clear hx h HE hO
      go_wp2_with fail
      refine (I_within _ _ _ _).mono ?_
      rintro e w2 ⟨rfl, hb2⟩
      have p0 : w2.cell? ⟨wr.heap.size, 0, none⟩ = some (.int .i64 x.op) := hb2.cell (by go_simp)
      have p1 : w2.cell? ⟨wr.heap.size, 1, none⟩ = some (.int .i64 x.wish.kind) := hb2.cell (by go_simp)
      have p2 : w2.cell? ⟨wr.heap.size, 2, none⟩ = some (.int .i64 x.wish.field) := hb2.cell (by go_simp)
      have p3 : w2.cell? ⟨wr.heap.size, 3, none⟩ = some (.int .i64 x.wish.value) := hb2.cell (by go_simp)
      have p4 : w2.cell? ⟨wr.heap.size, 4, none⟩ = some (.slice Al x.wish.list.length cl) := hb2.cell (by go_simp)
      have p5 : w2.cell? ⟨wr.heap.size, 5, none⟩ = some (.slice Ap x.wish.pairs.length cp) := hb2.cell (by go_simp)
      have D2 := D1.then hb2
      have B2 := hb.then D2
      have hl2 := Rd.bw rInts_good hl B2
      have hp2 := Rd.bw rPairs_good hp B2
      clear c0 c1 c2 c3 c4 c5 D1 hb2 hl hp
      rcases Bool.eq_false_or_eq_true (inB x.op 0 4) with e1 | e1
      · have E1 := Lib.hid e1
        rw [e1]
        clear e1
        go_wp2_with fail
        refine (key _).mono ?_
        rintro e w3 ⟨rfl, hb3⟩
        replace p0 := hb3.cell p0
        replace p1 := hb3.cell p1
        replace p2 := hb3.cell p2
        replace p3 := hb3.cell p3
        replace p4 := hb3.cell p4
        replace p5 := hb3.cell p5
        have B3 := B2.then hb3
        replace hl2 := Rd.bw rInts_good hl2 hb3
        replace hp2 := Rd.bw rPairs_good hp2 hb3
        by_cases hd : m < O
        · have G := Lib.hid (HBAD.out (by rw [HN.out, show decide (O ≤ m) = false by simp; omega]; simp))
          clear HGOOD HBAD HN
          go_wp2
          go_ret
          exact Ret.bool (G.out.symm) (B3)
        · by_cases o0 : x.op = 0
          · have q0 : (x.op == 0) = true := by simpa using o0
            have q1 : (x.op != 0) = false := by simpa using o0
            have HN2 := Lib.hid (show nodeOk x m = isWish x.wish by rw [HN.out, E1.out, if_pos o0, show decide (O ≤ m) = true by simp; omega]; rfl)
            clear o0 HN
            go_wp2_with fail
            refine (I_IsWish _ x.wish _ _ hl2 hp2).mono ?_
            rintro e w4 ⟨rfl, hb4⟩
            replace p0 := hb4.cell p0
            have B4 := B3.then hb4
            rcases Bool.eq_false_or_eq_true (isWish x.wish) with e2 | e2
            · have G := Lib.hid (HGOOD.out (by rw [HN2.out, e2]))
              rw [e2]
              clear e2 HGOOD HBAD HN2
              go_wp2_with fail
              refine (key _).mono ?_
              rintro e w5 ⟨rfl, hb5⟩
              go_wp2
              go_roundg (n - (k + 1))
              case measure => omega
              case rel => exact ⟨k + 1, m - O + 1, by omega, rfl, rfl, by go_num, by omega, by omega, G, B4.then hb5⟩
            · have G := Lib.hid (HBAD.out (by rw [HN2.out, e2]))
              rw [e2]
              clear e2 HGOOD HBAD HN2
              go_wp2
              go_ret
              exact Ret.bool (G.out.symm) (B4)
          · have q0 : (x.op == 0) = false := by simpa using o0
            have q1 : (x.op != 0) = true := by simpa using o0
            have HN2 := Lib.hid (show nodeOk x m = decide (x.wish = noWish) by rw [HN.out, E1.out, if_neg o0, show decide (O ≤ m) = true by simp; omega]; rfl)
            clear o0 HN
            go_wp2_with fail
            refine (I_equalWish _ x.wish noWish _ (.slice none 0 0) _ (.slice none 0 0) hl2 rSl_nil hp2 rSl_nil).mono ?_
            rintro e w4 ⟨rfl, hb4⟩
            replace p0 := hb4.cell p0
            have B4 := B3.then hb4
            rcases Bool.eq_false_or_eq_true (decide (x.wish = noWish)) with e2 | e2
            · have G := Lib.hid (HGOOD.out (by rw [HN2.out, e2]))
              rw [e2]
              clear e2 HGOOD HBAD HN2
              go_wp2_with fail
              refine (key _).mono ?_
              rintro e w5 ⟨rfl, hb5⟩
              go_wp2
              go_roundg (n - (k + 1))
              case measure => omega
              case rel => exact ⟨k + 1, m - O + 1, by omega, rfl, rfl, by go_num, by omega, by omega, G, B4.then hb5⟩
            · have G := Lib.hid (HBAD.out (by rw [HN2.out, e2]))
              rw [e2]
              clear e2 HGOOD HBAD HN2
              go_wp2
              go_ret
              exact Ret.bool (G.out.symm) (B4)
      · have G := Lib.hid (HBAD.out (by rw [HN.out, e1]; rfl))
        rw [e1]
        clear e1 HGOOD HBAD HN
        go_wp2
        go_ret
        exact Ret.bool (G.out.symm) (B2)
    · obtain rfl : k = n := by omega
      have HF := Lib.hid (show isExpr e = (decide (m = 1) && decide (k ≤ 9)) by rw [HE.out, exprAt_end L.out.symm])
      clear HE hlt
      by_cases hm : m = 1
      · have q1 : (m == 1) = true := by simpa using hm
        by_cases h9 : (k : Int) ≤ 9
        · have G := Lib.hid (show isExpr e = true by rw [HF.out]; simp [hm]; omega)
          clear hm HF
          go_wp2
          go_ret
          exact Ret.bool (G.out.symm) (hb)
        · have G := Lib.hid (show isExpr e = false by rw [HF.out]; simp; omega)
          clear hm HF
          go_wp2
          go_ret
          exact Ret.bool (G.out.symm) (hb)
      · have q1 : (m == 1) = false := by simpa using hm
        have G := Lib.hid (show isExpr e = false by rw [HF.out]; simp [hm])
        clear hm HF
        go_wp2
        go_ret
        exact Ret.bool (G.out.symm) (hb)
end Go.Proofs.YtpihighajaeabaaGreat

namespace Go.Proofs.YtpihighajaeabaaGreat
open Go.RowKit
set_option linter.unusedVariables false
set_option linter.unusedSimpArgs false
theorem sum_le {α : Type} (f : α → Nat) (B : Nat) : ∀ {l : List α}, (∀ x ∈ l, f x ≤ B) → sumL f l ≤ B * l.length
  | [], _ => by simp [sumL]
  | x :: l, h => by
    have h1 := h x (by simp)
    have h2 := sum_le f B (l := l) (fun y hy => h y (by simp [hy]))
    simp only [sumL, List.length_cons, Nat.mul_add]
    omega
end Go.Proofs.YtpihighajaeabaaGreat

namespace Go.Proofs.YtpihighajaeabaaGreat
open Go.RowKit
set_option linter.unusedVariables false
set_option linter.unusedSimpArgs false
/-- an append of a whole owned list in a drawing function -/
theorem wpList_appendD {α : Type} {P : Program} {ops : Array Oper} {rest : List Oper} {o : Oper} {a : Act} {Q : Exit → Act → World → Prop} (W : World) (hgd : o.guard = none) (s x : Operand) (t : TypeId)
    (ho : o.op = .call { callee := .builtin .append, args := #[s, x], argTypes := #[t, t] })
    (w0 w : World) (p : Nat) (hD : Dn w0 w p W) (B : Nat) (hB : w.heap.size ≤ B) (hBW : B ≤ W.heap.size) (e : TypeId) (i : TypeInfo) (z : Value) (sz bytes : Nat) (ht : P.underlying t = some (.slice e)) (hi : P.info? e = some i) (hz : i.zero = some z)
    (hsize : i.size = sz) (hby : i.bytes = bytes) (hzs : z.cells.size = sz) (hsz : 0 < sz)
    {R : Fp α} (hR : GoodF 0 R) (v : Value) (xs : List α) (F : List Nat) (hs : a.eval s = v) (hv : fSl e sz R W xs [v] F) (hF : Fresh B F)
    (sv : Value) (hx : a.eval x = sv) (ys : List α) (G : List Nat) (hw : fSl e sz R W ys [sv] G) (m : Nat) (hFm : ∀ b ∈ F, b < m) (hG : Fresh m G) (hm : B ≤ m)
    (hbytes : (xs.length + ys.length) * bytes ≤ 140737488355328) (hlen : xs.length + ys.length < 4611686018427387904)
    (h : ∀ v' w' F', fSl e sz R w' (xs ++ ys) [v'] F' → Fresh B F' → Dn w0 w p w' → Only F W w' → wpList P ops Q rest (a.put o.dst v') w') : wpList P ops Q (o :: rest) a W := by
  have hle := hD.le
  refine wpList_append_own W hgd s x t ho w0 e i z sz bytes ht hi hz hsize hby hzs hsz (hR.mono (Nat.zero_le _)) v xs F hs hv (hF.mono (by omega)) sv hx ys G hw m hFm hG (by omega) hbytes hlen hD.at'.bw ?_
  intro v' w' F' hv' hF' hb' hO' h5
  exact h v' w' F' hv' ⟨hF'.nodup, fun b hb => (h5 b hb).elim (hF.ge b) (fun h => h.elim (fun h => Nat.le_trans hm (hG.ge b h)) (fun h => Nat.le_trans hBW h))⟩ (hD.next hO' (fun b hb => Nat.le_trans hB (hF.ge b hb)) hb') hO'
/-- what the wishes and nodes that are drawn look like -/
def gWishA (x : GWish) : Prop := (-100 ≤ x.kind ∧ x.kind ≤ 100) ∧ (-100 ≤ x.field ∧ x.field ≤ 100) ∧ (-100 ≤ x.value ∧ x.value ≤ 100) ∧ (x.list.length ≤ 9 ∧ ∀ y ∈ x.list, -100 ≤ y ∧ y ≤ 100) ∧ (x.pairs.length ≤ 8 ∧ ∀ y ∈ x.pairs, gPair y)
theorem gWish.a {x : GWish} (h : gWish x) : gWishA x := ⟨h.1, h.2.1, h.2.2.1, ⟨by have := h.2.2.2.1.1; omega, h.2.2.2.1.2⟩, h.2.2.2.2⟩
def gNode (x : GNode) : Prop := (-100 ≤ x.op ∧ x.op ≤ 100) ∧ gWishA x.wish
theorem gNode_op {n : Int} (h1 : -100 ≤ n) (h2 : n ≤ 100) : gNode ⟨n, ⟨0, 0, 0, [], []⟩⟩ := ⟨⟨h1, h2⟩, ⟨by dsimp only; omega, by dsimp only; omega⟩, ⟨by dsimp only; omega, by dsimp only; omega⟩, ⟨by dsimp only; omega, by dsimp only; omega⟩, ⟨by simp, by simp⟩, ⟨by simp, by simp⟩⟩
theorem gNode_wish {x : GWish} (h : gWishA x) : gNode ⟨0, x⟩ := ⟨⟨by dsimp only; omega, by dsimp only; omega⟩, h⟩
theorem fNode_opn (w : World) (n : Int) : fNode w ⟨n, ⟨0, 0, 0, [], []⟩⟩ [.int .i64 n, .int .i64 0, .int .i64 0, .int .i64 0, .slice none 0 0, .slice none 0 0] [] :=
  ⟨_, rfl, _, _, [], [], rfl, fSl_nil _, fSl_nil _, rfl⟩
theorem fNode_wish {w : World} {kd fd va : Int} {l : List Int} {ps : List GPair} {u t : Value} {F G : List Nat} (h1 : fInts w l [u] F) (h2 : fPairs w ps [t] G) (n : Int) : fNode w ⟨n, ⟨kd, fd, va, l, ps⟩⟩ [.int .i64 n, .int .i64 kd, .int .i64 fd, .int .i64 va, u, t] (F ++ G) :=
  ⟨_, rfl, _, _, F, G, rfl, h1, h2, rfl⟩
/-- a list of one node -/
theorem fNodes_one {w W : World} {x : GNode} {a0 a1 a2 a3 a4 a5 : Value} {F : List Nat} (hW : W = w.alloc (.cells #[a0, a1, a2, a3, a4, a5] 111)) (h : fNode w x [a0, a1, a2, a3, a4, a5] F) : fNodes W [x] [.slice (some ⟨w.heap.size, 0, none⟩) 1 1] (w.heap.size :: F) := by
  subst hW
  have h1 := keepBw ((Bw.refl w).alloc (.cells #[a0, a1, a2, a3, a4, a5] 111)) fNode_good h
  refine ⟨_, [[a0, a1, a2, a3, a4, a5]], [F], rfl, ?_, ⟨⟨h1, rfl⟩, trivial⟩, by simp [Value.ownBlock]⟩
  have hone := (fNode_good (B := 0)).one h
  exact World.ownsRow_lit w #[a0, a1, a2, a3, a4, a5] 1 (Nat.zero_le _) (by simp [maxLen]) (by
    have e := fun u hu => hone u hu
    simp only [List.mem_cons, List.not_mem_nil, or_false, forall_eq_or_imp, forall_eq] at e
    simp [e])
theorem fresh_one {w : World} {B : Nat} {F : List Nat} (hF : Fresh B F) (hlt : ∀ b ∈ F, b < w.heap.size) (hB : B ≤ w.heap.size) : Fresh B (w.heap.size :: F) :=
  ⟨List.nodup_cons.2 ⟨fun h => by have := hlt _ h; omega, hF.nodup⟩, fun b hb => (List.mem_cons.1 hb).elim (fun e => by omega) (hF.ge b)⟩
def nd : Nat → Nat
  | 0 => 1
  | d + 1 => 2 * nd d + 1
theorem nd_le {d : Nat} (h : d ≤ 2) : nd d ≤ 7 := by
  match d, h with
  | 0, _ => decide
  | 1, _ => decide
  | 2, _ => decide
set_option maxRecDepth 100000 in
set_option maxHeartbeats 6400000 in
theorem D_l5Draw : ∀ (d : Nat), d ≤ 2 → ∀ (w0 w : World) (p : Nat) (k : Int), Hid (k = (d : Int)) → At w0 p w → Calls Tryz.prog 202 #[.pointer (some ⟨p, 0, none⟩), .int .i64 k] w
    (RetD w0 p w (DL fNodes w.heap.size fun xs => 0 < xs.length ∧ xs.length ≤ nd d ∧ ∀ x ∈ xs, gNode x))
  | 0, _, w0, w, p, k, HK, hA => by
    obtain rfl : k = 0 := by simpa using HK.out
    have D0 := Dn.start hA
    have hcall := True.intro
    go_enter Tryz.func202, Tryz.ntmps202
    clear hcall
    have hcall := D_l4Wish w0 w p hA
    go_wp2_with fail
    refine hcall.mono ?_
    rintro e w9 ⟨v9, rfl, ⟨⟨kd, fd, va, l, ps⟩, u, t, F, G, rfl, o1, o2, hF, hx⟩, hO9, hA9⟩
    have D9 := D0.call hO9 hA9
    have hz9 := D0.size
    obtain ⟨Al, nl, cl, rfl, l1, _⟩ := rSl_open (fInts_Rd o1)
    obtain ⟨Ap, np, cp, rfl, l2, _⟩ := rSl_open (fPairs_Rd o2)
    have HX := Lib.hid hx
    have hFlt : ∀ b ∈ F ++ G, b < w9.heap.size := fun b hb => (List.mem_append.1 hb).elim ((fInts_good (B := 0)).lt o1 b) ((fPairs_good (B := 0)).lt o2 b)
    have hres := fNodes_one rfl (fNode_wish o1 o2 0 (kd := kd) (fd := fd) (va := va))
    have hfr := fresh_one (w := w9) (hF.mono hz9) hFlt (by have := D9.size; omega)
    clear hcall l1 l2 hx
    go_wp2
    go_ret
    exact (D9.alloc _).ret ⟨_, _, hres, hfr, by simp, by simp [nd], fun y hy => by rw [List.mem_singleton.1 hy]; exact gNode_wish HX.out.a⟩
  | d + 1, hd, w0, w, p, k, HK, hA => by
    have ih := D_l5Draw d (by omega)
    have hnd := nd_le (d := d) (by omega)
    obtain ⟨i0, hi, hz0, hz1, hz2⟩ := info_parts info_Node
    have k1 : 1 ≤ k := by have := HK.out; omega
    have k2 : k ≤ 2 := by have := HK.out; omega
    have k0 : (k == 0) = false := by simp; omega
    have HK1 : Hid (k - 1 = (d : Int)) := Lib.hid (by have := HK.out; omega)
    have D0 := Dn.start hA
    have hcall := D_l1Once w0 w p hA 3 (by omega) (by omega)
    go_enter Tryz.func202, Tryz.ntmps202
    go_wp2_with fail
    refine hcall.mono ?_
    rintro e w1 ⟨v1, rfl, ⟨q, rfl⟩, hO1, hA1⟩
    have D1 := D0.call hO1 hA1
    cases q with
    | true =>
      clear hcall
      have hcall := D_l4Wish w0 w1 p hA1
      go_wp2_with fail
      refine hcall.mono ?_
      rintro e w9 ⟨v9, rfl, ⟨⟨kd, fd, va, l, ps⟩, u, t, F, G, rfl, o1, o2, hF, hx⟩, hO9, hA9⟩
      have D9 := D1.call hO9 hA9
      have hz9 := D1.size
      obtain ⟨Al, nl, cl, rfl, l1, _⟩ := rSl_open (fInts_Rd o1)
      obtain ⟨Ap, np, cp, rfl, l2, _⟩ := rSl_open (fPairs_Rd o2)
      have HX := Lib.hid hx
      have hFlt : ∀ b ∈ F ++ G, b < w9.heap.size := fun b hb => (List.mem_append.1 hb).elim ((fInts_good (B := 0)).lt o1 b) ((fPairs_good (B := 0)).lt o2 b)
      have hres := fNodes_one rfl (fNode_wish o1 o2 0 (kd := kd) (fd := fd) (va := va))
      have hfr := fresh_one (w := w9) (hF.mono hz9) hFlt (by have := D9.size; omega)
      clear hcall l1 l2 hx
      go_wp2
      go_ret
      exact (D9.alloc _).ret ⟨_, _, hres, hfr, by simp, by simp [nd], fun y hy => by rw [List.mem_singleton.1 hy]; exact gNode_wish HX.out.a⟩
    | false =>
      clear hcall
      have hcall := D_l1Below w0 w1 p hA1 4 (by omega) (by omega)
      go_wp2_with fail
      refine hcall.mono ?_
      rintro e w2 ⟨v2, rfl, ⟨z, rfl, z1, z2⟩, hO2, hA2⟩
      have D2 := D1.call hO2 hA2
      clear hcall
      have hcall := ih w0 w2 p (k - 1) HK1 hA2
      have HG := Lib.hid (gNode_op (n := 1 + z) (by omega) (by omega))
      by_cases h3 : z = 2
      · have e3 : (1 + z == 3) = true := by simp; omega
        have HZ := Lib.hid h3
        clear h3
        go_wp2_with fail
        refine hcall.mono ?_
        rintro e w3 ⟨v3, rfl, ⟨xs, F, hv, hF, hx⟩, hO3, hA3⟩
        have D3 := D2.call hO3 hA3
        have HX := Lib.hid hx
        have hxl := hx.2.1
        have hs2 := D2.size
        obtain ⟨Ax, nx, cx, rfl, lx, _⟩ := rSl_open (fNodes_Rd hv)
        have hFm := (fNodes_good (B := 0)).lt hv
        have DW := D3.alloc (.cells #[.int .i64 (1 + z), .int .i64 0, .int .i64 0, .int .i64 0, .slice none 0 0, .slice none 0 0] 111)
        have hvW := keepBw ((Bw.refl w3).alloc (.cells #[.int .i64 (1 + z), .int .i64 0, .int .i64 0, .int .i64 0, .slice none 0 0, .slice none 0 0] 111)) fNodes_good hv
        have hcl : ∀ j t, [Value.int .i64 (1 + z), .int .i64 0, .int .i64 0, .int .i64 0, .slice none 0 0, .slice none 0 0][j]? = some t → (w3.alloc (.cells #[.int .i64 (1 + z), .int .i64 0, .int .i64 0, .int .i64 0, .slice none 0 0, .slice none 0 0] 111)).cell? ((⟨w3.heap.size, 0, none⟩ : Addr).add j) = some t := World.news_of_block (cs := #[.int .i64 (1 + z), .int .i64 0, .int .i64 0, .int .i64 0, .slice none 0 0, .slice none 0 0]) (t := 111) (fr := (0, 0)) (heap_alloc_new w3 _)
        have hzW := DW.size
        have HFG := Lib.hid (hF.mono hs2)
        have hzz := D3.size
        have HL := Lib.hid hxl
        clear hcall hx lx hxl hv
        go_wp2_with (at_builtin; refine wpList_pushD _ rfl (.tmp 27) (.tmp 30) 25 rfl w0 w p DW w.heap.size (Nat.le_refl _) hzW 111 i0 _ 6 80 Tryz.underlying25 hi hz0 hz1 hz2 rfl (by omega) fNode_good _ xs F rfl hvW HFG.out ⟨w3.heap.size, 0, none⟩ 1 rfl ⟨1 + z, ⟨0, 0, 0, [], []⟩⟩ [.int .i64 (1 + z), .int .i64 0, .int .i64 0, .int .i64 0, .slice none 0 0, .slice none 0 0] [] hcl (fNode_opn _ _) rfl w3.heap.size hFm Fresh.nil hzz (by have := HL.out; omega) (by have := HL.out; omega) ?_; intro v7 w7 F7 hv7 hF7 hD7 hO7)
        go_ret
        exact hD7.ret ⟨_, F7, hv7, hF7, (by rw [List.length_append, List.length_singleton]; omega), by have := HL.out; rw [show nd (d + 1) = 2 * nd d + 1 from rfl, List.length_append, List.length_singleton]; omega, fun y hy => (List.mem_append.1 hy).elim (HX.out.2.2 y) (fun h => by rw [List.mem_singleton.1 h]; exact HG.out)⟩
      · have e3 : (1 + z == 3) = false := by simp; omega
        have HZ := Lib.hid h3
        clear h3
        go_wp2_with fail
        refine hcall.mono ?_
        rintro e w3 ⟨v3, rfl, ⟨xs, F, hv, hF, hx⟩, hO3, hA3⟩
        have D3 := D2.call hO3 hA3
        have HX := Lib.hid hx
        have hxl := hx.2.1
        have hs2 := D2.size
        obtain ⟨Ax, nx, cx, rfl, lx, _⟩ := rSl_open (fNodes_Rd hv)
        have hFm := (fNodes_good (B := 0)).lt hv
        clear hcall
        have hcall := ih w0 w3 p (k - 1) HK1 hA3
        have HFG := Lib.hid (hF.mono hs2)
        have HL := Lib.hid hxl
        have hzz := D3.size
        clear hx lx hxl
        go_wp2_with fail
        refine hcall.mono ?_
        rintro e w4 ⟨v4, rfl, ⟨ys, G, hy, hG, hyx⟩, hO4, hA4⟩
        have D4 := D3.call hO4 hA4
        have hv4 := D3.keep hO4 fNodes_good hv HFG.out.ge
        have HY := Lib.hid hyx
        have hyl := hyx.2.1
        obtain ⟨Ay, ny, cy, rfl, ly, _⟩ := rSl_open (fNodes_Rd hy)
        have HLY := Lib.hid hyl
        have hzW := D4.size
        clear hcall hyx ly hyl hv
        go_wp2_with (first | (at_builtin; refine wpList_appendD _ rfl (.tmp 36) (.tmp 40) 25 rfl w0 w p D4 w.heap.size (Nat.le_refl _) hzW 111 i0 _ 6 80 Tryz.underlying25 hi hz0 hz1 hz2 rfl (by omega) fNode_good _ xs F rfl hv4 HFG.out _ rfl ys G hy w3.heap.size hFm hG hzz (by have := HL.out; have := HLY.out; omega) (by have := HL.out; have := HLY.out; omega) ?_; intro v5 w5 F5 hv5 hF5 hD5 hO5; obtain ⟨A5, n5, c5, rfl, l5, _⟩ := rSl_open (fNodes_Rd hv5); replace l5 := Lib.hid l5; have hFm5 := (fNodes_good (B := 0)).lt hv5; have DW := hD5.alloc (.cells #[.int .i64 (1 + z), .int .i64 0, .int .i64 0, .int .i64 0, .slice none 0 0, .slice none 0 0] 111); have hvW := keepBw ((Bw.refl w5).alloc (.cells #[.int .i64 (1 + z), .int .i64 0, .int .i64 0, .int .i64 0, .slice none 0 0, .slice none 0 0] 111)) fNodes_good hv5; have hcl : ∀ j t, [Value.int .i64 (1 + z), .int .i64 0, .int .i64 0, .int .i64 0, .slice none 0 0, .slice none 0 0][j]? = some t → (w5.alloc (.cells #[.int .i64 (1 + z), .int .i64 0, .int .i64 0, .int .i64 0, .slice none 0 0, .slice none 0 0] 111)).cell? ((⟨w5.heap.size, 0, none⟩ : Addr).add j) = some t := World.news_of_block (cs := #[.int .i64 (1 + z), .int .i64 0, .int .i64 0, .int .i64 0, .slice none 0 0, .slice none 0 0]) (t := 111) (fr := (0, 0)) (heap_alloc_new w5 _); have hzW5 := DW.size; have hzz5 := hD5.size; have HL5 := Lib.hid (show (xs ++ ys).length ≤ 14 by (rw [List.length_append]; have := HL.out; have := HLY.out; omega)); clear hv5 hv4 hy) | (at_builtin; refine wpList_pushD _ rfl (.tmp 42) (.tmp 45) 25 rfl w0 w p DW w.heap.size (Nat.le_refl _) hzW5 111 i0 _ 6 80 Tryz.underlying25 hi hz0 hz1 hz2 rfl (by omega) fNode_good _ (xs ++ ys) F5 rfl hvW hF5 ⟨w5.heap.size, 0, none⟩ 1 rfl ⟨1 + z, ⟨0, 0, 0, [], []⟩⟩ [.int .i64 (1 + z), .int .i64 0, .int .i64 0, .int .i64 0, .slice none 0 0, .slice none 0 0] [] hcl (fNode_opn _ _) rfl w5.heap.size hFm5 Fresh.nil hzz5 (by have := HL5.out; omega) (by have := HL5.out; omega) ?_; intro v7 w7 F7 hv7 hF7 hD7 hO7))
        go_ret
        exact hD7.ret ⟨_, F7, hv7, hF7, (by rw [List.length_append, List.length_singleton]; omega), by have := HL.out; have := HLY.out; rw [show nd (d + 1) = 2 * nd d + 1 from rfl, List.length_append, List.length_append, List.length_singleton]; omega, fun y hy => (List.mem_append.1 hy).elim (fun hy => (List.mem_append.1 hy).elim (HX.out.2.2 y) (HY.out.2.2 y)) (fun h => by rw [List.mem_singleton.1 h]; exact HG.out)⟩
end Go.Proofs.YtpihighajaeabaaGreat
