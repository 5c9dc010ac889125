/- Draws: one step of the cursor. -/
import Derived.Test.YtpihighajaeabaaGreatQApplyI
import Derived.Test.YtpihighajaeabaaGreatQRuleR
import Derived.Test.YtpihighajaeabaaGreatQStart
import Derived.Test.YtpihighajaeabaaGreatQBand
import Derived.Test.YtpihighajaeabaaGreatQStandP
import Derived.Test.YtpihighajaeabaaGreatQCmpS
import Derived.Test.YtpihighajaeabaaGreatQItems
import Derived.Test.YtpihighajaeabaaGreatQOwn3
import Derived.Laws.BytesArg
import Derived.Laws.Concat
import Derived.OpenShut
import Derived.Test.YtpihighajaeabaaGreatProg
namespace Go.Proofs.YtpihighajaeabaaGreat
open Go.RowKit
set_option linter.unusedVariables false
set_option linter.unusedSimpArgs false
set_option maxRecDepth 100000 in
set_option maxHeartbeats 6400000 in
theorem I_NormalizeExpression (w : World) (e : List GNode) (v : Value) (h : Rd rNodes w e [v]) (ht : totNodes e ≤ 1048576) : Calls Tryz.prog 40 #[v] w (RetV w (Made fNodes w.heap.size (normM e))) := by
  have hcp := I_copyNodes w e v h ht
  obtain ⟨Y, hY⟩ : ∃ Y, Y = normM e := ⟨_, rfl⟩
  have HY := Lib.hid (show normN (60 - 0) e = Y from hY.symm)
  rw [← hY]
  clear hY h
  go_enter Tryz.func40, Tryz.ntmps40
  go_wp2_with fail
  refine hcp.mono ?_
  rintro e1 w1 ⟨v1, rfl, ⟨F1, o1, f1⟩, hb1⟩
  have HT := Lib.hid ht
  clear hcp ht
  go_wp2
  go_loopg [3, 4, 5, 6, 9] 61 (fun gg s x5 x6 x7 z w' => ∃ (j : Nat) (xs : List GNode) (F : List Nat), j ≤ 60 ∧ gg = 60 - j + 1 ∧ z = .int .i64 (j : Int) ∧ fNodes w' xs [s] F ∧ Fresh w.heap.size F ∧ Bw w w' ∧ Hid (normN (60 - j) xs = Y ∧ totNodes xs ≤ 1048576))
  case atStart => exact ⟨0, e, F1, by omega, rfl, rfl, o1, f1, hb1, Lib.hid ⟨HY.out, HT.out⟩⟩
  case round =>
    clear o1 f1 hb1 HY HT
    obtain ⟨j, xs, F, hj, rfl, rfl, hv, hF, hb, HI⟩ := hrel
    obtain ⟨A, n, c, rfl, hn, hnc, hcm⟩ := rSl_open (fNodes_Rd hv)
    unfold maxLen at hcm
    have L := Lib.hid hn
    clear hn
    by_cases hj60 : j < 60
    · have i1 : (j : Int) < 60 := by omega
      go_wp2
      go_loopg [3, 4, 5, 6] (n + 1) (fun gg s cb z x7 w' => ∃ (k : Nat) (b : Bool) (ys : List GNode) (F : List Nat), k ≤ n ∧ gg = n - k + 1 ∧ cb = .bool b ∧ z = .int .i64 (k : Int) ∧ Hid (AtSt xs k b ys) ∧ fNodes w' ys [s] F ∧ Fresh w.heap.size F ∧ Bw w w')
      case atStart => exact ⟨0, false, xs, F, by omega, rfl, rfl, rfl, Lib.hid (AtSt.start xs), hv, hF, hb⟩
      case round =>
        clear hv hb hF
        obtain ⟨k, b, ys, F, hk, rfl, rfl, rfl, HA, hv, hF, hb⟩ := hrel
        obtain ⟨A2, n2, c2, rfl, hn2, _⟩ := rSl_open (fNodes_Rd hv)
        have L2 := Lib.hid hn2
        clear hn2
        cases b with
        | true =>
          have HN := Lib.hid (show normN (60 - (j + 1)) ys = Y ∧ totNodes ys ≤ 1048576 from ⟨by rw [← HI.out.1, show 60 - j = 60 - (j + 1) + 1 by omega]; exact (norm_yes HA.out).symm, by have := expr_small HA.out.expr; omega⟩)
          by_cases hk2 : k < n2
          all_goals
            go_wp2
            go_roundg (60 - (j + 1) + 1)
            case measure => omega
            case rel => exact ⟨j + 1, ys, F, by omega, rfl, by go_num, hv, hF, hb, HN⟩
        | false =>
          obtain rfl : xs = ys := HA.out.eq.symm
          obtain rfl : n = n2 := by rw [L.out, L2.out]
          by_cases hk2 : k < n
          · have i3 : (k : Int) < (n : Int) := by omega
            have HKL := Lib.hid (show k < xs.length by rw [← L.out]; exact hk2)
            clear hk2
            go_wp2
            go_loopg [3, 4, 6] 4 (fun gg s cb z w' => ∃ (r : Nat) (b : Bool) (ys : List GNode) (F : List Nat), 1 ≤ r ∧ r ≤ 4 ∧ gg = 5 - r ∧ cb = .bool b ∧ z = .int .i64 (r : Int) ∧ Hid (RuleSt xs k r b ys) ∧ fNodes w' ys [s] F ∧ Fresh w.heap.size F ∧ Bw w w')
            case atStart => exact ⟨1, false, xs, F, by omega, by omega, rfl, rfl, rfl, Lib.hid (RuleSt.start xs k), hv, hF, hb⟩
            case round =>
              clear hv hF hb
              obtain ⟨r, b, ys, F, hr1, hr4, rfl, rfl, rfl, HRS, hv, hF, hb⟩ := hrel
              cases b with
              | true =>
                have HA2 := Lib.hid (AtSt.yes HA.out HKL.out HRS.out)
                by_cases hr3 : r ≤ 3
                all_goals
                  go_wp2
                  go_roundg (n - (k + 1) + 1)
                  case measure => omega
                  case rel => exact ⟨k + 1, true, ys, F, by omega, rfl, rfl, by go_num, HA2, hv, hF, hb⟩
              | false =>
                obtain rfl : xs = ys := HRS.out.eq.symm
                by_cases hr3 : r ≤ 3
                · have i4 : (r : Int) ≤ 3 := by omega
                  have hcall := I_ApplyRule wr xs (r : Int) (k : Int) _ (fNodes_Rd hv) HI.out.2 (by omega)
                  have HYES := Lib.hid (fun (ys : List GNode) (h : applyM xs (r : Int) (k : Int) = (ys, true)) => HRS.out.yes hr3 h)
                  have HNO := Lib.hid (fun (h : (applyM xs (r : Int) (k : Int)).2 = false) => HRS.out.no hr3 h)
                  have HFA := Lib.hid (fun (h : (applyM xs (r : Int) (k : Int)).2 = false) => applyM_false h)
                  obtain ⟨P, hP⟩ : ∃ P, P = applyM xs (r : Int) (k : Int) := ⟨_, rfl⟩
                  rw [← hP] at hcall HYES HNO HFA
                  obtain ⟨y, b⟩ := P
                  have hbs := hb.size
                  clear hP hr3
                  go_wp2_with fail
                  refine hcall.mono ?_
                  rintro e5 w5 ⟨u5, rfl, ⟨v5, rfl, ⟨F5, o5, f5⟩⟩, hb5⟩
                  have hb05 := hb.then hb5
                  have f5w := f5.mono hbs
                  clear hcall hv
                  cases b with
                  | true =>
                    have HRS2 := Lib.hid (HYES.out y rfl)
                    go_wp2
                    go_roundg (5 - (r + 1))
                    case measure => omega
                    case rel => exact ⟨r + 1, true, y, F5, by omega, by omega, rfl, rfl, by go_num, HRS2, o5, f5w, hb05⟩
                  | false =>
                    have HRS2 := Lib.hid (HNO.out rfl)
                    have hye := HFA.out rfl
                    injection hye with hye _
                    subst hye
                    go_wp2
                    go_roundg (5 - (r + 1))
                    case measure => omega
                    case rel => exact ⟨r + 1, false, _, F5, by omega, by omega, rfl, rfl, by go_num, HRS2, o5, f5w, hb05⟩
                · obtain rfl : r = 4 := by omega
                  have HA2 := Lib.hid (AtSt.no HA.out HKL.out HRS.out)
                  clear hr3
                  go_wp2
                  go_roundg (n - (k + 1) + 1)
                  case measure => omega
                  case rel => exact ⟨k + 1, false, xs, F, by omega, rfl, rfl, by go_num, HA2, hv, hF, hb⟩
          · have i3 : ¬ (k : Int) < (n : Int) := by omega
            have HR := Lib.hid (show xs = Y by rw [← HI.out.1, show 60 - j = 60 - (j + 1) + 1 by omega]; exact (norm_no HA.out (by rw [← L.out]; omega)).symm)
            clear hk2
            go_wp2
            go_ret
            exact ⟨_, rfl, ⟨F, by rw [← HR.out]; exact hv, hF⟩, hb⟩
    · obtain rfl : j = 60 := by omega
      have HR := Lib.hid (show xs = Y from HI.out.1)
      clear hj60
      go_wp2
      go_ret
      exact ⟨_, rfl, ⟨F, by rw [← HR.out]; exact hv, hF⟩, hb⟩
end Go.Proofs.YtpihighajaeabaaGreat

namespace Go.Proofs.YtpihighajaeabaaGreat
open Go.RowKit
set_option linter.unusedVariables false
set_option linter.unusedSimpArgs false
end Go.Proofs.YtpihighajaeabaaGreat

namespace Go.Proofs.YtpihighajaeabaaGreat
open Go.RowKit
set_option linter.unusedVariables false
end Go.Proofs.YtpihighajaeabaaGreat

namespace Go.Proofs.YtpihighajaeabaaGreat
open Go.RowKit
set_option linter.unusedVariables false
/-! ### what is shared -/
/-- the comparison that the reference makes -/
def cmpC (e : List GNode) (x y : GItem) : Int := if isExpr e && (isItem x && isItem y) then cmpBy e x y else 2
end Go.Proofs.YtpihighajaeabaaGreat

namespace Go.Proofs.YtpihighajaeabaaGreat
open Go.RowKit
set_option linter.unusedVariables false
set_option linter.unusedSimpArgs false
theorem cmpC_no {e : List GNode} {x y : GItem} (h : (isExpr e && (isItem x && isItem y)) = false) : cmpC e x y = 2 := by unfold cmpC; rw [h]; rfl
set_option maxRecDepth 100000 in
set_option maxHeartbeats 1600000 in
theorem S_CompareBy (w : World) (e : List GNode) (x y : GItem) (v v1 v2 : Value) (h : Rd rNodes w e [v]) (h1 : Rd rInts w x.vals [v1]) (h2 : Rd rInts w y.vals [v2]) :
    Calls Tryz.prog 33 #[v, .agg #[.int .i64 x.id, v1], .agg #[.int .i64 y.id, v2]] w (Ret w (.int .i64 (cmpC e x y))) := by
  obtain ⟨Z, hZ⟩ : ∃ Z, Z = cmpC e x y := ⟨_, rfl⟩
  have HZ := Lib.hid hZ
  rw [← hZ]
  clear hZ
  obtain ⟨A1, n1, c1, rfl, l1, _⟩ := rSl_open h1
  obtain ⟨A2, n2, c2, rfl, l2, _⟩ := rSl_open h2
  have A0 : Bw w ((w.alloc (.cells #[.int .i64 x.id, .slice A1 n1 c1] 30)).alloc (.cells #[.int .i64 y.id, .slice A2 n2 c2] 30)) := ((Bw.refl w).alloc _).alloc _
  have b1 := (Box.new w #[.int .i64 x.id, .slice A1 n1 c1] 30).bw ((Bw.refl _).alloc (.cells #[.int .i64 y.id, .slice A2 n2 c2] 30))
  have b2 := Box.new (w.alloc (.cells #[.int .i64 x.id, .slice A1 n1 c1] 30)) #[.int .i64 y.id, .slice A2 n2 c2] 30
  rw [show (w.alloc (.cells #[.int .i64 x.id, .slice A1 n1 c1] 30)).heap.size = w.heap.size + 1 by simp] at b2
  have hcall := S_IsExpression _ e v (h.bw rNodes_good A0)
  clear l1 l2
  go_enter Tryz.func33, Tryz.ntmps33
  go_wp2_with fail
  refine hcall.mono ?_
  rintro e' w1 ⟨rfl, hb1⟩
  have B1 := A0.then hb1
  replace b1 := b1.bw hb1
  replace b2 := b2.bw hb1
  clear hcall
  rcases Bool.eq_false_or_eq_true (isExpr e) with e1 | e1
  · have hcall := S_IsItem w1 x _ (h1.bw rInts_good B1)
    have HE := Lib.hid e1
    rw [e1]
    clear e1
    have p0 := b1.c 0 _ rfl
    have p1 := b1.c 1 _ rfl
    have pf := b1.fr
    have q0 := b2.c 0 _ rfl
    have q1 := b2.c 1 _ rfl
    have qf := b2.fr
    go_wp2_with fail
    refine hcall.mono ?_
    rintro e' w2 ⟨rfl, hb2⟩
    have B2 := B1.then hb2
    replace b1 := b1.bw hb2
    replace b2 := b2.bw hb2
    clear p0 p1 pf
    clear q0 q1 qf
    clear hcall
    rcases Bool.eq_false_or_eq_true (isItem x) with e2 | e2
    · have hcall := S_IsItem w2 y _ (h2.bw rInts_good B2)
      have HX := Lib.hid e2
      rw [e2]
      clear e2
      have p0 := b1.c 0 _ rfl
      have p1 := b1.c 1 _ rfl
      have pf := b1.fr
      have q0 := b2.c 0 _ rfl
      have q1 := b2.c 1 _ rfl
      have qf := b2.fr
      go_wp2_with fail
      refine hcall.mono ?_
      rintro e' w3 ⟨rfl, hb3⟩
      have B3 := B2.then hb3
      replace b1 := b1.bw hb3
      replace b2 := b2.bw hb3
      clear p0 p1 pf
      clear q0 q1 qf
      clear hcall
      rcases Bool.eq_false_or_eq_true (isItem y) with e3 | e3
      · have HY := Lib.hid e3
        rw [e3]
        clear e3
        have hcall := S_l5Compare w3 e x y v _ _ (h.bw rNodes_good (A0.then ((hb1.then hb2).then hb3))) (h1.bw rInts_good B3) (h2.bw rInts_good B3) HE.out HX.out HY.out
        have HF := Lib.hid (show cmpBy e x y = Z by rw [HZ.out]; unfold cmpC; rw [HE.out, HX.out, HY.out]; rfl)
        have p0 := b1.c 0 _ rfl
        have p1 := b1.c 1 _ rfl
        have pf := b1.fr
        have q0 := b2.c 0 _ rfl
        have q1 := b2.c 1 _ rfl
        have qf := b2.fr
        go_wp2_with fail
        refine hcall.mono ?_
        rintro e' w4 ⟨rfl, hb4⟩
        rw [HF.out]
        clear hcall
        go_wp2
        go_ret
        exact Ret.int rfl (B3.then hb4)
      · have HF := Lib.hid (show Z = 2 by rw [HZ.out]; exact cmpC_no (by rw [HE.out, HX.out, e3]; rfl))
        rw [e3]
        clear e3
        go_wp2
        go_ret
        exact Ret.int HF.out.symm B3
    · have HF := Lib.hid (show Z = 2 by rw [HZ.out]; exact cmpC_no (by rw [HE.out, e2]; rfl))
      rw [e2]
      clear e2
      go_wp2
      go_ret
      exact Ret.int HF.out.symm B2
  · have HF := Lib.hid (show Z = 2 by rw [HZ.out]; exact cmpC_no (by rw [e1]; rfl))
    rw [e1]
    clear e1
    go_wp2
    go_ret
    exact Ret.int HF.out.symm B1
end Go.Proofs.YtpihighajaeabaaGreat

namespace Go.Proofs.YtpihighajaeabaaGreat
open Go.RowKit
set_option linter.unusedVariables false
def fU8 : Fp Int := fun _ n cs F => cs = [.int .u8 n] ∧ F = []
def rU8 : Rep Int := fun _ _ n cs => cs = [.int .u8 n]
theorem rU8_good : Good rU8 := ⟨fun _ h => h⟩
abbrev fU8s : Fp (List Int) := fSl 5 1 fU8
theorem rU8s_at {w : World} {S : Blocks} {A : Option Addr} {n c k : Nat} {xs : List Int} (h : rSl 1 rU8 w S xs [.slice A n c]) {x : Int} (hx : xs[k]? = some x) : ∃ b o, A = some ⟨b, o, none⟩ ∧ S b ∧ w.cell? ⟨b, o + k, none⟩ = some (.int .u8 x) := by
  obtain ⟨b, o, us, e, hS, _, hc, rfl⟩ := rSl_at h hx
  exact ⟨b, o, e, hS, by simpa using hc 0 _ rfl⟩
/-- texts joined, from the i-th on -/
def gl (sep : ByteArray) : Nat → ByteArray → List ByteArray → ByteArray
  | _, acc, [] => acc
  | i, acc, t :: ts => gl sep (i + 1) ((if 0 < i then acc ++ sep else acc) ++ t) ts
end Go.Proofs.YtpihighajaeabaaGreat

namespace Go.Proofs.YtpihighajaeabaaGreat
open Go.RowKit
set_option linter.unusedVariables false
set_option linter.unusedSimpArgs false
/-- a number and 255 -/
theorem bits_255 (x : Int) : 0 ≤ bits .and .i64 x 255 ∧ bits .and .i64 x 255 ≤ 255 := by
  have h : ((BitVec.ofInt 64 x &&& BitVec.ofInt 64 255).toNat) ≤ 255 := by
    rw [BitVec.toNat_and]
    exact Nat.le_trans Nat.and_le_right (by decide)
  have e : bits .and .i64 x 255 = IntKind.i64.wrap ((BitVec.ofInt 64 x &&& BitVec.ofInt 64 255).toNat : Int) := rfl
  rw [e]
  obtain ⟨m, hm⟩ : ∃ m, m = (BitVec.ofInt 64 x &&& BitVec.ofInt 64 255).toNat := ⟨_, rfl⟩
  rw [← hm] at h ⊢
  simp [IntKind.wrap, IntKind.bits, IntKind.signed]
  omega
/-- the cursor lies in block p; what it reads lies below -/
def Cur (W : World) (p : Nat) : Prop := ∃ (xs : List Int) (A : Option Addr) (n c i : Nat) (h : Int), W.cell? ⟨p, 0, none⟩ = some (.slice A n c) ∧ W.cell? ⟨p, 1, none⟩ = some (.int .i64 (i : Int)) ∧ W.cell? ⟨p, 2, none⟩ = some (.int .i64 h) ∧
  (∀ o, W.frozen? ⟨p, o, none⟩ = false) ∧ i ≤ n ∧ rSl 1 rU8 W (fun b => b < p) xs [.slice A n c] ∧ ∀ x ∈ xs, 0 ≤ x ∧ x ≤ 255
structure At (w0 : World) (p : Nat) (w : World) : Prop where
  bw : Bw w0 w
  ge : w0.heap.size ≤ p
  cur : Cur w p
theorem At.lt {w0 w : World} {p : Nat} (h : At w0 p w) : p < w.heap.size := by
  obtain ⟨_, _, _, _, _, _, h0, _⟩ := h.cur
  exact World.block_lt_of_cell? _ _ h0
/-- a call with the cursor: what it returns is of the kind R; else nothing has turned but the cursor -/
def RetD (w0 : World) (p : Nat) (w : World) (R : World → Value → Prop) (e : Ending) (w' : World) : Prop := ∃ v, e = .returned v ∧ R w' v ∧ Only [p] w w' ∧ At w0 p w'
def IntIn (a b : Int) (_ : World) (v : Value) : Prop := ∃ n, v = .int .i64 n ∧ a ≤ n ∧ n < b
/-- a cursor is left as it was where its block is -/
theorem Cur.same {w w' : World} {p : Nat} (h : Cur w p) (hb : ∀ b, b ≤ p → w'.heap[b]? = w.heap[b]?) : Cur w' p := by
  obtain ⟨xs, A, n, c, i, k, h0, h1, h2, hf, hi, hr, hx⟩ := h
  exact ⟨xs, A, n, c, i, k, (World.cell?_of_block (hb _ (Nat.le_refl _))).trans h0, (World.cell?_of_block (hb _ (Nat.le_refl _))).trans h1, (World.cell?_of_block (hb _ (Nat.le_refl _))).trans h2,
    fun o => (World.frozen?_of_block (hb _ (Nat.le_refl _))).trans (hf o), hi, (rSl_good rU8_good).step ⟨fun _ h => h, fun q hq => World.cell?_of_block (hb _ (Nat.le_of_lt hq))⟩ hr, hx⟩
theorem At.bwStep {w0 w w' : World} {p : Nat} (h : At w0 p w) (hb : Bw w w') : At w0 p w' := ⟨h.bw.then hb, h.ge, h.cur.same fun b hb2 => Below.block hb b (Nat.lt_of_le_of_lt hb2 h.lt)⟩
/-- only blocks above the cursor have turned -/
theorem At.onlyStep {w0 w w' : World} {p : Nat} {F : List Nat} (h : At w0 p w) (hO : Only F w w') (hF : ∀ b ∈ F, p < b) (hb : Bw w0 w') : At w0 p w' :=
  ⟨hb, h.ge, h.cur.same fun b hb2 => hO.2 b (Nat.lt_of_le_of_lt hb2 h.lt) fun e => by have := hF b e; omega⟩
end Go.Proofs.YtpihighajaeabaaGreat

namespace Go.Proofs.YtpihighajaeabaaGreat
open Go.RowKit
set_option linter.unusedVariables false
set_option linter.unusedSimpArgs false
set_option maxRecDepth 100000 in
set_option maxHeartbeats 3200000 in
theorem D_l1Byte (w0 w : World) (p : Nat) (hA : At w0 p w) : Calls Tryz.prog 156 #[.pointer (some ⟨p, 0, none⟩)] w (RetD w0 p w (IntIn 0 256)) := by
  obtain ⟨xs, A, n, c, i, k, h0, h1, h2, hf, hi, hr, hx⟩ := hA.cur
  have hin := hA.bw
  have hlt := hA.lt
  obtain ⟨L, l1, l2⟩ := rSl_len hr
  have HL := Lib.hid L
  clear L
  unfold maxLen at l2
  have HX := Lib.hid hx
  have HR := Lib.hid hr
  have hge := hA.ge
  clear hx hr hin
  go_enter Tryz.func156, Tryz.ntmps156
  go_wp2_with fail
  obtain ⟨X, hX⟩ : ∃ X, X = wrap64 (wrap64 (k * 6364136223846793005) + 1442695040888963407) := ⟨_, rfl⟩
  rw [← hX]
  clear hX
  have c0 : (w.setCell ⟨p, 2, none⟩ (.int .i64 X)).cell? ⟨p, 0, none⟩ = some (.slice A n c) := by go_simp
  have c1 : (w.setCell ⟨p, 2, none⟩ (.int .i64 X)).cell? ⟨p, 1, none⟩ = some (.int .i64 (i : Int)) := by go_simp
  have c2 : (w.setCell ⟨p, 2, none⟩ (.int .i64 X)).cell? ⟨p, 2, none⟩ = some (.int .i64 X) := by go_simp
  have f1 : ∀ o, (w.setCell ⟨p, 2, none⟩ (.int .i64 X)).frozen? ⟨p, o, none⟩ = false := fun o => by go_simp
  have z1 : (w.setCell ⟨p, 2, none⟩ (.int .i64 X)).heap.size = w.heap.size := by go_simp
  have O1 : Only [p] w (w.setCell ⟨p, 2, none⟩ (.int .i64 X)) := only_setCell _ _ _ _
  have B1 : Bw w0 (w.setCell ⟨p, 2, none⟩ (.int .i64 X)) := hA.bw.set hge _
  obtain ⟨W1, hW1⟩ : ∃ W1, W1 = w.setCell ⟨p, 2, none⟩ (.int .i64 X) := ⟨_, rfl⟩
  rw [← hW1] at c0 c1 c2 f1 O1 B1 z1 ⊢
  clear hW1
  have s0 := since_cell c0
  have s1 := since_cell c1
  have s2 := since_cell c2
  refine wp_region_since (by kernel_rfl) (by kernel_rfl) ?_
  repeat (first | go_big_quiet_skip | (go_big_quiet_want; go_big_quiet_op; first | go_big_quiet_on | (apply Exists.intro; refine ⟨fun _ => ?_, ?_⟩; (· ((fail))); go_big_quiet_on)))
  refine wpQuiet_nil ?_
  rintro ⟨wq, hbq⟩
  dsimp only at *
  have d0 := hbq.cell c0
  have d1 := hbq.cell c1
  have d2 := hbq.cell c2
  clear s0 s1 s2
  have s0 := since_cell d0
  have s1 := since_cell d1
  have Bq := hbq
  clear hbq
  by_cases hin : i < n
  · obtain ⟨x, hx⟩ := get_of_lt (xs := xs) (k := i) (by have := HL.out; omega)
    obtain ⟨bx, ox, rfl, hbx, hcx⟩ := rU8s_at HR.out hx
    have hxb := HX.out x (List.mem_of_getElem? hx)
    have i1 : (0 : Int) ≤ (i : Int) := by omega
    have i2 : (i : Int) < (n : Int) := by omega
    have hbx' : bx < p := hbx
    replace hcx := Bq.cell (O1.cell hcx (by simp; omega))
    clear hx hbx
    go_wp2_with fail
    refine wp_region_since (by kernel_rfl) (by kernel_rfl) ?_
    repeat (first | go_big_quiet_skip | (go_big_quiet_want; go_big_quiet_op; first | go_big_quiet_on | (apply Exists.intro; refine ⟨fun _ => ?_, ?_⟩; (· ((fail))); go_big_quiet_on)))
    refine wpQuiet_nil ?_
    rintro ⟨wq, hbq⟩
    dsimp only at *
    have e0 := hbq.cell d0
    have e1 := hbq.cell d1
    have e2 := hbq.cell d2
    have hB := Bq.then hbq
    replace hcx := hbq.cell hcx
    clear s0 s1
    have s0 := since_cell e0
    have s1 := since_cell e1
    have s3 := since_cell hcx
    clear hbq
    go_wp2_with fail
    refine wp_region_since (by kernel_rfl) (by kernel_rfl) ?_
    repeat (first | go_big_quiet_skip | (go_big_quiet_want; go_big_quiet_op; first | go_big_quiet_on | (apply Exists.intro; refine ⟨fun _ => ?_, ?_⟩; (· ((fail))); go_big_quiet_on)))
    refine wpQuiet_nil ?_
    rintro ⟨wq, hbq⟩
    dsimp only at *
    have b1 := hbq.cell e1
    have b0 := hbq.cell e0
    have b2 := hbq.cell e2
    have hB2 := hB.then hbq
    clear s0 s1 s3 hcx hbq
    have hfq : ∀ o, wq.frozen? ⟨p, o, none⟩ = false := fun o => (bw_frozen hB2 p o (by omega)).trans (f1 o)
    go_wp2
    go_ret
    have h255 := bits_255
    refine ⟨_, rfl, ⟨_, rfl, (h255 _).1, by have := (h255 (wrap64 (bits BinOp.and IntKind.i64 (bits BinOp.xor IntKind.i64 (X / 8589934592) (X / 35184372088832)) 255 + x))).2; omega⟩, ?_, ?_⟩
    · exact (O1.bwNext hB2).then (only_setCell _ _ _ _) (fun _ h => h)
    · refine ⟨(B1.then hB2).set hge _, hge, xs, some ⟨bx, ox, none⟩, n, c, i + 1, X, ?_, ?_, ?_, ?_, by omega, ?_, HX.out⟩
      · go_simp
      · go_simp
      · go_simp
      · intro o; go_simp
      · exact (rSl_good rU8_good).step ⟨fun _ h => h, fun q hq => by
          have hq' : q.block < p := hq
          rw [World.cell?_of_block (Below.heap_setCell _ _ _ _ (by simp; omega))]
          exact World.cell?_of_block (((O1.bwNext hB2)).2 _ (by omega) (by simp; omega))⟩ HR.out
  · go_wp2_with fail
    refine wp_region_since (by kernel_rfl) (by kernel_rfl) ?_
    repeat (first | go_big_quiet_skip | (go_big_quiet_want; go_big_quiet_op; first | go_big_quiet_on | (apply Exists.intro; refine ⟨fun _ => ?_, ?_⟩; (· ((fail))); go_big_quiet_on)))
    refine wpQuiet_nil ?_
    rintro ⟨wq, hbq⟩
    dsimp only at *
    have e0 := hbq.cell d0
    have e1 := hbq.cell d1
    have e2 := hbq.cell d2
    have hB2 := Bq.then hbq
    clear s0 s1 hbq
    go_wp2
    go_ret
    have hfq : ∀ o, wq.frozen? ⟨p, o, none⟩ = false := fun o => (bw_frozen hB2 p o (by omega)).trans (f1 o)
    refine ⟨_, rfl, ⟨_, rfl, (bits_255 _).1, by have := (bits_255 (bits BinOp.xor IntKind.i64 (X / 8589934592) (X / 35184372088832))).2; omega⟩, O1.bwNext hB2, ?_⟩
    refine ⟨B1.then hB2, hge, xs, A, n, c, i, X, e0, e1, e2, hfq, hi, ?_, HX.out⟩
    exact (rSl_good rU8_good).step ⟨fun _ h => h, fun q hq => by
      have hq' : q.block < p := hq
      exact World.cell?_of_block ((O1.bwNext hB2).2 _ (by omega) (by simp; omega))⟩ HR.out
/-- behind a call that only turned the cursor -/
theorem RetD.int {w0 w w' : World} {p : Nat} {a b n : Int} (h1 : a ≤ n) (h2 : n < b) (hO : Only [p] w w') (hA : At w0 p w') : RetD w0 p w (IntIn a b) (.returned (.int .i64 n)) w' := ⟨_, rfl, ⟨n, rfl, h1, h2⟩, hO, hA⟩
set_option maxRecDepth 100000 in
set_option maxHeartbeats 1600000 in
theorem D_l1Below (w0 w : World) (p : Nat) (hA : At w0 p w) (N : Int) (h1 : 0 < N) (h2 : N ≤ 1073741824) : Calls Tryz.prog 74 #[.pointer (some ⟨p, 0, none⟩), .int .i64 N] w (RetD w0 p w (IntIn 0 N)) := by
  by_cases h256 : N ≤ 256
  · have hcall := D_l1Byte w0 w p hA
    go_enter Tryz.func74, Tryz.ntmps74
    go_wp2_with fail
    refine hcall.mono ?_
    rintro e w1 ⟨v, rfl, ⟨x, rfl, x1, x2⟩, hO, hA1⟩
    have r1 := Int.emod_nonneg x (show N ≠ 0 by omega)
    have r2 := Int.emod_lt_of_pos x h1
    have hr : Int.tmod x N = x % N := Int.tmod_eq_emod_of_nonneg x1
    go_wp2
    go_ret
    first
      | exact RetD.int r1 r2 hO hA1
      | (rw [hr]; exact RetD.int r1 r2 hO hA1)
  · have hcall := D_l1Byte w0 w p hA
    go_enter Tryz.func74, Tryz.ntmps74
    go_wp2_with fail
    refine hcall.mono ?_
    rintro e w1 ⟨v, rfl, ⟨x1, rfl, x11, x12⟩, hO1, hA1⟩
    have hcall := D_l1Byte w0 w1 p hA1
    go_wp2_with fail
    refine hcall.mono ?_
    rintro e w2 ⟨v, rfl, ⟨x2, rfl, x21, x22⟩, hO2, hA2⟩
    have hcall := D_l1Byte w0 w2 p hA2
    go_wp2_with fail
    refine hcall.mono ?_
    rintro e w3 ⟨v, rfl, ⟨x3, rfl, x31, x32⟩, hO3, hA3⟩
    have hcall := D_l1Byte w0 w3 p hA3
    go_wp2_with fail
    refine hcall.mono ?_
    rintro e w4 ⟨v, rfl, ⟨x4, rfl, x41, x42⟩, hO4, hA4⟩
    have hO := ((hO1.two hO2).two hO3).two hO4
    clear hcall hO1 hO2 hO3 hO4 hA1 hA2 hA3 hA
    have r1 := Int.emod_nonneg (x1 * 16777216 + x2 * 65536 + x3 * 256 + x4) (show N ≠ 0 by omega)
    have r2 := Int.emod_lt_of_pos (x1 * 16777216 + x2 * 65536 + x3 * 256 + x4) h1
    have hr : Int.tmod (x1 * 16777216 + x2 * 65536 + x3 * 256 + x4) N = (x1 * 16777216 + x2 * 65536 + x3 * 256 + x4) % N := Int.tmod_eq_emod_of_nonneg (by omega)
    go_wp2
    go_ret
    first
      | exact RetD.int r1 r2 hO hA4
      | (rw [hr]; exact RetD.int r1 r2 hO hA4)
set_option maxHeartbeats 800000 in
theorem D_l1Once (w0 w : World) (p : Nat) (hA : At w0 p w) (N : Int) (h1 : 0 < N) (h2 : N ≤ 1073741824) : Calls Tryz.prog 71 #[.pointer (some ⟨p, 0, none⟩), .int .i64 N] w (RetD w0 p w (fun _ v => ∃ b, v = .bool b)) := by
  have hcall := D_l1Below w0 w p hA N h1 h2
  go_enter Tryz.func71, Tryz.ntmps71
  go_wp2_with fail
  refine hcall.mono ?_
  rintro e w1 ⟨v, rfl, ⟨x, rfl, x1, x2⟩, hO, hA1⟩
  go_wp2
  go_ret
  exact ⟨_, rfl, ⟨_, rfl⟩, hO, hA1⟩
set_option maxHeartbeats 800000 in
theorem D_l1PickInt (w0 w : World) (p : Nat) (hA : At w0 p w) (xs : List Int) (v : Value) (F : List Nat) (h : fInts w xs [v] F) (hF : p ∉ F) (hne : 0 < xs.length) (hn : xs.length ≤ 1048576) : Calls Tryz.prog 155 #[.pointer (some ⟨p, 0, none⟩), v] w (RetD w0 p w (fun _ v => ∃ x ∈ xs, v = .int .i64 x)) := by
  obtain ⟨A, c, e, l1, l2, hk⟩ := fInts_rd (B := 0) h
  injection e with e
  subst e
  obtain ⟨n, L⟩ : ∃ n, n = xs.length := ⟨_, rfl⟩
  rw [← L] at hne hn ⊢
  have HL := Lib.hid L
  have HK := Lib.hid hk
  have hcall := D_l1Below w0 w p hA n (by omega) (by omega)
  clear hk h L l1 l2
  go_enter Tryz.func155, Tryz.ntmps155
  go_wp2_with fail
  refine hcall.mono ?_
  rintro e w1 ⟨v, rfl, ⟨x, rfl, x1, x2⟩, hO, hA1⟩
  obtain ⟨k, rfl⟩ : ∃ k : Nat, x = (k : Int) := ⟨x.toNat, by omega⟩
  obtain ⟨y, hy⟩ := get_of_lt (xs := xs) (k := k) (by have := HL.out; omega)
  obtain ⟨b, o, us, rfl, hb, hul, hc, rfl⟩ := HK.out k y hy
  have c0 := hO.cell (hc 0 _ rfl) (by
    have hb2 : b ≠ p := fun e => hb.elim (fun hb => hF (e ▸ hb)) (fun hb => Nat.not_lt_zero _ hb)
    simpa using hb2)
  have hm := List.mem_of_getElem? hy
  rw [Nat.mul_one, Nat.add_zero] at c0
  have HM := Lib.hid hm
  clear hc hy hul hm hcall
  go_wp2
  go_ret
  exact ⟨_, rfl, ⟨y, HM.out, rfl⟩, hO, hA1⟩
end Go.Proofs.YtpihighajaeabaaGreat
