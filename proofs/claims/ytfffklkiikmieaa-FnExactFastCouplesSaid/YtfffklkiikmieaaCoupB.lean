/- The best couples in both programs. -/
import Derived.Test.YtfffklkiikmieaaCoupI
import Derived.Test.YtfffklkiikmieaaCoupS
namespace Go.Proofs.Ytfffklkiikmieaa
open Go.RowKit
set_option linter.unusedVariables false
set_option linter.unusedSimpArgs false
set_option maxRecDepth 100000 in
set_option maxHeartbeats 1600000 in
theorem I_BestCouples (w : World) (a b : List GItem) (f g : Int) (p q : List GNode) (va vb vp vq : Value) (ha : Rd rItems w a [va]) (hb : Rd rItems w b [vb]) (hp : Rd rNodes w p [vp]) (hq : Rd rNodes w q [vq]) :
    Calls Try.prog 53 #[va, vb, .int .i64 f, .int .i64 g, vp, vq] w (RetV w (Made fCouples w.heap.size (bestCoup a b f g p q))) := by
  go_enter Try.func53, Try.ntmps53
  go_wp2_with fail
  refine (I_IsExpression _ p _ hp).mono ?_
  rintro e w1 ⟨rfl, hb1⟩
  rcases Bool.eq_false_or_eq_true (isExpr p) with e1 | e1
  · have E1 := Lib.hid e1
    rw [e1]
    clear e1
    go_wp2_with fail
    refine (I_IsExpression _ q _ (hq.bw rNodes_good hb1)).mono ?_
    rintro e w2 ⟨rfl, hb2⟩
    have B2 := hb1.then hb2
    rcases Bool.eq_false_or_eq_true (isExpr q) with e2 | e2
    · have E2 := Lib.hid e2
      rw [e2]
      clear e2
      go_wp2_with fail
      refine (I_Couples _ a b f g _ _ (ha.bw rItems_good B2) (hb.bw rItems_good B2)).mono ?_
      rintro e w3 ⟨v3, rfl, ⟨F3, o3, f3⟩, hb3⟩
      have B3 := B2.then hb3
      have hl := couples_len a b f g
      go_wp2_with fail
      refine (I_bestOf _ a b p q (couples a b f g) _ _ _ _ _ (ha.bw rItems_good B3) (hb.bw rItems_good B3) (hp.bw rNodes_good B3) (hq.bw rNodes_good B3) (fCouples_Rd o3) (by omega) couples_fit E1.out E2.out).mono ?_
      rintro e w4 ⟨v4, rfl, ⟨F4, o4, f4⟩, hb4⟩
      rw [show bestC a b p q (couples a b f g) = bestCoup a b f g p q by rw [bestCoup, E1.out, E2.out]; rfl] at o4
      go_wp2
      go_ret
      exact ⟨_, rfl, ⟨F4, o4, f4.mono B3.size⟩, B3.then hb4⟩
    · have E2 := Lib.hid e2
      rw [e2]
      clear e2
      have hv0 := fSl_empty (e := 83) (sz := 2) (R := fPair) w2
      rw [show ([] : List GPair) = bestCoup a b f g p q by rw [bestCoup, E1.out, E2.out]; rfl] at hv0
      have hz := B2.size
      go_wp2
      go_ret
      exact ⟨_, rfl, ⟨_, hv0, ⟨by simp, by simpa using hz⟩⟩, B2.alloc _⟩
  · have E1 := Lib.hid e1
    rw [e1]
    clear e1
    have hv0 := fSl_empty (e := 83) (sz := 2) (R := fPair) w1
    rw [show ([] : List GPair) = bestCoup a b f g p q by rw [bestCoup, E1.out]; rfl] at hv0
    have hz := hb1.size
    go_wp2
    go_ret
    exact ⟨_, rfl, ⟨_, hv0, ⟨by simp, by simpa using hz⟩⟩, hb1.alloc _⟩
set_option maxRecDepth 100000 in
set_option maxHeartbeats 1600000 in
theorem S_BestCouples (w : World) (a b : List GItem) (f g : Int) (p q : List GNode) (va vb vp vq : Value) (ha : Rd rItems w a [va]) (hb : Rd rItems w b [vb]) (hp : Rd rNodes w p [vp]) (hq : Rd rNodes w q [vq]) :
    Calls Try.prog 146 #[va, vb, .int .i64 f, .int .i64 g, vp, vq] w (RetV w (Made fCouples w.heap.size (bestCoup a b f g p q))) := by
  go_enter Try.func146, Try.ntmps146
  go_wp2_with fail
  refine (S_IsExpression _ p _ hp).mono ?_
  rintro e w1 ⟨rfl, hb1⟩
  rcases Bool.eq_false_or_eq_true (isExpr p) with e1 | e1
  · have E1 := Lib.hid e1
    rw [e1]
    clear e1
    go_wp2_with fail
    refine (S_IsExpression _ q _ (hq.bw rNodes_good hb1)).mono ?_
    rintro e w2 ⟨rfl, hb2⟩
    have B2 := hb1.then hb2
    rcases Bool.eq_false_or_eq_true (isExpr q) with e2 | e2
    · have E2 := Lib.hid e2
      rw [e2]
      clear e2
      go_wp2_with fail
      refine (S_Couples _ a b f g _ _ (ha.bw rItems_good B2) (hb.bw rItems_good B2)).mono ?_
      rintro e w3 ⟨v3, rfl, ⟨F3, o3, f3⟩, hb3⟩
      have B3 := B2.then hb3
      have hl := couples_len a b f g
      go_wp2_with fail
      refine (S_l17Best _ a b p q (couples a b f g) _ _ _ _ _ (ha.bw rItems_good B3) (hb.bw rItems_good B3) (hp.bw rNodes_good B3) (hq.bw rNodes_good B3) (fCouples_Rd o3) (by omega) couples_fit E1.out E2.out).mono ?_
      rintro e w4 ⟨v4, rfl, ⟨F4, o4, f4⟩, hb4⟩
      rw [show bestC a b p q (couples a b f g) = bestCoup a b f g p q by rw [bestCoup, E1.out, E2.out]; rfl] at o4
      go_wp2
      go_ret
      exact ⟨_, rfl, ⟨F4, o4, f4.mono B3.size⟩, B3.then hb4⟩
    · have E2 := Lib.hid e2
      rw [e2]
      clear e2
      have hv0 := fSl_empty (e := 83) (sz := 2) (R := fPair) w2
      rw [show ([] : List GPair) = bestCoup a b f g p q by rw [bestCoup, E1.out, E2.out]; rfl] at hv0
      have hz := B2.size
      go_wp2
      go_ret
      exact ⟨_, rfl, ⟨_, hv0, ⟨by simp, by simpa using hz⟩⟩, B2.alloc _⟩
  · have E1 := Lib.hid e1
    rw [e1]
    clear e1
    have hv0 := fSl_empty (e := 83) (sz := 2) (R := fPair) w1
    rw [show ([] : List GPair) = bestCoup a b f g p q by rw [bestCoup, E1.out]; rfl] at hv0
    have hz := hb1.size
    go_wp2
    go_ret
    exact ⟨_, rfl, ⟨_, hv0, ⟨by simp, by simpa using hz⟩⟩, hb1.alloc _⟩
end Go.Proofs.Ytfffklkiikmieaa
