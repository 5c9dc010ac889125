/- Rules of rewriting in the program. -/
import Derived.Test.YtpihighajaeabaaGreatQModel3
import Derived.Test.YtpihighajaeabaaGreatQWishes3
import Derived.Deep.RegionLaw
namespace Go.Proofs.YtpihighajaeabaaGreat
open Go.RowKit
set_option linter.unusedVariables false
set_option linter.unusedSimpArgs false
def RewPost (o : Option (List GNode)) (w : World) (e : Ending) (w' : World) : Prop := ∃ v b, e = .returned (.tuple #[v, .bool b]) ∧ Bw w w' ∧ match o with
  | some x => b = true ∧ Rd rNodes w' x [v]
  | none => b = false
abbrev fNodesSh (B : Nat) : Fp (List GNode) := fSl 111 6 (fSh B rNode)
theorem fNodesSh_good {B B' : Nat} (hB : B' ≤ B) : GoodF B (fNodesSh B') := fSl_good (fSh_good rNode_good hB)
theorem fNodesSh_Rd {B : Nat} {w : World} {xs : List GNode} {v : Value} {F : List Nat} (h : fNodesSh B w xs [v] F) (hB : B ≤ w.heap.size) : Rd rNodes w xs [v] :=
  Rd.of rNodes_good (B := B) (fSl_rd rNode_good (fun _ _ _ h => fSh_rd rNode_good h) h) ((fNodesSh_good (B := B) (Nat.le_refl _)).lt h) hB
theorem rNode_one {w : World} {S : Blocks} {x : GNode} {u : List Value} (h : rNode w S x u) : ∀ t ∈ u, t.oneCell' = true := by
  obtain ⟨us, rfl, v, u', rfl, h1, h2⟩ := h
  obtain ⟨A, c, rfl, _⟩ := rSl_shape h1
  obtain ⟨A', c', rfl, _⟩ := rSl_shape h2
  intro t ht
  simp at ht
  rcases ht with rfl | rfl | rfl | rfl | rfl | rfl <;> rfl
theorem shNode {B : Nat} {W : World} {y : GNode} {u : List Value} (h : rNode W (fun b => b < B) y u) : fSh B rNode W y u [] := ⟨rfl, h, rNode_one h⟩
theorem shOp (B : Nat) (W : World) (n : Int) : fSh B rNode W ⟨n, noWish⟩ [.int .i64 n, .int .i64 0, .int .i64 0, .int .i64 0, .slice none 0 0, .slice none 0 0] [] :=
  ⟨rfl, ⟨_, rfl, _, _, rfl, rSl_nil, rSl_nil⟩, fun t ht => by simp at ht; rcases ht with rfl | rfl | rfl <;> rfl⟩
/-- what was read stands for the blocks that were there -/
theorem rd_low {w W : World} {xs : List GNode} {v : Value} (h : Rd rNodes w xs [v]) (hb : Bw w W) {B : Nat} (hB : w.heap.size ≤ B) : rSl 6 rNode W (fun b => b < B) xs [v] :=
  rNodes_good.step ⟨fun b hb' => Nat.lt_of_lt_of_le hb' hB, fun q hq => Below.cell hb hq⟩ h
set_option maxRecDepth 100000 in
set_option maxHeartbeats 3200000 in
theorem I_rewritten1 (w : World) (t : XT) (e pre post : List GNode) (ba oa n m c : Nat) (h : Rd rNodes w e [.slice (some ⟨ba, oa, none⟩) n c]) (hL : Hid (n = e.length)) (he : e = pre ++ (flat t ++ post)) (hok : okT t) (h9 : e.length ≤ 9) (hm : m + 1 = pre.length + (flat t).length) (hc : n ≤ c) (hc2 : c ≤ 9223372036854775807) :
    Calls Tryz.prog 180 #[.slice (some ⟨ba, oa, none⟩) n c, .int .i64 1, .int .i64 (m : Int)] w (RewPost (ruleT 1 t) w) := by
  have hle : e.length = pre.length + (flat t).length + post.length := by rw [he]; simp; omega
  have hnn := hL.out
  have c0 := op_cell h he hm
  have i1 : (0 : Int) ≤ (m : Int) := by omega
  have i2 : (m : Int) < (n : Int) := by omega
  obtain ⟨p, hp⟩ : ∃ p, p = pre.length := ⟨_, rfl⟩
  have htk : e.take (m + 1) = pre ++ flat t := by rw [hm, he]; exact take_mid _ _ _
  have st := I_start w e pre t m _ h hok (by omega) h9 htk
  rw [← hp] at st
  cases t with
  | base x =>
    rw [show opOf (.base x) = 0 from rfl] at c0
    rw [show ruleT 1 (.base x) = none from rfl]
    clear he hm hok hle hnn h9 h st htk hp
    go_enter Tryz.func180, Tryz.ntmps180
    go_wp2
    refine bodyPost_ret (v := .tuple #[.slice none 0 0, .bool false]) (by simp [results, Tryz.results180, go_sem]) rfl ?_
    exact ⟨_, _, rfl, Bw.refl _, rfl⟩
  | two op a b =>
    have hop : isTwo op := hok.1
    rw [show opOf (.two op a b) = op from rfl] at c0
    rw [ruleT1_not (t := .two op a b) (by rintro ⟨s, hs⟩; cases hs)]
    have e1 : (op == 0) = false := by unfold isTwo at hop; simp; omega
    have e2 : (op == 3) = false := by unfold isTwo at hop; simp; omega
    have htk2 : e.take (m - 1 + 1) = (pre ++ flat a) ++ flat b := by
      have hl := flat_two_len op a b
      have hpb := flat_pos b
      rw [show m - 1 + 1 = (pre ++ flat a).length + (flat b).length by rw [List.length_append]; omega, he, show pre ++ (flat (.two op a b) ++ post) = (pre ++ flat a) ++ (flat b ++ (⟨op, noWish⟩ :: post)) by simp [flat]]
      exact take_mid _ _ _
    have hpos := flat_pos a
    have hpos2 := flat_pos b
    have hlen := flat_two_len op a b
    have st2 := fun W (B : Bw w W) => I_start W e (pre ++ flat a) b (m - 1) _ (h.bw rNodes_good B) hok.2.2 (by omega) h9 htk2
    have n2 : (((m - 1 : Nat) : Int)) = (m : Int) - 1 := by omega
    simp only [n2] at st2
    obtain ⟨k, hk⟩ : ∃ k, k = (pre ++ flat a).length := ⟨_, rfl⟩
    rw [← hk] at st2
    have ST2 := Lib.hid st2
    clear he hm hok hle hnn h9 h htk htk2 hp hop hpos hpos2 hlen n2 hk st2
    go_enter Tryz.func180, Tryz.ntmps180
    go_wp2_with fail
    refine (st).mono ?_
    rintro e w1 ⟨rfl, hb1⟩
    have hs2 := ST2.out w1 hb1
    clear st
    go_wp2_with fail
    refine hs2.mono ?_
    rintro e2' w2 ⟨rfl, hb2⟩
    have c02 := (hb1.then hb2).cell c0
    clear hs2
    go_wp2
    refine wp_region_since (by kernel_rfl) (by kernel_rfl) ?_
    repeat (first | go_big_quiet_skip | (go_big_quiet_want; go_big_quiet_op; first | go_big_quiet_on | (apply Exists.intro; refine ⟨fun _ => ?_, ?_⟩; (· (((fail)))); go_big_quiet_on)))
    refine wpQuiet_nil ?_
    rintro ⟨wq, hbq⟩
    dsimp only at *
    go_wp2
    refine bodyPost_ret (v := .tuple #[.slice none 0 0, .bool false]) (by simp [results, Tryz.results180, go_sem]) rfl ?_
    exact ⟨_, _, rfl, (hb1.then hb2).then hbq, rfl⟩
  | dual s =>
    rw [show opOf (.dual s) = 3 from rfl] at c0
    have hls := flat_dual_len s
    have hps := flat_pos s
    have he1 : e = pre ++ (flat s ++ (⟨3, noWish⟩ :: post)) := by rw [he, flat_dual]
    have hm1 : m - 1 + 1 = pre.length + (flat s).length := by omega
    have c1 := op_cell (m := m - 1) h he1 hm1
    have htk2 : e.take (m - 1 + 1) = pre ++ flat s := by rw [hm1, he1]; exact take_mid _ _ _
    have st2 := fun W (B : Bw w W) => I_start W e pre s (m - 1) _ (h.bw rNodes_good B) hok (by omega) h9 htk2
    obtain ⟨q, rfl⟩ : ∃ q, m = q + 1 := ⟨m - 1, by omega⟩
    rw [show q + 1 - 1 = q by omega] at c1 hm1
    simp only [show q + 1 - 1 = q by omega, ← hp] at st2
    have ST2 := Lib.hid st2
    have i3 : (0 : Int) ≤ (q : Int) := by omega
    have i4 : (q : Int) < (n : Int) := by omega
    have eq2 : ((q + 1 : Nat) : Int) = (q : Int) + 1 := by omega
    by_cases hd2 : ∃ s', s = .dual s'
    · obtain ⟨s', rfl⟩ := hd2
      rw [show opOf (.dual s') = 3 from rfl] at c1
      rw [show ruleT 1 (.dual (.dual s')) = some (flat s') by simp [ruleT]]
      have hls2 := flat_dual_len s'
      have hps2 := flat_pos s'
      have he2 : e = pre ++ (flat s' ++ (⟨3, noWish⟩ :: ⟨3, noWish⟩ :: post)) := by rw [he1, flat_dual]
      have r1 : rNodes w (lt w) (flat s') [.slice (some ⟨ba, oa + p * 6, none⟩) (q - p) (c - p)] := rSl_part (i := p) (k := q) h hL.out he2 hp (by omega)
      have R1 := Lib.hid r1
      have k1 : (0 : Int) ≤ (p : Int) := by omega
      have k2 : (p : Int) ≤ (q : Int) := by omega
      have k3 : (q : Int) ≤ (c : Int) := by omega
      have k4 : ¬ c ≤ p := by omega
      have k5 : ¬ c = p := by omega
      clear he he1 he2 hm hm1 hok hle hnn h9 h htk htk2 hp hls hps hls2 hps2 st2 r1
      go_enter Tryz.func180, Tryz.ntmps180
      go_wp2_with fail
      refine (st).mono ?_
      rintro e w1 ⟨rfl, hb1⟩
      have hs2 := ST2.out w1 hb1
      clear st
      go_wp2_with fail
      refine hs2.mono ?_
      rintro e2' w2 ⟨rfl, hb2⟩
      have B2 := hb1.then hb2
      have c12 := B2.cell c1
      clear hs2
      go_wp2
      refine bodyPost_ret (v := .tuple #[.slice (some ⟨ba, oa + p * 6, none⟩) (q - p) (c - p), .bool true]) (by simp [results, Tryz.results180, go_sem]) rfl ?_
      exact ⟨_, true, rfl, B2, rfl, Rd.bw rNodes_good R1.out B2⟩
    · rw [ruleT1_dual hd2]
      have e1 : (opOf s == 3) = false := by simpa using opOf_not3 (t := s) hok hd2
      obtain ⟨O, hO⟩ : ∃ O, O = opOf s := ⟨_, rfl⟩
      rw [← hO] at c1 e1
      clear he he1 hm hm1 hok hle hnn h9 h htk htk2 hp hls hps st2 hO hd2
      go_enter Tryz.func180, Tryz.ntmps180
      go_wp2_with fail
      refine (st).mono ?_
      rintro e w1 ⟨rfl, hb1⟩
      have hs2 := ST2.out w1 hb1
      clear st
      go_wp2_with fail
      refine hs2.mono ?_
      rintro e2' w2 ⟨rfl, hb2⟩
      have B2 := hb1.then hb2
      have c12 := B2.cell c1
      clear hs2
      go_wp2
      refine wp_region_since (by kernel_rfl) (by kernel_rfl) ?_
      repeat (first | go_big_quiet_skip | (go_big_quiet_want; go_big_quiet_op; first | go_big_quiet_on | (apply Exists.intro; refine ⟨fun _ => ?_, ?_⟩; (· (((fail)))); go_big_quiet_on)))
      refine wpQuiet_nil ?_
      rintro ⟨wq, hbq⟩
      dsimp only at *
      go_wp2
      refine bodyPost_ret (v := .tuple #[.slice none 0 0, .bool false]) (by simp [results, Tryz.results180, go_sem]) rfl ?_
      exact ⟨_, _, rfl, B2.then hbq, rfl⟩
def rOp : Rep GNode := fun _ _ y u => ∃ n, y = ⟨n, noWish⟩ ∧ u = [.int .i64 n, .int .i64 0, .int .i64 0, .int .i64 0, .slice none 0 0, .slice none 0 0]
theorem rOps2 (w : World) (a b : Int) : rSl 6 rOp (w.alloc (.cells #[.int .i64 a, .int .i64 0, .int .i64 0, .int .i64 0, .slice none 0 0, .slice none 0 0, .int .i64 b, .int .i64 0, .int .i64 0, .int .i64 0, .slice none 0 0, .slice none 0 0] 111)) (fun _ => True) [⟨a, noWish⟩, ⟨b, noWish⟩] [.slice (some ⟨w.heap.size, 0, none⟩) 2 2] := by
  have bX := Box.new w #[.int .i64 a, .int .i64 0, .int .i64 0, .int .i64 0, .slice none 0 0, .slice none 0 0, .int .i64 b, .int .i64 0, .int .i64 0, .int .i64 0, .slice none 0 0, .slice none 0 0] 111
  refine ⟨_, 2, rfl, Nat.le_refl _, by simp [maxLen], fun k x hx => ?_⟩
  match k, hx with
  | 0, hx =>
    simp at hx; subst hx
    refine ⟨w.heap.size, 0, _, rfl, trivial, rfl, fun j u hu => ?_, a, rfl, rfl⟩
    have hj : j < 6 := (List.getElem?_eq_some_iff.1 hu).1
    rw [show 0 + 0 * 6 + j = j by omega]
    refine bX.c j u ?_
    rw [← hu]
    match j, hj with
    | 0, _ | 1, _ | 2, _ | 3, _ | 4, _ | 5, _ => rfl
  | 1, hx =>
    simp at hx; subst hx
    refine ⟨w.heap.size, 0, _, rfl, trivial, rfl, fun j u hu => ?_, b, rfl, rfl⟩
    have hj : j < 6 := (List.getElem?_eq_some_iff.1 hu).1
    rw [show 0 + 1 * 6 + j = 6 + j by omega]
    refine bX.c (6 + j) u ?_
    rw [← hu]
    match j, hj with
    | 0, _ | 1, _ | 2, _ | 3, _ | 4, _ | 5, _ => rfl
theorem shOps {B : Nat} {W : World} {S : Blocks} {y : GNode} {u : List Value} (h : rOp W S y u) : fSh B rNode W y u [] := by
  obtain ⟨n, rfl, rfl⟩ := h
  exact shOp B W n
set_option maxRecDepth 100000 in
set_option maxHeartbeats 6400000 in
theorem I_rewritten2 (w : World) (t : XT) (e pre post : List GNode) (ba oa n m c : Nat) (h : Rd rNodes w e [.slice (some ⟨ba, oa, none⟩) n c]) (hL : Hid (n = e.length)) (he : e = pre ++ (flat t ++ post)) (hok : okT t) (h9 : e.length ≤ 9) (hm : m + 1 = pre.length + (flat t).length) (hc : n ≤ c) (hc2 : c ≤ 9223372036854775807) :
    Calls Tryz.prog 180 #[.slice (some ⟨ba, oa, none⟩) n c, .int .i64 2, .int .i64 (m : Int)] w (RewPost (ruleT 2 t) w) := by
  obtain ⟨i0, hi, hz0, hz1, hz2⟩ := info_parts info_Node
  have hle : e.length = pre.length + (flat t).length + post.length := by rw [he]; simp; omega
  have hnn := hL.out
  have c0 := op_cell h he hm
  have i1 : (0 : Int) ≤ (m : Int) := by omega
  have i2 : (m : Int) < (n : Int) := by omega
  obtain ⟨p, hp⟩ : ∃ p, p = pre.length := ⟨_, rfl⟩
  have htk : e.take (m + 1) = pre ++ flat t := by rw [hm, he]; exact take_mid _ _ _
  have st := I_start w e pre t m _ h hok (by omega) h9 htk
  rw [← hp] at st
  cases t with
  | base x =>
    rw [show opOf (.base x) = 0 from rfl] at c0
    rw [show ruleT 2 (.base x) = none from rfl]
    clear he hm hok hle hnn h9 h st htk hp
    go_enter Tryz.func180, Tryz.ntmps180
    go_wp2
    refine bodyPost_ret (v := .tuple #[.slice none 0 0, .bool false]) (by simp [results, Tryz.results180, go_sem]) rfl ?_
    exact ⟨_, _, rfl, Bw.refl _, rfl⟩
  | two op a b =>
    have hop : isTwo op := hok.1
    rw [show opOf (.two op a b) = op from rfl] at c0
    rw [ruleT2_not (t := .two op a b) (by rintro ⟨s, hs⟩; cases hs)]
    have e1 : (op == 0) = false := by unfold isTwo at hop; simp; omega
    have e2 : (op == 3) = false := by unfold isTwo at hop; simp; omega
    have htk2 : e.take (m - 1 + 1) = (pre ++ flat a) ++ flat b := by
      have hl := flat_two_len op a b
      have hpb := flat_pos b
      rw [show m - 1 + 1 = (pre ++ flat a).length + (flat b).length by rw [List.length_append]; omega, he, show pre ++ (flat (.two op a b) ++ post) = (pre ++ flat a) ++ (flat b ++ (⟨op, noWish⟩ :: post)) by simp [flat]]
      exact take_mid _ _ _
    have hpos := flat_pos a
    have hpos2 := flat_pos b
    have hlen := flat_two_len op a b
    have st2 := fun W (B : Bw w W) => I_start W e (pre ++ flat a) b (m - 1) _ (h.bw rNodes_good B) hok.2.2 (by omega) h9 htk2
    have n2 : (((m - 1 : Nat) : Int)) = (m : Int) - 1 := by omega
    simp only [n2] at st2
    obtain ⟨k, hk⟩ : ∃ k, k = (pre ++ flat a).length := ⟨_, rfl⟩
    rw [← hk] at st2
    have ST2 := Lib.hid st2
    clear he hm hok hle hnn h9 h htk htk2 hp hop hpos hpos2 hlen n2 hk st2
    go_enter Tryz.func180, Tryz.ntmps180
    go_wp2_with fail
    refine (st).mono ?_
    rintro e w1 ⟨rfl, hb1⟩
    have hs2 := ST2.out w1 hb1
    clear st
    go_wp2_with fail
    refine hs2.mono ?_
    rintro e2' w2 ⟨rfl, hb2⟩
    have c02 := (hb1.then hb2).cell c0
    clear hs2
    go_wp2
    refine wp_region_since (by kernel_rfl) (by kernel_rfl) ?_
    repeat (first | go_big_quiet_skip | (go_big_quiet_want; go_big_quiet_op; first | go_big_quiet_on | (apply Exists.intro; refine ⟨fun _ => ?_, ?_⟩; (· (((fail)))); go_big_quiet_on)))
    refine wpQuiet_nil ?_
    rintro ⟨wq, hbq⟩
    dsimp only at *
    go_wp2
    refine bodyPost_ret (v := .tuple #[.slice none 0 0, .bool false]) (by simp [results, Tryz.results180, go_sem]) rfl ?_
    exact ⟨_, _, rfl, (hb1.then hb2).then hbq, rfl⟩
  | dual s =>
    rw [show opOf (.dual s) = 3 from rfl] at c0
    have hls := flat_dual_len s
    have hps := flat_pos s
    have he1 : e = pre ++ (flat s ++ (⟨3, noWish⟩ :: post)) := by rw [he, flat_dual]
    have hm1 : m - 1 + 1 = pre.length + (flat s).length := by omega
    have c1 := op_cell (m := m - 1) h he1 hm1
    have htk2 : e.take (m - 1 + 1) = pre ++ flat s := by rw [hm1, he1]; exact take_mid _ _ _
    have st2 := fun W (B : Bw w W) => I_start W e pre s (m - 1) _ (h.bw rNodes_good B) hok (by omega) h9 htk2
    obtain ⟨q, rfl⟩ : ∃ q, m = q + 1 := ⟨m - 1, by omega⟩
    rw [show q + 1 - 1 = q by omega] at c1 hm1
    simp only [show q + 1 - 1 = q by omega, ← hp] at st2
    have ST2 := Lib.hid st2
    have i3 : (0 : Int) ≤ (q : Int) := by omega
    have i4 : (q : Int) < (n : Int) := by omega
    have eq2 : ((q + 1 : Nat) : Int) = (q : Int) + 1 := by omega
    have kop := fun W => I_operands W (opOf s)
    by_cases hd2 : ∃ op a b, s = .two op a b
    · obtain ⟨op, a, b, rfl⟩ := hd2
      have hop : isTwo op := hok.1
      rw [show opOf (.two op a b) = op from rfl] at c1 kop
      simp only [opnds_two hop] at kop
      rw [ruleT2_two op a b]
      have hla := flat_two_len op a b
      have hpa := flat_pos a
      have hpb := flat_pos b
      have he2 : e = pre ++ (flat a ++ (flat b ++ (⟨op, noWish⟩ :: ⟨3, noWish⟩ :: post))) := by rw [he1]; simp [flat]
      have he3 : e = (pre ++ flat a) ++ (flat b ++ (⟨op, noWish⟩ :: ⟨3, noWish⟩ :: post)) := by rw [he2]; simp
      obtain ⟨k, hk⟩ : ∃ k, k = pre.length + (flat a).length := ⟨_, rfl⟩
      have hqk : q = k + (flat b).length := by omega
      have htk3 : e.take (q - 1 + 1) = (pre ++ flat a) ++ flat b := by
        rw [show q - 1 + 1 = (pre ++ flat a).length + (flat b).length by rw [List.length_append]; omega, he3]; exact take_mid _ _ _
      have st3 := fun W (B : Bw w W) => I_start W e (pre ++ flat a) b (q - 1) _ (h.bw rNodes_good B) hok.2.2 (by omega) h9 htk3
      have n2 : (((q - 1 : Nat) : Int)) = (q : Int) + 1 - 2 := by omega
      rw [List.length_append, ← hk] at st3
      simp only [n2] at st3
      have ST3 := Lib.hid st3
      have r1 : rNodes w (lt w) (flat a) [.slice (some ⟨ba, oa + p * 6, none⟩) (k - p) (c - p)] := rSl_part (i := p) (k := k) h hL.out he2 hp hk
      have r2 : rNodes w (lt w) (flat b) [.slice (some ⟨ba, oa + k * 6, none⟩) (q - k) (c - k)] := rSl_part (i := k) (k := q) h hL.out he3 (by rw [hk, List.length_append]) (by rw [List.length_append]; omega)
      have R1 := Lib.hid r1
      have R2 := Lib.hid r2
      have k1 : (0 : Int) ≤ (p : Int) := by omega
      have k2 : (p : Int) ≤ (k : Int) := by omega
      have k3 : (k : Int) ≤ (c : Int) := by omega
      have k4 : ¬ c ≤ p := by omega
      have k5 : ¬ c = p := by omega
      have k6 : (k : Int) ≤ (q : Int) := by omega
      have k7 : (q : Int) ≤ (c : Int) := by omega
      have k8 : ¬ c ≤ k := by omega
      have k9 : ¬ c = k := by omega
      have k10 : (0 : Int) ≤ (k : Int) := by omega
      have HAL := Lib.hid (show (flat a).length ≤ 9 ∧ (flat b).length ≤ 9 by omega)
      have hbo : -100 ≤ op ∧ op ≤ 100 := by unfold isTwo at hop; omega
      clear he he1 he2 he3 hm hm1 hok hle hnn h9 h htk htk2 htk3 hp hls hps st2 st3 r1 r2 hk hqk hpa hpb hla n2 hop
      go_enter Tryz.func180, Tryz.ntmps180
      go_wp2_with fail
      refine (st).mono ?_
      rintro e w1 ⟨rfl, hb1⟩
      have hs2 := ST2.out w1 hb1
      clear st
      go_wp2_with fail
      refine hs2.mono ?_
      rintro e2' w2 ⟨rfl, hb2⟩
      have B2 := hb1.then hb2
      have c12 := B2.cell c1
      have ko2 := kop w2
      clear hs2 kop
      go_wp2_with fail
      refine ko2.mono ?_
      rintro e3' w3 ⟨rfl, hb3⟩
      have B3 := B2.then hb3
      have hs3 := ST3.out w3 B3
      clear ko2
      go_wp2_with fail
      refine hs3.mono ?_
      rintro e4' w4 ⟨rfl, hb4⟩
      have B4 := B3.then hb4
      have c14 := B4.cell c1
      have hA0 := (Bw.refl w4).alloc (.cells #[] 111)
      have hv0 := fSl_empty (e := 111) (sz := 6) (R := fSh w4.heap.size rNode) w4
      have hF0 : Fresh w4.heap.size [w4.heap.size] := ⟨by simp, by simp⟩
      have hsA := rd_low R1.out (B4.then hA0) B4.size
      have HXF := Lib.hid (show flat a ++ [⟨3, noWish⟩] ++ flat b ++ [⟨3, noWish⟩, ⟨op, noWish⟩] = flat a ++ (⟨3, noWish⟩ :: (flat b ++ [⟨3, noWish⟩, ⟨op, noWish⟩])) by simp)
      clear hs3 hb4 hb3 hb2 hb1
      go_wp2_with (at_builtin; refine wpList_append_all _ rfl (.tmp 70) (.tmp 74) 25 rfl w4 111 i0 _ 6 80 Tryz.underlying25 hi hz0 hz1 hz2 rfl (by omega) (fSh_good rNode_good (Nat.le_refl _)) _ [] [w4.heap.size] (by rfl) hv0 hF0 _ (by rfl) (flat a) hsA (fun y u h => shNode h) (by have := HAL.out; simp only [List.length_nil]; omega) (by have := HAL.out; simp only [List.length_nil]; omega) hA0 ?_; intro v5 w5 F5 o5 f5 B5; rw [List.nil_append] at o5)
      have D5 := (Bw.refl w5).drew
      have hA6 := (Bw.refl w5.drew).alloc (.cells #[.int .i64 3, .int .i64 0, .int .i64 0, .int .i64 0, .slice none 0 0, .slice none 0 0] 111)
      have o5W := (fNodesSh_good (Nat.le_refl w4.heap.size)).bw (D5.then hA6) B5.size o5
      have lt5 := (fNodesSh_good (Nat.le_refl w4.heap.size)).lt o5
      have hcl : ∀ j t, [Value.int .i64 3, .int .i64 0, .int .i64 0, .int .i64 0, .slice none 0 0, .slice none 0 0][j]? = some t → (w5.drew.alloc (.cells #[.int .i64 3, .int .i64 0, .int .i64 0, .int .i64 0, .slice none 0 0, .slice none 0 0] 111)).cell? ((⟨w5.drew.heap.size, 0, none⟩ : Addr).add j) = some t := World.news_of_block (cs := #[.int .i64 3, .int .i64 0, .int .i64 0, .int .i64 0, .slice none 0 0, .slice none 0 0]) (t := 111) (fr := (0, 0)) (heap_alloc_new w5.drew _)
      have hbW := (B5.then D5).then hA6
      have hbs := B5.size
      have HR2 := Lib.hid (fun (W : World) (B : Bw w4 W) => rd_low R2.out (B4.then B) B4.size)
      have HL2 := Lib.hid (show (flat a ++ [(⟨3, noWish⟩ : GNode)]).length ≤ 10 by rw [List.length_append]; have := HAL.out; simp; omega)
      have hwq : IntKind.i64.wrap (q : Int) = (q : Int) := by simp [IntKind.wrap, IntKind.bits, IntKind.signed]; omega
      clear hv0 hF0 hsA hA0
      go_region_held3 (fun w' => True) (exact trivial) (first
        | (refine step_push2 _ (by rfl) (.tmp 76) (.tmp 78) 25 (by rfl) w4 111 i0 _ 6 80 Tryz.underlying25 hi hz0 hz1 hz2 rfl (by omega) (fSh_good rNode_good (Nat.le_refl _)) v5 (flat a) F5 (by rfl) o5W f5 ⟨w5.drew.heap.size, 0, none⟩ 1 (by rfl) ⟨3, noWish⟩ [.int .i64 3, .int .i64 0, .int .i64 0, .int .i64 0, .slice none 0 0, .slice none 0 0] [] hcl (shOp _ _ _) rfl w5.heap.size lt5 Fresh.nil hbs (by have := HAL.out; omega) (by have := HAL.out; omega) hbW ?_; intro v6 w6 F6 o6 f6 B6 hO6 hs6)
        | (refine step_append_all _ (by rfl) (.tmp 79) (.tmp 84) 25 (by rfl) w4 111 i0 _ 6 80 Tryz.underlying25 hi hz0 hz1 hz2 rfl (by omega) (fSh_good rNode_good (Nat.le_refl _)) v6 (flat a ++ [⟨3, noWish⟩]) F6 (by rfl) o6 f6 _ (by rfl) (flat b) (HR2.out w6 B6) (fun y u h => shNode h) (by have := HL2.out; have := HAL.out; omega) (by have := HL2.out; have := HAL.out; omega) B6 ?_; intro v7 w7 F7 o7 f7 B7 hO7 hs7))
      all_goals
        have c17 := B7.cell c14
        have hA8 := (Bw.refl w7).alloc (.cells #[.int .i64 3, .int .i64 0, .int .i64 0, .int .i64 0, .slice none 0 0, .slice none 0 0, .int .i64 op, .int .i64 0, .int .i64 0, .int .i64 0, .slice none 0 0, .slice none 0 0] 111)
        have o7W := (fNodesSh_good (Nat.le_refl w4.heap.size)).bw hA8 B7.size o7
        have hbW8 := B7.then hA8
        have hops := rOps2 w7 3 op
        have HL7 := Lib.hid (show (flat a ++ [(⟨3, noWish⟩ : GNode)] ++ flat b).length ≤ 20 by rw [List.length_append]; have := HL2.out; have := HAL.out; omega)
        clear o7 hA8 hcl o5W o5 lt5
        go_wp2_with (at_builtin; refine wpList_append_all _ rfl (.tmp 86) (.tmp 95) 25 rfl w4 111 i0 _ 6 80 Tryz.underlying25 hi hz0 hz1 hz2 rfl (by omega) (fSh_good rNode_good (Nat.le_refl _)) v7 (flat a ++ [⟨3, noWish⟩] ++ flat b) F7 (by rfl) o7W f7 _ (by rfl) [⟨3, noWish⟩, ⟨op, noWish⟩] hops (fun y u h => shOps h) (by have := HL7.out; simp only [List.length_cons, List.length_nil]; omega) (by have := HL7.out; simp only [List.length_cons, List.length_nil]; omega) hbW8 ?_; intro v9 w9 F9 o9 f9 B9; rw [HXF.out] at o9)
        refine bodyPost_ret (v := .tuple #[v9, .bool true]) (by simp [results, Tryz.results180, go_sem]) rfl ?_
        exact ⟨_, true, rfl, B4.then B9, rfl, fNodesSh_Rd o9 B9.size⟩
    · rw [ruleT2_dual hd2]
      have hs0 : opnds (opOf s) ≠ 2 := by
        cases s with
        | base w => simp [opOf, opnds]
        | dual s => simp [opOf, opnds]
        | two op a b => exact absurd ⟨op, a, b, rfl⟩ hd2
      obtain ⟨O, hO⟩ : ∃ O, O = opOf s := ⟨_, rfl⟩
      rw [← hO] at c1 kop hs0
      obtain ⟨Z, hZ⟩ : ∃ Z, Z = opnds O := ⟨_, rfl⟩
      simp only [← hZ] at kop
      have e1 : (Z == 2) = false := by rw [hZ]; simpa using hs0
      clear he he1 hm hm1 hok hle hnn h9 h htk htk2 hp hls hps st2 hO hd2 hs0 hZ
      go_enter Tryz.func180, Tryz.ntmps180
      go_wp2_with fail
      refine (st).mono ?_
      rintro e w1 ⟨rfl, hb1⟩
      have hs2 := ST2.out w1 hb1
      clear st
      go_wp2_with fail
      refine hs2.mono ?_
      rintro e2' w2 ⟨rfl, hb2⟩
      have B2 := hb1.then hb2
      have c12 := B2.cell c1
      have ko2 := kop w2
      clear hs2 kop
      go_wp2_with fail
      refine ko2.mono ?_
      rintro e3' w3 ⟨rfl, hb3⟩
      have B3 := B2.then hb3
      clear ko2
      go_wp2
      refine wp_region_since (by kernel_rfl) (by kernel_rfl) ?_
      repeat (first | go_big_quiet_skip | (go_big_quiet_want; go_big_quiet_op; first | go_big_quiet_on | (apply Exists.intro; refine ⟨fun _ => ?_, ?_⟩; (· (((fail)))); go_big_quiet_on)))
      refine wpQuiet_nil ?_
      rintro ⟨wq, hbq⟩
      dsimp only at *
      go_wp2
      refine bodyPost_ret (v := .tuple #[.slice none 0 0, .bool false]) (by simp [results, Tryz.results180, go_sem]) rfl ?_
      exact ⟨_, _, rfl, B3.then hbq, rfl⟩
set_option maxRecDepth 100000 in
set_option maxHeartbeats 6400000 in
theorem I_rewritten3 (w : World) (t : XT) (e pre post : List GNode) (ba oa n m c : Nat) (h : Rd rNodes w e [.slice (some ⟨ba, oa, none⟩) n c]) (hL : Hid (n = e.length)) (he : e = pre ++ (flat t ++ post)) (hok : okT t) (h9 : e.length ≤ 9) (hm : m + 1 = pre.length + (flat t).length) (hc : n ≤ c) (hc2 : c ≤ 9223372036854775807) :
    Calls Tryz.prog 180 #[.slice (some ⟨ba, oa, none⟩) n c, .int .i64 3, .int .i64 (m : Int)] w (RewPost (ruleT 3 t) w) := by
  have hle : e.length = pre.length + (flat t).length + post.length := by rw [he]; simp; omega
  have hnn := hL.out
  have c0 := op_cell h he hm
  have i1 : (0 : Int) ≤ (m : Int) := by omega
  have i2 : (m : Int) < (n : Int) := by omega
  obtain ⟨p, hp⟩ : ∃ p, p = pre.length := ⟨_, rfl⟩
  have htk : e.take (m + 1) = pre ++ flat t := by rw [hm, he]; exact take_mid _ _ _
  have st := I_start w e pre t m _ h hok (by omega) h9 htk
  rw [← hp] at st
  cases t with
  | base x =>
    rw [show opOf (.base x) = 0 from rfl] at c0
    rw [show ruleT 3 (.base x) = none from rfl]
    clear he hm hok hle hnn h9 h st htk hp
    go_enter Tryz.func180, Tryz.ntmps180
    go_wp2
    refine bodyPost_ret (v := .tuple #[.slice none 0 0, .bool false]) (by simp [results, Tryz.results180, go_sem]) rfl ?_
    exact ⟨_, _, rfl, Bw.refl _, rfl⟩
  | dual s =>
    rw [show opOf (.dual s) = 3 from rfl] at c0
    rw [ruleT3_not (t := .dual s) (by rintro ⟨op, a, b, hs⟩; cases hs)]
    have hls := flat_dual_len s
    have hps := flat_pos s
    have he1 : e = pre ++ (flat s ++ (⟨3, noWish⟩ :: post)) := by rw [he, flat_dual]
    have hm1 : m - 1 + 1 = pre.length + (flat s).length := by omega
    have htk2 : e.take (m - 1 + 1) = pre ++ flat s := by rw [hm1, he1]; exact take_mid _ _ _
    have st2 := fun W (B : Bw w W) => I_start W e pre s (m - 1) _ (h.bw rNodes_good B) hok (by omega) h9 htk2
    have n2 : (((m - 1 : Nat) : Int)) = (m : Int) - 1 := by omega
    simp only [n2, ← hp] at st2
    have ST2 := Lib.hid st2
    have kop : ∀ W, Calls Tryz.prog 184 #[.int .i64 3] W (Ret W (.int .i64 1)) := fun W => I_operands W 3
    clear he he1 hm hm1 hok hle hnn h9 h htk htk2 hp hls hps st2 n2
    go_enter Tryz.func180, Tryz.ntmps180
    go_wp2_with fail
    refine (st).mono ?_
    rintro e w1 ⟨rfl, hb1⟩
    have hs2 := ST2.out w1 hb1
    clear st
    go_wp2_with fail
    refine hs2.mono ?_
    rintro e2' w2 ⟨rfl, hb2⟩
    have B2 := hb1.then hb2
    have kop2 : ∀ s : Since w2, Calls Tryz.prog 184 #[.int .i64 3] s.1 (Ret s.1 (.int .i64 1)) := fun s => kop s.1
    clear hs2 kop
    go_wp2
    refine wp_region_since (by kernel_rfl) (by kernel_rfl) ?_
    repeat (first | go_big_quiet_skip | (go_big_quiet_want; go_big_quiet_op; first | go_big_quiet_on | (apply Exists.intro; refine ⟨fun _ => ?_, ?_⟩; (· (((go_at_call 184; exact Calls_since (kop2 _))))); go_big_quiet_on)))
    refine wpQuiet_nil ?_
    rintro ⟨wq, hbq⟩
    dsimp only at *
    go_wp2
    refine bodyPost_ret (v := .tuple #[.slice none 0 0, .bool false]) (by simp [results, Tryz.results180, go_sem]) rfl ?_
    exact ⟨_, _, rfl, B2.then hbq, rfl⟩
  | two op a b =>
    have hop : isTwo op := hok.1
    rw [show opOf (.two op a b) = op from rfl] at c0
    have e1 : (op == 0) = false := by unfold isTwo at hop; simp; omega
    have e2 : (op == 3) = false := by unfold isTwo at hop; simp; omega
    have hla := flat_two_len op a b
    have hpa := flat_pos a
    have hpb := flat_pos b
    have he2 : e = pre ++ (flat a ++ (flat b ++ (⟨op, noWish⟩ :: post))) := by rw [he]; simp [flat]
    have he3 : e = (pre ++ flat a) ++ (flat b ++ (⟨op, noWish⟩ :: post)) := by rw [he2]; simp
    obtain ⟨k, hk⟩ : ∃ k, k = pre.length + (flat a).length := ⟨_, rfl⟩
    have hmk : m = k + (flat b).length := by omega
    have htk2 : e.take (m - 1 + 1) = (pre ++ flat a) ++ flat b := by
      rw [show m - 1 + 1 = (pre ++ flat a).length + (flat b).length by rw [List.length_append]; omega, he3]; exact take_mid _ _ _
    have st2 := fun W (B : Bw w W) => I_start W e (pre ++ flat a) b (m - 1) _ (h.bw rNodes_good B) hok.2.2 (by omega) h9 htk2
    have n2 : (((m - 1 : Nat) : Int)) = (m : Int) - 1 := by omega
    rw [List.length_append, ← hk] at st2
    simp only [n2] at st2
    have ST2 := Lib.hid st2
    have r1 : rNodes w (lt w) (flat a) [.slice (some ⟨ba, oa + p * 6, none⟩) (k - p) (c - p)] := rSl_part (i := p) (k := k) h hL.out he2 hp hk
    have r2 : rNodes w (lt w) (flat b) [.slice (some ⟨ba, oa + k * 6, none⟩) (m - k) (c - k)] := rSl_part (i := k) (k := m) h hL.out he3 (by rw [hk, List.length_append]) (by rw [List.length_append]; omega)
    have R1 := Lib.hid r1
    have k1 : (0 : Int) ≤ (p : Int) := by omega
    have k2 : (p : Int) ≤ (k : Int) := by omega
    have k3 : (k : Int) ≤ (c : Int) := by omega
    have k4 : ¬ c ≤ p := by omega
    have k5 : ¬ c = p := by omega
    have k6 : (k : Int) ≤ (m : Int) := by omega
    have k7 : (m : Int) ≤ (c : Int) := by omega
    have k8 : ¬ c ≤ k := by omega
    have k9 : ¬ c = k := by omega
    have k10 : (0 : Int) ≤ (k : Int) := by omega
    have kop : ∀ W, Calls Tryz.prog 184 #[.int .i64 op] W (Ret W (.int .i64 2)) := fun W => by
      have := I_operands W op
      rwa [opnds_two hop] at this
    have keq := fun W (B : Bw w W) => I_EqualExpressions W (flat a) (flat b) _ _ (Rd.bw rNodes_good r1 B) (Rd.bw rNodes_good r2 B)
    have KEQ := Lib.hid keq
    have HYES := Lib.hid (fun hab => ruleT3_yes (op := op) (a := a) (b := b) hab)
    have HNO := Lib.hid (fun hab => ruleT3_no (op := op) (a := a) (b := b) hab)
    obtain ⟨o, ho⟩ : ∃ o, o = ruleT 3 (.two op a b) := ⟨_, rfl⟩
    rw [← ho]
    have HO := Lib.hid ho
    clear he he2 he3 hm hok hle hnn h9 h htk htk2 hp st2 r1 r2 hk hmk hpa hpb hla n2 hop ho keq
    go_enter Tryz.func180, Tryz.ntmps180
    go_wp2_with fail
    refine (st).mono ?_
    rintro e w1 ⟨rfl, hb1⟩
    have hs2 := ST2.out w1 hb1
    clear st
    go_wp2_with fail
    refine hs2.mono ?_
    rintro e2' w2 ⟨rfl, hb2⟩
    have B2 := hb1.then hb2
    have kop2 : ∀ s : Since w2, Calls Tryz.prog 184 #[.int .i64 op] s.1 (Ret s.1 (.int .i64 2)) := fun s => kop s.1
    by_cases hab : flat a = flat b
    · have HE := Lib.hid (show o = some (flat a) by rw [HO.out]; exact HYES.out hab)
      have hd : decide (flat a = flat b) = true := decide_eq_true hab
      have keq2 : ∀ s : Since w2, Calls Tryz.prog 236 #[.slice (some ⟨ba, oa + p * 6, none⟩) (k - p) (c - p), .slice (some ⟨ba, oa + k * 6, none⟩) (m - k) (c - k)] s.1 (Ret s.1 (.bool true)) := fun s => by
        have := KEQ.out s.1 (B2.then s.bw)
        rwa [hd] at this
      clear hs2 kop hab hd
      go_wp2
      refine wp_region_since (by kernel_rfl) (by kernel_rfl) ?_
      repeat (first | go_big_quiet_skip | (go_big_quiet_want; go_big_quiet_op; first | go_big_quiet_on | (apply Exists.intro; refine ⟨fun _ => ?_, ?_⟩; (· (((first | (go_at_call 184; exact Calls_since (kop2 _)) | (go_at_call 236; exact Calls_since (keq2 _)))))); go_big_quiet_on)))
      refine wpQuiet_nil ?_
      rintro ⟨wq, hbq⟩
      dsimp only at *
      clear kop2 keq2
      go_wp2
      refine bodyPost_ret (v := .tuple #[.slice (some ⟨ba, oa + p * 6, none⟩) (k - p) (c - p), .bool true]) (by simp [results, Tryz.results180, go_sem]) rfl ?_
      rw [HE.out]
      exact ⟨_, true, rfl, B2.then hbq, rfl, Rd.bw rNodes_good R1.out (B2.then hbq)⟩
    · have HE := Lib.hid (show o = none by rw [HO.out]; exact HNO.out hab)
      have hd : decide (flat a = flat b) = false := decide_eq_false hab
      have keq2 : ∀ s : Since w2, Calls Tryz.prog 236 #[.slice (some ⟨ba, oa + p * 6, none⟩) (k - p) (c - p), .slice (some ⟨ba, oa + k * 6, none⟩) (m - k) (c - k)] s.1 (Ret s.1 (.bool false)) := fun s => by
        have := KEQ.out s.1 (B2.then s.bw)
        rwa [hd] at this
      clear hs2 kop hab hd
      go_wp2
      refine wp_region_since (by kernel_rfl) (by kernel_rfl) ?_
      repeat (first | go_big_quiet_skip | (go_big_quiet_want; go_big_quiet_op; first | go_big_quiet_on | (apply Exists.intro; refine ⟨fun _ => ?_, ?_⟩; (· (((first | (go_at_call 184; exact Calls_since (kop2 _)) | (go_at_call 236; exact Calls_since (keq2 _)))))); go_big_quiet_on)))
      refine wpQuiet_nil ?_
      rintro ⟨wq, hbq⟩
      dsimp only at *
      clear kop2 keq2
      go_wp2
      refine bodyPost_ret (v := .tuple #[.slice none 0 0, .bool false]) (by simp [results, Tryz.results180, go_sem]) rfl ?_
      rw [HE.out]
      exact ⟨_, _, rfl, B2.then hbq, rfl⟩
end Go.Proofs.YtpihighajaeabaaGreat
