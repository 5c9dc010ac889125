/- For every input, FnShares returns true and leaves its argument as it was. No condition. -/
import Derived.Test.YthlaabaffbffkaaGreatRows
import Derived.Test.YthlaabaffbffkaaGreatQLawH
import Derived.Test.YthlaabaffbffkaaGreatQCmpC
import Derived.Test.YthlaabaffbffkaaGreatQRefine
import Derived.Test.YthlaabaffbffkaaGreatQShareW
import Derived.Test.YthlaabaffbffkaaGreatQVoteD
import Derived.Test.YthlaabaffbffkaaGreatQWeakI
import Derived.Test.YthlaabaffbffkaaGreatQWeakS
import Derived.Test.YthlaabaffbffkaaGreatQTree
import Derived.Test.YthlaabaffbffkaaGreatQOpenB
namespace Go.Proofs.YthlaabaffbffkaaGreat
open Go.RowKit Go.ChangeShapes Go.WideShapes Go.ChangeAt
set_option linter.unusedVariables false
set_option linter.unusedSimpArgs false
/-- a comparison of a list with itself -/
theorem Ret.same {w : World} {α : Type} [DecidableEq α] {x : α} {e : Ending} {w' : World} (h : Ret w (.bool (decide (x = x))) e w') : Ret w (.bool true) e w' := by
  have e : decide (x = x) = true := decide_eq_true rfl
  rwa [e] at h
theorem mul_bnd {a b : Nat} (ha : a ≤ 7) (hb : b ≤ 8) : ∃ M N : Nat, M ≤ 56 ∧ N ≤ 448 ∧ (a : Int) * (b : Int) = (M : Int) ∧ (M : Int) * (b : Int) = (N : Int) := by
  have h1 : a * b ≤ 56 := Nat.mul_le_mul ha hb
  exact ⟨a * b, a * b * b, h1, Nat.mul_le_mul h1 hb, (Int.natCast_mul a b).symm, (Int.natCast_mul (a * b) b).symm⟩
theorem subset_weak {l : List GItem} {p q : List GNode} (h : isWeaker p q = true) : subsetM (bestItems l q) (bestItems l p) = true := by
  unfold subsetM
  rw [List.all_eq_true]
  intro v hv
  simpa using weak_sub h hv
theorem shareL_len (l : List GItem) (g : List (List GNode)) : (shareL l g).length ≤ g.length := by
  rcases Nat.lt_or_ge g.length (shareL l g).length with h | h
  · obtain ⟨e, he, _⟩ := share_at (List.getElem?_eq_getElem h)
    have := (List.getElem?_eq_some_iff.1 he).1
    omega
  · exact h
set_option maxRecDepth 100000 in
set_option maxHeartbeats 6400000 in
theorem walk_FnShares (w : World) (x0 : List Int) (v : Value) (h0 : Rd rBytes w x0 [v]) (q0 : wfBytes x0) : Calls Tryz.prog 3 #[v] w (Ret w (.bool true)) := by
  have hcall := L_big w x0 v h0
  go_enter Tryz.func3, Tryz.ntmps3
  go_wp2_with fail
  refine hcall.mono ?_
  rintro e w1 ⟨rfl, hb1⟩
  clear hcall
  by_cases hbig : 1048576 < x0.length
  · have e1 : decide (1048576 < x0.length) = true := decide_eq_true hbig
    rw [e1]
    clear e1
    go_wp2
    go_ret
    exact ⟨rfl, hb1⟩
  · have e1 : decide (1048576 < x0.length) = false := decide_eq_false hbig
    rw [e1]
    clear e1
    have hcall := D_DrawShareBest w1 x0 v (h0.bw rBytes_good hb1) q0
    go_wp2_with fail
    refine hcall.mono ?_
    rintro e w2 ⟨va, vg, rfl, ⟨l, hl, gl⟩, ⟨g, hg, gg⟩, hb2⟩
    clear hcall
    have B2 := hb1.then hb2
    obtain ⟨C, hC⟩ : ∃ C, C = shareL l g := ⟨_, rfl⟩
    obtain ⟨K, hK⟩ : ∃ K, K = shareW l g := ⟨_, rfl⟩
    have HC := Lib.hid hC
    have HK := Lib.hid hK
    clear hC hK
    have k1 := I_ShareBest w2 l g va vg hl hg
    rw [← HC.out, ← HK.out] at k1
    have hcall := k1
    go_wp2_with fail
    refine hcall.mono ?_
    rintro e w3 ⟨u3, rfl, ⟨v3, rfl, ⟨F3, o3, f3⟩⟩, hb3⟩
    clear hcall
    have r3 := fIntss_Rd o3
    have k2 := S_ShareBest w3 l g va vg (hl.bw rItems_good hb3) (hg.bw rNodess_good hb3)
    rw [← HC.out, ← HK.out] at k2
    have hcall := k2
    go_wp2_with fail
    refine hcall.mono ?_
    rintro e w4 ⟨u4, rfl, ⟨v4, rfl, ⟨F4, o4, f4⟩⟩, hb4⟩
    clear hcall
    have r4 := fIntss_Rd o4
    have hb24 := hb3.then hb4
    clear k1 k2
    have k3 := (I_SameAnswers w4 C C _ _ (r3.bw rIntss_good hb4) r4).mono fun _ _ h => Ret.same h
    obtain ⟨A4, n4, c4, rfl, l4, _⟩ := rSl_open r4
    obtain ⟨AL, nl, cl, rfl, ll, _⟩ := rSl_open hl
    obtain ⟨AG, ng, cg, rfl, lg, _⟩ := rSl_open hg
    have L4 := Lib.hid l4
    have LL := Lib.hid ll
    have LG := Lib.hid lg
    have b1 : nl ≤ 8 := by rw [ll]; exact gl.1
    have b2 : ng ≤ 7 := by rw [lg]; exact gg.1
    have b3 : n4 ≤ 7 := by rw [l4, HC.out]; have := shareL_len l g; omega
    obtain ⟨M1, M2, m1, m2, e1, e2⟩ := mul_bnd b2 b1
    have HW : ¬ K > (M2 : Int) := by rw [HK.out, ← e2, ← e1, lg, ll]; have := share_work l g; omega
    have eK : (K != K) = false := by simp
    clear l4 ll lg o3 o4 f3 f4 r3
    have hcall := k3
    go_wp2_with fail
    refine hcall.mono ?_
    rintro e w5 ⟨rfl, hb5⟩
    clear hcall
    clear k3
    have hb25 := hb24.then hb5
    have B5 := B2.then hb25
    have t4 := r4.bw rIntss_good hb5
    have hl5 := hl.bw rItems_good hb25
    have hg5 := hg.bw rNodess_good hb25
    have E1 := Lib.hid e1
    have E2 := Lib.hid e2
    go_wp2
    clear e1 e2 HW eK E1 E2 r4 hl hg hb3 hb4 hb24 hb2 B2 hb5
    have HR := Lib.hid (fun (k : Nat) (o : List Int) (ho : C[k]? = some o) => share_at (l := l) (g := g) (i := k) (o := o) (by rw [← HC.out]; exact ho))
    go_loopg [9, 10] n4 (fun gg i z w' => ∃ k : Nat, k ≤ n4 ∧ gg = n4 - k ∧ i = .int .i64 k ∧ Bw w5 w')
    case atStart => exact ⟨0, by omega, rfl, rfl, Bw.refl _⟩
    case round =>
      obtain ⟨k, hk, rfl, rfl, hB⟩ := hrel
      by_cases hlt : k < n4
      · obtain ⟨y, hy⟩ := get_of_lt (xs := C) (k := k) (by have := L4.out; omega)
        obtain ⟨p1, hp1, hP, hyo⟩ := HR.out k y hy
        obtain ⟨by', oy, A5, c5, rfl, _, c0, hyi⟩ := rIntss_at t4 hy
        obtain ⟨bg', og, A6, c6, rfl, _, c1, hgi⟩ := rNodess_at hg5 hp1
        have HO := Lib.hid hyo
        have HPP := Lib.hid hP
        have i1 : (0 : Int) ≤ (k : Int) := by omega
        have i2 : (k : Int) < (n4 : Int) := by omega
        have i3 : (k : Int) < (ng : Int) := by rw [LG.out]; have := (List.getElem?_eq_some_iff.1 hp1).1; omega
        obtain ⟨ny, hny⟩ : ∃ n, n = y.length := ⟨_, rfl⟩
        obtain ⟨np, hnp⟩ : ∃ n, n = p1.length := ⟨_, rfl⟩
        rw [← hny] at c0 hyi
        rw [← hnp] at c1 hgi
        have D1 : Bw wr wr.drew := (Bw.refl wr).drew
        have hBB := Bw.refl wr.drew
        have HBD := hB.then D1
        have q0' := HBD.cell c0
        have q1' := HBD.cell c1
        have C1 := Lib.hid (fun W (B : Bw w5 W) => (show Calls Tryz.prog 12 _ W (RetV W (Made fInts W.heap.size y)) from by rw [HO.out]; exact S_BestItems W l p1 (.slice AL nl cl) (.slice A6 np c6) (hl5.bw rItems_good B) (Rd.bw rNodes_good hgi B)))
        have C2 := Lib.hid (fun W (B : Bw w5 W) => Rd.bw rInts_good hyi B)
        clear hy hp1 hP hyo hny hnp
        go_wp2_with fail
        go_region_held3 (fun w' => w'.cell? ⟨by', oy + k, none⟩ = some (.slice A5 ny c5) ∧ w'.cell? ⟨bg', og + k, none⟩ = some (.slice A6 np c6)) (first | exact ⟨q0', q1'⟩ | exact ⟨hBB.cell q0', hBB.cell q1'⟩)
          (first
            | (go_at_call 12; refine (C1.out _ (HBD.then hBB)).mono ?_; rintro e' w11 ⟨v11, rfl, ⟨F11, o11, f11⟩, hb11⟩; replace hBB := hBB.then hb11; have r11 := fInts_Rd o11; clear o11 f11)
            | (go_at_call 11; refine ((L_sameInts _ y y _ _ (C2.out _ (HBD.then hBB)) r11).mono fun _ _ h => Ret.same h).mono ?_; rintro e' w13 ⟨rfl, hb13⟩; replace hBB := hBB.then hb13))
        all_goals
          have HBX := HBD.then hBB
          clear C1 C2 r11 hb11 hb13 q0' q1' hBB HBD D1
          go_wp2
          go_loopg [10] n4 (fun gg i w' => ∃ j : Nat, j ≤ n4 ∧ gg = n4 - j ∧ i = .int .i64 j ∧ Bw w5 w')
          case atStart => exact ⟨0, by omega, rfl, rfl, HBX⟩
          case round =>
            obtain ⟨j, hj, rfl, rfl, hBj⟩ := hrel
            by_cases hlt2 : j < n4
            · obtain ⟨z, hz⟩ := get_of_lt (xs := C) (k := j) (by have := L4.out; omega)
              obtain ⟨p2, hp2, _, hzo⟩ := HR.out j z hz
              obtain ⟨b3', o3', A7, c7, eA, _, d0, hzi⟩ := rIntss_at t4 hz
              injection eA with eA
              injection eA with eA1 eA2
              subst eA1 eA2
              obtain ⟨b4', o4', A8, c8, eG, _, d1, hqi⟩ := rNodess_at hg5 hp2
              injection eG with eG
              injection eG with eG1 eG2
              subst eG1 eG2
              have j1 : (0 : Int) ≤ (j : Int) := by omega
              have j2 : (j : Int) < (n4 : Int) := by omega
              have j3 : (j : Int) < (ng : Int) := by rw [LG.out]; have := (List.getElem?_eq_some_iff.1 hp2).1; omega
              have HSB := Lib.hid (show isWeaker p1 p2 = true → subsetM z y = true from fun h => by rw [hzo, HO.out]; exact subset_weak h)
              obtain ⟨nz, hnz⟩ : ∃ n, n = z.length := ⟨_, rfl⟩
              obtain ⟨nq, hnq⟩ : ∃ n, n = p2.length := ⟨_, rfl⟩
              rw [← hnz] at d0 hzi
              rw [← hnq] at d1 hqi
              have s0 := since_cell (hBj.cell c0)
              have s1 := since_cell (hBj.cell c1)
              have s2 := since_cell (hBj.cell d0)
              have s3 := since_cell (hBj.cell d1)
              have cc1 : ∀ s : Since wr, Calls Tryz.prog 13 #[.slice A6 np c6, .slice A8 nq c8] s.1 (Ret s.1 (.bool (isWeaker p1 p2))) := fun s => I_IsWeaker _ p1 p2 _ _ (Rd.bw rNodes_good hgi (hBj.then s.bw)) (Rd.bw rNodes_good hqi (hBj.then s.bw))
              have cc2 : ∀ s : Since wr, Calls Tryz.prog 14 #[.slice A7 nz c7, .slice A5 ny c5] s.1 (Ret s.1 (.bool (subsetM z y))) := fun s => L_subset _ z y _ _ (Rd.bw rInts_good hzi (hBj.then s.bw)) (Rd.bw rInts_good hyi (hBj.then s.bw))
              clear hz hp2 hzo hnz hnq hqi hzi d0 d1
              rcases Bool.eq_false_or_eq_true (isWeaker p1 p2) with ew | ew
              · have e9 := HSB.out ew
                rw [ew] at cc1
                rw [e9] at cc2
                clear ew e9 HSB
                go_wp2
                refine wp_region_since (by kernel_rfl) (by kernel_rfl) ?_
                repeat (first | go_big_quiet_skip | (go_big_quiet_want; go_big_quiet_op; first | go_big_quiet_on | (apply Exists.intro; refine ⟨fun _ => ?_, ?_⟩; (· (((first | (go_at_call 13; exact Calls_since (cc1 _)) | (go_at_call 14; exact Calls_since (cc2 _)))))); go_big_quiet_on)))
                refine wpQuiet_nil ?_
                rintro ⟨wq, hbq⟩
                dsimp only at *
                go_wp2
                go_roundg (n4 - (j + 1))
                case measure => omega
                case rel => exact ⟨j + 1, by omega, rfl, by go_num, hBj.then hbq⟩
              · rw [ew] at cc1
                clear ew HSB cc2
                go_wp2
                refine wp_region_since (by kernel_rfl) (by kernel_rfl) ?_
                repeat (first | go_big_quiet_skip | (go_big_quiet_want; go_big_quiet_op; first | go_big_quiet_on | (apply Exists.intro; refine ⟨fun _ => ?_, ?_⟩; (· (((first | (go_at_call 13; exact Calls_since (cc1 _)))))); go_big_quiet_on)))
                refine wpQuiet_nil ?_
                rintro ⟨wq, hbq⟩
                dsimp only at *
                go_wp2
                go_roundg (n4 - (j + 1))
                case measure => omega
                case rel => exact ⟨j + 1, by omega, rfl, by go_num, hBj.then hbq⟩
            · obtain rfl : j = n4 := by omega
              go_wp2
              go_roundg (j - (k + 1))
              case measure => omega
              case rel => exact ⟨k + 1, by omega, rfl, by go_num, hBj⟩
      · obtain rfl : k = n4 := by omega
        have BW := B5.then hB
        clear hlt HR t4 hl5 hg5 L4 LL LG b1 b2 b3 m1 m2 gl gg HC HK
        have hcall := D_DrawIsWeaker wr x0 v (h0.bw rBytes_good BW) q0
        go_wp2_with fail
        refine hcall.mono ?_
        rintro e w20 ⟨vp, vq, rfl, ⟨p, hp0, _⟩, ⟨q, hq0', _⟩, hb20⟩
        clear hcall
        have B20 := BW.then hb20
        obtain ⟨b, hbw⟩ : ∃ b, b = isWeaker p q := ⟨_, rfl⟩
        have HB := Lib.hid hbw
        have k21 := I_IsWeaker w20 p q vp vq hp0 hq0'
        rw [← hbw] at k21
        clear hbw
        have hcall := k21
        go_wp2_with fail
        refine hcall.mono ?_
        rintro e w21 ⟨rfl, hb21⟩
        clear hcall
        clear k21
        have B21 := B20.then hb21
        have hcall := D_DrawAreItems w21 x0 v (h0.bw rBytes_good B21) q0
        go_wp2_with fail
        refine hcall.mono ?_
        rintro e w22 ⟨vi, rfl, ⟨it, hit, git⟩, hb22⟩
        clear hcall
        have B22 := B21.then hb22
        have hb2022 := hb21.then hb22
        have hp := hp0.bw rNodes_good hb2022
        have hq := hq0'.bw rNodes_good hb2022
        obtain ⟨A5, n5, c5, rfl, l5, _⟩ := rSl_open hit
        have L5 := Lib.hid l5
        have b5 : n5 ≤ 8 := by rw [l5]; exact git.1
        have HCW := Lib.hid (fun (hw : true = isWeaker p q) (x y : GItem) (h : cmpC p x y = 1) => cmpC_weak hw.symm h)
        clear l5 git hp0 hq0' hb2022 hb22 hb21 hb20 B20 B21 BW
        go_wp2
        go_loopg [15, 16] n5 (fun gg i z w' => ∃ k : Nat, k ≤ n5 ∧ gg = n5 - k ∧ i = .int .i64 k ∧ Bw w22 w')
        case atStart => exact ⟨0, by omega, rfl, rfl, Bw.refl _⟩
        case round =>
          obtain ⟨r, hr, rfl, rfl, hBr⟩ := hrel
          by_cases hlt : r < n5
          · cases b with
            | false =>
              have j2 : (r : Int) < (n5 : Int) := by omega
              clear hit HCW
              have BW := B22.then hBr
              have HH := hBr
              have hcall := D_DrawRefineBest wr x0 v (h0.bw rBytes_good BW) q0
              go_wp2_with fail
              refine hcall.mono ?_
              rintro e w30 ⟨va3, vi3, ve3, rfl, ⟨a3, ha3, ga3⟩, ⟨i3, hi3, gi3⟩, ⟨e3, he3, ge3⟩, hb30⟩
              clear hcall
              have B30 := BW.then hb30
              have hcall := D_DrawSameAnswers w30 x0 v (h0.bw rBytes_good B30) q0
              go_wp2_with fail
              refine hcall.mono ?_
              rintro e w31 ⟨vm3, vn3, rfl, ⟨m3, hm3, _⟩, ⟨n3', hn3, _⟩, hb31⟩
              clear hcall
              have B31 := B30.then hb31
              have H31 := (HH.then hb30).then hb31
              have k32 := S_IsWeaker w31 p q vp vq (hp.bw rNodes_good H31) (hq.bw rNodes_good H31)
              rw [← HB.out] at k32
              have ebb : (false == false) = true := by simp
              have hcall := k32
              go_wp2_with fail
              refine hcall.mono ?_
              rintro e w32 ⟨rfl, hb32⟩
              clear hcall
              have hla : a3.length ≤ 1048576 := by have := ga3.1; omega
              have h3 := hb31.then hb32
              have hcall := I_RefineBest w32 a3 i3 e3 va3 vi3 ve3 (ha3.bw rItems_good h3) (hi3.bw rInts_good h3) (he3.bw rNodes_good h3) hla
              go_wp2_with fail
              refine hcall.mono ?_
              rintro e w33 ⟨v33, rfl, ⟨F33, o33, f33⟩, hb33⟩
              clear hcall
              have r33 := fInts_Rd o33
              have h33 := h3.then hb33
              have hcall := S_RefineBest w33 a3 i3 e3 va3 vi3 ve3 (ha3.bw rItems_good h33) (hi3.bw rInts_good h33) (he3.bw rNodes_good h33) hla
              go_wp2_with fail
              refine hcall.mono ?_
              rintro e w34 ⟨v34, rfl, ⟨F34, o34, f34⟩, hb34⟩
              clear hcall
              have r34 := fInts_Rd o34
              have k35 := (L_sameInts w34 _ _ _ _ (r33.bw rInts_good hb34) r34).mono fun _ _ h => Ret.same h
              have hcall := k35
              go_wp2_with fail
              refine hcall.mono ?_
              rintro e w35 ⟨rfl, hb35⟩
              clear hcall
              have h35 := ((hb32.then hb33).then hb34).then hb35
              obtain ⟨d, hd⟩ : ∃ d, d = decide (m3 = n3') := ⟨_, rfl⟩
              have k36 := I_SameAnswers w35 m3 n3' vm3 vn3 (hm3.bw rIntss_good h35) (hn3.bw rIntss_good h35)
              rw [← hd] at k36
              have Hd := Lib.hid hd
              clear hd
              have hcall := k36
              go_wp2_with fail
              refine hcall.mono ?_
              rintro e w36 ⟨rfl, hb36⟩
              clear hcall
              have h36 := h35.then hb36
              have k37 := S_SameAnswers w36 m3 n3' vm3 vn3 (hm3.bw rIntss_good h36) (hn3.bw rIntss_good h36)
              rw [← Hd.out] at k37
              have hcall := k37
              go_wp2_with fail
              refine hcall.mono ?_
              rintro e w37 ⟨rfl, hb37⟩
              clear hcall
              have edd : (d == d) = true := by simp
              go_wp2
              go_ret
              exact ⟨rfl, B31.then (h36.then hb37)⟩
            | true =>
              obtain ⟨x, hx⟩ := get_of_lt (xs := it) (k := r) (by have := L5.out; omega)
              obtain ⟨bx, ox, Ax, cx, rfl, _, x0c, x1c, hxi⟩ := rItems_at hit hx
              obtain ⟨nx, hnx⟩ : ∃ n, n = x.vals.length := ⟨_, rfl⟩
              rw [← hnx] at x1c hxi
              have i1 : (0 : Int) ≤ (r : Int) := by omega
              have i2 : (r : Int) < (n5 : Int) := by omega
              have HNX := Lib.hid hnx
              clear hx hnx
              go_wp2
              go_loopg [16] n5 (fun gg i w' => ∃ j : Nat, j ≤ n5 ∧ gg = n5 - j ∧ i = .int .i64 j ∧ Bw w22 w')
              case atStart => exact ⟨0, by omega, rfl, rfl, hBr⟩
              case round =>
                obtain ⟨j, hj, rfl, rfl, hBj⟩ := hrel
                by_cases hlt2 : j < n5
                · obtain ⟨y, hy⟩ := get_of_lt (xs := it) (k := j) (by have := L5.out; omega)
                  obtain ⟨b2, o2, Ay, cy, eA, _, y0c, y1c, hyi⟩ := rItems_at hit hy
                  injection eA with eA
                  injection eA with eA1 eA2
                  subst eA1 eA2
                  obtain ⟨ny, hny⟩ : ∃ n, n = y.vals.length := ⟨_, rfl⟩
                  rw [← hny] at y1c hyi
                  have j1 : (0 : Int) ≤ (j : Int) := by omega
                  have j2 : (j : Int) < (n5 : Int) := by omega
                  have s0 := since_cell (hBj.cell x0c)
                  have s1 := since_cell (hBj.cell x1c)
                  have s2 := since_cell (hBj.cell y0c)
                  have s3 := since_cell (hBj.cell y1c)
                  have HXY := Lib.hid (HCW.out HB.out x y)
                  obtain ⟨r1, hr1⟩ : ∃ r1, r1 = cmpC p x y := ⟨_, rfl⟩
                  obtain ⟨r2, hr2⟩ : ∃ r2, r2 = cmpC q x y := ⟨_, rfl⟩
                  have cc1 : ∀ s : Since wr, Calls Tryz.prog 17 #[vp, .agg #[.int .i64 x.id, .slice Ax nx cx], .agg #[.int .i64 y.id, .slice Ay ny cy]] s.1 (Ret s.1 (.int .i64 r1)) := fun s => by rw [hr1]; exact S_CompareBy _ p x y _ _ _ (hp.bw rNodes_good (hBj.then s.bw)) (Rd.bw rInts_good hxi (hBj.then s.bw)) (Rd.bw rInts_good hyi (hBj.then s.bw))
                  have cc2 : ∀ s : Since wr, Calls Tryz.prog 17 #[vq, .agg #[.int .i64 x.id, .slice Ax nx cx], .agg #[.int .i64 y.id, .slice Ay ny cy]] s.1 (Ret s.1 (.int .i64 r2)) := fun s => by rw [hr2]; exact S_CompareBy _ q x y _ _ _ (hq.bw rNodes_good (hBj.then s.bw)) (Rd.bw rInts_good hxi (hBj.then s.bw)) (Rd.bw rInts_good hyi (hBj.then s.bw))
                  have h12 : r1 = 1 → r2 = 1 := fun h => by rw [hr2]; exact HXY.out (by rw [← hr1]; exact h)
                  clear hy hny hyi hr1 hr2 HXY y0c y1c
                  by_cases h1 : r1 = 1
                  · have h2 := h12 h1
                    have e1 : (r1 == 1) = true := by simpa using h1
                    have e2 : (r2 != 1) = false := by simpa using h2
                    clear h1 h2 h12
                    go_wp2
                    refine wp_region_since (by kernel_rfl) (by kernel_rfl) ?_
                    repeat (first | go_big_quiet_skip | (go_big_quiet_want; go_big_quiet_op; first | go_big_quiet_on | (apply Exists.intro; refine ⟨fun _ => ?_, ?_⟩; (· (((first | (go_at_call 17; first | (with_reducible exact Calls_since (cc1 _)) | (with_reducible exact Calls_since (cc2 _))))))); go_big_quiet_on)))
                    refine wpQuiet_nil ?_
                    rintro ⟨wq, hbq⟩
                    dsimp only at *
                    go_wp2
                    go_roundg (n5 - (j + 1))
                    case measure => omega
                    case rel => exact ⟨j + 1, by omega, rfl, by go_num, hBj.then hbq⟩
                  · have e1 : (r1 == 1) = false := by simpa using h1
                    clear h1 h12 cc2
                    go_wp2
                    refine wp_region_since (by kernel_rfl) (by kernel_rfl) ?_
                    repeat (first | go_big_quiet_skip | (go_big_quiet_want; go_big_quiet_op; first | go_big_quiet_on | (apply Exists.intro; refine ⟨fun _ => ?_, ?_⟩; (· (((first | (go_at_call 17; first | (with_reducible exact Calls_since (cc1 _))))))); go_big_quiet_on)))
                    refine wpQuiet_nil ?_
                    rintro ⟨wq, hbq⟩
                    dsimp only at *
                    go_wp2
                    go_roundg (n5 - (j + 1))
                    case measure => omega
                    case rel => exact ⟨j + 1, by omega, rfl, by go_num, hBj.then hbq⟩
                · obtain rfl : j = n5 := by omega
                  go_wp2
                  go_roundg (j - (r + 1))
                  case measure => omega
                  case rel => exact ⟨r + 1, by omega, rfl, by go_num, hBj⟩
          · have j2 : ¬ (r : Int) < (n5 : Int) := by omega
            clear hit HCW
            have BW := B22.then hBr
            have HH := hBr
            have hcall := D_DrawRefineBest wr x0 v (h0.bw rBytes_good BW) q0
            go_wp2_with fail
            refine hcall.mono ?_
            rintro e w30 ⟨va3, vi3, ve3, rfl, ⟨a3, ha3, ga3⟩, ⟨i3, hi3, gi3⟩, ⟨e3, he3, ge3⟩, hb30⟩
            clear hcall
            have B30 := BW.then hb30
            have hcall := D_DrawSameAnswers w30 x0 v (h0.bw rBytes_good B30) q0
            go_wp2_with fail
            refine hcall.mono ?_
            rintro e w31 ⟨vm3, vn3, rfl, ⟨m3, hm3, _⟩, ⟨n3', hn3, _⟩, hb31⟩
            clear hcall
            have B31 := B30.then hb31
            have H31 := (HH.then hb30).then hb31
            have k32 := S_IsWeaker w31 p q vp vq (hp.bw rNodes_good H31) (hq.bw rNodes_good H31)
            rw [← HB.out] at k32
            have ebb : (b == b) = true := by simp
            have hcall := k32
            go_wp2_with fail
            refine hcall.mono ?_
            rintro e w32 ⟨rfl, hb32⟩
            clear hcall
            have hla : a3.length ≤ 1048576 := by have := ga3.1; omega
            have h3 := hb31.then hb32
            have hcall := I_RefineBest w32 a3 i3 e3 va3 vi3 ve3 (ha3.bw rItems_good h3) (hi3.bw rInts_good h3) (he3.bw rNodes_good h3) hla
            go_wp2_with fail
            refine hcall.mono ?_
            rintro e w33 ⟨v33, rfl, ⟨F33, o33, f33⟩, hb33⟩
            clear hcall
            have r33 := fInts_Rd o33
            have h33 := h3.then hb33
            have hcall := S_RefineBest w33 a3 i3 e3 va3 vi3 ve3 (ha3.bw rItems_good h33) (hi3.bw rInts_good h33) (he3.bw rNodes_good h33) hla
            go_wp2_with fail
            refine hcall.mono ?_
            rintro e w34 ⟨v34, rfl, ⟨F34, o34, f34⟩, hb34⟩
            clear hcall
            have r34 := fInts_Rd o34
            have k35 := (L_sameInts w34 _ _ _ _ (r33.bw rInts_good hb34) r34).mono fun _ _ h => Ret.same h
            have hcall := k35
            go_wp2_with fail
            refine hcall.mono ?_
            rintro e w35 ⟨rfl, hb35⟩
            clear hcall
            have h35 := ((hb32.then hb33).then hb34).then hb35
            obtain ⟨d, hd⟩ : ∃ d, d = decide (m3 = n3') := ⟨_, rfl⟩
            have k36 := I_SameAnswers w35 m3 n3' vm3 vn3 (hm3.bw rIntss_good h35) (hn3.bw rIntss_good h35)
            rw [← hd] at k36
            have Hd := Lib.hid hd
            clear hd
            have hcall := k36
            go_wp2_with fail
            refine hcall.mono ?_
            rintro e w36 ⟨rfl, hb36⟩
            clear hcall
            have h36 := h35.then hb36
            have k37 := S_SameAnswers w36 m3 n3' vm3 vn3 (hm3.bw rIntss_good h36) (hn3.bw rIntss_good h36)
            rw [← Hd.out] at k37
            have hcall := k37
            go_wp2_with fail
            refine hcall.mono ?_
            rintro e w37 ⟨rfl, hb37⟩
            clear hcall
            have edd : (d == d) = true := by simp
            go_wp2
            go_ret
            exact ⟨rfl, B31.then (h36.then hb37)⟩
set_option maxRecDepth 100000 in
theorem lifted_FnShares (os : Os) (started : os.Started) (H : Type) (enc : TypeId × Value → H) :
    ReturnsInHanded {} Tryz.checked os 3 .any (Rows.fnSharesSpec.pre6 enc Tryz.prog Tryz.f3 Rows.fnSharesRow.domain false) (Rows.fnSharesSpec.post enc Tryz.prog Tryz.f3 false true false false) := by
  refine returnsInHanded_of_change (C := Tryz.checked) own_knob started (by kernel_rfl) Tryz.func3
    (ChangeSpec.witness6 (enc := enc) (C := Tryz.checked) false ⟨#[], #[.slice none 0 0], []⟩ 8 (by kernel_rfl) (by kernel_rfl) (by kernel_rfl) (by kernel_rfl)) ?_
  intro W base args ds gs before hval0 hW hcnd _
  have hval : ∀ (j : Nat) t v, Tryz.f3.params[j]? = some t → args[j]? = some v → Value.okWide Tryz.prog W .any base t v := hval0
  have hW' := hW
  obtain ⟨p, q, hA0, hV, rfl, hfz, hnd⟩ := hW
  have hA : DataW.TrodAll enc Tryz.prog W 0 (fun _ => true) true Tryz.f3.params.toList args.toList ds p := hA0
  rw [Tryz.params3] at hA hval
  obtain ⟨v0, vs0, d0, ds0, p0, q0, hargs, rfl, rfl, h0, r0⟩ := trodAll_cons hA
  obtain ⟨rfl, rfl, rfl⟩ := trodAll_nil r0
  obtain rfl : args = #[v0] := by cases args; simp_all
  obtain ⟨rfl, rfl⟩ := trodVars_none hV
  have k0 := h0
  have lt0 : ∀ x ∈ p0, x.block < W.heap.size := by obtain ⟨m, hm⟩ := k0; exact DataW.trod_lt m _ _ _ hm
  obtain ⟨a0, len0, cap0, rfl⟩ := okWide_slice Tryz.underlying22 (hval 0 22 v0 rfl rfl)
  obtain ⟨x0, R0, Q0⟩ : ∃ xs, Rd rBytes W xs [.slice a0 len0 cap0] ∧ wfBytes xs := by obtain ⟨m, hm⟩ := h0; exact t_bytes hm
  clear hA0 hval0
  refine (walk_FnShares W x0 _ R0 Q0).mono fun e W' ⟨he, bel⟩ => ?_
  subst he
  exact ⟨_, rfl, _, _, _, [], _, [], hW', trodAll_mk1 (shut_bool Tryz.underlying4 _), (trodAll_cons_mk (Below.trod laid_out (by kernel_rfl) (of_decide_eq_true (by kernel_rfl)) k0 bel lt0) trodAll_mk0), rfl, Below.frame bel _, fun h => by cases h⟩
/-- the statement -/
theorem FnShares_holds : Rows.FnSharesSaid :=
  OpenClaim.holds_of_wide 3 Tryz.f3 rfl rfl rfl rfl rfl rfl rfl ⟨rfl, rfl, rfl, rfl, rfl⟩ rfl rfl rfl rfl rfl (by kernel_rfl) Tryz.func3 (by kernel_rfl)
    (of_decide_eq_true (by kernel_rfl)) (by unfold Func.isWrapper; first | (rw [if_pos (by decide +kernel)]; kernel_rfl) | (rw [if_neg (by decide +kernel)]; exact ⟨rfl, rfl⟩))
    (fun os started H enc _ => lifted_FnShares os started H enc)
end Go.Proofs.YthlaabaffbffkaaGreat
