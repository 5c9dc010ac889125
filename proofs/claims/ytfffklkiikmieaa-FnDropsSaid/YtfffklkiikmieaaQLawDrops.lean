/- For every input, FnDrops returns true and leaves its argument as it was. No condition. -/
import Derived.Test.YtfffklkiikmieaaRows
import Derived.Test.YtfffklkiikmieaaQLawH
import Derived.Test.YtfffklkiikmieaaQDrawL
import Derived.Test.YtfffklkiikmieaaQDropP
import Derived.Test.YtfffklkiikmieaaQDropI
import Derived.Test.YtfffklkiikmieaaQDropS
import Derived.Test.YtfffklkiikmieaaQVoteM
import Derived.Test.YtfffklkiikmieaaQOpenB
namespace Go.Proofs.Ytfffklkiikmieaa
open Go.RowKit Go.ChangeShapes Go.WideShapes Go.ChangeAt
set_option linter.unusedVariables false
set_option linter.unusedSimpArgs false
/-- a comparison of a list with itself -/
theorem Ret.same {w : World} {α : Type} [DecidableEq α] {x : α} {e : Ending} {w' : World} (h : Ret w (.bool (decide (x = x))) e w') : Ret w (.bool true) e w' := by
  have e : decide (x = x) = true := decide_eq_true rfl
  rwa [e] at h
theorem gWishes_tot {n : Nat} {xs : List GWish} (hn : n ≤ 16) (h : gWishes n xs) : totWishes xs ≤ 1048576 := by
  have h2 := sum_const totWish (B := 18) (l := xs) (fun x hx => by
    have := (h.2 x hx).2.2.2
    have := this.1.1
    have := (h.2 x hx).2.2.2.2.1
    unfold totWish; omega)
  have h1 := h.1
  unfold totWishes; omega
def iv : Nat → Int
  | 0 => -1
  | k + 1 => (k : Int)
theorem ints_at {s : List Nat} {k j : Nat} (h : s[k]? = some j) : (ints s)[k]? = some (j : Int) := by unfold ints; rw [List.getElem?_map, h]; rfl
set_option maxRecDepth 100000 in
set_option maxHeartbeats 6400000 in
theorem walk_FnDrops (w : World) (x0 : List Int) (v : Value) (h0 : Rd rBytes w x0 [v]) (q0 : wfBytes x0) : Calls Try.prog 8 #[v] w (Ret w (.bool true)) := by
  obtain ⟨i0, hi, hz0, hz1, hz2⟩ := info_parts info_Wish
  have hcall := L_big w x0 v h0
  go_enter Try.func8, Try.ntmps8
  go_wp2_with fail
  refine hcall.mono ?_
  rintro e w1 ⟨rfl, hb1⟩
  clear hcall
  by_cases hbig : 1048576 < x0.length
  · have e1 : decide (1048576 < x0.length) = true := decide_eq_true hbig
    rw [e1]
    clear e1
    go_wp2
    go_ret
    exact ⟨rfl, hb1⟩
  · have e1 : decide (1048576 < x0.length) = false := decide_eq_false hbig
    rw [e1]
    clear e1
    have hcall := D_DrawSmallestDrop w1 x0 v (h0.bw rBytes_good hb1) q0
    go_wp2_with fail
    refine hcall.mono ?_
    rintro e w2 ⟨va, vb, id, rfl, ⟨l, hl, _⟩, ⟨ws, hw, gw⟩, hid, hb2⟩
    clear hcall
    have B2 := hb1.then hb2
    have ht := gWishes_tot (by omega) gw
    obtain ⟨ok, hok⟩ : ∃ ok, ok = dropOk l ws id := ⟨_, rfl⟩
    obtain ⟨WL, hWL⟩ : ∃ WL, WL = dropL l ws id := ⟨_, rfl⟩
    have HOK := Lib.hid hok
    have HWL := Lib.hid hWL
    clear hok hWL
    have k1 := I_SmallestDrop w2 l ws id va vb hl hw ht
    rw [← HOK.out, ← HWL.out] at k1
    have hcall := k1
    go_wp2_with fail
    refine hcall.mono ?_
    rintro e w3 ⟨u3, rfl, ⟨v3, rfl, ⟨F3, o3, f3⟩⟩, hb3⟩
    clear hcall
    have r3 := fInts_Rd o3
    have k2 := S_SmallestDrop w3 l ws id va vb (hl.bw rItems_good hb3) (hw.bw rWishes_good hb3) ht
    rw [← HOK.out, ← HWL.out] at k2
    have hcall := k2
    go_wp2_with fail
    refine hcall.mono ?_
    rintro e w4 ⟨u4, rfl, ⟨v4, rfl, ⟨F4, o4, f4⟩⟩, hb4⟩
    clear hcall
    have r4 := fInts_Rd o4
    have gN : (ok != ok) = false := by simp
    have k5 := (L_sameInts w4 _ _ _ _ (r3.bw rInts_good hb4) r4).mono fun _ _ h => Ret.same h
    have hcall := k5
    go_wp2_with fail
    refine hcall.mono ?_
    rintro e w5 ⟨rfl, hb5⟩
    clear hcall
    have hb25 := (hb3.then hb4).then hb5
    have B5 := B2.then hb25
    clear k1 k2 k5 gN o3 o4 f3 f4
    have hcall := D_DrawParetoOf w5 x0 v (h0.bw rBytes_good B5) q0
    go_wp2_with fail
    refine hcall.mono ?_
    rintro e w6 ⟨vp, rfl, ⟨ps, hps, gp⟩, hb6⟩
    clear hcall
    have htp := gWishes_tot (by omega) gp
    obtain ⟨PK, hPK⟩ : ∃ b, b = parOk ps := ⟨_, rfl⟩
    have HPK := Lib.hid hPK
    clear hPK
    have k6 := I_ParetoOf w6 ps vp hps htp
    rw [← HPK.out] at k6
    have hcall := k6
    go_wp2_with fail
    refine hcall.mono ?_
    rintro e w7 ⟨u7, rfl, ⟨v7, rfl, ⟨F7, o7, f7⟩⟩, hb7⟩
    clear hcall
    have r7 := fNodes_Rd o7
    have k7 := S_ParetoOf w7 ps vp (hps.bw rWishes_good hb7) htp
    rw [← HPK.out] at k7
    have hcall := k7
    go_wp2_with fail
    refine hcall.mono ?_
    rintro e w8 ⟨u8, rfl, ⟨v8, rfl, ⟨F8, o8, f8⟩⟩, hb8⟩
    clear hcall
    have r8 := fNodes_Rd o8
    have gN : (PK != PK) = false := by simp
    have k8 := (S_EqualExpressions w8 _ _ _ _ (r7.bw rNodes_good hb8) r8).mono fun _ _ h => Ret.same h
    have hcall := k8
    go_wp2_with fail
    refine hcall.mono ?_
    rintro e w9 ⟨rfl, hb9⟩
    clear hcall
    have hb59 := ((hb6.then hb7).then hb8).then hb9
    have hb29 := hb25.then hb59
    have B9 := B2.then hb29
    have hl9 := hl.bw rItems_good hb29
    have hw9 := hw.bw rWishes_good hb29
    have r49 := r4.bw rInts_good (hb5.then hb59)
    clear k6 k7 k8 gN o7 o8 f7 f8 r7 r8 r3 hps gp htp HPK hl hw r4 hb3 hb4 hb5 hb6 hb7 hb8 hb9 hb59 hb29 hb25 B5 B2
    obtain ⟨A8, m, c8, rfl, L80, L8c, L8m⟩ := rSl_open r49
    unfold maxLen at L8m
    have L8 := Lib.hid L80
    clear L80
    obtain ⟨A4, n4, c4, rfl, L40, L4c, L4m⟩ := rSl_open hw9
    unfold maxLen at L4m
    have L4 := Lib.hid L40
    clear L40
    have hn4 : n4 ≤ 5 := by rw [L4.out]; exact gw.1
    have HN4 := Lib.hid (show ws.length ≤ 5 from gw.1)
    have hm5 : m ≤ 5 := by
      rw [L8.out, HWL.out]
      unfold dropL; split
      · rw [ints_len]; have := drop_len l ws id; have := gw.1; omega
      · exact Nat.zero_le _
    clear gw
    go_wp2
    go_loopg [15, 16, 17, 18, 19, 20] (m + 1) (fun gg i y16 y17 y18 y19 y20 w' => ∃ k : Nat, k ≤ m + 1 ∧ gg = m + 1 - k ∧ i = .int .i64 (iv k) ∧ Bw w9 w')
    case atStart => exact ⟨0, by omega, rfl, rfl, Bw.refl _⟩
    case round =>
      obtain ⟨k, hk, rfl, rfl, hB⟩ := hrel
      cases ok with
      | false =>
        go_wp2
        all_goals
          go_ret
          exact ⟨rfl, B9.then hB⟩
      | true =>
        have HDO := Lib.hid HOK.out.symm
        obtain ⟨sN, hsN⟩ : ∃ sN, sN = dropN l ws id := ⟨_, rfl⟩
        have HSN := Lib.hid hsN
        have hWs : WL = ints sN := by rw [hsN, HWL.out]; exact dropL_N HDO.out
        subst hWs
        clear hsN
        have HWS := Lib.hid (parOk_wishes (show parOk ws = true by have := HDO.out; unfold dropOk at this; rw [Bool.and_eq_true] at this; exact this.1))
        cases k with
        | zero =>
          have i0' : (-1 : Int) < (m : Int) := by omega
          obtain ⟨KS, hKS⟩ : ∃ KS, KS = keptOf sN none := ⟨_, rfl⟩
          have HKS := Lib.hid hKS
          clear hKS
          simp only [iv]
          have HMEM := Lib.hid True.intro
          have hwY := hw9.bw rWishes_good hB
          have hlY := hl9.bw rItems_good hB
          have r8Y := r49.bw rInts_good hB
          rename World => Y
          have hws : rWishes Y (lt Y) ws [.slice A4 n4 c4] := hwY
          have hv0 := fSl_empty (e := 75) (sz := 5) (R := fShS (lt Y) rWish) Y
          have GG := Lib.hid (show GoodF Y.heap.size (fWishesS (lt Y)) from fSl_good (fShS_good rWish_good (fun b h => h)))
          go_wp2
          go_loopg [16, 17] n4 (fun g s i w' => ∃ (j : Nat) (F1 : List Nat), j ≤ n4 ∧ g = n4 - j ∧ i = .int .i64 j ∧ fWishesS (lt Y) w' (leftTo ws KS j) [s] F1 ∧ Fresh Y.heap.size F1 ∧ Bw Y w')
          case atStart => exact ⟨0, [Y.heap.size], by omega, rfl, rfl, hv0, ⟨by simp, by simp⟩, (Bw.refl Y).alloc _⟩
          case round =>
            clear hv0
            obtain ⟨j, F1, hj, rfl, rfl, hvj, hF1, hbj⟩ := hrel
            by_cases hlj : j < n4
            · obtain ⟨x, hx⟩ := get_of_lt (xs := ws) (k := j) (by have := L4.out; omega)
              have i1 : (0 : Int) ≤ (j : Int) := by omega
              have i2 : (j : Int) < (n4 : Int) := by omega
              have hhas := L_has wr (ints sN) (j : Int) _ (r8Y.bw rInts_good hbj)
              rw [ints_contains] at hhas
              go_wp2_with fail
              refine hhas.mono ?_
              rintro e w30 ⟨rfl, hb30⟩
              replace hvj := GG.out.bw hb30 hbj.size hvj
              replace hbj := hbj.then hb30
              clear hhas hb30
              rcases Bool.eq_false_or_eq_true (sN.contains j) with hc | hc
              · have HC := Lib.hid (show KS.contains j = true by rw [HKS.out]; exact hc)
                rw [hc]
                clear hc
                have HKJ := Lib.hid (leftTo_no (s := KS) hx (HC.out))
                clear hx
                go_wp2
                go_roundg (n4 - (j + 1))
                case measure => omega
                case rel => exact ⟨j + 1, F1, by omega, rfl, by go_num, by rw [HKJ.out]; exact hvj, hF1, hbj⟩
              · have HC := Lib.hid (show KS.contains j = false by rw [HKS.out]; exact hc)
                rw [hc]
                clear hc
                have HKJ := Lib.hid (leftTo_yes (s := KS) hx (HC.out))
                obtain ⟨b, o, Al, cl, Ap, cp, rfl, hSb, d0, d1, d2, d3, d4, hi1, hi2⟩ := rWishes_at hws hx
                replace d0 := hbj.cell d0
                replace d1 := hbj.cell d1
                replace d2 := hbj.cell d2
                replace d3 := hbj.cell d3
                replace d4 := hbj.cell d4
                have A1 := (Bw.refl w30).alloc (.cells #[.int .i64 x.kind, .int .i64 x.field, .int .i64 x.value, .slice Al x.list.length cl, .slice Ap x.pairs.length cp] 75)
                have hvW := GG.out.bw A1 hbj.size hvj
                have hbW := hbj.then A1
                have hy := sh_wish (w := Y) (S := lt Y) (fun b h => h) hbW hi1 hi2
                have hcl : ∀ j t, [Value.int .i64 x.kind, .int .i64 x.field, .int .i64 x.value, .slice Al x.list.length cl, .slice Ap x.pairs.length cp][j]? = some t → (w30.alloc (.cells #[.int .i64 x.kind, .int .i64 x.field, .int .i64 x.value, .slice Al x.list.length cl, .slice Ap x.pairs.length cp] 75)).cell? ((⟨w30.heap.size, 0, none⟩ : Addr).add j) = some t := World.news_of_block (cs := #[.int .i64 x.kind, .int .i64 x.field, .int .i64 x.value, .slice Al x.list.length cl, .slice Ap x.pairs.length cp]) (t := 75) (fr := (0, 0)) (heap_alloc_new w30 _)
                have hbs := hbj.size
                have hFm1 := GG.out.lt hvj
                have HLL := Lib.hid (leftTo_len ws KS j)
                obtain ⟨M1, hM1⟩ : ∃ M1, M1 = x.list.length := ⟨_, rfl⟩
                obtain ⟨M2, hM2⟩ : ∃ M2, M2 = x.pairs.length := ⟨_, rfl⟩
                rw [← hM1, ← hM2] at hy hcl hvW hbW A1
                rw [← hM1] at d3
                rw [← hM2] at d4
                have HH := Lib.hid hws
                clear hx hvj hi1 hi2 hM1 hM2 hws
                go_wp2_with (at_builtin; refine wpList_push2 _ rfl (.tmp 105) (.tmp 110) 63 rfl Y 75 i0 _ 5 72 Try.underlying63 hi hz0 hz1 hz2 rfl (by omega) (fShS_good rWish_good (fun b h => h)) _ (leftTo ws KS j) F1 rfl hvW hF1 ⟨w30.heap.size, 0, none⟩ 1 rfl x _ [] hcl hy rfl w30.heap.size hFm1 Fresh.nil hbs (by have := HLL.out; omega) (by have := HLL.out; omega) hbW ?_; intro v' w' F' hv' hF' hb' hO' hs')
                go_roundg (n4 - (j + 1))
                case measure => omega
                case rel => exact ⟨j + 1, F', by omega, rfl, by go_num, by rw [HKJ.out]; exact hv', hF', hb'⟩
            · obtain rfl : j = n4 := by omega
              have hbY := hbj.size
              obtain ⟨As, ns, cs, rfl, ls, _⟩ := rSl_open (fWishesS_Rd (B := Y.heap.size) (fun b h => h) hvj hbY)
              have HTK := Lib.hid (left_tot HWS.out KS ws.length (by have := HN4.out; omega))
              have hvk : fWishesS (lt Y) wr (leftL ws KS) [.slice As ns cs] F1 := by unfold leftL; rw [← L4.out]; exact hvj
              have hrk := fWishesS_Rd (B := Y.heap.size) (fun b h => h) hvk hbY
              have HSU := Lib.hid (show (!parOk (leftL ws KS) || (bestItems l (parL (leftL ws KS))).contains id) = true from by
                have := keptOf_suits l ws id (o := none) (fun k hk => by first | (cases hk; done) | (injection hk with hk; rw [← hk]; exact HMEM.out))
                rw [← HSN.out, HKS.out.symm] at this
                exact this)
              obtain ⟨PO, hPO⟩ : ∃ b, b = parOk (leftL ws KS) := ⟨_, rfl⟩
              obtain ⟨PL, hPL⟩ : ∃ b, b = parL (leftL ws KS) := ⟨_, rfl⟩
              have k20 := S_ParetoOf wr (leftL ws KS) _ hrk HTK.out
              rw [← hPO, ← hPL] at k20
              have HSV := Lib.hid (show (!PO || (bestItems l PL).contains id) = true from by rw [hPO, hPL]; exact HSU.out)
              clear hPO hPL hvk hvj hlj ls HSU HTK hrk
              go_wp2_with fail
              refine k20.mono ?_
              rintro e w31 ⟨u31, rfl, ⟨v31, rfl, ⟨F31, o31, f31⟩⟩, hb31⟩
              have r31 := fNodes_Rd o31
              have hbY31 := hbj.then hb31
              clear k20 o31 f31
              cases PO with
              | false =>
                go_wp2
                go_roundg (m + 1 - (0 + 1))
                case measure => omega
                case rel => exact ⟨0 + 1, by omega, rfl, by first | rfl | (simp only [iv]; go_num), hB.then (hbY31)⟩
              | true =>
                have hbest : (bestItems l PL).contains id = true := by have := HSV.out; simpa using this
                have k21 := S_IsBest w31 l PL id va v31 (hlY.bw rItems_good hbY31) r31
                rw [hbest] at k21
                clear hbest
                go_wp2_with fail
                refine k21.mono ?_
                rintro e w32 ⟨rfl, hb32⟩
                clear k21
                go_wp2
                go_roundg (m + 1 - (0 + 1))
                case measure => omega
                case rel => exact ⟨0 + 1, by omega, rfl, by first | rfl | (simp only [iv]; go_num), hB.then (hbY31.then hb32)⟩
        | succ k =>
          by_cases hkm : k < m
          · have i0' : (k : Int) < (m : Int) := by omega
            have i0'' : (0 : Int) ≤ (k : Int) := by omega
            have i0n : ¬ (k : Int) < 0 := by omega
            obtain ⟨kk0, hkk0⟩ := get_of_lt (xs := (ints sN)) (k := k) (by have := L8.out; omega)
            obtain ⟨kk, hkk⟩ : ∃ kk, sN[k]? = some kk := by
              cases hq : sN[k]? with
              | some kk => exact ⟨kk, rfl⟩
              | none => unfold ints at hkk0; rw [List.getElem?_map, hq] at hkk0; simp at hkk0
            obtain rfl : kk0 = (kk : Int) := by
              have := ints_at hkk
              rw [hkk0] at this
              injection this
            have HMEM := Lib.hid (show kk ∈ dropN l ws id by rw [← HSN.out]; exact List.mem_of_getElem? hkk)
            obtain ⟨b8, o8, rfl, _, hc8⟩ := rInts_at r49 hkk0
            replace hc8 := hB.cell hc8
            obtain ⟨KS, hKS⟩ : ∃ KS, KS = keptOf sN (some kk) := ⟨_, rfl⟩
            have HKS := Lib.hid hKS
            clear hKS hkk0 hkk
            simp only [iv]
            have hwY := hw9.bw rWishes_good hB
            have hlY := hl9.bw rItems_good hB
            have r8Y := r49.bw rInts_good hB
            rename World => Y
            have hws : rWishes Y (lt Y) ws [.slice A4 n4 c4] := hwY
            have hv0 := fSl_empty (e := 75) (sz := 5) (R := fShS (lt Y) rWish) Y
            have GG := Lib.hid (show GoodF Y.heap.size (fWishesS (lt Y)) from fSl_good (fShS_good rWish_good (fun b h => h)))
            go_wp2
            go_loopg [16, 17] n4 (fun g s i w' => ∃ (j : Nat) (F1 : List Nat), j ≤ n4 ∧ g = n4 - j ∧ i = .int .i64 j ∧ fWishesS (lt Y) w' (leftTo ws KS j) [s] F1 ∧ Fresh Y.heap.size F1 ∧ Bw Y w')
            case atStart => exact ⟨0, [Y.heap.size], by omega, rfl, rfl, hv0, ⟨by simp, by simp⟩, (Bw.refl Y).alloc _⟩
            case round =>
              clear hv0
              obtain ⟨j, F1, hj, rfl, rfl, hvj, hF1, hbj⟩ := hrel
              by_cases hlj : j < n4
              · obtain ⟨x, hx⟩ := get_of_lt (xs := ws) (k := j) (by have := L4.out; omega)
                have i1 : (0 : Int) ≤ (j : Int) := by omega
                have i2 : (j : Int) < (n4 : Int) := by omega
                have hhas := L_has wr (ints sN) (j : Int) _ (r8Y.bw rInts_good hbj)
                rw [ints_contains] at hhas
                go_wp2_with fail
                refine hhas.mono ?_
                rintro e w30 ⟨rfl, hb30⟩
                replace hvj := GG.out.bw hb30 hbj.size hvj
                replace hbj := hbj.then hb30
                clear hhas hb30
                rcases Bool.eq_false_or_eq_true (sN.contains j) with hc | hc
                · replace hc8 := hbj.cell hc8
                  rw [hc]
                  by_cases hjk : j = kk
                  · have HC := Lib.hid (show KS.contains j = false by rw [HKS.out]; show (butOne sN kk).contains j = false; rw [butOne_contains, hjk]; simp)
                    have ej : ((kk : Int) == (j : Int)) = true := by rw [hjk]; simp
                    clear hc hjk
                    have HKJ := Lib.hid (leftTo_yes (s := KS) hx (HC.out))
                    obtain ⟨b, o, Al, cl, Ap, cp, rfl, hSb, d0, d1, d2, d3, d4, hi1, hi2⟩ := rWishes_at hws hx
                    replace d0 := hbj.cell d0
                    replace d1 := hbj.cell d1
                    replace d2 := hbj.cell d2
                    replace d3 := hbj.cell d3
                    replace d4 := hbj.cell d4
                    have A1 := (Bw.refl w30).alloc (.cells #[.int .i64 x.kind, .int .i64 x.field, .int .i64 x.value, .slice Al x.list.length cl, .slice Ap x.pairs.length cp] 75)
                    have hvW := GG.out.bw A1 hbj.size hvj
                    have hbW := hbj.then A1
                    have hy := sh_wish (w := Y) (S := lt Y) (fun b h => h) hbW hi1 hi2
                    have hcl : ∀ j t, [Value.int .i64 x.kind, .int .i64 x.field, .int .i64 x.value, .slice Al x.list.length cl, .slice Ap x.pairs.length cp][j]? = some t → (w30.alloc (.cells #[.int .i64 x.kind, .int .i64 x.field, .int .i64 x.value, .slice Al x.list.length cl, .slice Ap x.pairs.length cp] 75)).cell? ((⟨w30.heap.size, 0, none⟩ : Addr).add j) = some t := World.news_of_block (cs := #[.int .i64 x.kind, .int .i64 x.field, .int .i64 x.value, .slice Al x.list.length cl, .slice Ap x.pairs.length cp]) (t := 75) (fr := (0, 0)) (heap_alloc_new w30 _)
                    have hbs := hbj.size
                    have hFm1 := GG.out.lt hvj
                    have HLL := Lib.hid (leftTo_len ws KS j)
                    obtain ⟨M1, hM1⟩ : ∃ M1, M1 = x.list.length := ⟨_, rfl⟩
                    obtain ⟨M2, hM2⟩ : ∃ M2, M2 = x.pairs.length := ⟨_, rfl⟩
                    rw [← hM1, ← hM2] at hy hcl hvW hbW A1
                    rw [← hM1] at d3
                    rw [← hM2] at d4
                    have HH := Lib.hid hws
                    clear hx hvj hi1 hi2 hM1 hM2 hws
                    go_wp2_with (at_builtin; refine wpList_push2 _ rfl (.tmp 105) (.tmp 110) 63 rfl Y 75 i0 _ 5 72 Try.underlying63 hi hz0 hz1 hz2 rfl (by omega) (fShS_good rWish_good (fun b h => h)) _ (leftTo ws KS j) F1 rfl hvW hF1 ⟨w30.heap.size, 0, none⟩ 1 rfl x _ [] hcl hy rfl w30.heap.size hFm1 Fresh.nil hbs (by have := HLL.out; omega) (by have := HLL.out; omega) hbW ?_; intro v' w' F' hv' hF' hb' hO' hs')
                    go_roundg (n4 - (j + 1))
                    case measure => omega
                    case rel => exact ⟨j + 1, F', by omega, rfl, by go_num, by rw [HKJ.out]; exact hv', hF', hb'⟩
                  · have HC := Lib.hid (show KS.contains j = true by rw [HKS.out]; show (butOne sN kk).contains j = true; rw [butOne_contains, hc, decide_eq_true hjk]; rfl)
                    have ej : ((kk : Int) == (j : Int)) = false := by simp; omega
                    clear hc hjk
                    have HKJ := Lib.hid (leftTo_no (s := KS) hx (HC.out))
                    clear hx
                    go_wp2
                    go_roundg (n4 - (j + 1))
                    case measure => omega
                    case rel => exact ⟨j + 1, F1, by omega, rfl, by go_num, by rw [HKJ.out]; exact hvj, hF1, hbj⟩
                · have HC := Lib.hid (show KS.contains j = false by rw [HKS.out]; show (butOne sN kk).contains j = false; rw [butOne_contains, hc]; rfl)
                  rw [hc]
                  clear hc
                  have HKJ := Lib.hid (leftTo_yes (s := KS) hx (HC.out))
                  obtain ⟨b, o, Al, cl, Ap, cp, rfl, hSb, d0, d1, d2, d3, d4, hi1, hi2⟩ := rWishes_at hws hx
                  replace d0 := hbj.cell d0
                  replace d1 := hbj.cell d1
                  replace d2 := hbj.cell d2
                  replace d3 := hbj.cell d3
                  replace d4 := hbj.cell d4
                  have A1 := (Bw.refl w30).alloc (.cells #[.int .i64 x.kind, .int .i64 x.field, .int .i64 x.value, .slice Al x.list.length cl, .slice Ap x.pairs.length cp] 75)
                  have hvW := GG.out.bw A1 hbj.size hvj
                  have hbW := hbj.then A1
                  have hy := sh_wish (w := Y) (S := lt Y) (fun b h => h) hbW hi1 hi2
                  have hcl : ∀ j t, [Value.int .i64 x.kind, .int .i64 x.field, .int .i64 x.value, .slice Al x.list.length cl, .slice Ap x.pairs.length cp][j]? = some t → (w30.alloc (.cells #[.int .i64 x.kind, .int .i64 x.field, .int .i64 x.value, .slice Al x.list.length cl, .slice Ap x.pairs.length cp] 75)).cell? ((⟨w30.heap.size, 0, none⟩ : Addr).add j) = some t := World.news_of_block (cs := #[.int .i64 x.kind, .int .i64 x.field, .int .i64 x.value, .slice Al x.list.length cl, .slice Ap x.pairs.length cp]) (t := 75) (fr := (0, 0)) (heap_alloc_new w30 _)
                  have hbs := hbj.size
                  have hFm1 := GG.out.lt hvj
                  have HLL := Lib.hid (leftTo_len ws KS j)
                  obtain ⟨M1, hM1⟩ : ∃ M1, M1 = x.list.length := ⟨_, rfl⟩
                  obtain ⟨M2, hM2⟩ : ∃ M2, M2 = x.pairs.length := ⟨_, rfl⟩
                  rw [← hM1, ← hM2] at hy hcl hvW hbW A1
                  rw [← hM1] at d3
                  rw [← hM2] at d4
                  have HH := Lib.hid hws
                  clear hx hvj hi1 hi2 hM1 hM2 hws
                  go_wp2_with (at_builtin; refine wpList_push2 _ rfl (.tmp 105) (.tmp 110) 63 rfl Y 75 i0 _ 5 72 Try.underlying63 hi hz0 hz1 hz2 rfl (by omega) (fShS_good rWish_good (fun b h => h)) _ (leftTo ws KS j) F1 rfl hvW hF1 ⟨w30.heap.size, 0, none⟩ 1 rfl x _ [] hcl hy rfl w30.heap.size hFm1 Fresh.nil hbs (by have := HLL.out; omega) (by have := HLL.out; omega) hbW ?_; intro v' w' F' hv' hF' hb' hO' hs')
                  go_roundg (n4 - (j + 1))
                  case measure => omega
                  case rel => exact ⟨j + 1, F', by omega, rfl, by go_num, by rw [HKJ.out]; exact hv', hF', hb'⟩
              · obtain rfl : j = n4 := by omega
                have hbY := hbj.size
                obtain ⟨As, ns, cs, rfl, ls, _⟩ := rSl_open (fWishesS_Rd (B := Y.heap.size) (fun b h => h) hvj hbY)
                have HTK := Lib.hid (left_tot HWS.out KS ws.length (by have := HN4.out; omega))
                have hvk : fWishesS (lt Y) wr (leftL ws KS) [.slice As ns cs] F1 := by unfold leftL; rw [← L4.out]; exact hvj
                have hrk := fWishesS_Rd (B := Y.heap.size) (fun b h => h) hvk hbY
                have HSU := Lib.hid (show (!parOk (leftL ws KS) || (bestItems l (parL (leftL ws KS))).contains id) = false from by
                  have := keptOf_suits l ws id (o := some kk) (fun k hk => by first | (cases hk; done) | (injection hk with hk; rw [← hk]; exact HMEM.out))
                  rw [← HSN.out, HKS.out.symm] at this
                  exact this)
                obtain ⟨PO, hPO⟩ : ∃ b, b = parOk (leftL ws KS) := ⟨_, rfl⟩
                obtain ⟨PL, hPL⟩ : ∃ b, b = parL (leftL ws KS) := ⟨_, rfl⟩
                have k20 := S_ParetoOf wr (leftL ws KS) _ hrk HTK.out
                rw [← hPO, ← hPL] at k20
                have HSV := Lib.hid (show (!PO || (bestItems l PL).contains id) = false from by rw [hPO, hPL]; exact HSU.out)
                clear hPO hPL hvk hvj hlj ls HSU HTK hrk
                go_wp2_with fail
                refine k20.mono ?_
                rintro e w31 ⟨u31, rfl, ⟨v31, rfl, ⟨F31, o31, f31⟩⟩, hb31⟩
                have r31 := fNodes_Rd o31
                have hbY31 := hbj.then hb31
                clear k20 o31 f31
                cases PO with
                | false => exact absurd HSV.out (by simp)
                | true =>
                  have hbest : (bestItems l PL).contains id = false := by have := HSV.out; simpa using this
                  have k21 := S_IsBest w31 l PL id va v31 (hlY.bw rItems_good hbY31) r31
                  rw [hbest] at k21
                  clear hbest
                  go_wp2_with fail
                  refine k21.mono ?_
                  rintro e w32 ⟨rfl, hb32⟩
                  clear k21
                  go_wp2
                  go_roundg (m + 1 - (k + 1 + 1))
                  case measure => omega
                  case rel => exact ⟨k + 1 + 1, by omega, rfl, by first | rfl | (simp only [iv]; go_num), hB.then (hbY31.then hb32)⟩
          · have i0n : ¬ (k : Int) < (m : Int) := by omega
            simp only [iv]
            go_wp2
            go_ret
            exact ⟨rfl, B9.then hB⟩
set_option maxRecDepth 100000 in
theorem lifted_FnDrops (os : Os) (started : os.Started) (H : Type) (enc : TypeId × Value → H) :
    ReturnsInHanded {} Try.checked os 8 .any (Rows.fnDropsSpec.pre6 enc Try.prog Try.f8 Rows.fnDropsRow.domain false) (Rows.fnDropsSpec.post enc Try.prog Try.f8 false true false false) := by
  refine returnsInHanded_of_change (C := Try.checked) own_knob started (by kernel_rfl) Try.func8
    (ChangeSpec.witness6 (enc := enc) (C := Try.checked) false ⟨#[], #[.slice none 0 0], []⟩ 8 (by kernel_rfl) (by kernel_rfl) (by kernel_rfl) (by kernel_rfl)) ?_
  intro W base args ds gs before hval0 hW hcnd _
  have hval : ∀ (j : Nat) t v, Try.f8.params[j]? = some t → args[j]? = some v → Value.okWide Try.prog W .any base t v := hval0
  have hW' := hW
  obtain ⟨p, q, hA0, hV, rfl, hfz, hnd⟩ := hW
  have hA : DataW.TrodAll enc Try.prog W 0 (fun _ => true) true Try.f8.params.toList args.toList ds p := hA0
  rw [Try.params8] at hA hval
  obtain ⟨v0, vs0, d0, ds0, p0, q0, hargs, rfl, rfl, h0, r0⟩ := trodAll_cons hA
  obtain ⟨rfl, rfl, rfl⟩ := trodAll_nil r0
  obtain rfl : args = #[v0] := by cases args; simp_all
  obtain ⟨rfl, rfl⟩ := trodVars_none hV
  have k0 := h0
  have lt0 : ∀ x ∈ p0, x.block < W.heap.size := by obtain ⟨m, hm⟩ := k0; exact DataW.trod_lt m _ _ _ hm
  obtain ⟨a0, len0, cap0, rfl⟩ := okWide_slice Try.underlying61 (hval 0 61 v0 rfl rfl)
  obtain ⟨x0, R0, Q0⟩ : ∃ xs, Rd rBytes W xs [.slice a0 len0 cap0] ∧ wfBytes xs := by obtain ⟨m, hm⟩ := h0; exact t_bytes hm
  clear hA0 hval0
  refine (walk_FnDrops W x0 _ R0 Q0).mono fun e W' ⟨he, bel⟩ => ?_
  subst he
  exact ⟨_, rfl, _, _, _, [], _, [], hW', trodAll_mk1 (shut_bool Try.underlying4 _), (trodAll_cons_mk (Below.trod laid_out (by kernel_rfl) (of_decide_eq_true (by kernel_rfl)) k0 bel lt0) trodAll_mk0), rfl, Below.frame bel _, fun h => by cases h⟩
/-- the statement -/
theorem FnDrops_holds : Rows.FnDropsSaid :=
  OpenClaim.holds_of_wide 8 Try.f8 rfl rfl rfl rfl rfl rfl rfl ⟨rfl, rfl, rfl, rfl, rfl⟩ rfl rfl rfl rfl rfl (by kernel_rfl) Try.func8 (by kernel_rfl)
    (of_decide_eq_true (by kernel_rfl)) (by unfold Func.isWrapper; first | (rw [if_pos (by decide +kernel)]; kernel_rfl) | (rw [if_neg (by decide +kernel)]; exact ⟨rfl, rfl⟩))
    (fun os started H enc _ => lifted_FnDrops os started H enc)
end Go.Proofs.Ytfffklkiikmieaa
