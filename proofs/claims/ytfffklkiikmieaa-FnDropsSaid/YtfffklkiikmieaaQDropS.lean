/- The fewest wishes to drop, in the reference. -/
import Derived.Test.YtfffklkiikmieaaQDropM
import Derived.Test.YtfffklkiikmieaaQChangeS
import Derived.Test.YtfffklkiikmieaaQOnly
namespace Go.Proofs.Ytfffklkiikmieaa
open Go.RowKit
set_option linter.unusedVariables false
set_option linter.unusedSimpArgs false
set_option maxHeartbeats 1600000 in
theorem S_l11Less (w : World) (a b : List Int) (v u : Value) (h : Rd rInts w a [v]) (h' : Rd rInts w b [u]) : Calls Try.prog 137 #[v, u] w (Ret w (.bool (lessI a b))) := by
  obtain ⟨A, n, c, rfl, L0, Lc, Lm⟩ := rSl_open h
  unfold maxLen at Lm
  have L := Lib.hid L0
  clear L0
  obtain ⟨A2, n2, c2, rfl, L20, L2c, L2m⟩ := rSl_open h'
  unfold maxLen at L2m
  have L2 := Lib.hid L20
  clear L20
  obtain ⟨Y, hY⟩ : ∃ Y, Y = lessI a b := ⟨_, rfl⟩
  rw [← hY]
  have HY := Lib.hid hY
  clear hY
  by_cases hn : n = n2
  · have e1 : ((n : Int) == (n2 : Int)) = true := by rw [hn]; simp
    have HE0 := Lib.hid (show Y = lexI (a.drop 0) (b.drop 0) by rw [HY.out, lessI, if_pos (by rw [← L.out, ← L2.out]; exact hn)]; rfl)
    have HN := Lib.hid hn
    clear hn HY
    go_enter Try.func137, Try.ntmps137
    go_wp2
    go_loopg [5] n (fun g i w' => ∃ k : Nat, k ≤ n ∧ g = n - k ∧ i = .int .i64 k ∧ Hid (Y = lexI (a.drop k) (b.drop k)) ∧ Bw w w')
    case atStart => exact ⟨0, by omega, rfl, rfl, HE0, Bw.refl _⟩
    case round =>
      obtain ⟨k, hk, rfl, rfl, HE, hb⟩ := hrel
      by_cases hlt : k < n
      · obtain ⟨x, hx⟩ := get_of_lt (xs := a) (k := k) (by have := L.out; omega)
        obtain ⟨y, hy⟩ := get_of_lt (xs := b) (k := k) (by have := L2.out; have := HN.out; omega)
        obtain ⟨ba, oa, rfl, _, hc0⟩ := rInts_at h hx
        obtain ⟨b2, o2, rfl, _, hc1⟩ := rInts_at h' hy
        replace hc0 := hb.cell hc0
        replace hc1 := hb.cell hc1
        have s0 := since_cell hc0
        have s1 := since_cell hc1
        have HS := Lib.hid (lexI_step hx hy)
        have i1 : (0 : Int) ≤ (k : Int) := by omega
        have i2 : (k : Int) < (n : Int) := by omega
        have i3 : (k : Int) < (n2 : Int) := by have := HN.out; omega
        clear hx hy
        by_cases hxy : x = y
        · have e2 : (x == y) = true := by simpa using hxy
          have HX := Lib.hid (show Y = lexI (a.drop (k + 1)) (b.drop (k + 1)) by rw [HE.out, HS.out, if_pos hxy])
          clear hxy HE HS h h'
          go_wp2_with fail
          refine wp_region_since (by kernel_rfl) (by kernel_rfl) ?_
          repeat (first | go_big_quiet_skip | (go_big_quiet_want; go_big_quiet_op; first | go_big_quiet_on | (apply Exists.intro; refine ⟨fun _ => ?_, ?_⟩; (· ((fail))); go_big_quiet_on)))
          refine wpQuiet_nil ?_
          rintro ⟨wq, hbq⟩
          dsimp only at *
          go_wp2
          go_roundg (n - (k + 1))
          case measure => omega
          case rel => exact ⟨k + 1, by omega, rfl, by go_num, HX, hb.then hbq⟩
        · have e2 : (x == y) = false := by simpa using hxy
          have HX := Lib.hid (show Y = decide (x < y) by rw [HE.out, HS.out, if_neg hxy])
          have e3 : (x != y) = true := by simpa using hxy
          clear hxy HE HS h h' e2
          go_wp2_with fail
          refine wp_region_since (by kernel_rfl) (by kernel_rfl) ?_
          repeat (first | go_big_quiet_skip | (go_big_quiet_want; go_big_quiet_op; first | go_big_quiet_on | (apply Exists.intro; refine ⟨fun _ => ?_, ?_⟩; (· ((fail))); go_big_quiet_on)))
          refine wpQuiet_nil ?_
          rintro ⟨wq, hbq⟩
          dsimp only at *
          have t0 := since_cell (hbq.cell hc0)
          have t1 := since_cell (hbq.cell hc1)
          have bq := hb.then hbq
          clear s0 s1 hc0 hc1 hbq
          go_wp2_with fail
          refine wp_region_since (by kernel_rfl) (by kernel_rfl) ?_
          repeat (first | go_big_quiet_skip | (go_big_quiet_want; go_big_quiet_op; first | go_big_quiet_on | (apply Exists.intro; refine ⟨fun _ => ?_, ?_⟩; (· ((fail))); go_big_quiet_on)))
          refine wpQuiet_nil ?_
          rintro ⟨wq, hbq⟩
          dsimp only at *
          go_wp2
          go_wp2
          go_ret
          exact Ret.bool (HX.out.symm) (bq.then hbq)
      · have HX := Lib.hid (show Y = false by rw [HE.out, List.drop_of_length_le (show a.length ≤ k by have := L.out; omega)]; rfl)
        go_wp2
        go_ret
        exact Ret.bool (HX.out.symm) (hb)
  · have e1 : ((n : Int) == (n2 : Int)) = false := by rw [beq_eq_false_iff_ne]; omega
    have HX := Lib.hid (show Y = decide (n < n2) by rw [HY.out, lessI, if_neg (by rw [← L.out, ← L2.out]; exact hn), ← L.out, ← L2.out])
    clear hn HY
    go_enter Try.func137, Try.ntmps137
    go_wp2
    go_ret
    exact Ret.bool (HX.out.symm) (Bw.refl w)
set_option maxRecDepth 100000 in
set_option maxHeartbeats 3200000 in
theorem S_l14Kept (w : World) (xs : List GWish) (m : Nat) (v : Value) (S : Blocks) (hS : ∀ b, S b → b < w.heap.size) (h : rWishes w S xs [v]) (hn : xs.length ≤ 5) (hm : m < 32) :
    Calls Try.prog 136 #[v, .int .i64 m] w (fun e w' => ∃ v1 v2 F1 F2, e = .returned (.tuple #[v1, v2]) ∧ fWishesS S w' (leftL xs (bitsTo m xs.length)) [v1] F1 ∧ fInts w' (ints (bitsTo m xs.length)) [v2] F2 ∧ Fresh w.heap.size F1 ∧ Fresh w.heap.size F2 ∧ Bw w w') := by
  obtain ⟨i0, hi, hz0, hz1, hz2⟩ := info_parts info_Wish
  obtain ⟨ti, hj, hy0, hy1, hy2⟩ := info_parts info_int
  obtain ⟨A, n, c, rfl, L0, Lc, Lm⟩ := rSl_open h
  unfold maxLen at Lm
  have L := Lib.hid L0
  clear L0
  unfold leftL
  rw [← L.out] at hn ⊢
  have GG : GoodF w.heap.size (fWishesS S) := fSl_good (fShS_good rWish_good hS)
  have hv0 := fSl_empty (e := 75) (sz := 5) (R := fShS S rWish) w
  have hv1 := GG.bw ((Bw.refl (w.alloc (.cells #[] 75))).alloc (.cells #[] 3)) (by simp) hv0
  have hu1 := fSl_empty (e := 3) (sz := 1) (R := fInt) (w.alloc (.cells #[] 75))
  clear hv0
  have HU := Lib.hid hu1
  clear hu1
  go_enter Try.func136, Try.ntmps136
  go_wp2
  go_loopg [6, 7, 8] n (fun g s t i w' => ∃ (k : Nat) (F1 F2 : List Nat), k ≤ n ∧ g = n - k ∧ i = .int .i64 k ∧ fWishesS S w' (leftTo xs (bitsTo m n) k) [s] F1 ∧ fInts w' (ints (bitsTo m k)) [t] F2 ∧ (∀ b ∈ F1, b ∉ F2) ∧ Fresh w.heap.size F1 ∧ Fresh w.heap.size F2 ∧ Bw w w')
  case atStart => exact ⟨0, [w.heap.size], [w.heap.size + 1], by omega, rfl, rfl, hv1, by have h2 := HU.out; simp at h2; exact h2, by simp, ⟨by simp, by simp⟩, ⟨by simp, by simp⟩, ((Bw.refl _).alloc _).alloc _⟩
  case round =>
    clear hv1 HU
    obtain ⟨k, F1, F2, hk, rfl, rfl, hv, hu, hd, hF1, hF2, hb⟩ := hrel
    by_cases hlt : k < n
    · obtain ⟨x, hx⟩ := get_of_lt (xs := xs) (k := k) (by have := L.out; omega)
      have i1 : (0 : Int) ≤ (k : Int) := by omega
      have i2 : (k : Int) < (n : Int) := by omega
      have hFm1 := GG.lt hv
      have hFm2 := (fInts_good (B := 0)).lt hu
      have HBL := Lib.hid (bits_len m k)
      have HLL := Lib.hid (leftTo_len xs (bitsTo m n) k)
      rcases Bool.eq_false_or_eq_true (m.testBit k) with hbit | hbit
      · have e1 : (bits BinOp.and IntKind.i64 ((m : Int) / 2 ^ k) 1 == 1) = true := by rw [bit_is m hm k (by omega)]; exact hbit
        have HB := Lib.hid (bits_yes hbit)
        have HK := Lib.hid (kept_no hx hlt hbit)
        have A1 := (Bw.refl wr).alloc (.cells #[.int .i64 k] 3)
        have huW := (fInts_good (B := w.heap.size)).bw A1 hb.size hu
        have hvW := GG.bw A1 hb.size hv
        have hbW := hb.then A1
        have hcl := cell_one_new wr (.int .i64 k) 3
        have hbs := hb.size
        clear hbit hx hu hv
        go_wp2_with (at_builtin; refine wpList_push2 _ rfl (.tmp 22) (.tmp 24) 42 rfl w 3 ti _ 1 8 Try.underlying42 hj hy0 hy1 hy2 rfl (by omega) fInt_good _ (ints (bitsTo m k)) F2 rfl huW hF2 ⟨wr.heap.size, 0, none⟩ 1 rfl (k : Int) [.int .i64 k] [] hcl ⟨rfl, rfl⟩ rfl wr.heap.size hFm2 Fresh.nil hbs (by have := HBL.out; omega) (by have := HBL.out; omega) hbW ?_; intro v' w' F' hv' hF' hb' hO' hs')
        have hd' : ∀ b ∈ F1, b ∉ F' := fun b h1 h2 => by
          rcases hs' b h2 with h | h | h
          · exact hd b h1 h
          · simp at h
          · have := hFm1 b h1; have := A1.size; omega
        have hk1 := hO'.keepsB GG hbW.size hF2.ge hvW hd
        go_roundg (n - (k + 1))
        case measure => omega
        case rel => exact ⟨k + 1, F1, F', by omega, rfl, by go_num, by rw [HK.out]; exact hk1, by rw [HB.out]; exact hv', hd', hF1, hF', hb'⟩
      · have e1 : (bits BinOp.and IntKind.i64 ((m : Int) / 2 ^ k) 1 == 1) = false := by rw [bit_is m hm k (by omega)]; exact hbit
        have HB := Lib.hid (bits_no hbit)
        have HK := Lib.hid (kept_yes (n := n) hx hbit)
        obtain ⟨b, o, Al, cl, Ap, cp, rfl, hSb, d0, d1, d2, d3, d4, hi1, hi2⟩ := rWishes_at h hx
        replace d0 := hb.cell d0
        replace d1 := hb.cell d1
        replace d2 := hb.cell d2
        replace d3 := hb.cell d3
        replace d4 := hb.cell d4
        have A1 := (Bw.refl wr).alloc (.cells #[.int .i64 x.kind, .int .i64 x.field, .int .i64 x.value, .slice Al x.list.length cl, .slice Ap x.pairs.length cp] 75)
        have huW := (fInts_good (B := w.heap.size)).bw A1 hb.size hu
        have hvW := GG.bw A1 hb.size hv
        have hbW := hb.then A1
        have hy := sh_wish hS hbW hi1 hi2
        have hcl : ∀ j t, [Value.int .i64 x.kind, .int .i64 x.field, .int .i64 x.value, .slice Al x.list.length cl, .slice Ap x.pairs.length cp][j]? = some t → (wr.alloc (.cells #[.int .i64 x.kind, .int .i64 x.field, .int .i64 x.value, .slice Al x.list.length cl, .slice Ap x.pairs.length cp] 75)).cell? ((⟨wr.heap.size, 0, none⟩ : Addr).add j) = some t := World.news_of_block (cs := #[.int .i64 x.kind, .int .i64 x.field, .int .i64 x.value, .slice Al x.list.length cl, .slice Ap x.pairs.length cp]) (t := 75) (fr := (0, 0)) (heap_alloc_new wr _)
        have hbs := hb.size
        obtain ⟨M1, hM1⟩ : ∃ M1, M1 = x.list.length := ⟨_, rfl⟩
        obtain ⟨M2, hM2⟩ : ∃ M2, M2 = x.pairs.length := ⟨_, rfl⟩
        rw [← hM1, ← hM2] at hy hcl huW hvW hbW A1
        rw [← hM1] at d3
        rw [← hM2] at d4
        have HH := Lib.hid h
        clear hbit hx hu hv hi1 hi2 hM1 hM2 h
        go_wp2_with (at_builtin; refine wpList_push2 _ rfl (.tmp 26) (.tmp 31) 63 rfl w 75 i0 _ 5 72 Try.underlying63 hi hz0 hz1 hz2 rfl (by omega) (fShS_good rWish_good hS) _ (leftTo xs (bitsTo m n) k) F1 rfl hvW hF1 ⟨wr.heap.size, 0, none⟩ 1 rfl x _ [] hcl hy rfl wr.heap.size hFm1 Fresh.nil hbs (by have := HLL.out; omega) (by have := HLL.out; omega) hbW ?_; intro v' w' F' hv' hF' hb' hO' hs')
        have hd' : ∀ b ∈ F', b ∉ F2 := fun b h1 h2 => by
          rcases hs' b h1 with h | h | h
          · exact hd b h h2
          · simp at h
          · have := hFm2 b h2; have := A1.size; omega
        have hk1 := hO'.keeps (fInts_good (B := 0)) huW (fun b hb hf => hd b hf hb)
        have h := HH.out
        go_roundg (n - (k + 1))
        case measure => omega
        case rel => exact ⟨k + 1, F', F2, by omega, rfl, by go_num, by rw [HK.out]; exact hv', by rw [HB.out]; exact hk1, hd', hF', hF2, hb'⟩
    · obtain rfl : k = n := by omega
      go_wp2
      refine bodyPost_ret (v := .tuple #[_, _]) (by simp [results, Try.results136, go_sem]) rfl (⟨_, _, F1, F2, rfl, hv, hu, hF1, hF2, hb⟩)
theorem shl_is : ∀ n : Nat, n ≤ 5 → wrap64 ((2 : Int) ^ n) = ((2 ^ n : Nat) : Int) := by
  intro n h
  have : n = 0 ∨ n = 1 ∨ n = 2 ∨ n = 3 ∨ n = 4 ∨ n = 5 := by omega
  rcases this with rfl | rfl | rfl | rfl | rfl | rfl <;> first | rfl | kernel_rfl | (simp [wrap64]; done)
theorem fold_yes {F : List Nat → Bool} {n k : Nat} (h : ∀ b, foldS F n k = some b → lessN (bitsTo k n) b = true) (hf : F (bitsTo k n) = true) : foldS F n (k + 1) = some (bitsTo k n) := by
  rw [foldS]
  cases hp : foldS F n k with
  | none => dsimp only; rw [if_pos hf]
  | some b => dsimp only; rw [h b hp, hf]; rfl
theorem fold_no {F : List Nat → Bool} {n k : Nat} (hf : F (bitsTo k n) = false) : foldS F n (k + 1) = foldS F n k := by
  rw [foldS]
  cases hp : foldS F n k with
  | none => dsimp only; rw [hf]; rfl
  | some b => dsimp only; rw [hf, Bool.and_false]; rfl
theorem fold_skip {F : List Nat → Bool} {n k : Nat} {b : List Nat} (h : foldS F n k = some b) (hl : lessN (bitsTo k n) b = false) : foldS F n (k + 1) = foldS F n k := by
  rw [foldS, h]; dsimp only; rw [hl]; rfl
set_option maxRecDepth 100000 in
set_option maxHeartbeats 6400000 in
theorem S_SmallestDrop_yes (w : World) (l : List GItem) (x : List GWish) (id : Int) (v u : Value) (h : Rd rItems w l [v]) (h' : Rd rWishes w x [u]) (ht : totWishes x ≤ 1048576) (hI : areItems l = true) (hO : parOk x = true) (j : Nat) (p : GItem) (hf : findIdx l id = (j : Int)) (hp : l[j]? = some p) (hid : p.id = id) :
    Calls Try.prog 44 #[v, u, .int .i64 id] w (RetV w (Two fInts w.heap.size (ints (dropI (suits l x id) x.length (x.length + 1) 0)) (.bool true))) := by
  have hn5 := parOk_len hO
  have hWs := Lib.hid (parOk_wishes hO)
  have hD := drop_both l x id
  obtain ⟨Y, hY⟩ : ∃ Y, Y = dropI (suits l x id) x.length (x.length + 1) 0 := ⟨_, rfl⟩
  rw [← hY] at hD ⊢
  clear hY
  obtain ⟨A, n, c, rfl, L0, Lc, Lm⟩ := rSl_open h
  unfold maxLen at Lm
  have L := Lib.hid L0
  clear L0
  obtain ⟨A2, n2, c2, rfl, L20, L2c, L2m⟩ := rSl_open h'
  unfold maxLen at L2m
  have L2 := Lib.hid L20
  clear L20
  rw [← L2.out] at hn5 hD
  obtain ⟨N, hN⟩ : ∃ N, N = 2 ^ n2 := ⟨_, rfl⟩
  have hshl := shl_is n2 hn5
  rw [← hN] at hD hshl
  have N32 : N ≤ 32 := by rw [hN]; exact Nat.pow_le_pow_right (by omega) hn5
  have HD := Lib.hid hD
  have HI := Lib.hid hI
  have n16 : n ≤ 16 := by rw [L.out]; exact areItems_len hI
  have hjn : j < n := by rw [L.out]; exact (List.getElem?_eq_some_iff.1 hp).1
  have hP := areItems_mem hI (List.mem_of_getElem? hp)
  obtain ⟨ba, oa, Ap, cp, rfl, _, hc0, hc1, hin⟩ := rItems_at h hp
  rw [isItem_len hP] at hc1 hin
  have HP := Lib.hid hP
  have HMEM := Lib.hid (List.mem_of_getElem? hp)
  have HID := Lib.hid hid
  have hcall0 := S_ParetoOf w x _ h' ht
  rw [hO] at hcall0
  have hcall1 := fun W (B : Bw w W) => S_FindItem W l id _ (h.bw rItems_good B)
  rw [hf] at hcall1
  have hcall2 := fun W (B : Bw w W) => S_AreItems W l _ (h.bw rItems_good B)
  rw [hI] at hcall2
  have C1 := Lib.hid hcall1
  have C2 := Lib.hid hcall2
  have j1 : (0 : Int) ≤ (j : Int) := by omega
  have j2 : (j : Int) < (n : Int) := by omega
  have j3 : ¬ ((j : Int) < 0) := by omega
  have HSH := Lib.hid hshl
  clear hD hI hO hN hP hp hf hid hcall1 hcall2 ht
  go_enter Try.func44, Try.ntmps44
  go_wp2_with fail
  refine (hcall0).mono ?_
  rintro e w1 ⟨v1, rfl, ⟨v2, rfl, F1, o1, f1⟩, hb1⟩
  go_wp2_with fail
  refine (C1.out _ hb1).mono ?_
  rintro e w2 ⟨rfl, hb2⟩
  have B2 := hb1.then hb2
  go_wp2_with fail
  refine (C2.out _ B2).mono ?_
  rintro e w3 ⟨rfl, hb3⟩
  have B3 := B2.then hb3
  clear hcall0 o1 f1 hb1 hb2 hb3
  have hv0 := fSl_empty (e := 3) (sz := 1) (R := fInt) w3
  have hs3 := B3.size
  go_wp2
  go_loopg [11, 12, 13] N (fun g s t i w' => ∃ (k : Nat) (o : Option (List Nat)) (F : List Nat), k ≤ N ∧ g = N - k ∧ i = .int .i64 k ∧ t = .bool o.isSome ∧ Hid (foldS (suits l x id) n2 k = o) ∧ fInts w' (ints (o.getD [])) [s] F ∧ Fresh w.heap.size F ∧ Bw w w')
  case atStart => exact ⟨0, none, _, by omega, rfl, rfl, rfl, Lib.hid rfl, hv0, ⟨by simp, by simpa using hs3⟩, B3.alloc _⟩
  case round =>
    clear hv0 hs3
    obtain ⟨k, o, F, hk, rfl, rfl, rfl, HO, hv, hF, hb⟩ := hrel
    have hshl := HSH.out
    by_cases hlt : k < N
    · have i1 : (0 : Int) ≤ (k : Int) := by omega
      have i2 : (k : Int) < wrap64 (2 ^ n2) := by rw [hshl]; omega
      have i3 : k < 32 := by omega
      have hkept := S_l14Kept wr x k _ (lt w) (fun b hb' => Nat.lt_of_lt_of_le hb' hb.size) (rWishes_good.step ⟨fun _ h => h, fun q hq => Below.cell hb hq⟩ h') (by rw [← L2.out]; exact hn5) i3
      rw [← L2.out] at hkept
      have HTOT := Lib.hid (left_tot hWs.out (bitsTo k n2) x.length (by rw [← L2.out]; omega))
      have HSU := Lib.hid (show suits l x id (bitsTo k n2) = (!parOk (leftL x (bitsTo k n2)) || (bestItems l (parL (leftL x (bitsTo k n2)))).contains id) from rfl)
      obtain ⟨KL, hKL⟩ : ∃ KL, KL = leftL x (bitsTo k n2) := ⟨_, rfl⟩
      rw [show leftTo x (bitsTo k n2) x.length = leftL x (bitsTo k n2) from rfl] at HTOT
      rw [← hKL] at hkept HSU HTOT
      have GG : GoodF w.heap.size (fWishesS (lt w)) := fSl_good (fShS_good rWish_good (fun b hb' => hb'))
      have HK := Lib.hid hkept
      clear hkept hshl hKL
      go_wp2_with fail
      refine HK.out.mono ?_
      rintro e w1 ⟨v3, v4, G1, G2, rfl, o3, o4, f3, f4, hb1⟩
      have B1 := hb.then hb1
      have f4' : Fresh w.heap.size G2 := f4.mono hb.size
      have hthree : (o = none) ∨ (∃ b, o = some b ∧ lessN (bitsTo k n2) b = true) ∨ (∃ b, o = some b ∧ lessN (bitsTo k n2) b = false) := by
        cases o with
        | none => exact .inl rfl
        | some b => cases hl : lessN (bitsTo k n2) b with
          | true => exact .inr (.inl ⟨b, rfl, hl⟩)
          | false => exact .inr (.inr ⟨b, rfl, hl⟩)
      rcases hthree with rfl | ⟨b, rfl, hl⟩ | ⟨b, rfl, hl⟩
      · have HFY := Lib.hid (fun hf => fold_yes (F := suits l x id) (n := n2) (k := k) (fun b hb' => by rw [HO.out] at hb'; cases hb') hf)
        have HFN := Lib.hid (fun hf => (fold_no (F := suits l x id) (n := n2) (k := k) hf).trans HO.out)
        clear HO
        have o3c := GG.bw (Bw.refl w1) B1.size o3
        have Bc := B1.then (Bw.refl w1)
        have hKr := fWishesS_Rd (fun b hb' => hb') o3c Bc.size
        have o4c := (fInts_good (B := 0)).bw (Bw.refl w1) (Nat.zero_le _) o4
        have hpar := S_ParetoOf _ KL _ hKr HTOT.out
        clear o3 o4 o3c hKr HK
        rcases Bool.eq_false_or_eq_true (parOk KL) with hpk | hpk
        · rw [hpk] at hpar
          have HS := Lib.hid (show suits l x id (bitsTo k n2) = freeO l (parL KL) p.id p by rw [HSU.out, hpk, free_best (show areBoth l (parL KL) = true by unfold areBoth; rw [HI.out, parL_expr hpk]; rfl) HMEM.out HID.out]; rfl)
          have HE := Lib.hid (parL_expr hpk)
          clear hpk
          go_wp2_with fail
          refine (hpar).mono ?_
          rintro e w5 ⟨v5, rfl, ⟨v6, rfl, F5, o5, f5⟩, hb5⟩
          have B5 := Bc.then hb5
          have d0 := B5.cell hc0
          have d1 := B5.cell hc1
          have hfree := S_l14Free w5 l (parL KL) p _ _ _ (h.bw rItems_good B5) (fNodes_Rd o5) (Rd.bw rInts_good hin B5) HI.out HE.out HP.out
          obtain ⟨fr, hfr⟩ : ∃ fr, fr = freeO l (parL KL) p.id p := ⟨_, rfl⟩
          rw [← hfr] at hfree
          have HSS := Lib.hid (HS.out.trans hfr.symm)
          clear hfr HS hpar o5 f5
          go_wp2_with fail
          refine (hfree).mono ?_
          rintro e w6 ⟨rfl, hb6⟩
          have o4d := (fInts_good (B := 0)).bw (hb5.then hb6) (Nat.zero_le _) o4c
          have hvd := (fInts_good (B := 0)).bw (hb1.then ((Bw.refl w1).then (hb5.then hb6))) (Nat.zero_le _) hv
          have B6 := B5.then hb6
          clear hfree o4c hv d0 d1
          cases fr with
          | false =>
            have HX := Lib.hid (HFN.out HSS.out)
            go_wp2
            go_roundg (N - (k + 1))
            case measure => omega
            case rel => exact ⟨k + 1, _, F, by omega, rfl, by go_num, rfl, HX, hvd, hF, B6⟩
          | true =>
            have HX := Lib.hid (HFY.out HSS.out)
            go_wp2
            go_roundg (N - (k + 1))
            case measure => omega
            case rel => exact ⟨k + 1, some (bitsTo k n2), G2, by omega, rfl, by go_num, rfl, HX, o4d, f4', B6⟩
        · rw [hpk] at hpar
          have HX := Lib.hid (HFY.out (show suits l x id (bitsTo k n2) = true by rw [HSU.out, hpk]; rfl))
          clear hpk
          go_wp2_with fail
          refine (hpar).mono ?_
          rintro e w5 ⟨v5, rfl, ⟨v6, rfl, F5, o5, f5⟩, hb5⟩
          have B5 := Bc.then hb5
          have o4d := (fInts_good (B := 0)).bw hb5 (Nat.zero_le _) o4c
          clear hpar o5 f5 hv o4c
          go_wp2
          go_roundg (N - (k + 1))
          case measure => omega
          case rel => exact ⟨k + 1, some (bitsTo k n2), G2, by omega, rfl, by go_num, rfl, HX, o4d, f4', B5⟩
      · have HFY := Lib.hid (fun hf => fold_yes (F := suits l x id) (n := n2) (k := k) (fun b' hb' => by rw [HO.out] at hb'; cases hb'; exact hl) hf)
        have HFN := Lib.hid (fun hf => (fold_no (F := suits l x id) (n := n2) (k := k) hf).trans HO.out)
        have hless := S_l11Less w1 (ints (bitsTo k n2)) (ints b) _ _ (fInts_Rd o4) (fInts_Rd ((fInts_good (B := 0)).bw hb1 (Nat.zero_le _) hv))
        rw [lessI_ints, hl] at hless
        clear HO hl
        go_wp2_with fail
        refine (hless).mono ?_
        rintro e w4 ⟨rfl, hb4⟩
        clear hless
        have o3c := GG.bw (hb4) B1.size o3
        have Bc := B1.then (hb4)
        have hKr := fWishesS_Rd (fun b hb' => hb') o3c Bc.size
        have o4c := (fInts_good (B := 0)).bw (hb4) (Nat.zero_le _) o4
        have hpar := S_ParetoOf _ KL _ hKr HTOT.out
        clear o3 o4 o3c hKr HK
        rcases Bool.eq_false_or_eq_true (parOk KL) with hpk | hpk
        · rw [hpk] at hpar
          have HS := Lib.hid (show suits l x id (bitsTo k n2) = freeO l (parL KL) p.id p by rw [HSU.out, hpk, free_best (show areBoth l (parL KL) = true by unfold areBoth; rw [HI.out, parL_expr hpk]; rfl) HMEM.out HID.out]; rfl)
          have HE := Lib.hid (parL_expr hpk)
          clear hpk
          go_wp2_with fail
          refine (hpar).mono ?_
          rintro e w5 ⟨v5, rfl, ⟨v6, rfl, F5, o5, f5⟩, hb5⟩
          have B5 := Bc.then hb5
          have d0 := B5.cell hc0
          have d1 := B5.cell hc1
          have hfree := S_l14Free w5 l (parL KL) p _ _ _ (h.bw rItems_good B5) (fNodes_Rd o5) (Rd.bw rInts_good hin B5) HI.out HE.out HP.out
          obtain ⟨fr, hfr⟩ : ∃ fr, fr = freeO l (parL KL) p.id p := ⟨_, rfl⟩
          rw [← hfr] at hfree
          have HSS := Lib.hid (HS.out.trans hfr.symm)
          clear hfr HS hpar o5 f5
          go_wp2_with fail
          refine (hfree).mono ?_
          rintro e w6 ⟨rfl, hb6⟩
          have o4d := (fInts_good (B := 0)).bw (hb5.then hb6) (Nat.zero_le _) o4c
          have hvd := (fInts_good (B := 0)).bw (hb1.then ((hb4).then (hb5.then hb6))) (Nat.zero_le _) hv
          have B6 := B5.then hb6
          clear hfree o4c hv d0 d1
          cases fr with
          | false =>
            have HX := Lib.hid (HFN.out HSS.out)
            go_wp2
            go_roundg (N - (k + 1))
            case measure => omega
            case rel => exact ⟨k + 1, _, F, by omega, rfl, by go_num, rfl, HX, hvd, hF, B6⟩
          | true =>
            have HX := Lib.hid (HFY.out HSS.out)
            go_wp2
            go_roundg (N - (k + 1))
            case measure => omega
            case rel => exact ⟨k + 1, some (bitsTo k n2), G2, by omega, rfl, by go_num, rfl, HX, o4d, f4', B6⟩
        · rw [hpk] at hpar
          have HX := Lib.hid (HFY.out (show suits l x id (bitsTo k n2) = true by rw [HSU.out, hpk]; rfl))
          clear hpk
          go_wp2_with fail
          refine (hpar).mono ?_
          rintro e w5 ⟨v5, rfl, ⟨v6, rfl, F5, o5, f5⟩, hb5⟩
          have B5 := Bc.then hb5
          have o4d := (fInts_good (B := 0)).bw hb5 (Nat.zero_le _) o4c
          clear hpar o5 f5 hv o4c
          go_wp2
          go_roundg (N - (k + 1))
          case measure => omega
          case rel => exact ⟨k + 1, some (bitsTo k n2), G2, by omega, rfl, by go_num, rfl, HX, o4d, f4', B5⟩
      · have HX := Lib.hid ((fold_skip HO.out hl).trans HO.out)
        have hless := S_l11Less w1 (ints (bitsTo k n2)) (ints b) _ _ (fInts_Rd o4) (fInts_Rd ((fInts_good (B := 0)).bw hb1 (Nat.zero_le _) hv))
        rw [lessI_ints, hl] at hless
        clear HO hl
        go_wp2_with fail
        refine (hless).mono ?_
        rintro e w4 ⟨rfl, hb4⟩
        have hvd := (fInts_good (B := 0)).bw (hb1.then hb4) (Nat.zero_le _) hv
        have B4 := B1.then hb4
        clear hless o3 o4 hv
        go_wp2
        go_roundg (N - (k + 1))
        case measure => omega
        case rel => exact ⟨k + 1, _, F, by omega, rfl, by go_num, rfl, HX, hvd, hF, B4⟩
    · have i2 : ¬ (k : Int) < wrap64 (2 ^ n2) := by rw [hshl]; omega
      have HE : k = N := by omega
      have HF := Lib.hid (show o = some Y by rw [← HO.out, HE]; exact HD.out)
      clear hshl HE
      rw [HF.out] at hv ⊢
      go_wp2
      refine bodyPost_ret (v := .tuple #[_, _]) (by simp [results, Try.results44, go_sem]) rfl (RetV.two hv hF rfl hb)
set_option maxRecDepth 100000 in
set_option maxHeartbeats 3200000 in
theorem S_SmallestDrop_no (w : World) (l : List GItem) (x : List GWish) (id : Int) (v u : Value) (h : Rd rItems w l [v]) (h' : Rd rWishes w x [u]) (ht : totWishes x ≤ 1048576) (hno : dropOk l x id = false) :
    Calls Try.prog 44 #[v, u, .int .i64 id] w (RetV w (Two fInts w.heap.size [] (.bool false))) := by
  have hcall0 := S_ParetoOf w x _ h' ht
  have hcall1 := fun W (B : Bw w W) => S_FindItem W l id _ (h.bw rItems_good B)
  have hcall2 := fun W (B : Bw w W) => S_AreItems W l _ (h.bw rItems_good B)
  obtain ⟨K, hK⟩ : ∃ K, K = findIdx l id := ⟨_, rfl⟩
  rw [← hK] at hcall1
  unfold dropOk at hno
  rw [← hK] at hno
  obtain ⟨A, n, c, rfl, L0, Lc, Lm⟩ := rSl_open h
  unfold maxLen at Lm
  have L := Lib.hid L0
  clear L0
  rcases Bool.eq_false_or_eq_true (parOk x) with hO | hO
  · rw [hO] at hcall0 hno
    rcases Bool.eq_false_or_eq_true (areItems l) with hI | hI
    · rw [hI] at hcall2 hno
      have j3 : K < 0 := by simpa using hno
      clear hO hI hK hno
      go_enter Try.func44, Try.ntmps44
      go_wp2_with fail
      refine (hcall0).mono ?_
      rintro e w1 ⟨v1, rfl, ⟨v2, rfl, F1, o1, f1⟩, hb1⟩
      go_wp2_with fail
      refine (hcall1 _ hb1).mono ?_
      rintro e w2 ⟨rfl, hb2⟩
      have B2 := hb1.then hb2
      go_wp2_with fail
      refine (hcall2 _ B2).mono ?_
      rintro e w3 ⟨rfl, hb3⟩
      have B3 := B2.then hb3
      have hv0 := fSl_empty (e := 3) (sz := 1) (R := fInt) w3
      have hs3 := B3.size
      clear hcall0 hcall1 hcall2 o1 f1 hb1 hb2 hb3
      go_wp2
      go_wp2
      refine bodyPost_ret (v := .tuple #[_, _]) (by simp [results, Try.results44, go_sem]) rfl (RetV.two hv0 ⟨by simp, by simpa using hs3⟩ rfl (B3.alloc _))
    · rw [hI] at hcall2
      clear hO hI hK hno
      go_enter Try.func44, Try.ntmps44
      go_wp2_with fail
      refine (hcall0).mono ?_
      rintro e w1 ⟨v1, rfl, ⟨v2, rfl, F1, o1, f1⟩, hb1⟩
      go_wp2_with fail
      refine (hcall1 _ hb1).mono ?_
      rintro e w2 ⟨rfl, hb2⟩
      have B2 := hb1.then hb2
      go_wp2_with fail
      refine (hcall2 _ B2).mono ?_
      rintro e w3 ⟨rfl, hb3⟩
      have B3 := B2.then hb3
      have hv0 := fSl_empty (e := 3) (sz := 1) (R := fInt) w3
      have hs3 := B3.size
      clear hcall0 hcall1 hcall2 o1 f1 hb1 hb2 hb3
      go_wp2
      go_wp2
      refine bodyPost_ret (v := .tuple #[_, _]) (by simp [results, Try.results44, go_sem]) rfl (RetV.two hv0 ⟨by simp, by simpa using hs3⟩ rfl (B3.alloc _))
  · rw [hO] at hcall0
    clear hO hK hno
    go_enter Try.func44, Try.ntmps44
    go_wp2_with fail
    refine (hcall0).mono ?_
    rintro e w1 ⟨v1, rfl, ⟨v2, rfl, F1, o1, f1⟩, hb1⟩
    go_wp2_with fail
    refine (hcall1 _ hb1).mono ?_
    rintro e w2 ⟨rfl, hb2⟩
    have B2 := hb1.then hb2
    have hv0 := fSl_empty (e := 3) (sz := 1) (R := fInt) w2
    have hs3 := B2.size
    clear hcall0 hcall1 hcall2 o1 f1 hb1 hb2
    go_wp2
    go_wp2
    refine bodyPost_ret (v := .tuple #[_, _]) (by simp [results, Try.results44, go_sem]) rfl (RetV.two hv0 ⟨by simp, by simpa using hs3⟩ rfl (B2.alloc _))
theorem S_SmallestDrop (w : World) (l : List GItem) (x : List GWish) (id : Int) (v u : Value) (h : Rd rItems w l [v]) (h' : Rd rWishes w x [u]) (ht : totWishes x ≤ 1048576) :
    Calls Try.prog 44 #[v, u, .int .i64 id] w (RetV w (Two fInts w.heap.size (dropL l x id) (.bool (dropOk l x id)))) := by
  rcases Bool.eq_false_or_eq_true (dropOk l x id) with hc | hc
  · have h1 := hc
    unfold dropOk at h1
    rw [Bool.and_eq_true, Bool.and_eq_true, decide_eq_true_eq] at h1
    rcases findIdx_cases l id with ⟨hK, _⟩ | ⟨j, p, hK, hp, hid⟩
    · have := h1.2.2; omega
    · have := S_SmallestDrop_yes w l x id v u h h' ht h1.2.1 h1.1 j p hK hp hid
      rw [show dropL l x id = ints (dropI (suits l x id) x.length (x.length + 1) 0) by rw [dropL, if_pos hc], hc]
      exact this
  · have := S_SmallestDrop_no w l x id v u h h' ht hc
    rw [show dropL l x id = [] by rw [dropL, hc]; rfl, hc]
    exact this
end Go.Proofs.Ytfffklkiikmieaa
