/- Standing answers that change: the reference's helpers. -/
import Derived.Test.YtpihighajaeabaaGreatQStandM
import Derived.Test.YtpihighajaeabaaGreatQCopies
namespace Go.Proofs.YtpihighajaeabaaGreat
open Go.RowKit
set_option linter.unusedVariables false
set_option linter.unusedSimpArgs false
set_option maxRecDepth 100000 in
set_option maxHeartbeats 1600000 in
/-- one append of a copied item -/
theorem S_l15Put (w : World) (l : List GItem) (x : GItem) (v u : Value) (h : Rd rItems w l [v]) (hxr : Rd rInts w x.vals [u]) (hn : l.length ≤ 1048576) (hnn : ∀ y ∈ l, y.vals.length ≤ 1048576) (hxn : x.vals.length ≤ 1048576) :
    Calls Tryz.prog 87 #[v, .agg #[.int .i64 x.id, u]] w (RetV w (Made fItems w.heap.size (putM l x))) := by
  obtain ⟨i0, hi, hz0, hz1, hz2⟩ := info_parts info_Item
  obtain ⟨A, n, c, rfl, L0, Lc, Lm⟩ := rSl_open h
  unfold maxLen at Lm
  have L := Lib.hid L0
  clear L0
  rw [← L.out] at hn
  obtain ⟨W1, hW1⟩ : ∃ W1, W1 = w.alloc (.cells #[.int .i64 x.id, u] 30) := ⟨_, rfl⟩
  have A1 : Bw w W1 := by rw [hW1]; exact (Bw.refl w).alloc _
  have p0 : W1.cell? ⟨w.heap.size, 0, none⟩ = some (.int .i64 x.id) := by rw [hW1]; go_simp
  have p1 : W1.cell? ⟨w.heap.size, 1, none⟩ = some u := by rw [hW1]; go_simp
  have z1 : W1.heap.size = w.heap.size + 1 := by rw [hW1]; simp
  have hv0 := fSl_empty (e := 30) (sz := 2) (R := fItem) W1
  rw [z1] at hv0
  have B0 : Bw W1 (W1.alloc (.cells #[] 30)) := (Bw.refl _).alloc _
  have HW := Lib.hid hW1
  have HNN := Lib.hid hnn
  have HH := Lib.hid (h.bw rItems_good A1)
  have HXR := Lib.hid (hxr.bw rInts_good A1)
  obtain ⟨M, hM⟩ : ∃ M, M = x.vals.length := ⟨_, rfl⟩
  clear hW1 hnn h hxr hM
  go_enter Tryz.func87, Tryz.ntmps87
  go_wp2
  rw [← HW.out]
  go_loopg [5, 6, 7] n (fun g s q i w' => ∃ (k : Nat) (F : List Nat), k ≤ n ∧ g = n - k ∧ i = .int .i64 k ∧ q = .bool (putAny l x k) ∧ fItems w' (putTo l x k) [s] F ∧ Fresh W1.heap.size F ∧ Bw W1 w')
  case atStart => exact ⟨0, _, by omega, rfl, rfl, rfl, hv0, ⟨by simp, by simp [z1]⟩, B0⟩
  case round =>
    clear hv0 B0
    obtain ⟨k, F, hk, rfl, rfl, rfl, hv, hF, hb⟩ := hrel
    replace p0 := hb.cell p0
    replace p1 := hb.cell p1
    have HLEN := Lib.hid (putTo_len l x k)
    have hxm := hxn
    obtain ⟨Q, hQ⟩ : ∃ Q, Q = putAny l x k := ⟨_, rfl⟩
    rw [← hQ]
    have HQ := Lib.hid hQ
    clear hQ
    by_cases hlt : k < n
    · have h := HH.out
      obtain ⟨y, hy⟩ := get_of_lt (xs := l) (k := k) (by have := L.out; omega)
      have hym := HNN.out y (List.mem_of_getElem? hy)
      obtain ⟨ba, oa, A', c', rfl, _, hc0, hc1, hin⟩ := rItems_at h hy
      have hcx := hb.cell hc0
      have hcx1 := hb.cell hc1
      have i1 : (0 : Int) ≤ (k : Int) := by omega
      have i2 : (k : Int) < (n : Int) := by omega
      have HY := Lib.hid hy
      have HIN := Lib.hid hin
      have HC0 := Lib.hid hc0
      have HC1 := Lib.hid hc1
      have HSA := Lib.hid (putAny_succ (x := x) hy)
      have s0 := since_cell hcx
      have s1 := since_cell p0
      clear hy h hin hc0 hc1
      have H3 : Q = true ∨ (Q = false ∧ x.id < y.id) ∨ (Q = false ∧ ¬ x.id < y.id) := by
        cases Q with
        | true => exact .inl rfl
        | false => exact .inr ((Classical.em (x.id < y.id)).imp (fun h => ⟨rfl, h⟩) (fun h => ⟨rfl, h⟩))
      rcases H3 with rfl | ⟨rfl, hlt2⟩ | ⟨rfl, hlt2⟩
      · have HB := Lib.hid (putTo_yes HY.out HQ.out.symm)
        have HS := Lib.hid (show true = putAny l x (k + 1) by rw [HSA.out, ← HQ.out]; rfl)
        go_wp2_with fail
        refine wp_region_since (by kernel_rfl) (by kernel_rfl) ?_
        repeat (first | go_big_quiet_skip | (go_big_quiet_want; go_big_quiet_op; first | go_big_quiet_on | (apply Exists.intro; refine ⟨fun _ => ?_, ?_⟩; (· ((fail))); go_big_quiet_on)))
        refine wpQuiet_nil ?_
        rintro ⟨wq, hbq⟩
        dsimp only at *
        have hbX := hb.then hbq
        have hv1 := (fItems_good (B := W1.heap.size)).bw hbq hb.size hv
        clear hv hbq
        have hcy := hbX.cell HC0.out
        have hcy1 := hbX.cell HC1.out
        have hin' : Rd rInts wq.drew y.vals [.slice A' y.vals.length c'] := Rd.bw rInts_good HIN.out hbX.drew
        have D1 : Bw wq wq.drew := (Bw.refl _).drew
        have hFm := (fItems_good (B := 0)).lt hv1
        have hbs := hbX.size
        clear hcx hcx1 s0 s1
        go_wp2_with fail
        go_region_held3 (fun w' => w'.cell? ⟨ba, oa + k * 2, none⟩ = some (.int .i64 y.id) ∧ w'.cell? ⟨ba, oa + k * 2 + 1, none⟩ = some (.slice A' y.vals.length c')) (first | go_keep | exact ⟨hcy, hcy1⟩ | exact ⟨hAl.cell hcy, hAl.cell hcy1⟩ | exact ⟨hb'.cell HC0.out, hb'.cell HC1.out⟩ | fail)
          (first
            | (go_at_call 146; refine (S_l2One _ y _ hin' hym).mono ?_; rintro e w1 ⟨v1, rfl, ⟨F1, o1, f1⟩, hb1⟩; obtain ⟨Av, cv, rfl, _⟩ := rSl_shape (fInts_Rd o1); replace hcy := hb1.cell hcy; replace hcy1 := hb1.cell hcy1; have hb1' := D1.then hb1; have hbb := hbX.then hb1'; have hv5 := (fItems_good (B := W1.heap.size)).bw hb1' hbX.size hv1; have hAl := (Bw.refl w1).alloc (.cells #[.int .i64 y.id, .slice Av y.vals.length cv] 30); have hvW := (fItems_good (B := W1.heap.size)).bw hAl hbb.size hv5; have oW := (fInts_good (B := W1.heap.size)).bw hAl hbb.size o1; have hbW := hbb.then hAl; have f1' : Fresh wq.heap.size F1 := f1.mono (by simp); have hcl : ∀ j t, [Value.int .i64 y.id, .slice Av y.vals.length cv][j]? = some t → (w1.alloc (.cells #[.int .i64 y.id, .slice Av y.vals.length cv] 30)).cell? ((⟨w1.heap.size, 0, none⟩ : Addr).add j) = some t := World.news_of_block (cs := #[.int .i64 y.id, .slice Av y.vals.length cv]) (t := 30) (fr := (0, 0)) (heap_alloc_new w1 _))
            | (refine step_push _ (by rfl) (.tmp 35) (.tmp 47) 24 (by rfl) W1 30 i0 _ 2 32 Tryz.underlying24 hi hz0 hz1 hz2 rfl (by omega) fItem_good _ (putTo l x k) F (by rfl) hvW hF ⟨w1.heap.size, 0, none⟩ 1 (by rfl) y [.int .i64 y.id, .slice Av y.vals.length cv] F1 hcl ⟨_, rfl, oW⟩ rfl wq.heap.size hFm f1' hbs (by have := HLEN.out; omega) (by have := HLEN.out; omega) hbW ?_; intro v' w' F' hv' hF' hb')
            | fail)
        go_wp2
        go_roundg (n - (k + 1))
        case measure => omega
        case rel => exact ⟨k + 1, F', by omega, rfl, by go_num, by rw [← HS.out], by rw [HB.out]; exact hv', hF', hb'⟩
      · have HB := Lib.hid (putTo_here HY.out HQ.out.symm hlt2)
        have HS := Lib.hid (show true = putAny l x (k + 1) by rw [HSA.out, decide_eq_true hlt2, Bool.or_true])
        go_wp2_with fail
        refine wp_region_since (by kernel_rfl) (by kernel_rfl) ?_
        repeat (first | go_big_quiet_skip | (go_big_quiet_want; go_big_quiet_op; first | go_big_quiet_on | (apply Exists.intro; refine ⟨fun _ => ?_, ?_⟩; (· ((fail))); go_big_quiet_on)))
        refine wpQuiet_nil ?_
        rintro ⟨wq, hbq⟩
        dsimp only at *
        have hbX0 := hb.then hbq
        have hv2 := (fItems_good (B := W1.heap.size)).bw hbq hb.size hv
        have r0 := hbq.cell p0
        have r1 := hbq.cell p1
        have hcall := S_l2One wq x u (HXR.out.bw rInts_good hbX0) hxm
        clear hv hbq
        go_wp2_with fail
        refine hcall.mono ?_
        rintro e w2 ⟨v2, rfl, ⟨F2, o2, f2⟩, hb2⟩
        obtain ⟨Ax, cx, rfl, _⟩ := rSl_shape (fInts_Rd o2)
        obtain ⟨MX, hMX⟩ : ∃ MX, MX = x.vals.length := ⟨_, rfl⟩
        rw [← hMX] at o2 ⊢
        have hbb2 := hbX0.then hb2
        have hFm2 := (fItems_good (B := 0)).lt hv2
        have hAl2 := (Bw.refl w2).alloc (.cells #[.int .i64 x.id, .slice Ax MX cx] 30)
        have hvW2 := (fItems_good (B := W1.heap.size)).bw (hb2.then hAl2) hbX0.size hv2
        have oW2 := (fInts_good (B := W1.heap.size)).bw hAl2 hbb2.size o2
        have hbW2 := hbb2.then hAl2
        have hcl2 : ∀ j t, [Value.int .i64 x.id, .slice Ax MX cx][j]? = some t → (w2.alloc (.cells #[.int .i64 x.id, .slice Ax MX cx] 30)).cell? ((⟨w2.heap.size, 0, none⟩ : Addr).add j) = some t := World.news_of_block (cs := #[.int .i64 x.id, .slice Ax MX cx]) (t := 30) (fr := (0, 0)) (heap_alloc_new w2 _)
        have hbs2 := hbX0.size
        clear hv2 o2 hcall hMX
        go_wp2_with (at_builtin; refine wpList_push _ rfl (.tmp 27) (.tmp 33) 24 rfl W1 30 i0 _ 2 32 Tryz.underlying24 hi hz0 hz1 hz2 rfl (by omega) fItem_good _ (putTo l x k) F rfl hvW2 hF ⟨w2.heap.size, 0, none⟩ 1 rfl x [.int .i64 x.id, .slice Ax MX cx] F2 hcl2 ⟨_, rfl, oW2⟩ rfl wq.heap.size hFm2 f2 hbs2 (by have := HLEN.out; omega) (by have := HLEN.out; omega) hbW2 ?_; intro v3 w3 F3 hv3 hF3 hb3)
        have HLN2 := Lib.hid (show (putTo l x k ++ [x]).length ≤ k + 2 by have := HLEN.out; simp; omega)
        clear hvW2 oW2 hcl2 r0 r1
        have hcy := hb3.cell HC0.out
        have hcy1 := hb3.cell HC1.out
        have hin' : Rd rInts w3.drew y.vals [.slice A' y.vals.length c'] := Rd.bw rInts_good HIN.out hb3.drew
        have D1 : Bw w3 w3.drew := (Bw.refl _).drew
        have hFm := (fItems_good (B := 0)).lt hv3
        have hbs := hb3.size
        clear hcx hcx1 s0 s1
        go_wp2_with fail
        go_region_held3 (fun w' => w'.cell? ⟨ba, oa + k * 2, none⟩ = some (.int .i64 y.id) ∧ w'.cell? ⟨ba, oa + k * 2 + 1, none⟩ = some (.slice A' y.vals.length c')) (first | go_keep | exact ⟨hcy, hcy1⟩ | exact ⟨hAl.cell hcy, hAl.cell hcy1⟩ | exact ⟨hb'.cell HC0.out, hb'.cell HC1.out⟩ | fail)
          (first
            | (go_at_call 146; refine (S_l2One _ y _ hin' hym).mono ?_; rintro e w1 ⟨v1, rfl, ⟨F1, o1, f1⟩, hb1⟩; obtain ⟨Av, cv, rfl, _⟩ := rSl_shape (fInts_Rd o1); replace hcy := hb1.cell hcy; replace hcy1 := hb1.cell hcy1; have hb1' := D1.then hb1; have hbb := hb3.then hb1'; have hv1 := (fItems_good (B := W1.heap.size)).bw hb1' hb3.size hv3; have hAl := (Bw.refl w1).alloc (.cells #[.int .i64 y.id, .slice Av y.vals.length cv] 30); have hvW := (fItems_good (B := W1.heap.size)).bw hAl hbb.size hv1; have oW := (fInts_good (B := W1.heap.size)).bw hAl hbb.size o1; have hbW := hbb.then hAl; have f1' : Fresh w3.heap.size F1 := f1.mono (by simp); have hcl : ∀ j t, [Value.int .i64 y.id, .slice Av y.vals.length cv][j]? = some t → (w1.alloc (.cells #[.int .i64 y.id, .slice Av y.vals.length cv] 30)).cell? ((⟨w1.heap.size, 0, none⟩ : Addr).add j) = some t := World.news_of_block (cs := #[.int .i64 y.id, .slice Av y.vals.length cv]) (t := 30) (fr := (0, 0)) (heap_alloc_new w1 _))
            | (refine step_push _ (by rfl) (.tmp 35) (.tmp 47) 24 (by rfl) W1 30 i0 _ 2 32 Tryz.underlying24 hi hz0 hz1 hz2 rfl (by omega) fItem_good _ (putTo l x k ++ [x]) F3 (by rfl) hvW hF3 ⟨w1.heap.size, 0, none⟩ 1 (by rfl) y [.int .i64 y.id, .slice Av y.vals.length cv] F1 hcl ⟨_, rfl, oW⟩ rfl w3.heap.size hFm f1' hbs (by have := HLN2.out; omega) (by have := HLN2.out; omega) hbW ?_; intro v' w' F' hv' hF' hb')
            | fail)
        go_wp2
        go_roundg (n - (k + 1))
        case measure => omega
        case rel => exact ⟨k + 1, F', by omega, rfl, by go_num, by rw [← HS.out], by rw [HB.out]; exact hv', hF', hb'⟩
      · have HB := Lib.hid (putTo_no HY.out HQ.out.symm hlt2)
        have HS := Lib.hid (show false = putAny l x (k + 1) by rw [HSA.out, ← HQ.out, decide_eq_false hlt2]; rfl)
        go_wp2_with fail
        refine wp_region_since (by kernel_rfl) (by kernel_rfl) ?_
        repeat (first | go_big_quiet_skip | (go_big_quiet_want; go_big_quiet_op; first | go_big_quiet_on | (apply Exists.intro; refine ⟨fun _ => ?_, ?_⟩; (· ((fail))); go_big_quiet_on)))
        refine wpQuiet_nil ?_
        rintro ⟨wq, hbq⟩
        dsimp only at *
        have hbX := hb.then hbq
        have hv1 := (fItems_good (B := W1.heap.size)).bw hbq hb.size hv
        clear hv hbq
        have hcy := hbX.cell HC0.out
        have hcy1 := hbX.cell HC1.out
        have hin' : Rd rInts wq.drew y.vals [.slice A' y.vals.length c'] := Rd.bw rInts_good HIN.out hbX.drew
        have D1 : Bw wq wq.drew := (Bw.refl _).drew
        have hFm := (fItems_good (B := 0)).lt hv1
        have hbs := hbX.size
        clear hcx hcx1 s0 s1
        go_wp2_with fail
        go_region_held3 (fun w' => w'.cell? ⟨ba, oa + k * 2, none⟩ = some (.int .i64 y.id) ∧ w'.cell? ⟨ba, oa + k * 2 + 1, none⟩ = some (.slice A' y.vals.length c')) (first | go_keep | exact ⟨hcy, hcy1⟩ | exact ⟨hAl.cell hcy, hAl.cell hcy1⟩ | exact ⟨hb'.cell HC0.out, hb'.cell HC1.out⟩ | fail)
          (first
            | (go_at_call 146; refine (S_l2One _ y _ hin' hym).mono ?_; rintro e w1 ⟨v1, rfl, ⟨F1, o1, f1⟩, hb1⟩; obtain ⟨Av, cv, rfl, _⟩ := rSl_shape (fInts_Rd o1); replace hcy := hb1.cell hcy; replace hcy1 := hb1.cell hcy1; have hb1' := D1.then hb1; have hbb := hbX.then hb1'; have hv5 := (fItems_good (B := W1.heap.size)).bw hb1' hbX.size hv1; have hAl := (Bw.refl w1).alloc (.cells #[.int .i64 y.id, .slice Av y.vals.length cv] 30); have hvW := (fItems_good (B := W1.heap.size)).bw hAl hbb.size hv5; have oW := (fInts_good (B := W1.heap.size)).bw hAl hbb.size o1; have hbW := hbb.then hAl; have f1' : Fresh wq.heap.size F1 := f1.mono (by simp); have hcl : ∀ j t, [Value.int .i64 y.id, .slice Av y.vals.length cv][j]? = some t → (w1.alloc (.cells #[.int .i64 y.id, .slice Av y.vals.length cv] 30)).cell? ((⟨w1.heap.size, 0, none⟩ : Addr).add j) = some t := World.news_of_block (cs := #[.int .i64 y.id, .slice Av y.vals.length cv]) (t := 30) (fr := (0, 0)) (heap_alloc_new w1 _))
            | (refine step_push _ (by rfl) (.tmp 35) (.tmp 47) 24 (by rfl) W1 30 i0 _ 2 32 Tryz.underlying24 hi hz0 hz1 hz2 rfl (by omega) fItem_good _ (putTo l x k) F (by rfl) hvW hF ⟨w1.heap.size, 0, none⟩ 1 (by rfl) y [.int .i64 y.id, .slice Av y.vals.length cv] F1 hcl ⟨_, rfl, oW⟩ rfl wq.heap.size hFm f1' hbs (by have := HLEN.out; omega) (by have := HLEN.out; omega) hbW ?_; intro v' w' F' hv' hF' hb')
            | fail)
        go_wp2
        go_roundg (n - (k + 1))
        case measure => omega
        case rel => exact ⟨k + 1, F', by omega, rfl, by go_num, by rw [← HS.out], by rw [HB.out]; exact hv', hF', hb'⟩
    · obtain rfl : k = n := by omega
      have HE := Lib.hid (putTo_end (l := l) (x := x) (k := k) (by rw [← L.out]; exact Nat.le_refl _))
      rw [← HQ.out] at HE
      cases Q with
      | true =>
        have HE2 := Lib.hid (show putTo l x k = putM l x by rw [HE.out]; rfl)
        rw [HE2.out] at hv
        clear HE
        go_wp2
        go_ret
        exact ⟨_, rfl, ⟨F, hv, hF.mono A1.size⟩, A1.then hb⟩
      | false =>
        have HE2 := Lib.hid (show putTo l x k ++ [x] = putM l x by rw [HE.out]; rfl)
        have hcall := S_l2One wr x u (HXR.out.bw rInts_good hb) hxm
        clear HE
        go_wp2_with fail
        refine hcall.mono ?_
        rintro e w2 ⟨v2, rfl, ⟨F2, o2, f2⟩, hb2⟩
        obtain ⟨Ax, cx, rfl, _⟩ := rSl_shape (fInts_Rd o2)
        obtain ⟨MX, hMX⟩ : ∃ MX, MX = x.vals.length := ⟨_, rfl⟩
        rw [← hMX] at o2 ⊢
        have hbb2 := hb.then hb2
        have hFm2 := (fItems_good (B := 0)).lt hv
        have hAl2 := (Bw.refl w2).alloc (.cells #[.int .i64 x.id, .slice Ax MX cx] 30)
        have hvW2 := (fItems_good (B := W1.heap.size)).bw (hb2.then hAl2) hb.size hv
        have oW2 := (fInts_good (B := W1.heap.size)).bw hAl2 hbb2.size o2
        have hbW2 := hbb2.then hAl2
        have hcl2 : ∀ j t, [Value.int .i64 x.id, .slice Ax MX cx][j]? = some t → (w2.alloc (.cells #[.int .i64 x.id, .slice Ax MX cx] 30)).cell? ((⟨w2.heap.size, 0, none⟩ : Addr).add j) = some t := World.news_of_block (cs := #[.int .i64 x.id, .slice Ax MX cx]) (t := 30) (fr := (0, 0)) (heap_alloc_new w2 _)
        have hbs2 := hb.size
        clear hv o2 hcall hMX
        go_wp2_with (at_builtin; refine wpList_push _ rfl (.tmp 51) (.tmp 57) 24 rfl W1 30 i0 _ 2 32 Tryz.underlying24 hi hz0 hz1 hz2 rfl (by omega) fItem_good _ (putTo l x k) F rfl hvW2 hF ⟨w2.heap.size, 0, none⟩ 1 rfl x [.int .i64 x.id, .slice Ax MX cx] F2 hcl2 ⟨_, rfl, oW2⟩ rfl wr.heap.size hFm2 f2 hbs2 (by have := HLEN.out; omega) (by have := HLEN.out; omega) hbW2 ?_; intro v3 w3 F3 hv3 hF3 hb3)
        rw [HE2.out] at hv3
        go_ret
        exact ⟨_, rfl, ⟨F3, hv3, hF3.mono A1.size⟩, A1.then hb3⟩
end Go.Proofs.YtpihighajaeabaaGreat
