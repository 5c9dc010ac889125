/- Best items by windows, in the program: BlockBest. -/
import Derived.Test.YtpihighajaeabaaGreatQBlockP
import Derived.Test.YtpihighajaeabaaGreatQHeldD
import Derived.Test.YtpihighajaeabaaGreatQRuleI
import Derived.Test.YtpihighajaeabaaGreatQDelS2
namespace Go.Proofs.YtpihighajaeabaaGreat
open Go.RowKit
set_option linter.unusedVariables false
set_option linter.unusedSimpArgs false
/-- a list of items whose values lie below B -/
def LowL (B : Nat) (W : World) (L : List GItem) (A : Option Addr) : Prop := ∀ (k : Nat) (x : GItem), L[k]? = some x → ∃ b o A' m c', A = some ⟨b, o, none⟩ ∧ W.cell? ⟨b, o + k * 2, none⟩ = some (.int .i64 x.id) ∧ W.cell? ⟨b, o + k * 2 + 1, none⟩ = some (.slice A' m c') ∧ rInts W (fun b => b < B) x.vals [.slice A' m c']
theorem LowL.bw {B : Nat} {W W' : World} {L : List GItem} {A : Option Addr} (h : LowL B W L A) (hb : Bw W W') (hB : B ≤ W.heap.size) : LowL B W' L A := fun k x hx => by
  obtain ⟨b, o, A', m, c', e, h1, h2, h3⟩ := h k x hx
  exact ⟨b, o, A', m, c', e, hb.cell h1, hb.cell h2, rInts_good.step ⟨fun _ hb => hb, fun q hq => Below.cell hb (Nat.lt_of_lt_of_le hq hB)⟩ h3⟩
theorem LowL.of_rd {w : World} {L : List GItem} {A : Option Addr} {n c : Nat} (h : Rd rItems w L [.slice A n c]) : LowL w.heap.size w L A := fun k x hx => by
  obtain ⟨b, o, A', c', e, _, h1, h2, h3⟩ := rItems_at h hx
  exact ⟨b, o, A', _, c', e, h1, h2, h3⟩
theorem LowL.of_sh {B : Nat} {w : World} {L : List GItem} {A : Option Addr} {n c : Nat} {F : List Nat} (h : fItemsSh B w L [.slice A n c] F) : LowL B w L A := fun k x hx => by
  obtain ⟨v0, us, Fs, e0, hown, hall, hFe⟩ := h
  injection e0 with e0
  subst e0
  have hl := all3_len hall
  have hus : ∀ u ∈ us, u.length = 2 := fun u hu => by obtain ⟨x, f, hr⟩ := all3_mem_us hall hu; exact hr.2
  obtain ⟨A2, c2, e2, _, _, h3⟩ := ownsRow_rSl hown hl.1 hus
  injection e2 with e2 e3 e4
  obtain ⟨u, f, hu, hf, hr2⟩ := all3_at hall hx
  obtain ⟨b2, e5, _, hc2⟩ := h3 k u hu
  obtain ⟨v2, rfl, hv2⟩ := hr2.1.2.1
  obtain ⟨A', c', rfl, _⟩ := rSl_shape hv2
  have k0 := hc2 0 _ rfl
  have k1 := hc2 1 _ rfl
  exact ⟨b2, 0, A', _, c', by rw [e2, e5], k0, k1, hv2⟩
theorem sh_len {B : Nat} {w : World} {xs : List GItem} {A : Option Addr} {n c : Nat} {F : List Nat} (h : fItemsSh B w xs [.slice A n c] F) : n = xs.length ∧ n ≤ c ∧ c ≤ maxLen := by
  have hr : rSl 2 rItem w (fun b => b ∈ F ∨ b < B) xs [.slice A n c] := fSl_rd rItem_good (fun _ _ _ h => fSh_rd rItem_good h) h
  obtain ⟨A', n', c', e, l1, l2, l3⟩ := rSl_open hr
  injection e with e1 e2 e3
  subst e1 e2 e3
  exact ⟨l1, l2, l3⟩
theorem sh_good {B B' : Nat} (hB : B' ≤ B) : GoodF B (fItemsSh B') := fSl_good (fSh_good rItem_good hB)
theorem sh_one {B : Nat} {w : World} {x : GItem} {A : Option Addr} {m c : Nat} (h : rInts w (fun b => b < B) x.vals [.slice A m c]) : fSh B rItem w x [.int .i64 x.id, .slice A m c] [] :=
  ⟨rfl, ⟨_, rfl, h⟩, fun t ht => by simp at ht; rcases ht with rfl | rfl <;> rfl⟩
theorem sh_shape {B : Nat} {w : World} {xs : List GItem} {v : Value} {F : List Nat} (h : fItemsSh B w xs [v] F) : ∃ A n c, v = .slice A n c := by
  obtain ⟨v', us, Fs, hv, hown, _⟩ := h
  injection hv with hv
  subst hv
  rcases hown.2 with ⟨h, _⟩ | ⟨g, cap, cur, h, _⟩
  · exact ⟨_, _, _, h⟩
  · exact ⟨_, _, _, h⟩
theorem low_vals {B : Nat} {W W' : World} {xs : List Int} {v : Value} (h : rInts W (fun b => b < B) xs [v]) (hb : Bw W W') (hB : B ≤ W.heap.size) : rInts W' (fun b => b < B) xs [v] := rInts_good.step ⟨fun _ hb => hb, fun q hq => Below.cell hb (Nat.lt_of_lt_of_le hq hB)⟩ h
theorem low_vals_only {B g : Nat} {W W' : World} {xs : List Int} {v : Value} (h : rInts W (fun b => b < B) xs [v]) (hO : Only [g] W W') (hB : B ≤ W.heap.size) (hg : B ≤ g) : rInts W' (fun b => b < B) xs [v] :=
  rInts_good.step ⟨fun _ hb => hb, fun q hq => World.cell?_of_block (hO.2 _ (Nat.lt_of_lt_of_le hq hB) (by have : q.block < B := hq; simp; omega))⟩ h
theorem passB_mem {e : List GNode} {L : List GItem} {W : List GHeld} {A : List GItem} {k : Nat} (hp : PInv e (L.take k) W A) (hL : ∀ x ∈ L, isItem x = true) : ∀ h ∈ W, isItem h.item = true := fun h hh => hL _ (List.mem_of_mem_take (hp.subW h hh))
theorem early_take {W : List GHeld} {k : Nat} {h : GHeld} (hx : W[k]? = some h) (he : h.early = true) : earlyB (W.take (k + 1)) = earlyB (W.take k) ++ [h.item] ∧ lateB (W.take (k + 1)) = lateB (W.take k) := by
  unfold earlyB lateB
  rw [List.take_add_one, hx, List.filter_append, List.filter_append]
  simp [he]
theorem late_take {W : List GHeld} {k : Nat} {h : GHeld} (hx : W[k]? = some h) (he : h.early = false) : earlyB (W.take (k + 1)) = earlyB (W.take k) ∧ lateB (W.take (k + 1)) = lateB (W.take k) ++ [h.item] := by
  unfold earlyB lateB
  rw [List.take_add_one, hx, List.filter_append, List.filter_append]
  simp [he]
theorem stepB_any {e : List GNode} {win : Nat} {W : List GHeld} {A : List GItem} {x : GItem} (h : (W.any fun h => beats e h.item x) = true) : stepB e win (W, A) x = (W, A) := by unfold stepB; rw [if_pos h]
theorem stepB_in {e : List GNode} {win : Nat} {W : List GHeld} {A : List GItem} {x : GItem} (h : (W.any fun h => beats e h.item x) = false) (hl : (W.filter fun h => !beats e x h.item).length < win) : stepB e win (W, A) x = ((W.filter fun h => !beats e x h.item) ++ [⟨x, decide (A.length = 0)⟩], A) := by unfold stepB; rw [if_neg (by rw [h]; decide), if_pos hl]
theorem stepB_out {e : List GNode} {win : Nat} {W : List GHeld} {A : List GItem} {x : GItem} (h : (W.any fun h => beats e h.item x) = false) (hl : ¬ (W.filter fun h => !beats e x h.item).length < win) : stepB e win (W, A) x = (W.filter fun h => !beats e x h.item, A ++ [x]) := by unfold stepB; rw [if_neg (by rw [h]; decide), if_neg hl]
set_option maxRecDepth 100000 in
set_option maxHeartbeats 12800000 in
theorem I_BlockBest (w : World) (l : List GItem) (e : List GNode) (win : Nat) (v u : Value) (h : Rd rItems w l [v]) (h' : Rd rNodes w e [u]) (hB : areBoth l e = true) (hw1 : 1 ≤ win) (hw2 : win ≤ 16) :
    Calls Tryz.prog 34 #[v, u, .int .i64 (win : Int)] w (fun e' w' => ∃ v' q, e' = .returned (.tuple #[v', .int .i64 q]) ∧ Rd rInts w' (bestItems l e) [v'] ∧ Bw w w') := by
  obtain ⟨i0, hi, hz0, hz1, hz2⟩ := info_parts info_int
  obtain ⟨j0, ji, jz0, jz1, jz2⟩ := info_parts info_Item
  obtain ⟨m0, mi, mz0, mz1, mz2⟩ := info_parts info_held
  have hI := areBoth_items hB
  have hE := areBoth_expr hB
  have hlI : ∀ x ∈ l, isItem x = true := fun x hx => areItems_mem hI hx
  have hl16 := areItems_len hI
  obtain ⟨A0, n0, c0, rfl, l0, lc0, lm0⟩ := rSl_open h
  unfold maxLen at lm0
  obtain ⟨Ae, ne, ce, rfl, le, _⟩ := rSl_open h'
  have hlow := LowL.of_rd h
  have hnod : rNodes w (fun b => b < w.heap.size) e [.slice Ae ne ce] := h'
  obtain ⟨B, hBs⟩ : ∃ B, B = w.heap.size := ⟨_, rfl⟩
  rw [← hBs] at hlow hnod
  obtain ⟨wb, hwb⟩ : ∃ wb, wb = w.alloc (.cells #[.slice Ae ne ce] 25) := ⟨_, rfl⟩
  have Bb : Bw w wb := by rw [hwb]; exact (Bw.refl w).alloc _
  have hzb : wb.heap.size = B + 1 := by rw [hwb, hBs]; simp
  have cb : wb.cell? ⟨B, 0, none⟩ = some (.slice Ae ne ce) := by rw [hwb, hBs]; go_simp
  have hrl := (h.bw rItems_good Bb).bw rItems_good ((Bw.refl wb).alloc (.cells #[] 3))
  have hre := (h'.bw rNodes_good Bb).bw rNodes_good ((Bw.refl wb).alloc (.cells #[] 3))
  have cb1 := ((Bw.refl wb).alloc (.cells #[] 3)).cell cb
  have kc := I_areBoth _ l e _ _ hrl hre
  rw [hB] at kc
  have kw := fun W => I_within W (win : Int) 1 16
  rw [show inB (win : Int) 1 16 = true from inB_iff.2 (by omega)] at kw
  have hv0 : fInts (wb.alloc (.cells #[] 3)) [] [.slice (some ⟨wb.heap.size, 0, none⟩) 0 0] [wb.heap.size] := fSl_empty wb
  have HBI := Lib.hid (BInv.start e hI)
  have HLI := Lib.hid hlI
  have HI := Lib.hid hI
  have HE := Lib.hid hE
  have HLOW := Lib.hid hlow
  have HNOD := Lib.hid hnod
  have HBE := Lib.hid (show bestItems l e = bestM l e by unfold bestItems; rw [if_pos hB])
  have HZB := Lib.hid hzb
  have HBS := Lib.hid hBs
  have HWB := Lib.hid hwb
  have L0 := Lib.hid l0
  have CB := Lib.hid cb
  clear h h' hB hrl hre hlow hnod hlI hI hE hzb l0 le cb hwb hBs
  go_enter Tryz.func34, Tryz.ntmps34
  go_wp2_with fail
  rw [← HWB.out, ← HBS.out]
  refine kc.mono ?_
  rintro e1 w1 ⟨rfl, hb1⟩
  clear kc
  have kw1 := kw w1
  go_wp2_with fail
  refine kw1.mono ?_
  rintro e1 w2 ⟨rfl, hb2⟩
  clear kw1 kw
  have hb02 := hb1.then hb2
  have Bb2 : Bw wb w2 := ((Bw.refl wb).alloc (.cells #[] 3)).then hb02
  have hv2 := keepBw hb02 fInts_good hv0
  rw [HZB.out] at hv2
  go_wp2
  go_loopg [8, 9, 10] (n0 + 1) (fun gg ov qv lv w' => ∃ (O L : List GItem) (q : Nat) (Fo : List Nat) (A : Option Addr) (n c g0 m c1 : Nat), gg = n + 1 ∧ ov = .slice (some ⟨g0, 0, none⟩) m c1 ∧ qv = .int .i64 q ∧ lv = .slice A n c ∧ Hid (n = L.length) ∧ Hid (q + n ≤ l.length) ∧ Hid (BInv l e O L) ∧ LowL B w' L A ∧ fInts w' (O.map (·.id)) [ov] Fo ∧ Fresh wb.heap.size Fo ∧ Bw wb w')
  case atStart => exact ⟨[], l, 0, _, A0, n0, c0, B + 1, 0, 0, rfl, rfl, rfl, rfl, L0, Lib.hid (by have := L0.out; omega), HBI, (HLOW.out.bw Bb (by have := HBS.out; omega)).bw Bb2 (by have := HZB.out; omega), hv2, ⟨by simp, by have := HZB.out; simp; omega⟩, Bb2⟩
  case round =>
    clear hv2 hb02 hb1 hb2 Bb2 cb1 hv0
    obtain ⟨wo, hwo⟩ : ∃ X, X = wr := ⟨_, rfl⟩
    subst hwo
    obtain ⟨O, L, q, Fo, A, n, c, g0, m, c1, rfl, rfl, rfl, rfl, HN, HQ, HBV, hlow, hov, hFo, hBr⟩ := hrel
    have hLI : ∀ x ∈ L, isItem x = true := fun x hx => HLI.out x (HBV.out.sub x hx)
    have hLN : L.Nodup := (List.nodup_append.1 HBV.out.nd).2.1
    have hBsz : B ≤ wo.heap.size := by have := HZB.out; have := hBr.size; omega
    have hn16 : n ≤ 16 := by have := HQ.out; omega
    have hO16 : O.length ≤ 16 := by have := HBV.out.len; omega
    have hq16 : q ≤ 16 := by have := HQ.out; omega
    have HLI2 := Lib.hid hLI
    have HLN := Lib.hid hLN
    clear hLI hLN
    by_cases hn : 0 < n
    · have i1 : (0 : Int) < (n : Int) := by omega
      have hA1 := (Bw.refl wo).alloc (.cells #[] 116)
      have hA2 := hA1.alloc (.cells #[] 30)
      have hi0 : fHelds B (wo.alloc (.cells #[] 116)) [] [.slice (some ⟨wo.heap.size, 0, none⟩) 0 0] [wo.heap.size] := fSl_empty (e := 116) (sz := 3) (R := fSh B rHeld) wo
      have hi1 := helds_bw hi0 (Nat.le_trans hBsz hA1.size) ((Bw.refl _).alloc (.cells #[] 30))
      have ha0 : fItemsSh B ((wo.alloc (.cells #[] 116)).alloc (.cells #[] 30)) [] [.slice (some ⟨(wo.alloc (.cells #[] 116)).heap.size, 0, none⟩) 0 0] [(wo.alloc (.cells #[] 116)).heap.size] := fSl_empty (e := 30) (sz := 2) (R := fSh B rItem) _
      rw [show (wo.alloc (.cells #[] 116)).heap.size = wo.heap.size + 1 from by simp] at ha0
      go_wp2
      go_loopg [11, 12, 38] (n + 1) (fun gg iv av kv w' => ∃ (k : Nat) (W : List GHeld) (A' : List GItem) (g1 n1 c1 : Nat) (F2 : List Nat), k ≤ n ∧ gg = n + 1 - k ∧ kv = .int .i64 k ∧ iv = .slice (some ⟨g1, 0, none⟩) n1 c1 ∧ Hid (passB e win L k = (W, A')) ∧ fHelds B w' W [iv] [g1] ∧ fItemsSh B w' A' [av] F2 ∧ wo.heap.size ≤ g1 ∧ Fresh wo.heap.size F2 ∧ g1 ∉ F2 ∧ Bw wo w')
      case atStart => exact ⟨0, [], [], wo.heap.size, 0, 0, [wo.heap.size + 1], by omega, by omega, rfl, rfl, Lib.hid rfl, hi1, ha0, Nat.le_refl _, ⟨by simp, by simp⟩, by simp, hA2⟩
      case round =>
        clear hi0 hi1 ha0 hA1 hA2
        obtain ⟨k, W, A', g1, n1, c2, F2, hk, rfl, rfl, rfl, HP, hin, has, hg1, hF2, hgF, hBw⟩ := hrel
        have hpi := passB_inv (win := win) HE.out HLI2.out HLN.out hw1 k (by rw [← HN.out]; exact hk)
        rw [HP.out] at hpi
        have HPI := Lib.hid hpi
        have hWi := passB_mem hpi HLI2.out
        have hA16 : A'.length ≤ 16 := by
          rcases hpi.cnt with h0 | h0
          · have : A' = [] := List.eq_nil_iff_forall_not_mem.2 (fun a ha => by have := hpi.subA a ha; rw [h0] at this; cases this)
            rw [this]; exact Nat.zero_le _
          · have := h0; rw [List.length_take] at this; have := HN.out; dsimp only at *; omega
        have hW16 : W.length ≤ 16 := by
          have h1 := hpi.nd.length_le_of_subset (l₂ := L.take k) (fun y hy => by
            rcases List.mem_append.1 hy with hy | hy
            · exact hpi.subA y hy
            · obtain ⟨h, h1, rfl⟩ := List.mem_map.1 hy
              exact hpi.subW h h1)
          rw [List.length_append, List.length_map, List.length_take] at h1
          have := HN.out
          dsimp only at h1 ⊢
          omega
        have HWI := Lib.hid hWi
        have hs2 := hBw.size
        have hB2 : B ≤ wr.heap.size := by omega
        have hBg : B ≤ g1 := by omega
        clear hpi hWi
        obtain ⟨Aa, na, ca, rfl⟩ := sh_shape has
        have HNA := Lib.hid (sh_len has).1
        by_cases hlt : k < n
        · have i2 : (k : Int) < (n : Int) := by omega
          have i3 : (0 : Int) ≤ (k : Int) := by omega
          obtain ⟨x, hx⟩ := get_of_lt (xs := L) (k := k) (by rw [← HN.out]; exact hlt)
          obtain ⟨ba, oa, Ax, mx, cx, eA, cx0, cx1, hxv⟩ := hlow k x hx
          subst eA
          replace cx0 := hBw.cell cx0
          replace cx1 := hBw.cell cx1
          replace hxv := low_vals hxv hBw hBsz
          have hxi := HLI2.out x (List.mem_of_getElem? hx)
          have hst := passB_succ (e := e) (win := win) hx
          rw [HP.out] at hst
          have HST := Lib.hid hst
          have hA3 := (Bw.refl wr).alloc (.cells #[.int .i64 x.id, .slice Ax mx cx] 30)
          have glt := (fHelds_good (Nat.le_refl B)).lt hin g1 (by simp)
          have cbW := ((hBr.then hBw).then hA3).cell CB.out
          have d0 : (wr.alloc (.cells #[.int .i64 x.id, .slice Ax mx cx] 30)).cell? ⟨wr.heap.size, 0, none⟩ = some (.int .i64 x.id) := by go_simp
          have d1 : (wr.alloc (.cells #[.int .i64 x.id, .slice Ax mx cx] 30)).cell? ⟨wr.heap.size, 1, none⟩ = some (.slice Ax mx cx) := by go_simp
          have hE3 : EnvC (wr.alloc (.cells #[.int .i64 x.id, .slice Ax mx cx] 30)) B g1 B wr.heap.size e x :=
            ⟨⟨Ae, ne, ce, cbW, rNodes_good.step ⟨fun _ hb => hb, fun q hq => Below.cell (((Bb.then hBr).then hBw).then hA3) (by have : q.block < B := hq; have := HBS.out; omega)⟩ HNOD.out⟩, ⟨Ax, mx, cx, d0, d1, low_vals hxv hA3 hB2⟩, by have := HZB.out; have := hBr.size; omega, by omega, hBg, Nat.le_trans hB2 hA3.size⟩
          have hin3 := helds_bw hin hB2 hA3
          have hcall := held_contains _ B W (some ⟨g1, 0, none⟩) n1 c2 [g1] B wr.heap.size e x hin3 (Nat.le_trans hB2 hA3.size) hE3.env HE.out hxi HWI.out
          clear hst hx
          cases hany : W.any (fun h => beats e h.item x) with
          | true =>
            rw [hany] at hcall
            have HN2 := Lib.hid (HST.out.trans (stepB_any hany))
            clear hany
            go_wp2_with fail
            refine hcall.mono ?_
            rintro e1 w4 ⟨rfl, hb4⟩
            clear hcall
            have hb24 := hA3.then hb4
            go_wp2
            go_roundg (n + 1 - (k + 1))
            case measure => omega
            case rel => exact ⟨k + 1, W, A', g1, n1, c2, F2, by omega, rfl, by go_num, rfl, HN2, helds_bw hin hB2 hb24, (sh_good hB2).bw hb24 (Nat.le_refl _) has, hg1, hF2, hgF, hBw.then hb24⟩
          | false =>
            rw [hany] at hcall
            have HANY := Lib.hid hany
            clear hany
            go_wp2_with fail
            refine hcall.mono ?_
            rintro e1 w4 ⟨rfl, hb4⟩
            clear hcall
            have hb24 := hA3.then hb4
            have hin4 := helds_bw hin hB2 hb24
            have has4 := (sh_good hB2).bw hb24 (Nat.le_refl _) has
            have hcall := held_delete w4 B W g1 n1 c2 [g1] B wr.heap.size e x hin4 (hE3.bw hb4) HE.out hxi HWI.out
            replace d0 := hb4.cell d0
            replace d1 := hb4.cell d1
            clear hin has hin3 hin4
            go_wp2_with fail
            refine hcall.mono ?_
            rintro e1 w5 ⟨n5, rfl, hdel, hO5, hK5⟩
            clear hcall
            have hB4 : B ≤ w4.heap.size := Nat.le_trans hB2 hb24.size
            have hn2 : wr.heap.size ≠ g1 := by omega
            replace d0 := hO5.cell d0 (by simpa using hn2)
            replace d1 := hO5.cell d1 (by simpa using hn2)
            have has5 := hO5.keepsB' (sh_good (Nat.le_refl B)) hB4 (by simpa using hBg) has4 (fun b hb hh => by simp at hh; exact hgF (hh ▸ hb))
            have hBw5 := hK5 wo (hBw.then hb24) hg1
            have hxv5 := low_vals_only (low_vals hxv hb24 hB2) hO5 hB4 hBg
            have hB5 : B ≤ w5.heap.size := Nat.le_trans hB4 hO5.1
            have hn5 := (helds_len hdel).1
            have glt5 := (fHelds_good (Nat.le_refl B)).lt hdel g1 (by simp)
            have ltF2 := (sh_good (Nat.le_refl B)).lt has5
            have hI16 : (W.filter fun h => !beats e x h.item).length ≤ 16 := Nat.le_trans (List.length_filter_le _ _) hW16
            obtain ⟨I, hI5⟩ : ∃ I, I = W.filter fun h => !beats e x h.item := ⟨_, rfl⟩
            rw [← hI5] at hdel hn5 hI16
            have HI5 := Lib.hid hI5
            have HN5 := Lib.hid hn5
            clear has4 hO5 hK5 hI5 hn5 hE3 cx0 cx1 cbW
            by_cases hw : n5 < win
            · have i4 : (n5 : Int) < (win : Int) := by omega
              obtain ⟨b, hb⟩ : ∃ b, b = decide (A'.length = 0) := ⟨_, rfl⟩
              have eb : ((na : Int) == 0) = b := by rw [hb, HNA.out, Bool.eq_iff_iff]; simp
              have HN2 := Lib.hid (show passB e win L (k + 1) = (I ++ [⟨x, b⟩], A') by rw [HST.out, stepB_in HANY.out (by rw [← HI5.out, ← HN5.out]; exact hw), ← HI5.out, ← hb])
              have hA6 := (Bw.refl w5).alloc (.cells #[.int .i64 x.id, .slice Ax mx cx, .bool b] 116)
              have hdel6 := helds_bw hdel hB5 hA6
              have has6 := (sh_good hB5).bw hA6 (Nat.le_refl _) has5
              have hsh : fSh B rHeld (w5.alloc (.cells #[.int .i64 x.id, .slice Ax mx cx, .bool b] 116)) ⟨x, b⟩ [.int .i64 x.id, .slice Ax mx cx, .bool b] [] := shHeld ⟨_, rfl, low_vals hxv5 hA6 hB5⟩
              have hcl : ∀ j t, [Value.int .i64 x.id, .slice Ax mx cx, .bool b][j]? = some t → (w5.alloc (.cells #[.int .i64 x.id, .slice Ax mx cx, .bool b] 116)).cell? ((⟨w5.heap.size, 0, none⟩ : Addr).add j) = some t := World.news_of_block (cs := #[.int .i64 x.id, .slice Ax mx cx, .bool b]) (t := 116) (fr := (0, 0)) (heap_alloc_new w5 _)
              have hBw6 := hBw5.then hA6
              have hlg : ∀ q ∈ [g1], q < w5.heap.size := by simpa using glt5
              clear hdel has5 hb hxv hxv5
              go_wp2_with (at_builtin; refine wpList_push2 _ rfl (.tmp 52) (.tmp 58) 113 rfl wo 116 m0 _ 3 40 Tryz.underlying113 mi mz0 mz1 mz2 rfl (by omega) (fSh_good rHeld_good hBsz) _ I [g1] rfl hdel6 ⟨by simp, by simpa using hg1⟩ ⟨w5.heap.size, 0, none⟩ 1 rfl ⟨x, b⟩ [.int .i64 x.id, .slice Ax mx cx, .bool b] [] hcl hsh rfl w5.heap.size hlg Fresh.nil hBw5.size (by omega) (by omega) hBw6 ?_; intro v7 w7 F7 hv7 hF7 hb7 hO7 hs7; obtain ⟨g7, n7, c7, rfl, l7, _⟩ := fSl_lit' hv7 (by simp))
              have hF77 := helds_F hv7
              simp [Value.ownBlock] at hF77
              subst hF77
              have has7 := hO7.keepsB' (sh_good (Nat.le_refl B)) (Nat.le_trans hB5 hA6.size) (by simpa using hBg) has6 (fun q hq hh => by simp at hh; exact hgF (hh ▸ hq))
              have hg7 : wo.heap.size ≤ g7 := hF7.ge g7 (by simp)
              have hgF7 : g7 ∉ F2 := fun hh => by
                rcases hs7 g7 (by simp) with h1 | h1 | h1
                · simp at h1; exact hgF (h1 ▸ hh)
                · cases h1
                · have := ltF2 g7 hh; have := hA6.size; simp at this h1; omega
              go_roundg (n + 1 - (k + 1))
              case measure => omega
              case rel => exact ⟨k + 1, _, A', g7, n7, c7, F2, by omega, rfl, by go_num, rfl, HN2, hv7, has7, hg7, hF2, hgF7, hb7⟩
            · have i4 : ¬ (n5 : Int) < (win : Int) := by omega
              have HN2 := Lib.hid (show passB e win L (k + 1) = (I, A' ++ [x]) by rw [HST.out, stepB_out HANY.out (by rw [← HI5.out, ← HN5.out]; exact hw), ← HI5.out])
              have hA6 := (Bw.refl w5).alloc (.cells #[.int .i64 x.id, .slice Ax mx cx] 30)
              have hdel6 := helds_bw hdel hB5 hA6
              have has6 := (sh_good hB5).bw hA6 (Nat.le_refl _) has5
              have hsh := sh_one (low_vals hxv5 hA6 hB5)
              have hcl : ∀ j t, [Value.int .i64 x.id, .slice Ax mx cx][j]? = some t → (w5.alloc (.cells #[.int .i64 x.id, .slice Ax mx cx] 30)).cell? ((⟨w5.heap.size, 0, none⟩ : Addr).add j) = some t := World.news_of_block (cs := #[.int .i64 x.id, .slice Ax mx cx]) (t := 30) (fr := (0, 0)) (heap_alloc_new w5 _)
              have hBw6 := hBw5.then hA6
              clear hdel has5 hxv hxv5
              go_wp2_with (at_builtin; refine wpList_push2 _ rfl (.tmp 60) (.tmp 62) 24 rfl wo 30 j0 _ 2 32 Tryz.underlying24 ji jz0 jz1 jz2 rfl (by omega) (fSh_good rItem_good hBsz) _ A' F2 rfl has6 hF2 ⟨w5.heap.size, 0, none⟩ 1 rfl x [.int .i64 x.id, .slice Ax mx cx] [] hcl hsh rfl w5.heap.size ltF2 Fresh.nil hBw5.size (by omega) (by omega) hBw6 ?_; intro v7 w7 F7 hv7 hF7 hb7 hO7 hs7)
              have hdel7 := hO7.keepsB' (fHelds_good (Nat.le_refl B)) (Nat.le_trans hB5 hA6.size) (fun q hq => by have := hF2.ge q hq; omega) hdel6 (fun q hq hh => by simp at hq; exact hgF (hq ▸ hh))
              have hgF7 : g1 ∉ F7 := fun hh => by
                rcases hs7 g1 hh with h1 | h1 | h1
                · exact hgF h1
                · cases h1
                · have := hA6.size; simp at this h1; omega
              go_roundg (n + 1 - (k + 1))
              case measure => omega
              case rel => exact ⟨k + 1, I, _, g1, n5, c2, F7, by omega, rfl, by go_num, rfl, HN2, hdel7, hv7, hg1, hF7, hgF7, hb7⟩
        · have i2 : ¬ (k : Int) < (n : Int) := by omega
          have hkn : k = n := by omega
          have hpe : PInv e L W A' := by
            have h1 := HPI.out
            rw [List.take_of_length_le (by rw [← HN.out]; omega)] at h1
            exact h1
          have HNX := Lib.hid (HBV.out.next HE.out HI.out hpe)
          have HLS := Lib.hid (hpe.less (by rw [← HN.out]; exact hn))
          have hov1 := keepBw hBw fInts_good hov
          have ltO := (fInts_good (B := 0)).lt hov
          have ltF := (sh_good (Nat.le_refl B)).lt has
          have hBb := hBr.then hBw
          have hzo := hBr.size
          have hn1 := (helds_len hin)
          have hn1' : n1 ≤ c2 ∧ c2 ≤ maxLen := hn1.2
          unfold maxLen at hn1'
          have HN1 := Lib.hid hn1.1
          have hd0 : ∀ q ∈ Fo, q ∉ F2 ∧ q ≠ g1 := fun q hq => ⟨fun hh => by have := ltO q hq; have := hF2.ge q hh; omega, fun e => by have := ltO q hq; omega⟩
          have hBb1 : B ≤ wb.heap.size := by have := HZB.out; omega
          have hgb : wb.heap.size ≤ g1 := by omega
          have hOE : O ++ earlyB [] = O := List.append_nil O
          have hov2 : fInts wr ((O ++ earlyB (W.take 0)).map (·.id)) [.slice (some ⟨g0, 0, none⟩) m c1] Fo := by rw [List.take_zero, hOE]; exact hov1
          have has2 : fItemsSh B wr (A' ++ lateB (W.take 0)) [.slice Aa na ca] F2 := by rw [List.take_zero, show A' ++ lateB [] = A' from List.append_nil A']; exact has
          clear hpe hkn hn1 hOE hov1 has hov hlow
          go_wp2
          go_loopg [8, 12, 67] (n1 + 1) (fun gg ov av kv w' => ∃ (j : Nat) (Fo' F2' : List Nat) (g' m' c' : Nat), j ≤ n1 ∧ gg = n1 + 1 - j ∧ kv = .int .i64 j ∧ ov = .slice (some ⟨g', 0, none⟩) m' c' ∧ fInts w' ((O ++ earlyB (W.take j)).map (·.id)) [ov] Fo' ∧ fItemsSh B w' (A' ++ lateB (W.take j)) [av] F2' ∧ fHelds B w' W [.slice (some ⟨g1, 0, none⟩) n1 c2] [g1] ∧ Fresh wb.heap.size Fo' ∧ Fresh wb.heap.size F2' ∧ (∀ q ∈ Fo', q ∉ F2' ∧ q ≠ g1) ∧ g1 ∉ F2' ∧ Bw wb w')
          case atStart => exact ⟨0, Fo, F2, g0, m, c1, by omega, by omega, rfl, rfl, hov2, has2, hin, hFo, hF2.mono hzo, hd0, hgF, hBb⟩
          case round =>
            clear hov2 has2 hin hd0 hgF hBb hBw ltO ltF
            obtain ⟨j, Fo', F2', g', m', c', hj, rfl, rfl, rfl, ho, ha, hi', fO, fA, hdis, hgA, hBj⟩ := hrel
            obtain ⟨Av, nv, cv, rfl⟩ := sh_shape ha
            have hBw2 : B ≤ wr.heap.size := by have := hBj.size; omega
            have lO : (O ++ earlyB (W.take j)).length ≤ 32 := by
              rw [List.length_append]
              have : (earlyB (W.take j)).length ≤ W.length := by unfold earlyB; rw [List.length_map]; exact Nat.le_trans (List.length_filter_le _ _) (by rw [List.length_take]; omega)
              omega
            have lA : (A' ++ lateB (W.take j)).length ≤ 32 := by
              rw [List.length_append]
              have : (lateB (W.take j)).length ≤ W.length := by unfold lateB; rw [List.length_map]; exact Nat.le_trans (List.length_filter_le _ _) (by rw [List.length_take]; omega)
              omega
            have lOm : ((O ++ earlyB (W.take j)).map (·.id)).length ≤ 32 := by rw [List.length_map]; exact lO
            have HLO := Lib.hid lOm
            have HLA := Lib.hid lA
            have ltO := (fInts_good (B := 0)).lt ho
            have ltA := (sh_good (Nat.le_refl B)).lt ha
            have glt := (fHelds_good (Nat.le_refl B)).lt hi' g1 (by simp)
            clear lO lA lOm
            by_cases hjl : j < n1
            · have i5 : (j : Int) < (n1 : Int) := by omega
              have i6 : (0 : Int) ≤ (j : Int) := by omega
              obtain ⟨x, hx⟩ := get_of_lt (xs := W) (k := j) (by rw [← HN1.out]; exact hjl)
              obtain ⟨ba, oa, Ax, cx, eA, cx0, cx1, cx2, hxv⟩ := fHelds_at hi' hx
              injection eA with eA
              injection eA with eA eO
              subst eA eO
              obtain ⟨mx, hmx⟩ : ∃ mx, mx = x.item.vals.length := ⟨_, rfl⟩
              rw [← hmx] at cx1 hxv
              rw [Nat.zero_add] at cx0 cx1 cx2
              have hA3 := (Bw.refl wr).alloc (.cells #[.int .i64 x.item.id, .slice Ax mx cx, .bool x.early] 116)
              clear hmx
              cases hea : x.early with
              | true =>
                have HS := Lib.hid (early_take hx hea)
                rw [hea] at cx2 hA3
                have hA4 := hA3.alloc (.cells #[.int .i64 x.item.id] 3)
                have hz3 : (wr.alloc (.cells #[.int .i64 x.item.id, .slice Ax mx cx, .bool true] 116)).heap.size = wr.heap.size + 1 := by simp
                have ho4 := keepBw hA4 fInts_good ho
                have ha4 := (sh_good hBw2).bw hA4 (Nat.le_refl _) ha
                have hi4 := helds_bw hi' hBw2 hA4
                have hcl := cell_one_new (wr.alloc (.cells #[.int .i64 x.item.id, .slice Ax mx cx, .bool true] 116)) (.int .i64 x.item.id) 3
                rw [hz3] at hcl
                have hB4 := hBj.then hA4
                have hsz4 := hA4.size
                have HZ4 := Lib.hid (show ((wr.alloc (.cells #[.int .i64 x.item.id, .slice Ax mx cx, .bool true] 116)).alloc (.cells #[.int .i64 x.item.id] 3)).heap.size = wr.heap.size + 2 by simp)
                clear hx hea hz3 ho ha hi'
                go_wp2_with (at_builtin; refine wpList_push2 _ rfl (.tmp 73) (.tmp 77) 26 rfl wb 3 i0 _ 1 8 Tryz.underlying26 hi hz0 hz1 hz2 rfl (by omega) fInt_good _ _ Fo' rfl ho4 fO ⟨wr.heap.size + 1, 0, none⟩ 1 rfl x.item.id [.int .i64 x.item.id] [] hcl ⟨rfl, rfl⟩ rfl wr.heap.size ltO Fresh.nil hBj.size (by have := HLO.out; omega) (by have := HLO.out; omega) hB4 ?_; intro v7 w7 F7 hv7 hF7 hb7 hO7 hs7; obtain ⟨g7, n7, c7, rfl, l7, _⟩ := fSl_lit' hv7 (by rw [List.length_append]; exact Nat.succ_pos _))
                have ha7 := hO7.keepsB' (sh_good hBb1) hB4.size (fun q hq => fO.ge q hq) ha4 (fun q hq hh => (hdis q hh).1 hq)
                have hi7 := hO7.keepsB' (fHelds_good hBb1) hB4.size (fun q hq => fO.ge q hq) hi4 (fun q hq hh => by simp at hq; exact (hdis q hh).2 hq)
                have hd7 : ∀ q ∈ F7, q ∉ F2' ∧ q ≠ g1 := fun q hq => by
                  rcases hs7 q hq with h1 | h1 | h1
                  · exact hdis q h1
                  · cases h1
                  · have h2 := HZ4.out
                    exact ⟨fun hh => by have := ltA q hh; omega, fun e => by omega⟩
                have ho7 : fInts w7 ((O ++ earlyB (W.take (j + 1))).map (·.id)) [.slice (some ⟨g7, 0, none⟩) n7 c7] F7 := by
                  rw [HS.out.1, ← List.append_assoc, List.map_append]; exact hv7
                have ha8 : fItemsSh B w7 (A' ++ lateB (W.take (j + 1))) [.slice Av nv cv] F2' := by rw [HS.out.2]; exact ha7
                go_roundg (n1 + 1 - (j + 1))
                case measure => omega
                case rel => exact ⟨j + 1, F7, F2', g7, n7, c7, by omega, rfl, by go_num, rfl, ho7, ha8, hi7, hF7, fA, hd7, hgA, hb7⟩
              | false =>
                have HS := Lib.hid (late_take hx hea)
                rw [hea] at cx2 hA3
                have hA4 := hA3.alloc (.cells #[.int .i64 x.item.id, .slice Ax mx cx] 30)
                have ho4 := keepBw hA4 fInts_good ho
                have ha4 := (sh_good hBw2).bw hA4 (Nat.le_refl _) ha
                have hi4 := helds_bw hi' hBw2 hA4
                have hcl : ∀ j t, [Value.int .i64 x.item.id, .slice Ax mx cx][j]? = some t → ((wr.alloc (.cells #[.int .i64 x.item.id, .slice Ax mx cx, .bool false] 116)).alloc (.cells #[.int .i64 x.item.id, .slice Ax mx cx] 30)).cell? ((⟨wr.heap.size + 1, 0, none⟩ : Addr).add j) = some t := by
                  have := World.news_of_block (cs := #[.int .i64 x.item.id, .slice Ax mx cx]) (t := 30) (fr := (0, 0)) (heap_alloc_new (wr.alloc (.cells #[.int .i64 x.item.id, .slice Ax mx cx, .bool false] 116)) (.cells #[.int .i64 x.item.id, .slice Ax mx cx] 30))
                  rw [show (wr.alloc (.cells #[.int .i64 x.item.id, .slice Ax mx cx, .bool false] 116)).heap.size = wr.heap.size + 1 by simp] at this
                  exact this
                have hsh := sh_one (low_vals hxv hA4 hBw2)
                have hB4 := hBj.then hA4
                have HZ4 := Lib.hid (show ((wr.alloc (.cells #[.int .i64 x.item.id, .slice Ax mx cx, .bool false] 116)).alloc (.cells #[.int .i64 x.item.id, .slice Ax mx cx] 30)).heap.size = wr.heap.size + 2 by simp)
                clear hx hea ho ha hi'
                go_wp2_with (at_builtin; refine wpList_push2 _ rfl (.tmp 79) (.tmp 82) 24 rfl wb 30 j0 _ 2 32 Tryz.underlying24 ji jz0 jz1 jz2 rfl (by omega) (fSh_good rItem_good hBb1) _ _ F2' rfl ha4 fA ⟨wr.heap.size + 1, 0, none⟩ 1 rfl x.item [.int .i64 x.item.id, .slice Ax mx cx] [] hcl hsh rfl wr.heap.size ltA Fresh.nil hBj.size (by have := HLA.out; omega) (by have := HLA.out; omega) hB4 ?_; intro v7 w7 F7 hv7 hF7 hb7 hO7 hs7)
                have ho7 := hO7.keeps fInts_good ho4 (fun q hq hh => (hdis q hq).1 hh)
                have hi7 := hO7.keepsB' (fHelds_good hBb1) hB4.size (fun q hq => fA.ge q hq) hi4 (fun q hq hh => by simp at hq; exact hgA (hq ▸ hh))
                have hd7 : ∀ q ∈ Fo', q ∉ F7 ∧ q ≠ g1 := fun q hq => by
                  refine ⟨fun hh => ?_, (hdis q hq).2⟩
                  rcases hs7 q hh with h1 | h1 | h1
                  · exact (hdis q hq).1 h1
                  · cases h1
                  · have h2 := HZ4.out
                    have := ltO q hq; omega
                have hg7 : g1 ∉ F7 := fun hh => by
                  rcases hs7 g1 hh with h1 | h1 | h1
                  · exact hgA h1
                  · cases h1
                  · have h2 := HZ4.out; omega
                have ho8 : fInts w7 ((O ++ earlyB (W.take (j + 1))).map (·.id)) [.slice (some ⟨g', 0, none⟩) m' c'] Fo' := by rw [HS.out.1]; exact ho7
                have ha8 : fItemsSh B w7 (A' ++ lateB (W.take (j + 1))) [v7] F7 := by rw [HS.out.2, ← List.append_assoc]; exact hv7
                go_roundg (n1 + 1 - (j + 1))
                case measure => omega
                case rel => exact ⟨j + 1, Fo', F7, g', m', c', by omega, rfl, by go_num, rfl, ho8, ha8, hi7, fO, hF7, hd7, hg7, hb7⟩
            · have i5 : ¬ (j : Int) < (n1 : Int) := by omega
              have hjn : W.take j = W := List.take_of_length_le (by rw [← HN1.out]; omega)
              rw [hjn] at ho ha
              have hnv := (sh_len ha).1
              have hless := HLS.out
              rw [← hnv, ← HN.out] at hless
              have HNV := Lib.hid hnv
              have HQ2 := Lib.hid (show q + 1 + nv ≤ l.length by have := HQ.out; omega)
              have hlow2 := LowL.of_sh ha
              clear hjn hnv
              go_wp2
              go_roundg (nv + 1)
              case measure => omega
              case rel => exact ⟨_, _, q + 1, Fo', Av, nv, cv, g', m', c', rfl, rfl, by go_num, rfl, HNV, HQ2, HNX, hlow2, ho, fO, hBj⟩
    · have hn0 : n = 0 := by omega
      have i1 : ¬ (0 : Int) < (n : Int) := by omega
      have hL0 : L = [] := List.eq_nil_of_length_eq_zero (by rw [← HN.out]; exact hn0)
      have hsrt := HBV.out
      rw [hL0] at hsrt
      have hdone := hsrt.done HI.out
      have hml : m = (O.map (·.id)).length := by
        obtain ⟨A9, n9, c9, e9, l9, _⟩ := rSl_open (fInts_Rd hov)
        injection e9 with _ e9 _
        rw [e9, l9]
      have hcall := I_Sort wo (O.map (·.id)) g0 c1 Fo (by rw [← hml]; exact hov) (by rw [List.length_map]; omega)
      rw [← hml] at hcall
      obtain ⟨Z, hZ⟩ : ∃ Z, Z = sortI (O.map (·.id)) := ⟨_, rfl⟩
      have HZ := Lib.hid (show Z = bestItems l e by rw [hZ, hdone, HBE.out])
      unfold RetSort at hcall
      rw [← hZ] at hcall
      have hFw : ∀ b ∈ Fo, wb.heap.size ≤ b := hFo.ge
      clear hsrt hdone hml hZ hov hlow
      go_wp2_with fail
      refine hcall.mono ?_
      rintro e1 w9 ⟨rfl, ho9, hO9, hK9⟩
      clear hcall
      have hB9 := hK9 wb hBr hFw
      have hrd := fInts_Rd ho9
      rw [HZ.out] at hrd
      go_wp2
      refine bodyPost_ret (v := .tuple #[.slice (some ⟨g0, 0, none⟩) m c1, .int .i64 q]) (by simp [results, Tryz.results34, go_sem]) rfl ?_
      exact ⟨_, _, rfl, hrd, Bb.then hB9⟩
end Go.Proofs.YtpihighajaeabaaGreat
