/- Best items of two parts, merged, in the program: the walk of merged. -/
import Derived.Test.YtpihighajaeabaaGreatQMergI
import Derived.Test.YtpihighajaeabaaGreatQDelM
import Derived.Test.YtpihighajaeabaaGreatQRuleR
import Derived.Test.YtpihighajaeabaaGreatQOwn3
namespace Go.Proofs.YtpihighajaeabaaGreat
open Go.RowKit
set_option linter.unusedVariables false
set_option linter.unusedSimpArgs false
theorem cell_away {W : World} {b c o k : Nat} {x u : Value} (h : b ≠ c) (hc : W.cell? ⟨b, k, none⟩ = some x) : (W.setCell ⟨c, o, none⟩ u).cell? ⟨b, k, none⟩ = some x := (World.cell?_of_block (Below.heap_setCell _ _ _ _ h)).trans hc
def outS (l : List GItem) (e : List GNode) (a b : List Int) : Nat → List Int
  | 0 => []
  | 1 => keptBy l e a b
  | _ => keptBy l e a b ++ keptBy l e b a
set_option maxRecDepth 100000 in
set_option maxHeartbeats 12800000 in
theorem I_merged (w : World) (l : List GItem) (e : List GNode) (a b : List Int) (v u va vb : Value) (h : Rd rItems w l [v]) (h' : Rd rNodes w e [u]) (ha : Rd rInts w a [va]) (hb : Rd rInts w b [vb]) (hI : areItems l = true) (hE : isExpr e = true) (ia : idsIn l a) (ib : idsIn l b) (la : a.length ≤ 16) (lb : b.length ≤ 16) :
    Calls Tryz.prog 118 #[v, u, va, vb] w (RetV w (Made fInts w.heap.size (mergeM l e a b))) := by
  obtain ⟨i0, hi, hz0, hz1, hz2⟩ := info_parts info_int
  obtain ⟨Al, nl, cl, rfl, ll, lc, lm⟩ := rSl_open h
  obtain ⟨Ae, ne, ce, rfl, le, _⟩ := rSl_open h'
  obtain ⟨Aa, na, ca, rfl, lna, lca, lma⟩ := rSl_open ha
  obtain ⟨Ab, nb, cb, rfl, lnb, lcb, lmb⟩ := rSl_open hb
  unfold maxLen at lm lma lmb
  have LL := Lib.hid ll
  have LA := Lib.hid lna
  have LB := Lib.hid lnb
  obtain ⟨w1, hw1⟩ : ∃ X, X = w.alloc (.cells #[.slice Al nl cl] 24) := ⟨_, rfl⟩
  obtain ⟨wb, hwb⟩ : ∃ wb, wb = (w.alloc (.cells #[.slice Al nl cl] 24)).alloc (.cells #[.slice Ae ne ce] 25) := ⟨_, rfl⟩
  obtain ⟨B, hBs⟩ : ∃ B, B = w.heap.size := ⟨_, rfl⟩
  have Bb : Bw w wb := by rw [hwb]; exact ((Bw.refl w).alloc _).alloc _
  have hzb : wb.heap.size = B + 2 := by rw [hwb, hBs]; simp
  have cb0 : wb.cell? ⟨B, 0, none⟩ = some (.slice Al nl cl) := by rw [hwb, hBs]; go_simp
  have cb1 : wb.cell? ⟨B + 1, 0, none⟩ = some (.slice Ae ne ce) := by rw [hwb, hBs]; go_simp
  have hv0 : fInts (wb.alloc (.cells #[] 3)) [] [.slice (some ⟨wb.heap.size, 0, none⟩) 0 0] [wb.heap.size] := fSl_empty wb
  have hA2 := (Bw.refl (wb.alloc (.cells #[] 3))).alloc (.cells #[.slice Aa na ca, .slice Ab nb cb, .slice Ab nb cb, .slice Aa na ca] 168)
  have hv1 := keepBw hA2 fInts_good hv0
  have HB2 := Lib.hid (((Bw.refl wb).alloc (.cells #[] 3)).then hA2)
  have hz1' : (wb.alloc (.cells #[] 3)).heap.size = B + 3 := by simp [hzb]
  have q0 : ((wb.alloc (.cells #[] 3)).alloc (.cells #[.slice Aa na ca, .slice Ab nb cb, .slice Ab nb cb, .slice Aa na ca] 168)).cell? ⟨B + 3, 0, none⟩ = some (.slice Aa na ca) := by rw [← hz1']; go_simp
  have q1 : ((wb.alloc (.cells #[] 3)).alloc (.cells #[.slice Aa na ca, .slice Ab nb cb, .slice Ab nb cb, .slice Aa na ca] 168)).cell? ⟨B + 3, 1, none⟩ = some (.slice Ab nb cb) := by rw [← hz1']; go_simp
  have q2 : ((wb.alloc (.cells #[] 3)).alloc (.cells #[.slice Aa na ca, .slice Ab nb cb, .slice Ab nb cb, .slice Aa na ca] 168)).cell? ⟨B + 3, 2, none⟩ = some (.slice Ab nb cb) := by rw [← hz1']; go_simp
  have q3 : ((wb.alloc (.cells #[] 3)).alloc (.cells #[.slice Aa na ca, .slice Ab nb cb, .slice Ab nb cb, .slice Aa na ca] 168)).cell? ⟨B + 3, 3, none⟩ = some (.slice Aa na ca) := by rw [← hz1']; go_simp
  rw [hzb] at hv1
  have HZB := Lib.hid hzb
  have HBS := Lib.hid hBs
  have HWB := Lib.hid hwb
  have HL := Lib.hid (h.bw rItems_good Bb)
  have HEX := Lib.hid (h'.bw rNodes_good Bb)
  have HA := Lib.hid (ha.bw rInts_good Bb)
  have HBB := Lib.hid (hb.bw rInts_good Bb)
  obtain ⟨Z, hZ⟩ : ∃ Z, Z = mergeM l e a b := ⟨_, rfl⟩
  rw [← hZ]
  have HZ := Lib.hid hZ
  clear hZ ll le lna lnb h h' ha hb hw1 hwb hBs hzb hv0 hz1' hA2
  go_enter Tryz.func118, Tryz.ntmps118
  go_wp2_with fail
  rw [← HWB.out, ← HBS.out]
  have Q0 := Lib.hid q0
  have Q1 := Lib.hid q1
  have Q2 := Lib.hid q2
  have Q3 := Lib.hid q3
  have HZB3 := Lib.hid (show wb.heap.size = B + 2 from HZB.out)
  clear q0 q1 q2 q3
  go_loopg [9, 24] 3 (fun gg ov sv w' => ∃ (s : Nat) (Fo : List Nat) (g0 m c : Nat), s ≤ 2 ∧ gg = 3 - s ∧ sv = .int .i64 s ∧ ov = .slice (some ⟨g0, 0, none⟩) m c ∧ fInts w' (outS l e a b s) [ov] Fo ∧ Fresh wb.heap.size Fo ∧ (w'.cell? ⟨B + 1 + 1 + 1, 0, none⟩ = some (.slice Aa na ca) ∧ w'.cell? ⟨B + 1 + 1 + 1, 1, none⟩ = some (.slice Ab nb cb) ∧ w'.cell? ⟨B + 1 + 1 + 1, 2, none⟩ = some (.slice Ab nb cb) ∧ w'.cell? ⟨B + 1 + 1 + 1, 3, none⟩ = some (.slice Aa na ca)) ∧ B + 1 + 1 + 1 ∉ Fo ∧ Bw wb w')
  case atStart => exact ⟨0, [B + 2], B + 2, 0, 0, by omega, rfl, rfl, rfl, hv1, ⟨by simp, by have := HZB.out; simp; omega⟩, ⟨Q0.out, Q1.out, Q2.out, Q3.out⟩, by simp, HB2.out⟩
  case round =>
    clear hv1
    obtain ⟨wo, hwo⟩ : ∃ X, X = wr := ⟨_, rfl⟩
    subst hwo
    obtain ⟨s, Fo, g0, m, c, hs, rfl, rfl, rfl, ho, hFo, ⟨u0, u1, u2, u3⟩, hqF, hB⟩ := hrel
    have i9 : (s : Int) ≤ 2 := by omega
    by_cases s2 : s = 2
    · subst s2
      have hm : m = (outS l e a b 2).length := by
        obtain ⟨A9, n9, c9, e9, l9, _⟩ := rSl_open (fInts_Rd ho)
        injection e9 with _ e9 _
        rw [e9, l9]
      have hl32 : (outS l e a b 2).length ≤ 32 := by
        have h1 := kept_len l e a b
        have h2 := kept_len l e b a
        show (keptBy l e a b ++ keptBy l e b a).length ≤ 32
        rw [List.length_append]; omega
      have hcall := I_Sort wo (outS l e a b 2) g0 c Fo (by rw [← hm]; exact ho) (by omega)
      rw [← hm] at hcall
      have hzz : sortI (outS l e a b 2) = Z := by rw [HZ.out]; rfl
      unfold RetSort at hcall
      rw [hzz] at hcall
      have hFw : ∀ b ∈ Fo, wb.heap.size ≤ b := hFo.ge
      clear hm hl32 hzz ho u0 u1 u2 u3
      go_wp2_with fail
      refine hcall.mono ?_
      rintro e1 w9 ⟨rfl, ho9, hO9, hK9⟩
      clear hcall
      have hB9 := hK9 wb hB hFw
      go_wp2
      go_ret
      exact ⟨_, rfl, ⟨Fo, ho9, hFo.mono (by have h1 := HZB.out; have h2 := HBS.out; omega)⟩, Bb.then hB9⟩
    · by_cases s0 : s = 0
      · subst s0
        -- one side: what of a is kept
        have t0 := u0
        have t1 := u1
        have hA1 := (Bw.refl wo).alloc (.cells #[.slice Aa na ca, .slice Ab nb cb] 168)
        have ho1 := keepBw hA1 fInts_good ho
        have BA1 := hB.then hA1
        have v0 := hA1.cell u0
        have v1 := hA1.cell u1
        have v2 := hA1.cell u2
        have v3 := hA1.cell u3
        have ltO := (fInts_good (B := 0)).lt ho
        have p0 : (wo.alloc (.cells #[.slice Aa na ca, .slice Ab nb cb] 168)).cell? ⟨wo.heap.size, 0, none⟩ = some (.slice Aa na ca) := by go_simp
        have p1 : (wo.alloc (.cells #[.slice Aa na ca, .slice Ab nb cb] 168)).cell? ⟨wo.heap.size, 1, none⟩ = some (.slice Ab nb cb) := by go_simp
        have hpn : wo.heap.size ∉ Fo := fun hh => by have := ltO _ hh; omega
        have ho2 : fInts (wo.alloc (.cells #[.slice Aa na ca, .slice Ab nb cb] 168)) (([] : List Int) ++ keptTo2 l e a b 0) [.slice (some ⟨g0, 0, none⟩) m c] Fo := by
          have h0 : keptTo2 l e a b 0 = [] := rfl
          rw [h0, List.append_nil]; exact ho1
        have hpw : wo.heap.size < (wo.alloc (.cells #[.slice Aa na ca, .slice Ab nb cb] 168)).heap.size := by simp
        clear ho ho1 hB u0 u1 u2 u3 ltO
        go_wp2
        go_loopg [9, 31] (na + 1) (fun gg ov iv w' => ∃ (j : Nat) (Fo : List Nat) (g0 m c : Nat), j ≤ na ∧ gg = na + 1 - j ∧ iv = .int .i64 j ∧ ov = .slice (some ⟨g0, 0, none⟩) m c ∧ fInts w' (([] : List Int) ++ keptTo2 l e a b j) [ov] Fo ∧ Fresh wb.heap.size Fo ∧ (w'.cell? ⟨B + 1 + 1 + 1, 0, none⟩ = some (.slice Aa na ca) ∧ w'.cell? ⟨B + 1 + 1 + 1, 1, none⟩ = some (.slice Ab nb cb) ∧ w'.cell? ⟨B + 1 + 1 + 1, 2, none⟩ = some (.slice Ab nb cb) ∧ w'.cell? ⟨B + 1 + 1 + 1, 3, none⟩ = some (.slice Aa na ca)) ∧ B + 1 + 1 + 1 ∉ Fo ∧ (w'.cell? ⟨wo.heap.size, 0, none⟩ = some (.slice Aa na ca) ∧ w'.cell? ⟨wo.heap.size, 1, none⟩ = some (.slice Ab nb cb)) ∧ wo.heap.size ∉ Fo ∧ Bw wb w')
        case atStart => exact ⟨0, Fo, g0, m, c, by omega, by omega, rfl, rfl, ho2, hFo, ⟨v0, v1, v2, v3⟩, hqF, ⟨p0, p1⟩, hpn, BA1⟩
        case round =>
          clear ho2 v0 v1 v2 v3 p0 p1 hqF hpn BA1 hA1 hFo
          obtain ⟨j, F3, g3, m3, c3, hj, rfl, rfl, rfl, ho, hF3, ⟨u0, u1, u2, u3⟩, hqF, ⟨p0, p1⟩, hpF, hB⟩ := hrel
          by_cases hlt : j < na
          · have i2 : (j : Int) < (na : Int) := by omega
            have i3 : (0 : Int) ≤ (j : Int) := by omega
            obtain ⟨id, hid⟩ := get_of_lt (xs := a) (k := j) (by rw [← LA.out]; exact hlt)
            obtain ⟨bA, oA, eA, _, cid⟩ := rInts_at (HA.out.bw rInts_good hB) hid
            obtain ⟨jj, x, hf, hx, hxA⟩ := ia id (List.mem_of_getElem? hid)
            have hjj := (List.getElem?_eq_some_iff.1 hx).1
            obtain ⟨ba, oa, Ax, cx, eL, _, cx0, cx1, hxv⟩ := rItems_at HL.out hx
            obtain ⟨mx, hmx⟩ : ∃ mx, mx = x.vals.length := ⟨_, rfl⟩
            rw [← hmx] at cx1 hxv
            have hxI := areItems_mem hI (List.mem_of_getElem? hx)
            have i4 : (0 : Int) ≤ (jj : Int) := by omega
            have i5 : (jj : Int) < (nl : Int) := by have := LL.out; omega
            have hD := (Bw.refl wr).drew
            have hBD := hB.then hD
            have y0 := hBD.cell cb0
            have y1 := hBD.cell cx0
            have y2 := hBD.cell cx1
            have KF := Lib.hid (fun W (Bq : Bw wb W) => (show Calls Tryz.prog 77 #[.slice Al nl cl, .int .i64 id] W (Ret W (.int .i64 (jj : Int))) by
              have := I_FindItem W l id _ (HL.out.bw rItems_good Bq)
              rwa [hf] at this))
            have hst0 := fun h => kept_yes (l := l) (e := e) (b := b) hid h
            have hst1 := fun h => kept_no (l := l) (e := e) (b := b) hid h
            rw [hxA] at hst0 hst1
            have HST0 := Lib.hid hst0
            have HST1 := Lib.hid hst1
            have HXV := Lib.hid hxv
            have hBq := Bw.refl wr.drew
            have ELX := Lib.hid eL
            have EAX := Lib.hid eA
            clear hst0 hst1 hid hf hx hxA hjj hmx hxv hD
            have hEA := EAX.out
            have hEL := ELX.out
            subst hEA
            subst hEL
            go_wp2_with fail
            have nB : B ≠ wr.heap.size := fun hh => by have := World.block_lt_of_cell? _ _ (hB.cell cb0); dsimp only at this; omega
            have nb' : ba ≠ wr.heap.size := fun hh => by have := World.block_lt_of_cell? _ _ (hB.cell cx0); dsimp only at this; omega
            have bz0 : ∀ o, (wr.alloc o).drew.cell? ⟨B, 0, none⟩ = some (.slice (some ⟨ba, oa, none⟩) nl cl) := fun o => ((hB.alloc o).drew).cell cb0
            have bz1 : ∀ o, (wr.alloc o).drew.cell? ⟨ba, oa + jj * 2, none⟩ = some (.int .i64 x.id) := fun o => ((hB.alloc o).drew).cell cx0
            have bz2 : ∀ o, (wr.alloc o).drew.cell? ⟨ba, oa + jj * 2 + 1, none⟩ = some (.slice Ax mx cx) := fun o => ((hB.alloc o).drew).cell cx1
            go_region_held3 (fun w' => w'.cell? ⟨B, 0, none⟩ = some (.slice (some ⟨ba, oa, none⟩) nl cl) ∧ w'.cell? ⟨ba, oa + jj * 2, none⟩ = some (.int .i64 x.id) ∧ w'.cell? ⟨ba, oa + jj * 2 + 1, none⟩ = some (.slice Ax mx cx)) (first | exact ⟨y0, y1, y2⟩ | exact ⟨bz0 _, bz1 _, bz2 _⟩ | exact ⟨((Bw.refl _).alloc _).cell y0, ((Bw.refl _).alloc _).cell y1, ((Bw.refl _).alloc _).cell y2⟩ | exact ⟨cell_away nB (cell_away nB y0), cell_away nb' (cell_away nb' y1), cell_away nb' (cell_away nb' y2)⟩)
              (first
                | (go_at_call 77; (with_reducible refine (KF.out _ hBD).mono ?_); rintro e' w5 ⟨rfl, hb5⟩; replace y0 := hb5.cell y0; replace y1 := hb5.cell y1; replace y2 := hb5.cell y2; have hk1 := True.intro)
                | (go_at_call 77; (with_reducible refine (KF.out _ ((hB.alloc _).drew)).mono ?_); rintro e' w5 ⟨rfl, hb5⟩; replace y0 := hb5.cell (bz0 _); replace y1 := hb5.cell (bz1 _); replace y2 := hb5.cell (bz2 _); have e0 : w5.cell? ⟨wr.heap.size, 0, none⟩ = some (.int .i64 0) := hb5.cell (by go_simp); have e1 : w5.cell? ⟨wr.heap.size, 1, none⟩ = some (.slice none 0 0) := hb5.cell (by go_simp); have ef : ∀ o, w5.frozen? ⟨wr.heap.size, o, none⟩ = false := (fun o => by rw [bw_frozen hb5 _ _ (by first | (simp; done) | (simp; omega))]; go_simp); have hk2 := True.intro))
            · have hbX : Bw wr (w5.alloc (.cells #[.int .i64 x.id, .slice Ax mx cx] 30)) := (((Bw.refl wr).drew).then hb5).alloc _
              have z0 : (w5.alloc (.cells #[.int .i64 x.id, .slice Ax mx cx] 30)).cell? ⟨w5.heap.size, 0, none⟩ = some (.int .i64 x.id) := by go_simp
              have z1 : (w5.alloc (.cells #[.int .i64 x.id, .slice Ax mx cx] 30)).cell? ⟨w5.heap.size, 1, none⟩ = some (.slice Ax mx cx) := by go_simp
              -- the closure asks the other side
              have hBX := hB.then hbX
              have hEG : EnvG (w5.alloc (.cells #[.int .i64 x.id, .slice Ax mx cx] 30)) (B + 1) B w5.heap.size e l x := ⟨⟨Ae, ne, ce, hBX.cell cb1, HEX.out.bw rNodes_good hBX⟩, ⟨some ⟨ba, oa, none⟩, nl, cl, hBX.cell cb0, HL.out.bw rItems_good hBX⟩, ⟨Ax, mx, cx, z0, z1, Rd.bw rInts_good HXV.out hBX⟩⟩
              have hcall := merged_contains (w5.alloc (.cells #[.int .i64 x.id, .slice Ax mx cx] 30)) b (.slice Ab nb cb) (B + 1) B w5.heap.size e l x (HBB.out.bw rInts_good hBX) hEG hE hxI hI ib
              have hqw : B + 1 + 1 + 1 < wr.heap.size := World.block_lt_of_cell? _ _ u0
              have hpw : wo.heap.size < wr.heap.size := World.block_lt_of_cell? _ _ p0
              replace u0 := hbX.cell u0
              replace u1 := hbX.cell u1
              replace u2 := hbX.cell u2
              replace u3 := hbX.cell u3
              replace p0 := hbX.cell p0
              replace p1 := hbX.cell p1
              have hszX := hbX.size
              clear hEG y0 y1 y2 bz0 bz1 bz2 nB nb'
              cases hany : (b).any (fun k => beats e (itemAt l k) x) with
              | true =>
                rw [hany] at hcall
                have HS := Lib.hid (HST1.out hany)
                clear hany
                go_wp2_with fail
                refine hcall.mono ?_
                rintro e1 w6 ⟨rfl, hb6⟩
                clear hcall
                have ho6 := keepBw (hbX.then hb6) fInts_good ho
                have hB6 := hBX.then hb6
                rw [← HS.out] at ho6
                go_wp2
                go_roundg (na + 1 - (j + 1))
                case measure => omega
                case rel => exact ⟨j + 1, F3, g3, m3, c3, by omega, rfl, by go_num, rfl, ho6, hF3, ⟨hb6.cell u0, hb6.cell u1, hb6.cell u2, hb6.cell u3⟩, hqF, ⟨hb6.cell p0, hb6.cell p1⟩, hpF, hB6⟩
              | false =>
                rw [hany] at hcall
                have HS := Lib.hid (HST0.out hany)
                clear hany
                go_wp2_with fail
                refine hcall.mono ?_
                rintro e1 w6 ⟨rfl, hb6⟩
                clear hcall
                have hA7 := (Bw.refl w6).alloc (.cells #[.int .i64 id] 3)
                have hb67 := hb6.then hA7
                have ho6 := keepBw (hbX.then hb67) fInts_good ho
                have hB7 := hBX.then hb67
                have hcl := cell_one_new w6 (.int .i64 id) 3
                have hlt6 : ∀ q ∈ F3, q < w6.heap.size := fun q hq => by have h1 := (fInts_good (B := 0)).lt ho q hq; have h2 := hb6.size; omega
                have hl32 : (([] : List Int) ++ keptTo2 l e a b j).length ≤ 32 := by
                  have h1 := kept_len l e a b
                  have h2 := kept_len l e (a.take j) b
                  rw [List.length_take] at h2
                  rw [List.length_append]
                  show _ + (keptBy l e (a.take j) b).length ≤ 32
                  try simp only [List.length_nil]
                  omega
                replace u0 := hb67.cell u0
                replace u1 := hb67.cell u1
                replace u2 := hb67.cell u2
                replace u3 := hb67.cell u3
                replace p0 := hb67.cell p0
                replace p1 := hb67.cell p1
                have hs67 := hb67.size
                clear ho
                go_wp2_with (at_builtin; refine wpList_push2 _ rfl (.tmp 46) (.tmp 48) 26 rfl wb 3 i0 _ 1 8 Tryz.underlying26 hi hz0 hz1 hz2 rfl (by omega) fInt_good _ _ F3 rfl ho6 hF3 ⟨w6.heap.size, 0, none⟩ 1 rfl id [.int .i64 id] [] hcl ⟨rfl, rfl⟩ rfl w6.heap.size hlt6 Fresh.nil ((hBX.then hb6).size) (by omega) (by omega) hB7 ?_; intro v7 w7 F7 hv7 hF7 hb7 hO7 hs7; obtain ⟨g7, n7, c7, rfl, l7, _⟩ := fSl_lit' hv7 (by rw [List.length_append]; exact Nat.succ_pos _))
                have hq7 : B + 1 + 1 + 1 ∉ F7 := fun hh => by
                  rcases hs7 _ hh with h1 | h1 | h1
                  · exact hqF h1
                  · cases h1
                  · omega
                have hp7 : wo.heap.size ∉ F7 := fun hh => by
                  rcases hs7 _ hh with h1 | h1 | h1
                  · exact hpF h1
                  · cases h1
                  · omega
                rw [List.append_assoc, ← HS.out] at hv7
                go_roundg (na + 1 - (j + 1))
                case measure => omega
                case rel => exact ⟨j + 1, F7, g7, n7, c7, by omega, rfl, by go_num, rfl, hv7, hF7, ⟨hO7.cell u0 hqF, hO7.cell u1 hqF, hO7.cell u2 hqF, hO7.cell u3 hqF⟩, hq7, ⟨hO7.cell p0 hpF, hO7.cell p1 hpF⟩, hp7, hb7⟩
            · have hbX : Bw wr ((w5.setCell ⟨wr.heap.size, 0, none⟩ (.int .i64 x.id)).setCell ⟨wr.heap.size, 1, none⟩ (.slice Ax mx cx)) := ((((Bw.refl wr).alloc _).drew.then hb5).set (p := ⟨wr.heap.size, 0, none⟩) (Nat.le_refl _) _).set (p := ⟨wr.heap.size, 1, none⟩) (Nat.le_refl _) _
              have z0 : ((w5.setCell ⟨wr.heap.size, 0, none⟩ (.int .i64 x.id)).setCell ⟨wr.heap.size, 1, none⟩ (.slice Ax mx cx)).cell? ⟨wr.heap.size, 0, none⟩ = some (.int .i64 x.id) := by go_simp
              have z1 : ((w5.setCell ⟨wr.heap.size, 0, none⟩ (.int .i64 x.id)).setCell ⟨wr.heap.size, 1, none⟩ (.slice Ax mx cx)).cell? ⟨wr.heap.size, 1, none⟩ = some (.slice Ax mx cx) := by go_simp
              -- the closure asks the other side
              have hBX := hB.then hbX
              have hEG : EnvG ((w5.setCell ⟨wr.heap.size, 0, none⟩ (.int .i64 x.id)).setCell ⟨wr.heap.size, 1, none⟩ (.slice Ax mx cx)) (B + 1) B wr.heap.size e l x := ⟨⟨Ae, ne, ce, hBX.cell cb1, HEX.out.bw rNodes_good hBX⟩, ⟨some ⟨ba, oa, none⟩, nl, cl, hBX.cell cb0, HL.out.bw rItems_good hBX⟩, ⟨Ax, mx, cx, z0, z1, Rd.bw rInts_good HXV.out hBX⟩⟩
              have hcall := merged_contains ((w5.setCell ⟨wr.heap.size, 0, none⟩ (.int .i64 x.id)).setCell ⟨wr.heap.size, 1, none⟩ (.slice Ax mx cx)) b (.slice Ab nb cb) (B + 1) B wr.heap.size e l x (HBB.out.bw rInts_good hBX) hEG hE hxI hI ib
              have hqw : B + 1 + 1 + 1 < wr.heap.size := World.block_lt_of_cell? _ _ u0
              have hpw : wo.heap.size < wr.heap.size := World.block_lt_of_cell? _ _ p0
              replace u0 := hbX.cell u0
              replace u1 := hbX.cell u1
              replace u2 := hbX.cell u2
              replace u3 := hbX.cell u3
              replace p0 := hbX.cell p0
              replace p1 := hbX.cell p1
              have hszX := hbX.size
              clear hEG y0 y1 y2 bz0 bz1 bz2 nB nb'
              cases hany : (b).any (fun k => beats e (itemAt l k) x) with
              | true =>
                rw [hany] at hcall
                have HS := Lib.hid (HST1.out hany)
                clear hany
                go_wp2_with fail
                refine hcall.mono ?_
                rintro e1 w6 ⟨rfl, hb6⟩
                clear hcall
                have ho6 := keepBw (hbX.then hb6) fInts_good ho
                have hB6 := hBX.then hb6
                rw [← HS.out] at ho6
                go_wp2
                go_roundg (na + 1 - (j + 1))
                case measure => omega
                case rel => exact ⟨j + 1, F3, g3, m3, c3, by omega, rfl, by go_num, rfl, ho6, hF3, ⟨hb6.cell u0, hb6.cell u1, hb6.cell u2, hb6.cell u3⟩, hqF, ⟨hb6.cell p0, hb6.cell p1⟩, hpF, hB6⟩
              | false =>
                rw [hany] at hcall
                have HS := Lib.hid (HST0.out hany)
                clear hany
                go_wp2_with fail
                refine hcall.mono ?_
                rintro e1 w6 ⟨rfl, hb6⟩
                clear hcall
                have hA7 := (Bw.refl w6).alloc (.cells #[.int .i64 id] 3)
                have hb67 := hb6.then hA7
                have ho6 := keepBw (hbX.then hb67) fInts_good ho
                have hB7 := hBX.then hb67
                have hcl := cell_one_new w6 (.int .i64 id) 3
                have hlt6 : ∀ q ∈ F3, q < w6.heap.size := fun q hq => by have h1 := (fInts_good (B := 0)).lt ho q hq; have h2 := hb6.size; omega
                have hl32 : (([] : List Int) ++ keptTo2 l e a b j).length ≤ 32 := by
                  have h1 := kept_len l e a b
                  have h2 := kept_len l e (a.take j) b
                  rw [List.length_take] at h2
                  rw [List.length_append]
                  show _ + (keptBy l e (a.take j) b).length ≤ 32
                  try simp only [List.length_nil]
                  omega
                replace u0 := hb67.cell u0
                replace u1 := hb67.cell u1
                replace u2 := hb67.cell u2
                replace u3 := hb67.cell u3
                replace p0 := hb67.cell p0
                replace p1 := hb67.cell p1
                have hs67 := hb67.size
                clear ho
                go_wp2_with (at_builtin; refine wpList_push2 _ rfl (.tmp 46) (.tmp 48) 26 rfl wb 3 i0 _ 1 8 Tryz.underlying26 hi hz0 hz1 hz2 rfl (by omega) fInt_good _ _ F3 rfl ho6 hF3 ⟨w6.heap.size, 0, none⟩ 1 rfl id [.int .i64 id] [] hcl ⟨rfl, rfl⟩ rfl w6.heap.size hlt6 Fresh.nil ((hBX.then hb6).size) (by omega) (by omega) hB7 ?_; intro v7 w7 F7 hv7 hF7 hb7 hO7 hs7; obtain ⟨g7, n7, c7, rfl, l7, _⟩ := fSl_lit' hv7 (by rw [List.length_append]; exact Nat.succ_pos _))
                have hq7 : B + 1 + 1 + 1 ∉ F7 := fun hh => by
                  rcases hs7 _ hh with h1 | h1 | h1
                  · exact hqF h1
                  · cases h1
                  · omega
                have hp7 : wo.heap.size ∉ F7 := fun hh => by
                  rcases hs7 _ hh with h1 | h1 | h1
                  · exact hpF h1
                  · cases h1
                  · omega
                rw [List.append_assoc, ← HS.out] at hv7
                go_roundg (na + 1 - (j + 1))
                case measure => omega
                case rel => exact ⟨j + 1, F7, g7, n7, c7, by omega, rfl, by go_num, rfl, hv7, hF7, ⟨hO7.cell u0 hqF, hO7.cell u1 hqF, hO7.cell u2 hqF, hO7.cell u3 hqF⟩, hq7, ⟨hO7.cell p0 hpF, hO7.cell p1 hpF⟩, hp7, hb7⟩
          · have i2 : ¬ (j : Int) < (na : Int) := by omega
            have hend : ([] : List Int) ++ keptTo2 l e a b j = outS l e a b 1 := by
              unfold keptTo2
              rw [List.take_of_length_le (by rw [← LA.out]; omega)]
              rfl
            rw [hend] at ho
            clear hend p0 p1 hpF
            go_wp2
            go_roundg (3 - 1)
            case measure => omega
            case rel => exact ⟨1, F3, g3, m3, c3, by omega, rfl, by go_num, rfl, ho, hF3, ⟨u0, u1, u2, u3⟩, hqF, hB⟩
      · obtain rfl : s = 1 := by omega
        clear s0 s2
        -- one side: what of a is kept
        have t0 := u2
        have t1 := u3
        have hA1 := (Bw.refl wo).alloc (.cells #[.slice Ab nb cb, .slice Aa na ca] 168)
        have ho1 := keepBw hA1 fInts_good ho
        have BA1 := hB.then hA1
        have v0 := hA1.cell u0
        have v1 := hA1.cell u1
        have v2 := hA1.cell u2
        have v3 := hA1.cell u3
        have ltO := (fInts_good (B := 0)).lt ho
        have p0 : (wo.alloc (.cells #[.slice Ab nb cb, .slice Aa na ca] 168)).cell? ⟨wo.heap.size, 0, none⟩ = some (.slice Ab nb cb) := by go_simp
        have p1 : (wo.alloc (.cells #[.slice Ab nb cb, .slice Aa na ca] 168)).cell? ⟨wo.heap.size, 1, none⟩ = some (.slice Aa na ca) := by go_simp
        have hpn : wo.heap.size ∉ Fo := fun hh => by have := ltO _ hh; omega
        have ho2 : fInts (wo.alloc (.cells #[.slice Ab nb cb, .slice Aa na ca] 168)) (keptBy l e a b ++ keptTo2 l e b a 0) [.slice (some ⟨g0, 0, none⟩) m c] Fo := by
          have h0 : keptTo2 l e b a 0 = [] := rfl
          rw [h0, List.append_nil]; exact ho1
        have hpw : wo.heap.size < (wo.alloc (.cells #[.slice Ab nb cb, .slice Aa na ca] 168)).heap.size := by simp
        clear ho ho1 hB u0 u1 u2 u3 ltO
        go_wp2
        go_loopg [9, 31] (nb + 1) (fun gg ov iv w' => ∃ (j : Nat) (Fo : List Nat) (g0 m c : Nat), j ≤ nb ∧ gg = nb + 1 - j ∧ iv = .int .i64 j ∧ ov = .slice (some ⟨g0, 0, none⟩) m c ∧ fInts w' (keptBy l e a b ++ keptTo2 l e b a j) [ov] Fo ∧ Fresh wb.heap.size Fo ∧ (w'.cell? ⟨B + 1 + 1 + 1, 0, none⟩ = some (.slice Aa na ca) ∧ w'.cell? ⟨B + 1 + 1 + 1, 1, none⟩ = some (.slice Ab nb cb) ∧ w'.cell? ⟨B + 1 + 1 + 1, 2, none⟩ = some (.slice Ab nb cb) ∧ w'.cell? ⟨B + 1 + 1 + 1, 3, none⟩ = some (.slice Aa na ca)) ∧ B + 1 + 1 + 1 ∉ Fo ∧ (w'.cell? ⟨wo.heap.size, 0, none⟩ = some (.slice Ab nb cb) ∧ w'.cell? ⟨wo.heap.size, 1, none⟩ = some (.slice Aa na ca)) ∧ wo.heap.size ∉ Fo ∧ Bw wb w')
        case atStart => exact ⟨0, Fo, g0, m, c, by omega, by omega, rfl, rfl, ho2, hFo, ⟨v0, v1, v2, v3⟩, hqF, ⟨p0, p1⟩, hpn, BA1⟩
        case round =>
          clear ho2 v0 v1 v2 v3 p0 p1 hqF hpn BA1 hA1 hFo
          obtain ⟨j, F3, g3, m3, c3, hj, rfl, rfl, rfl, ho, hF3, ⟨u0, u1, u2, u3⟩, hqF, ⟨p0, p1⟩, hpF, hB⟩ := hrel
          by_cases hlt : j < nb
          · have i2 : (j : Int) < (nb : Int) := by omega
            have i3 : (0 : Int) ≤ (j : Int) := by omega
            obtain ⟨id, hid⟩ := get_of_lt (xs := b) (k := j) (by rw [← LB.out]; exact hlt)
            obtain ⟨bA, oA, eA, _, cid⟩ := rInts_at (HBB.out.bw rInts_good hB) hid
            obtain ⟨jj, x, hf, hx, hxA⟩ := ib id (List.mem_of_getElem? hid)
            have hjj := (List.getElem?_eq_some_iff.1 hx).1
            obtain ⟨ba, oa, Ax, cx, eL, _, cx0, cx1, hxv⟩ := rItems_at HL.out hx
            obtain ⟨mx, hmx⟩ : ∃ mx, mx = x.vals.length := ⟨_, rfl⟩
            rw [← hmx] at cx1 hxv
            have hxI := areItems_mem hI (List.mem_of_getElem? hx)
            have i4 : (0 : Int) ≤ (jj : Int) := by omega
            have i5 : (jj : Int) < (nl : Int) := by have := LL.out; omega
            have hD := (Bw.refl wr).drew
            have hBD := hB.then hD
            have y0 := hBD.cell cb0
            have y1 := hBD.cell cx0
            have y2 := hBD.cell cx1
            have KF := Lib.hid (fun W (Bq : Bw wb W) => (show Calls Tryz.prog 77 #[.slice Al nl cl, .int .i64 id] W (Ret W (.int .i64 (jj : Int))) by
              have := I_FindItem W l id _ (HL.out.bw rItems_good Bq)
              rwa [hf] at this))
            have hst0 := fun h => kept_yes (l := l) (e := e) (b := a) hid h
            have hst1 := fun h => kept_no (l := l) (e := e) (b := a) hid h
            rw [hxA] at hst0 hst1
            have HST0 := Lib.hid hst0
            have HST1 := Lib.hid hst1
            have HXV := Lib.hid hxv
            have hBq := Bw.refl wr.drew
            have ELX := Lib.hid eL
            have EAX := Lib.hid eA
            clear hst0 hst1 hid hf hx hxA hjj hmx hxv hD
            have hEA := EAX.out
            have hEL := ELX.out
            subst hEA
            subst hEL
            go_wp2_with fail
            have nB : B ≠ wr.heap.size := fun hh => by have := World.block_lt_of_cell? _ _ (hB.cell cb0); dsimp only at this; omega
            have nb' : ba ≠ wr.heap.size := fun hh => by have := World.block_lt_of_cell? _ _ (hB.cell cx0); dsimp only at this; omega
            have bz0 : ∀ o, (wr.alloc o).drew.cell? ⟨B, 0, none⟩ = some (.slice (some ⟨ba, oa, none⟩) nl cl) := fun o => ((hB.alloc o).drew).cell cb0
            have bz1 : ∀ o, (wr.alloc o).drew.cell? ⟨ba, oa + jj * 2, none⟩ = some (.int .i64 x.id) := fun o => ((hB.alloc o).drew).cell cx0
            have bz2 : ∀ o, (wr.alloc o).drew.cell? ⟨ba, oa + jj * 2 + 1, none⟩ = some (.slice Ax mx cx) := fun o => ((hB.alloc o).drew).cell cx1
            go_region_held3 (fun w' => w'.cell? ⟨B, 0, none⟩ = some (.slice (some ⟨ba, oa, none⟩) nl cl) ∧ w'.cell? ⟨ba, oa + jj * 2, none⟩ = some (.int .i64 x.id) ∧ w'.cell? ⟨ba, oa + jj * 2 + 1, none⟩ = some (.slice Ax mx cx)) (first | exact ⟨y0, y1, y2⟩ | exact ⟨bz0 _, bz1 _, bz2 _⟩ | exact ⟨((Bw.refl _).alloc _).cell y0, ((Bw.refl _).alloc _).cell y1, ((Bw.refl _).alloc _).cell y2⟩ | exact ⟨cell_away nB (cell_away nB y0), cell_away nb' (cell_away nb' y1), cell_away nb' (cell_away nb' y2)⟩)
              (first
                | (go_at_call 77; (with_reducible refine (KF.out _ hBD).mono ?_); rintro e' w5 ⟨rfl, hb5⟩; replace y0 := hb5.cell y0; replace y1 := hb5.cell y1; replace y2 := hb5.cell y2; have hk1 := True.intro)
                | (go_at_call 77; (with_reducible refine (KF.out _ ((hB.alloc _).drew)).mono ?_); rintro e' w5 ⟨rfl, hb5⟩; replace y0 := hb5.cell (bz0 _); replace y1 := hb5.cell (bz1 _); replace y2 := hb5.cell (bz2 _); have e0 : w5.cell? ⟨wr.heap.size, 0, none⟩ = some (.int .i64 0) := hb5.cell (by go_simp); have e1 : w5.cell? ⟨wr.heap.size, 1, none⟩ = some (.slice none 0 0) := hb5.cell (by go_simp); have ef : ∀ o, w5.frozen? ⟨wr.heap.size, o, none⟩ = false := (fun o => by rw [bw_frozen hb5 _ _ (by first | (simp; done) | (simp; omega))]; go_simp); have hk2 := True.intro))
            · have hbX : Bw wr (w5.alloc (.cells #[.int .i64 x.id, .slice Ax mx cx] 30)) := (((Bw.refl wr).drew).then hb5).alloc _
              have z0 : (w5.alloc (.cells #[.int .i64 x.id, .slice Ax mx cx] 30)).cell? ⟨w5.heap.size, 0, none⟩ = some (.int .i64 x.id) := by go_simp
              have z1 : (w5.alloc (.cells #[.int .i64 x.id, .slice Ax mx cx] 30)).cell? ⟨w5.heap.size, 1, none⟩ = some (.slice Ax mx cx) := by go_simp
              -- the closure asks the other side
              have hBX := hB.then hbX
              have hEG : EnvG (w5.alloc (.cells #[.int .i64 x.id, .slice Ax mx cx] 30)) (B + 1) B w5.heap.size e l x := ⟨⟨Ae, ne, ce, hBX.cell cb1, HEX.out.bw rNodes_good hBX⟩, ⟨some ⟨ba, oa, none⟩, nl, cl, hBX.cell cb0, HL.out.bw rItems_good hBX⟩, ⟨Ax, mx, cx, z0, z1, Rd.bw rInts_good HXV.out hBX⟩⟩
              have hcall := merged_contains (w5.alloc (.cells #[.int .i64 x.id, .slice Ax mx cx] 30)) a (.slice Aa na ca) (B + 1) B w5.heap.size e l x (HA.out.bw rInts_good hBX) hEG hE hxI hI ia
              have hqw : B + 1 + 1 + 1 < wr.heap.size := World.block_lt_of_cell? _ _ u0
              have hpw : wo.heap.size < wr.heap.size := World.block_lt_of_cell? _ _ p0
              replace u0 := hbX.cell u0
              replace u1 := hbX.cell u1
              replace u2 := hbX.cell u2
              replace u3 := hbX.cell u3
              replace p0 := hbX.cell p0
              replace p1 := hbX.cell p1
              have hszX := hbX.size
              clear hEG y0 y1 y2 bz0 bz1 bz2 nB nb'
              cases hany : (a).any (fun k => beats e (itemAt l k) x) with
              | true =>
                rw [hany] at hcall
                have HS := Lib.hid (HST1.out hany)
                clear hany
                go_wp2_with fail
                refine hcall.mono ?_
                rintro e1 w6 ⟨rfl, hb6⟩
                clear hcall
                have ho6 := keepBw (hbX.then hb6) fInts_good ho
                have hB6 := hBX.then hb6
                rw [← HS.out] at ho6
                go_wp2
                go_roundg (nb + 1 - (j + 1))
                case measure => omega
                case rel => exact ⟨j + 1, F3, g3, m3, c3, by omega, rfl, by go_num, rfl, ho6, hF3, ⟨hb6.cell u0, hb6.cell u1, hb6.cell u2, hb6.cell u3⟩, hqF, ⟨hb6.cell p0, hb6.cell p1⟩, hpF, hB6⟩
              | false =>
                rw [hany] at hcall
                have HS := Lib.hid (HST0.out hany)
                clear hany
                go_wp2_with fail
                refine hcall.mono ?_
                rintro e1 w6 ⟨rfl, hb6⟩
                clear hcall
                have hA7 := (Bw.refl w6).alloc (.cells #[.int .i64 id] 3)
                have hb67 := hb6.then hA7
                have ho6 := keepBw (hbX.then hb67) fInts_good ho
                have hB7 := hBX.then hb67
                have hcl := cell_one_new w6 (.int .i64 id) 3
                have hlt6 : ∀ q ∈ F3, q < w6.heap.size := fun q hq => by have h1 := (fInts_good (B := 0)).lt ho q hq; have h2 := hb6.size; omega
                have hl32 : (keptBy l e a b ++ keptTo2 l e b a j).length ≤ 32 := by
                  have h1 := kept_len l e a b
                  have h2 := kept_len l e (b.take j) a
                  rw [List.length_take] at h2
                  rw [List.length_append]
                  show _ + (keptBy l e (b.take j) a).length ≤ 32
                  try simp only [List.length_nil]
                  omega
                replace u0 := hb67.cell u0
                replace u1 := hb67.cell u1
                replace u2 := hb67.cell u2
                replace u3 := hb67.cell u3
                replace p0 := hb67.cell p0
                replace p1 := hb67.cell p1
                have hs67 := hb67.size
                clear ho
                go_wp2_with (at_builtin; refine wpList_push2 _ rfl (.tmp 46) (.tmp 48) 26 rfl wb 3 i0 _ 1 8 Tryz.underlying26 hi hz0 hz1 hz2 rfl (by omega) fInt_good _ _ F3 rfl ho6 hF3 ⟨w6.heap.size, 0, none⟩ 1 rfl id [.int .i64 id] [] hcl ⟨rfl, rfl⟩ rfl w6.heap.size hlt6 Fresh.nil ((hBX.then hb6).size) (by omega) (by omega) hB7 ?_; intro v7 w7 F7 hv7 hF7 hb7 hO7 hs7; obtain ⟨g7, n7, c7, rfl, l7, _⟩ := fSl_lit' hv7 (by rw [List.length_append]; exact Nat.succ_pos _))
                have hq7 : B + 1 + 1 + 1 ∉ F7 := fun hh => by
                  rcases hs7 _ hh with h1 | h1 | h1
                  · exact hqF h1
                  · cases h1
                  · omega
                have hp7 : wo.heap.size ∉ F7 := fun hh => by
                  rcases hs7 _ hh with h1 | h1 | h1
                  · exact hpF h1
                  · cases h1
                  · omega
                rw [List.append_assoc, ← HS.out] at hv7
                go_roundg (nb + 1 - (j + 1))
                case measure => omega
                case rel => exact ⟨j + 1, F7, g7, n7, c7, by omega, rfl, by go_num, rfl, hv7, hF7, ⟨hO7.cell u0 hqF, hO7.cell u1 hqF, hO7.cell u2 hqF, hO7.cell u3 hqF⟩, hq7, ⟨hO7.cell p0 hpF, hO7.cell p1 hpF⟩, hp7, hb7⟩
            · have hbX : Bw wr ((w5.setCell ⟨wr.heap.size, 0, none⟩ (.int .i64 x.id)).setCell ⟨wr.heap.size, 1, none⟩ (.slice Ax mx cx)) := ((((Bw.refl wr).alloc _).drew.then hb5).set (p := ⟨wr.heap.size, 0, none⟩) (Nat.le_refl _) _).set (p := ⟨wr.heap.size, 1, none⟩) (Nat.le_refl _) _
              have z0 : ((w5.setCell ⟨wr.heap.size, 0, none⟩ (.int .i64 x.id)).setCell ⟨wr.heap.size, 1, none⟩ (.slice Ax mx cx)).cell? ⟨wr.heap.size, 0, none⟩ = some (.int .i64 x.id) := by go_simp
              have z1 : ((w5.setCell ⟨wr.heap.size, 0, none⟩ (.int .i64 x.id)).setCell ⟨wr.heap.size, 1, none⟩ (.slice Ax mx cx)).cell? ⟨wr.heap.size, 1, none⟩ = some (.slice Ax mx cx) := by go_simp
              -- the closure asks the other side
              have hBX := hB.then hbX
              have hEG : EnvG ((w5.setCell ⟨wr.heap.size, 0, none⟩ (.int .i64 x.id)).setCell ⟨wr.heap.size, 1, none⟩ (.slice Ax mx cx)) (B + 1) B wr.heap.size e l x := ⟨⟨Ae, ne, ce, hBX.cell cb1, HEX.out.bw rNodes_good hBX⟩, ⟨some ⟨ba, oa, none⟩, nl, cl, hBX.cell cb0, HL.out.bw rItems_good hBX⟩, ⟨Ax, mx, cx, z0, z1, Rd.bw rInts_good HXV.out hBX⟩⟩
              have hcall := merged_contains ((w5.setCell ⟨wr.heap.size, 0, none⟩ (.int .i64 x.id)).setCell ⟨wr.heap.size, 1, none⟩ (.slice Ax mx cx)) a (.slice Aa na ca) (B + 1) B wr.heap.size e l x (HA.out.bw rInts_good hBX) hEG hE hxI hI ia
              have hqw : B + 1 + 1 + 1 < wr.heap.size := World.block_lt_of_cell? _ _ u0
              have hpw : wo.heap.size < wr.heap.size := World.block_lt_of_cell? _ _ p0
              replace u0 := hbX.cell u0
              replace u1 := hbX.cell u1
              replace u2 := hbX.cell u2
              replace u3 := hbX.cell u3
              replace p0 := hbX.cell p0
              replace p1 := hbX.cell p1
              have hszX := hbX.size
              clear hEG y0 y1 y2 bz0 bz1 bz2 nB nb'
              cases hany : (a).any (fun k => beats e (itemAt l k) x) with
              | true =>
                rw [hany] at hcall
                have HS := Lib.hid (HST1.out hany)
                clear hany
                go_wp2_with fail
                refine hcall.mono ?_
                rintro e1 w6 ⟨rfl, hb6⟩
                clear hcall
                have ho6 := keepBw (hbX.then hb6) fInts_good ho
                have hB6 := hBX.then hb6
                rw [← HS.out] at ho6
                go_wp2
                go_roundg (nb + 1 - (j + 1))
                case measure => omega
                case rel => exact ⟨j + 1, F3, g3, m3, c3, by omega, rfl, by go_num, rfl, ho6, hF3, ⟨hb6.cell u0, hb6.cell u1, hb6.cell u2, hb6.cell u3⟩, hqF, ⟨hb6.cell p0, hb6.cell p1⟩, hpF, hB6⟩
              | false =>
                rw [hany] at hcall
                have HS := Lib.hid (HST0.out hany)
                clear hany
                go_wp2_with fail
                refine hcall.mono ?_
                rintro e1 w6 ⟨rfl, hb6⟩
                clear hcall
                have hA7 := (Bw.refl w6).alloc (.cells #[.int .i64 id] 3)
                have hb67 := hb6.then hA7
                have ho6 := keepBw (hbX.then hb67) fInts_good ho
                have hB7 := hBX.then hb67
                have hcl := cell_one_new w6 (.int .i64 id) 3
                have hlt6 : ∀ q ∈ F3, q < w6.heap.size := fun q hq => by have h1 := (fInts_good (B := 0)).lt ho q hq; have h2 := hb6.size; omega
                have hl32 : (keptBy l e a b ++ keptTo2 l e b a j).length ≤ 32 := by
                  have h1 := kept_len l e a b
                  have h2 := kept_len l e (b.take j) a
                  rw [List.length_take] at h2
                  rw [List.length_append]
                  show _ + (keptBy l e (b.take j) a).length ≤ 32
                  try simp only [List.length_nil]
                  omega
                replace u0 := hb67.cell u0
                replace u1 := hb67.cell u1
                replace u2 := hb67.cell u2
                replace u3 := hb67.cell u3
                replace p0 := hb67.cell p0
                replace p1 := hb67.cell p1
                have hs67 := hb67.size
                clear ho
                go_wp2_with (at_builtin; refine wpList_push2 _ rfl (.tmp 46) (.tmp 48) 26 rfl wb 3 i0 _ 1 8 Tryz.underlying26 hi hz0 hz1 hz2 rfl (by omega) fInt_good _ _ F3 rfl ho6 hF3 ⟨w6.heap.size, 0, none⟩ 1 rfl id [.int .i64 id] [] hcl ⟨rfl, rfl⟩ rfl w6.heap.size hlt6 Fresh.nil ((hBX.then hb6).size) (by omega) (by omega) hB7 ?_; intro v7 w7 F7 hv7 hF7 hb7 hO7 hs7; obtain ⟨g7, n7, c7, rfl, l7, _⟩ := fSl_lit' hv7 (by rw [List.length_append]; exact Nat.succ_pos _))
                have hq7 : B + 1 + 1 + 1 ∉ F7 := fun hh => by
                  rcases hs7 _ hh with h1 | h1 | h1
                  · exact hqF h1
                  · cases h1
                  · omega
                have hp7 : wo.heap.size ∉ F7 := fun hh => by
                  rcases hs7 _ hh with h1 | h1 | h1
                  · exact hpF h1
                  · cases h1
                  · omega
                rw [List.append_assoc, ← HS.out] at hv7
                go_roundg (nb + 1 - (j + 1))
                case measure => omega
                case rel => exact ⟨j + 1, F7, g7, n7, c7, by omega, rfl, by go_num, rfl, hv7, hF7, ⟨hO7.cell u0 hqF, hO7.cell u1 hqF, hO7.cell u2 hqF, hO7.cell u3 hqF⟩, hq7, ⟨hO7.cell p0 hpF, hO7.cell p1 hpF⟩, hp7, hb7⟩
          · have i2 : ¬ (j : Int) < (nb : Int) := by omega
            have hend : keptBy l e a b ++ keptTo2 l e b a j = outS l e a b 2 := by
              unfold keptTo2
              rw [List.take_of_length_le (by rw [← LB.out]; omega)]
              rfl
            rw [hend] at ho
            clear hend p0 p1 hpF
            go_wp2
            go_roundg (3 - 2)
            case measure => omega
            case rel => exact ⟨2, F3, g3, m3, c3, by omega, rfl, by go_num, rfl, ho, hF3, ⟨u0, u1, u2, u3⟩, hqF, hB⟩
end Go.Proofs.YtpihighajaeabaaGreat
