/- The items that one best item alone keeps off, in the reference. -/
import Derived.Test.YtpihighajaeabaaGreatQItems
import Derived.Test.YtpihighajaeabaaGreatQOwn3
import Derived.Test.YtpihighajaeabaaGreatQBestI
import Derived.Test.YtpihighajaeabaaGreatQExprS
import Derived.Test.YtpihighajaeabaaGreatQChangeM
import Derived.Test.YtpihighajaeabaaGreatQDom
import Derived.Test.YtpihighajaeabaaGreatQStanding
namespace Go.Proofs.YtpihighajaeabaaGreat
open Go.RowKit
set_option linter.unusedVariables false


end Go.Proofs.YtpihighajaeabaaGreat

namespace Go.Proofs.YtpihighajaeabaaGreat
open Go.RowKit
set_option linter.unusedVariables false
end Go.Proofs.YtpihighajaeabaaGreat

namespace Go.Proofs.YtpihighajaeabaaGreat
open Go.RowKit
set_option linter.unusedVariables false
end Go.Proofs.YtpihighajaeabaaGreat

namespace Go.Proofs.YtpihighajaeabaaGreat
open Go.RowKit
set_option linter.unusedVariables false
end Go.Proofs.YtpihighajaeabaaGreat

namespace Go.Proofs.YtpihighajaeabaaGreat
open Go.RowKit
set_option linter.unusedVariables false
set_option linter.unusedSimpArgs false
set_option maxRecDepth 100000 in
set_option maxHeartbeats 1600000 in
theorem S_l8Item (w : World) (l : List GItem) (id : Int) (bA oA n c k : Nat) (x : GItem) (SA : Option Addr) (sn sc : Nat) (h : Rd rItems w l [.slice (some ⟨bA, oA, none⟩) n c]) (hk : findIdx l id = (k : Int)) (hkn : k < n) (h0 : w.cell? ⟨bA, oA + k * 2, none⟩ = some (.int .i64 x.id)) (h1 : w.cell? ⟨bA, oA + k * 2 + 1, none⟩ = some (.slice SA sn sc)) :
    Calls Tryz.prog 86 #[.slice (some ⟨bA, oA, none⟩) n c, .int .i64 id] w (Ret w (.agg #[.int .i64 x.id, .slice SA sn sc])) := by
  have B0 : Bw w (w.alloc (.cells #[.int .i64 0, .slice none 0 0] 30)) := (Bw.refl w).alloc _
  have i1 : (0 : Int) ≤ (k : Int) := by omega
  have i2 : (k : Int) < (n : Int) := by omega
  have hz := World.block_lt_of_cell? _ _ h0
  have hcall := S_FindItem _ l id _ (h.bw rItems_good B0)
  rw [hk] at hcall
  clear hk hkn
  go_enter Tryz.func86, Tryz.ntmps86
  go_wp2_with fail
  refine (hcall).mono ?_
  rintro e w2 ⟨rfl, hb2⟩
  have hf : ∀ o, w2.frozen? ⟨w.heap.size, o, none⟩ = false := fun o => by rw [bw_frozen hb2 _ _ (by first | (simp; done) | (simp; omega))]; go_simp
  have q0 : w2.cell? ⟨w.heap.size, 0, none⟩ = some (.int .i64 0) := hb2.cell (by go_simp)
  have q1 : w2.cell? ⟨w.heap.size, 1, none⟩ = some (.slice none 0 0) := hb2.cell (by go_simp)
  have B2 := B0.then hb2
  have p0 := B2.cell h0
  have p1 := B2.cell h1
  clear hcall h0 h1 h
  go_wp2
  refine bodyPost_ret (v := .agg #[.int .i64 x.id, .slice SA sn sc]) (by simp [results, Tryz.results86, go_sem, q0, q1]) rfl ⟨rfl, ?_⟩
  repeat (first | with_reducible exact B2 | with_reducible refine Bw.set ?_ ?_ _)
  all_goals (dsimp only; omega)

end Go.Proofs.YtpihighajaeabaaGreat

namespace Go.Proofs.YtpihighajaeabaaGreat
open Go.RowKit
set_option linter.unusedVariables false
set_option linter.unusedSimpArgs false
def exIn (s : GStanding) (id : Int) (x : GItem) : Bool := beats s.wanted (itemAt s.items id) x && s.best.all fun b => b == id || !(beats s.wanted (itemAt s.items b) x)
def exclM (s : GStanding) (id : Int) : List Int := if isStand s && s.best.contains id then idsOf (exIn s id) s.items else []
theorem stand_both {s : GStanding} (h : isStand s = true) : areBoth s.items s.wanted = true ∧ s.best = bestM s.items s.wanted := by
  unfold isStand at h
  simp only [Bool.and_eq_true, decide_eq_true_iff] at h
  exact ⟨h.1, h.2.1⟩
theorem itemAt_mem {l : List GItem} (h : areItems l = true) {y : GItem} (hy : y ∈ l) : itemAt l y.id = y := by
  rcases findIdx_cases l y.id with ⟨_, hn⟩ | ⟨j, x, hf, hx, hid⟩
  · exact absurd rfl (hn y hy)
  · rw [itemAt_of hf hx]; exact areItems_uniq h (List.mem_of_getElem? hx) hy hid
theorem best_item {s : GStanding} (h : isStand s = true) {b : Int} (hb : b ∈ s.best) : ∃ y ∈ s.items, y.id = b := by
  obtain ⟨h1, h2⟩ := stand_both h
  rw [h2] at hb
  unfold bestM at hb
  obtain ⟨y, hy, e⟩ := List.mem_map.1 hb
  exact ⟨y, (List.mem_filter.1 hy).1, e⟩
theorem excl_yes {s : GStanding} {id : Int} (h : isStand s = true) (hc : s.best.contains id = true) : exclM s id = idsOf (exIn s id) s.items := by unfold exclM; rw [h, hc]; rfl
theorem excl_no {s : GStanding} {id : Int} (h : (isStand s && s.best.contains id) = false) : exclM s id = [] := by unfold exclM; rw [h]; rfl
theorem exclM_len (s : GStanding) (id : Int) (h : True) : (exclM s id).length ≤ s.items.length := by
  unfold exclM; split
  · exact idsOf_len _ _
  · exact Nat.zero_le _
/-- where an item of a given id lies -/
theorem item_cells {w : World} {l : List GItem} {b o n c : Nat} (h : Rd rItems w l [.slice (some ⟨b, o, none⟩) n c]) (hn : n = l.length) (hI : areItems l = true) {id : Int} (hid : ∃ y ∈ l, y.id = id) :
    ∃ (k : Nat) (A : Option Addr) (cc : Nat), findIdx l id = (k : Int) ∧ k < n ∧ isItem (itemAt l id) = true ∧ w.cell? ⟨b, o + k * 2, none⟩ = some (.int .i64 (itemAt l id).id) ∧ w.cell? ⟨b, o + k * 2 + 1, none⟩ = some (.slice A 3 cc) ∧ Rd rInts w (itemAt l id).vals [.slice A 3 cc] := by
  obtain ⟨y, hy, e⟩ := hid
  rcases findIdx_cases l id with ⟨_, hno⟩ | ⟨k, x, hf, hx, hxi⟩
  · exact absurd e (hno y hy)
  · have hP := areItems_mem hI (List.mem_of_getElem? hx)
    obtain ⟨b', o', A, cc, eA, _, h0, h1, h2⟩ := rItems_at h hx
    injection eA with eA
    injection eA with e1 e2
    subst e1 e2
    rw [isItem_len hP] at h1 h2
    refine ⟨k, A, cc, hf, ?_, ?_, ?_, h1, ?_⟩
    · rw [hn]; exact (List.getElem?_eq_some_iff.1 hx).1
    · rw [itemAt_of hf hx]; exact hP
    · rw [itemAt_of hf hx]; exact h0
    · rw [itemAt_of hf hx]; exact h2
set_option maxRecDepth 100000 in
set_option maxHeartbeats 6400000 in
theorem S_ExclusiveOf (w : World) (s : GStanding) (id : Int) (va vb vc : Value) (ha : Rd rItems w s.items [va]) (hb : Rd rNodes w s.wanted [vb]) (hc : Rd rInts w s.best [vc]) :
    Calls Tryz.prog 28 #[.agg #[va, vb, vc, .int .i64 s.tests], .int .i64 id] w (RetV w (Made fInts w.heap.size (exclM s id))) := by
  obtain ⟨i0, hi, hz0, hz1, hz2⟩ := info_parts info_int
  obtain ⟨A, n, c, rfl, L0, Lc, Lm⟩ := rSl_open ha
  unfold maxLen at Lm
  have L := Lib.hid L0
  clear L0
  obtain ⟨B, m, c2, rfl, M0, Mc, Mm⟩ := rSl_open hc
  unfold maxLen at Mm
  have M := Lib.hid M0
  clear M0
  obtain ⟨W0, hW0⟩ : ∃ W0, W0 = w.alloc (.cells #[.slice A n c, vb, .slice B m c2, .int .i64 s.tests] 28) := ⟨_, rfl⟩
  have B0 : Bw w W0 := by rw [hW0]; exact (Bw.refl w).alloc _
  have z0 : W0.cell? ⟨w.heap.size, 0, none⟩ = some (.slice A n c) := by rw [hW0]; go_simp
  have z1 : W0.cell? ⟨w.heap.size, 1, none⟩ = some vb := by rw [hW0]; go_simp
  have z2 : W0.cell? ⟨w.heap.size, 2, none⟩ = some (.slice B m c2) := by rw [hW0]; go_simp
  have z3 : W0.cell? ⟨w.heap.size, 3, none⟩ = some (.int .i64 s.tests) := by rw [hW0]; go_simp
  have hs0 : W0.heap.size = w.heap.size + 1 := by rw [hW0]; simp
  have HS0 := Lib.hid hs0
  obtain ⟨Y, hY⟩ : ∃ Y, Y = exclM s id := ⟨_, rfl⟩
  rw [← hY]
  have HY := Lib.hid hY
  clear hY
  have HW0 := Lib.hid hW0
  have hv0 := fSl_empty (e := 3) (sz := 1) (R := fInt) W0
  have A0 : Bw W0 (W0.alloc (.cells #[] 3)) := (Bw.refl W0).alloc _
  have y0 := A0.cell z0
  have y1 := A0.cell z1
  have y2 := A0.cell z2
  have y3 := A0.cell z3
  have hst := fun W (b : Bw w W) => S_IsStanding W s _ _ _ (ha.bw rItems_good b) (hb.bw rNodes_good b) (hc.bw rInts_good b)
  have HC := Lib.hid hc
  have HA := Lib.hid ha
  have HST := Lib.hid hst
  have hYs : (W0.alloc (.cells #[] 3)).heap.size = W0.heap.size + 1 := by simp
  rw [hs0] at hv0
  clear hW0 hst ha hc hs0
  obtain ⟨Y0, hY0⟩ : ∃ Y0, Y0 = W0.alloc (.cells #[] 3) := ⟨_, rfl⟩
  rw [← hY0] at y0 y1 y2 y3 A0 hv0
  have HY0 := Lib.hid hY0
  clear hY0 hYs
  go_enter Tryz.func28, Tryz.ntmps28
  go_wp2_with fail
  rw [← HW0.out, ← HY0.out]
  refine (HST.out _ (B0.then A0)).mono ?_
  rintro e w1 ⟨rfl, hb1⟩
  replace y0 := hb1.cell y0
  replace y1 := hb1.cell y1
  replace y2 := hb1.cell y2
  have C1 := A0.then hb1
  have hv1 := (fInts_good (B := W0.heap.size)).bw hb1 A0.size hv0
  rcases Bool.eq_false_or_eq_true (isStand s) with e1 | e1
  · have E1 := Lib.hid e1
    rw [e1]
    clear e1
    go_wp2_with fail
    refine (S_l2Has _ s.best id _ (HC.out.bw rInts_good (B0.then C1))).mono ?_
    rintro e w2 ⟨rfl, hb2⟩
    replace y0 := hb2.cell y0
    replace y1 := hb2.cell y1
    replace y2 := hb2.cell y2
    have C2 := C1.then hb2
    have hv2 := (fInts_good (B := W0.heap.size)).bw hb2 C1.size hv1
    rcases Bool.eq_false_or_eq_true (s.best.contains id) with e2 | e2
    · have E2 := Lib.hid e2
      rw [e2]
      clear e2
      have HB := Lib.hid (stand_both E1.out).1
      have HI := Lib.hid (areBoth_items HB.out)
      have n16 : n ≤ 16 := by rw [L.out]; exact areItems_len HI.out
      have hidm : id ∈ s.best := by simpa using E2.out
      obtain ⟨bA, oA, rfl⟩ : ∃ b o, A = some ⟨b, o, none⟩ := by
        obtain ⟨y, hy, _⟩ := best_item E1.out hidm
        obtain ⟨k, hk⟩ := List.mem_iff_getElem?.1 hy
        obtain ⟨b, o, A2, c2, e, _⟩ := rItems_at HA.out hk
        exact ⟨b, o, e⟩
      have hcells := fun id' (h : id' ∈ s.best) => item_cells HA.out L.out HI.out (best_item E1.out h)
      obtain ⟨kp, Ap, cp, hpf, hpn, hpi, hp0, hp1, hp2⟩ := hcells id hidm
      have HCE := Lib.hid hcells
      clear hcells hv1 hv0 C1 z0 z1 z2 z3 y3
      have HPI := Lib.hid hpi
      have HPF := Lib.hid hpf
      clear hpi hpf hidm
      obtain ⟨p, hp⟩ : ∃ p, p = itemAt s.items id := ⟨_, rfl⟩
      rw [← hp] at hp0 hp2 HPI
      have HP := Lib.hid hp
      clear hp
      obtain ⟨f, hf⟩ : ∃ f, f = exIn s id := ⟨_, rfl⟩
      have HF := Lib.hid hf
      clear hf
      go_wp2
      go_loopg [5, 6] n (fun g t i w' => ∃ (k : Nat) (F : List Nat), k ≤ n ∧ g = n - k ∧ i = .int .i64 k ∧ fInts w' (idsTo f s.items k) [t] F ∧ Fresh W0.heap.size F ∧ w'.cell? ⟨w.heap.size, 0, none⟩ = some (.slice (some ⟨bA, oA, none⟩) n c) ∧ w'.cell? ⟨w.heap.size, 1, none⟩ = some vb ∧ w'.cell? ⟨w.heap.size, 2, none⟩ = some (.slice B m c2) ∧ Bw W0 w')
      case atStart => exact ⟨0, _, by omega, rfl, rfl, hv2, ⟨by simp, fun b hb => by have := HS0.out; simp at hb; omega⟩, y0, y1, y2, C2⟩
      case round =>
        clear hv2 C2 y0 y1 y2
        obtain ⟨k, F, hk, rfl, rfl, hv, hF, y0, y1, y2, hbb⟩ := hrel
        have bw0 := B0.then hbb
        have ha := HA.out.bw rItems_good bw0
        by_cases hlt : k < n
        · obtain ⟨x, hx⟩ := get_of_lt (xs := s.items) (k := k) (by have := L.out; omega)
          obtain ⟨bx, ox, Ax, cx, eA, _, hd0, hd1, hin2⟩ := rItems_at ha hx
          injection eA with eA
          injection eA with eA1 eA2
          subst eA1 eA2
          have HPx := Lib.hid (areItems_mem HI.out (List.mem_of_getElem? hx))
          have hlen := isItem_len HPx.out
          rw [hlen] at hd1 hin2
          have i1 : (0 : Int) ≤ (k : Int) := by omega
          have i2 : (k : Int) < (n : Int) := by omega
          have HYES := Lib.hid (fun hf => idsTo_yes (f := f) hx hf)
          have HNO := Lib.hid (fun hf => idsTo_no (f := f) hx hf)
          have HFX := Lib.hid (show f x = (beats s.wanted p x && s.best.all fun b => b == id || !(beats s.wanted (itemAt s.items b) x)) by rw [HF.out, HP.out]; rfl)
          have s0 := since_cell y0
          have s1 := since_cell y1
          have s2 := since_cell hd0
          have s3 := since_cell hd1
          have c8 : ∀ q : Since wr, Calls Tryz.prog 86 #[.slice (some ⟨bA, oA, none⟩) n c, .int .i64 id] q.1 (Ret q.1 (.agg #[.int .i64 p.id, .slice Ap 3 cp])) := fun q => S_l8Item q.1 s.items id bA oA n c kp p Ap 3 cp (ha.bw rItems_good q.bw) HPF.out hpn ((bw0.then q.bw).cell hp0) ((bw0.then q.bw).cell hp1)
          have c5 : ∀ q : Since wr, Calls Tryz.prog 85 #[vb, .agg #[.int .i64 p.id, .slice Ap 3 cp], .agg #[.int .i64 x.id, .slice Ax 3 cx]] q.1 (Ret q.1 (.int .i64 (cmpBy s.wanted p x))) := fun q => S_l5Compare q.1 s.wanted p x _ _ _ (hb.bw rNodes_good (bw0.then q.bw)) (hp2.bw rInts_good (bw0.then q.bw)) (Rd.bw rInts_good hin2 q.bw) (areBoth_expr HB.out) HPI.out HPx.out
          obtain ⟨r, hr⟩ : ∃ r, r = cmpBy s.wanted p x := ⟨_, rfl⟩
          have HR := Lib.hid (show beats s.wanted p x = (r == 1) by rw [hr]; unfold beats; rw [Bool.eq_iff_iff]; simp)
          rw [← hr] at c5
          have HAA := Lib.hid ha
          clear hx hlen hr ha
          go_wp2
          refine wp_region_since (by kernel_rfl) (by kernel_rfl) ?_
          repeat (first | go_big_quiet_skip | (go_big_quiet_want; go_big_quiet_op; first | go_big_quiet_on | (apply Exists.intro; refine ⟨fun _ => ?_, ?_⟩; (· (((first | (go_at_call 86; exact Calls_since (c8 _)) | (go_at_call 85; exact Calls_since (c5 _)))))); go_big_quiet_on)))
          refine wpQuiet_nil ?_
          rintro ⟨wq, hbq⟩
          dsimp only at *
          replace y0 := hbq.cell y0
          replace y1 := hbq.cell y1
          replace y2 := hbq.cell y2
          replace hd0 := hbq.cell hd0
          replace hd1 := hbq.cell hd1
          have bbq := hbb.then hbq
          have bwq := bw0.then hbq
          have hvq := (fInts_good (B := W0.heap.size)).bw hbq hbb.size hv
          have hinx := Rd.bw rInts_good hin2 hbq
          clear s0 s1 s2 s3 c8 c5 hv hin2
          go_wp2
          go_loopg [7, 8] m (fun g t i2 w' => ∃ (j : Nat) (q : Bool), j ≤ m ∧ g = m - j ∧ i2 = .int .i64 j ∧ t = .bool q ∧ Hid (q = ((r == 1) && (s.best.take j).all fun b => b == id || !(beats s.wanted (itemAt s.items b) x))) ∧ Bw wq w')
          case atStart => exact ⟨0, r == 1, by omega, rfl, rfl, rfl, Lib.hid (by simp), Bw.refl _⟩
          case round =>
            obtain ⟨j, q, hj, rfl, rfl, rfl, HQ, hbj⟩ := hrel
            have t0 := hbj.cell y0
            have t1 := hbj.cell y1
            have t2 := hbj.cell y2
            have t3 := hbj.cell hd0
            have t4 := hbj.cell hd1
            have bwj := bwq.then hbj
            have hcj := HC.out.bw rInts_good bwj
            by_cases hlt2 : j < m
            · obtain ⟨d, hd⟩ := get_of_lt (xs := s.best) (k := j) (by have := M.out; omega)
              obtain ⟨bb, ob, rfl, _, hcd⟩ := rInts_at hcj hd
              have hdm := List.mem_of_getElem? hd
              have i3 : (0 : Int) ≤ (j : Int) := by omega
              have i4 : (j : Int) < (m : Int) := by omega
              have HS := Lib.hid (show ((s.best.take (j + 1)).all fun b => b == id || !(beats s.wanted (itemAt s.items b) x)) = (((s.best.take j).all fun b => b == id || !(beats s.wanted (itemAt s.items b) x)) && (d == id || !(beats s.wanted (itemAt s.items d) x))) by
                rw [List.take_add_one, hd, List.all_append]; simp)
              have s0 := since_cell t0
              have s1 := since_cell t1
              have s2 := since_cell t2
              have s3 := since_cell t3
              have s4 := since_cell t4
              have s5 := since_cell hcd
              obtain ⟨kd, Ad, cd, hdf, hdn, hdi, hdc0, hdc1, hdc2⟩ := HCE.out d hdm
              have c8 : ∀ q : Since wr, Calls Tryz.prog 86 #[.slice (some ⟨bA, oA, none⟩) n c, .int .i64 d] q.1 (Ret q.1 (.agg #[.int .i64 (itemAt s.items d).id, .slice Ad 3 cd])) := fun q => S_l8Item q.1 s.items d bA oA n c kd (itemAt s.items d) Ad 3 cd (HA.out.bw rItems_good (bwj.then q.bw)) hdf hdn ((bwj.then q.bw).cell hdc0) ((bwj.then q.bw).cell hdc1)
              have c5 : ∀ q : Since wr, Calls Tryz.prog 85 #[vb, .agg #[.int .i64 (itemAt s.items d).id, .slice Ad 3 cd], .agg #[.int .i64 x.id, .slice Ax 3 cx]] q.1 (Ret q.1 (.int .i64 (cmpBy s.wanted (itemAt s.items d) x))) := fun q => S_l5Compare q.1 s.wanted (itemAt s.items d) x _ _ _ (hb.bw rNodes_good (bwj.then q.bw)) (hdc2.bw rInts_good (bwj.then q.bw)) (Rd.bw rInts_good hinx (hbj.then q.bw)) (areBoth_expr HB.out) hdi HPx.out
              obtain ⟨y, hy⟩ : ∃ y, y = itemAt s.items d := ⟨_, rfl⟩
              rw [← hy] at c8 c5
              obtain ⟨r2, hr2⟩ : ∃ r2, r2 = cmpBy s.wanted y x := ⟨_, rfl⟩
              have HR2 := Lib.hid (show beats s.wanted (itemAt s.items d) x = (r2 == 1) by rw [hr2, hy]; unfold beats; rw [Bool.eq_iff_iff]; simp)
              rw [← hr2] at c5
              have HCJ := Lib.hid hcj
              clear hd hdm hdf hdn hdi hdc0 hdc1 hdc2 hy hr2 hcj
              cases q with
              | false =>
                have HQ2 := Lib.hid (show false = ((r == 1) && (s.best.take (j + 1)).all fun b => b == id || !(beats s.wanted (itemAt s.items b) x)) by rw [HS.out, ← Bool.and_assoc, ← HQ.out]; rfl)
                clear HQ HS c8 c5
                go_wp2
                refine wp_region_since (by kernel_rfl) (by kernel_rfl) ?_
                repeat (first | go_big_quiet_skip | (go_big_quiet_want; go_big_quiet_op; first | go_big_quiet_on | (apply Exists.intro; refine ⟨fun _ => ?_, ?_⟩; (· ((fail))); go_big_quiet_on)))
                refine wpQuiet_nil ?_
                rintro ⟨wq, hbq⟩
                dsimp only at *
                go_wp2
                go_roundg (m - (j + 1))
                case measure => omega
                case rel => exact ⟨j + 1, false, by omega, rfl, by go_num, rfl, HQ2, hbj.then hbq⟩
              | true =>
                have HQ0 := Lib.hid (show (d == id || !(r2 == 1)) = ((r == 1) && (s.best.take (j + 1)).all fun b => b == id || !(beats s.wanted (itemAt s.items b) x)) by rw [HS.out, ← Bool.and_assoc, ← HQ.out, HR2.out, Bool.true_and])
                clear HQ HS
                by_cases hdi : d = id
                · have e0 : (d == id) = true := by simpa using hdi
                  have HQ2 := Lib.hid (show true = ((r == 1) && (s.best.take (j + 1)).all fun b => b == id || !(beats s.wanted (itemAt s.items b) x)) by rw [← HQ0.out, e0]; rfl)
                  clear hdi HQ0 c8 c5
                  go_wp2
                  refine wp_region_since (by kernel_rfl) (by kernel_rfl) ?_
                  repeat (first | go_big_quiet_skip | (go_big_quiet_want; go_big_quiet_op; first | go_big_quiet_on | (apply Exists.intro; refine ⟨fun _ => ?_, ?_⟩; (· ((fail))); go_big_quiet_on)))
                  refine wpQuiet_nil ?_
                  rintro ⟨wq, hbq⟩
                  dsimp only at *
                  go_wp2
                  go_roundg (m - (j + 1))
                  case measure => omega
                  case rel => exact ⟨j + 1, true, by omega, rfl, by go_num, rfl, HQ2, hbj.then hbq⟩
                · have e0 : (d == id) = false := by simpa using hdi
                  have HQ1 := Lib.hid (show (!(r2 == 1)) = ((r == 1) && (s.best.take (j + 1)).all fun b => b == id || !(beats s.wanted (itemAt s.items b) x)) by rw [← HQ0.out, e0]; rfl)
                  clear hdi HQ0
                  by_cases hr1 : r2 = 1
                  · have e1 : (r2 != 1) = false := by simpa using hr1
                    have HQ2 := Lib.hid (show false = ((r == 1) && (s.best.take (j + 1)).all fun b => b == id || !(beats s.wanted (itemAt s.items b) x)) by rw [← HQ1.out, hr1]; rfl)
                    clear hr1 HQ1 HR2
                    go_wp2
                    refine wp_region_since (by kernel_rfl) (by kernel_rfl) ?_
                    repeat (first | go_big_quiet_skip | (go_big_quiet_want; go_big_quiet_op; first | go_big_quiet_on | (apply Exists.intro; refine ⟨fun _ => ?_, ?_⟩; (· (((first | (go_at_call 86; exact Calls_since (c8 _)) | (go_at_call 85; exact Calls_since (c5 _)))))); go_big_quiet_on)))
                    refine wpQuiet_nil ?_
                    rintro ⟨wq, hbq⟩
                    dsimp only at *
                    go_wp2
                    go_roundg (m - (j + 1))
                    case measure => omega
                    case rel => exact ⟨j + 1, false, by omega, rfl, by go_num, rfl, HQ2, hbj.then hbq⟩
                  · have e1 : (r2 != 1) = true := by simpa using hr1
                    have HQ2 := Lib.hid (show true = ((r == 1) && (s.best.take (j + 1)).all fun b => b == id || !(beats s.wanted (itemAt s.items b) x)) by rw [← HQ1.out]; simpa using hr1)
                    clear hr1 HQ1 HR2
                    go_wp2
                    refine wp_region_since (by kernel_rfl) (by kernel_rfl) ?_
                    repeat (first | go_big_quiet_skip | (go_big_quiet_want; go_big_quiet_op; first | go_big_quiet_on | (apply Exists.intro; refine ⟨fun _ => ?_, ?_⟩; (· (((first | (go_at_call 86; exact Calls_since (c8 _)) | (go_at_call 85; exact Calls_since (c5 _)))))); go_big_quiet_on)))
                    refine wpQuiet_nil ?_
                    rintro ⟨wq, hbq⟩
                    dsimp only at *
                    go_wp2
                    go_roundg (m - (j + 1))
                    case measure => omega
                    case rel => exact ⟨j + 1, true, by omega, rfl, by go_num, rfl, HQ2, hbj.then hbq⟩
            · obtain rfl : j = m := by omega
              have HFF := Lib.hid (show f x = q by rw [HFX.out, HR.out, HQ.out, List.take_of_length_le (by rw [← M.out]; exact Nat.le_refl _)])
              have hv1 := (fInts_good (B := W0.heap.size)).bw hbj bbq.size hvq
              have bbj := bbq.then hbj
              have hcj := HC.out
              clear HQ hlt2 hvq hcj
              cases q with
              | false =>
                have HB2 := Lib.hid (HNO.out HFF.out)
                go_wp2
                go_roundg (n - (k + 1))
                case measure => omega
                case rel => exact ⟨k + 1, F, by omega, rfl, by go_num, by rw [HB2.out]; exact hv1, hF, t0, t1, t2, bbj⟩
              | true =>
                have HB2 := Lib.hid (HYES.out HFF.out)
                have HBL := Lib.hid (idsTo_len (f := f) (l := s.items) (k := k))
                have hFm := (fInts_good (B := 0)).lt hv1
                have A3 : Bw wr (wr.alloc (.cells #[.int .i64 x.id] 3)) := (Bw.refl wr).alloc _
                have hvW := (fInts_good (B := W0.heap.size)).bw A3 bbj.size hv1
                have hbW := bbj.then A3
                have hcl := cell_one_new wr (.int .i64 x.id) 3
                have hbs := bbj.size
                have hzz : w.heap.size < W0.heap.size := by rw [HW0.out]; simp
                clear hv1
                go_wp2_with (at_builtin; refine wpList_push _ rfl (.tmp 78) (.tmp 85) 26 rfl W0 3 i0 _ 1 8 Tryz.underlying26 hi hz0 hz1 hz2 rfl (by omega) fInt_good _ (idsTo f s.items k) F rfl hvW hF ⟨wr.heap.size, 0, none⟩ 1 rfl x.id [.int .i64 x.id] [] hcl ⟨rfl, rfl⟩ rfl _ hFm Fresh.nil hbs (by have := HBL.out; omega) (by have := HBL.out; omega) hbW ?_; intro v' w' F' hv' hF' hb'; have hcell : ∀ o u, wr.cell? ⟨w.heap.size, o, none⟩ = some u → w'.cell? ⟨w.heap.size, o, none⟩ = some u := (fun o u h => (Below.cell hb' (p := ⟨w.heap.size, o, none⟩) hzz).trans ((Below.cell bbj (p := ⟨w.heap.size, o, none⟩) hzz).symm.trans h)); replace t0 := hcell _ _ t0; replace t1 := hcell _ _ t1; replace t2 := hcell _ _ t2; clear hcell)
                go_roundg (n - (k + 1))
                case measure => omega
                case rel => exact ⟨k + 1, F', by omega, rfl, by go_num, by rw [HB2.out]; exact hv', hF', t0, t1, t2, hb'⟩
        · obtain rfl : k = n := by omega
          rw [idsTo_end (by rw [← L.out]; exact Nat.le_refl _), HF.out, ← excl_yes E1.out E2.out, ← HY.out] at hv
          go_wp2
          go_ret
          exact ⟨_, rfl, ⟨F, hv, hF.mono B0.size⟩, bw0⟩
    · have E2 := Lib.hid (excl_no (s := s) (id := id) (by rw [E1.out, e2]; rfl))
      rw [e2]
      rw [← E2.out, ← HY.out] at hv2
      clear e2
      go_wp2
      go_ret
      exact ⟨_, rfl, ⟨_, hv2, ⟨by simp, by simp⟩⟩, B0.then C2⟩
  · have E2 := Lib.hid (excl_no (s := s) (id := id) (by rw [e1]; rfl))
    rw [e1]
    rw [← E2.out, ← HY.out] at hv1
    clear e1
    go_wp2
    go_ret
    exact ⟨_, rfl, ⟨_, hv1, ⟨by simp, by simp⟩⟩, B0.then C1⟩
end Go.Proofs.YtpihighajaeabaaGreat
