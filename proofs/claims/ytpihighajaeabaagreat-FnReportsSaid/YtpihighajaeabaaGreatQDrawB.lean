/- Draws: one step of the cursor. -/
import Derived.Test.YtpihighajaeabaaGreatProg
import Derived.Test.YtpihighajaeabaaGreatQBoxT
import Derived.Test.YtpihighajaeabaaGreatQText
namespace Go.Proofs.YtpihighajaeabaaGreat
open Go.RowKit
set_option linter.unusedVariables false
set_option linter.unusedSimpArgs false
/-- a number and 255 -/
theorem bits_255 (x : Int) : 0 ≤ bits .and .i64 x 255 ∧ bits .and .i64 x 255 ≤ 255 := by
  have h : ((BitVec.ofInt 64 x &&& BitVec.ofInt 64 255).toNat) ≤ 255 := by
    rw [BitVec.toNat_and]
    exact Nat.le_trans Nat.and_le_right (by decide)
  have e : bits .and .i64 x 255 = IntKind.i64.wrap ((BitVec.ofInt 64 x &&& BitVec.ofInt 64 255).toNat : Int) := rfl
  rw [e]
  obtain ⟨m, hm⟩ : ∃ m, m = (BitVec.ofInt 64 x &&& BitVec.ofInt 64 255).toNat := ⟨_, rfl⟩
  rw [← hm] at h ⊢
  simp [IntKind.wrap, IntKind.bits, IntKind.signed]
  omega
/-- the cursor lies in block p; what it reads lies below -/
def Cur (W : World) (p : Nat) : Prop := ∃ (xs : List Int) (A : Option Addr) (n c i : Nat) (h : Int), W.cell? ⟨p, 0, none⟩ = some (.slice A n c) ∧ W.cell? ⟨p, 1, none⟩ = some (.int .i64 (i : Int)) ∧ W.cell? ⟨p, 2, none⟩ = some (.int .i64 h) ∧
  (∀ o, W.frozen? ⟨p, o, none⟩ = false) ∧ i ≤ n ∧ rSl 1 rU8 W (fun b => b < p) xs [.slice A n c] ∧ ∀ x ∈ xs, 0 ≤ x ∧ x ≤ 255
structure At (w0 : World) (p : Nat) (w : World) : Prop where
  bw : Bw w0 w
  ge : w0.heap.size ≤ p
  cur : Cur w p
theorem At.lt {w0 w : World} {p : Nat} (h : At w0 p w) : p < w.heap.size := by
  obtain ⟨_, _, _, _, _, _, h0, _⟩ := h.cur
  exact World.block_lt_of_cell? _ _ h0
/-- a call with the cursor: what it returns is of the kind R; else nothing has turned but the cursor -/
def RetD (w0 : World) (p : Nat) (w : World) (R : World → Value → Prop) (e : Ending) (w' : World) : Prop := ∃ v, e = .returned v ∧ R w' v ∧ Only [p] w w' ∧ At w0 p w'
def IntIn (a b : Int) (_ : World) (v : Value) : Prop := ∃ n, v = .int .i64 n ∧ a ≤ n ∧ n < b
/-- a cursor is left as it was where its block is -/
theorem Cur.same {w w' : World} {p : Nat} (h : Cur w p) (hb : ∀ b, b ≤ p → w'.heap[b]? = w.heap[b]?) : Cur w' p := by
  obtain ⟨xs, A, n, c, i, k, h0, h1, h2, hf, hi, hr, hx⟩ := h
  exact ⟨xs, A, n, c, i, k, (World.cell?_of_block (hb _ (Nat.le_refl _))).trans h0, (World.cell?_of_block (hb _ (Nat.le_refl _))).trans h1, (World.cell?_of_block (hb _ (Nat.le_refl _))).trans h2,
    fun o => (World.frozen?_of_block (hb _ (Nat.le_refl _))).trans (hf o), hi, (rSl_good rU8_good).step ⟨fun _ h => h, fun q hq => World.cell?_of_block (hb _ (Nat.le_of_lt hq))⟩ hr, hx⟩
theorem At.bwStep {w0 w w' : World} {p : Nat} (h : At w0 p w) (hb : Bw w w') : At w0 p w' := ⟨h.bw.then hb, h.ge, h.cur.same fun b hb2 => Below.block hb b (Nat.lt_of_le_of_lt hb2 h.lt)⟩
/-- only blocks above the cursor have turned -/
theorem At.onlyStep {w0 w w' : World} {p : Nat} {F : List Nat} (h : At w0 p w) (hO : Only F w w') (hF : ∀ b ∈ F, p < b) (hb : Bw w0 w') : At w0 p w' :=
  ⟨hb, h.ge, h.cur.same fun b hb2 => hO.2 b (Nat.lt_of_le_of_lt hb2 h.lt) fun e => by have := hF b e; omega⟩
end Go.Proofs.YtpihighajaeabaaGreat

namespace Go.Proofs.YtpihighajaeabaaGreat
open Go.RowKit
set_option linter.unusedVariables false
set_option linter.unusedSimpArgs false
set_option maxRecDepth 100000 in
set_option maxHeartbeats 3200000 in
theorem D_l1Byte (w0 w : World) (p : Nat) (hA : At w0 p w) : Calls Tryz.prog 156 #[.pointer (some ⟨p, 0, none⟩)] w (RetD w0 p w (IntIn 0 256)) := by
  obtain ⟨xs, A, n, c, i, k, h0, h1, h2, hf, hi, hr, hx⟩ := hA.cur
  have hin := hA.bw
  have hlt := hA.lt
  obtain ⟨L, l1, l2⟩ := rSl_len hr
  have HL := Lib.hid L
  clear L
  unfold maxLen at l2
  have HX := Lib.hid hx
  have HR := Lib.hid hr
  have hge := hA.ge
  clear hx hr hin
  go_enter Tryz.func156, Tryz.ntmps156
  go_wp2_with fail
  obtain ⟨X, hX⟩ : ∃ X, X = wrap64 (wrap64 (k * 6364136223846793005) + 1442695040888963407) := ⟨_, rfl⟩
  rw [← hX]
  clear hX
  have c0 : (w.setCell ⟨p, 2, none⟩ (.int .i64 X)).cell? ⟨p, 0, none⟩ = some (.slice A n c) := by go_simp
  have c1 : (w.setCell ⟨p, 2, none⟩ (.int .i64 X)).cell? ⟨p, 1, none⟩ = some (.int .i64 (i : Int)) := by go_simp
  have c2 : (w.setCell ⟨p, 2, none⟩ (.int .i64 X)).cell? ⟨p, 2, none⟩ = some (.int .i64 X) := by go_simp
  have f1 : ∀ o, (w.setCell ⟨p, 2, none⟩ (.int .i64 X)).frozen? ⟨p, o, none⟩ = false := fun o => by go_simp
  have z1 : (w.setCell ⟨p, 2, none⟩ (.int .i64 X)).heap.size = w.heap.size := by go_simp
  have O1 : Only [p] w (w.setCell ⟨p, 2, none⟩ (.int .i64 X)) := only_setCell _ _ _ _
  have B1 : Bw w0 (w.setCell ⟨p, 2, none⟩ (.int .i64 X)) := hA.bw.set hge _
  obtain ⟨W1, hW1⟩ : ∃ W1, W1 = w.setCell ⟨p, 2, none⟩ (.int .i64 X) := ⟨_, rfl⟩
  rw [← hW1] at c0 c1 c2 f1 O1 B1 z1 ⊢
  clear hW1
  have s0 := since_cell c0
  have s1 := since_cell c1
  have s2 := since_cell c2
  refine wp_region_since (by kernel_rfl) (by kernel_rfl) ?_
  repeat (first | go_big_quiet_skip | (go_big_quiet_want; go_big_quiet_op; first | go_big_quiet_on | (apply Exists.intro; refine ⟨fun _ => ?_, ?_⟩; (· ((fail))); go_big_quiet_on)))
  refine wpQuiet_nil ?_
  rintro ⟨wq, hbq⟩
  dsimp only at *
  have d0 := hbq.cell c0
  have d1 := hbq.cell c1
  have d2 := hbq.cell c2
  clear s0 s1 s2
  have s0 := since_cell d0
  have s1 := since_cell d1
  have Bq := hbq
  clear hbq
  by_cases hin : i < n
  · obtain ⟨x, hx⟩ := get_of_lt (xs := xs) (k := i) (by have := HL.out; omega)
    obtain ⟨bx, ox, rfl, hbx, hcx⟩ := rU8s_at HR.out hx
    have hxb := HX.out x (List.mem_of_getElem? hx)
    have i1 : (0 : Int) ≤ (i : Int) := by omega
    have i2 : (i : Int) < (n : Int) := by omega
    have hbx' : bx < p := hbx
    replace hcx := Bq.cell (O1.cell hcx (by simp; omega))
    clear hx hbx
    go_wp2_with fail
    refine wp_region_since (by kernel_rfl) (by kernel_rfl) ?_
    repeat (first | go_big_quiet_skip | (go_big_quiet_want; go_big_quiet_op; first | go_big_quiet_on | (apply Exists.intro; refine ⟨fun _ => ?_, ?_⟩; (· ((fail))); go_big_quiet_on)))
    refine wpQuiet_nil ?_
    rintro ⟨wq, hbq⟩
    dsimp only at *
    have e0 := hbq.cell d0
    have e1 := hbq.cell d1
    have e2 := hbq.cell d2
    have hB := Bq.then hbq
    replace hcx := hbq.cell hcx
    clear s0 s1
    have s0 := since_cell e0
    have s1 := since_cell e1
    have s3 := since_cell hcx
    clear hbq
    go_wp2_with fail
    refine wp_region_since (by kernel_rfl) (by kernel_rfl) ?_
    repeat (first | go_big_quiet_skip | (go_big_quiet_want; go_big_quiet_op; first | go_big_quiet_on | (apply Exists.intro; refine ⟨fun _ => ?_, ?_⟩; (· ((fail))); go_big_quiet_on)))
    refine wpQuiet_nil ?_
    rintro ⟨wq, hbq⟩
    dsimp only at *
    have b1 := hbq.cell e1
    have b0 := hbq.cell e0
    have b2 := hbq.cell e2
    have hB2 := hB.then hbq
    clear s0 s1 s3 hcx hbq
    have hfq : ∀ o, wq.frozen? ⟨p, o, none⟩ = false := fun o => (bw_frozen hB2 p o (by omega)).trans (f1 o)
    go_wp2
    go_ret
    have h255 := bits_255
    refine ⟨_, rfl, ⟨_, rfl, (h255 _).1, by have := (h255 (wrap64 (bits BinOp.and IntKind.i64 (bits BinOp.xor IntKind.i64 (X / 8589934592) (X / 35184372088832)) 255 + x))).2; omega⟩, ?_, ?_⟩
    · exact (O1.bwNext hB2).then (only_setCell _ _ _ _) (fun _ h => h)
    · refine ⟨(B1.then hB2).set hge _, hge, xs, some ⟨bx, ox, none⟩, n, c, i + 1, X, ?_, ?_, ?_, ?_, by omega, ?_, HX.out⟩
      · go_simp
      · go_simp
      · go_simp
      · intro o; go_simp
      · exact (rSl_good rU8_good).step ⟨fun _ h => h, fun q hq => by
          have hq' : q.block < p := hq
          rw [World.cell?_of_block (Below.heap_setCell _ _ _ _ (by simp; omega))]
          exact World.cell?_of_block (((O1.bwNext hB2)).2 _ (by omega) (by simp; omega))⟩ HR.out
  · go_wp2_with fail
    refine wp_region_since (by kernel_rfl) (by kernel_rfl) ?_
    repeat (first | go_big_quiet_skip | (go_big_quiet_want; go_big_quiet_op; first | go_big_quiet_on | (apply Exists.intro; refine ⟨fun _ => ?_, ?_⟩; (· ((fail))); go_big_quiet_on)))
    refine wpQuiet_nil ?_
    rintro ⟨wq, hbq⟩
    dsimp only at *
    have e0 := hbq.cell d0
    have e1 := hbq.cell d1
    have e2 := hbq.cell d2
    have hB2 := Bq.then hbq
    clear s0 s1 hbq
    go_wp2
    go_ret
    have hfq : ∀ o, wq.frozen? ⟨p, o, none⟩ = false := fun o => (bw_frozen hB2 p o (by omega)).trans (f1 o)
    refine ⟨_, rfl, ⟨_, rfl, (bits_255 _).1, by have := (bits_255 (bits BinOp.xor IntKind.i64 (X / 8589934592) (X / 35184372088832))).2; omega⟩, O1.bwNext hB2, ?_⟩
    refine ⟨B1.then hB2, hge, xs, A, n, c, i, X, e0, e1, e2, hfq, hi, ?_, HX.out⟩
    exact (rSl_good rU8_good).step ⟨fun _ h => h, fun q hq => by
      have hq' : q.block < p := hq
      exact World.cell?_of_block ((O1.bwNext hB2).2 _ (by omega) (by simp; omega))⟩ HR.out
/-- behind a call that only turned the cursor -/
theorem RetD.int {w0 w w' : World} {p : Nat} {a b n : Int} (h1 : a ≤ n) (h2 : n < b) (hO : Only [p] w w') (hA : At w0 p w') : RetD w0 p w (IntIn a b) (.returned (.int .i64 n)) w' := ⟨_, rfl, ⟨n, rfl, h1, h2⟩, hO, hA⟩
set_option maxRecDepth 100000 in
set_option maxHeartbeats 1600000 in
theorem D_l1Below (w0 w : World) (p : Nat) (hA : At w0 p w) (N : Int) (h1 : 0 < N) (h2 : N ≤ 1073741824) : Calls Tryz.prog 74 #[.pointer (some ⟨p, 0, none⟩), .int .i64 N] w (RetD w0 p w (IntIn 0 N)) := by
  by_cases h256 : N ≤ 256
  · have hcall := D_l1Byte w0 w p hA
    go_enter Tryz.func74, Tryz.ntmps74
    go_wp2_with fail
    refine hcall.mono ?_
    rintro e w1 ⟨v, rfl, ⟨x, rfl, x1, x2⟩, hO, hA1⟩
    have r1 := Int.emod_nonneg x (show N ≠ 0 by omega)
    have r2 := Int.emod_lt_of_pos x h1
    have hr : Int.tmod x N = x % N := Int.tmod_eq_emod_of_nonneg x1
    go_wp2
    go_ret
    first
      | exact RetD.int r1 r2 hO hA1
      | (rw [hr]; exact RetD.int r1 r2 hO hA1)
  · have hcall := D_l1Byte w0 w p hA
    go_enter Tryz.func74, Tryz.ntmps74
    go_wp2_with fail
    refine hcall.mono ?_
    rintro e w1 ⟨v, rfl, ⟨x1, rfl, x11, x12⟩, hO1, hA1⟩
    have hcall := D_l1Byte w0 w1 p hA1
    go_wp2_with fail
    refine hcall.mono ?_
    rintro e w2 ⟨v, rfl, ⟨x2, rfl, x21, x22⟩, hO2, hA2⟩
    have hcall := D_l1Byte w0 w2 p hA2
    go_wp2_with fail
    refine hcall.mono ?_
    rintro e w3 ⟨v, rfl, ⟨x3, rfl, x31, x32⟩, hO3, hA3⟩
    have hcall := D_l1Byte w0 w3 p hA3
    go_wp2_with fail
    refine hcall.mono ?_
    rintro e w4 ⟨v, rfl, ⟨x4, rfl, x41, x42⟩, hO4, hA4⟩
    have hO := ((hO1.two hO2).two hO3).two hO4
    clear hcall hO1 hO2 hO3 hO4 hA1 hA2 hA3 hA
    have r1 := Int.emod_nonneg (x1 * 16777216 + x2 * 65536 + x3 * 256 + x4) (show N ≠ 0 by omega)
    have r2 := Int.emod_lt_of_pos (x1 * 16777216 + x2 * 65536 + x3 * 256 + x4) h1
    have hr : Int.tmod (x1 * 16777216 + x2 * 65536 + x3 * 256 + x4) N = (x1 * 16777216 + x2 * 65536 + x3 * 256 + x4) % N := Int.tmod_eq_emod_of_nonneg (by omega)
    go_wp2
    go_ret
    first
      | exact RetD.int r1 r2 hO hA4
      | (rw [hr]; exact RetD.int r1 r2 hO hA4)
set_option maxHeartbeats 800000 in
theorem D_l1Once (w0 w : World) (p : Nat) (hA : At w0 p w) (N : Int) (h1 : 0 < N) (h2 : N ≤ 1073741824) : Calls Tryz.prog 71 #[.pointer (some ⟨p, 0, none⟩), .int .i64 N] w (RetD w0 p w (fun _ v => ∃ b, v = .bool b)) := by
  have hcall := D_l1Below w0 w p hA N h1 h2
  go_enter Tryz.func71, Tryz.ntmps71
  go_wp2_with fail
  refine hcall.mono ?_
  rintro e w1 ⟨v, rfl, ⟨x, rfl, x1, x2⟩, hO, hA1⟩
  go_wp2
  go_ret
  exact ⟨_, rfl, ⟨_, rfl⟩, hO, hA1⟩
set_option maxHeartbeats 800000 in
theorem D_l1PickInt (w0 w : World) (p : Nat) (hA : At w0 p w) (xs : List Int) (v : Value) (F : List Nat) (h : fInts w xs [v] F) (hF : p ∉ F) (hne : 0 < xs.length) (hn : xs.length ≤ 1048576) : Calls Tryz.prog 155 #[.pointer (some ⟨p, 0, none⟩), v] w (RetD w0 p w (fun _ v => ∃ x ∈ xs, v = .int .i64 x)) := by
  obtain ⟨A, c, e, l1, l2, hk⟩ := fInts_rd (B := 0) h
  injection e with e
  subst e
  obtain ⟨n, L⟩ : ∃ n, n = xs.length := ⟨_, rfl⟩
  rw [← L] at hne hn ⊢
  have HL := Lib.hid L
  have HK := Lib.hid hk
  have hcall := D_l1Below w0 w p hA n (by omega) (by omega)
  clear hk h L l1 l2
  go_enter Tryz.func155, Tryz.ntmps155
  go_wp2_with fail
  refine hcall.mono ?_
  rintro e w1 ⟨v, rfl, ⟨x, rfl, x1, x2⟩, hO, hA1⟩
  obtain ⟨k, rfl⟩ : ∃ k : Nat, x = (k : Int) := ⟨x.toNat, by omega⟩
  obtain ⟨y, hy⟩ := get_of_lt (xs := xs) (k := k) (by have := HL.out; omega)
  obtain ⟨b, o, us, rfl, hb, hul, hc, rfl⟩ := HK.out k y hy
  have c0 := hO.cell (hc 0 _ rfl) (by
    have hb2 : b ≠ p := fun e => hb.elim (fun hb => hF (e ▸ hb)) (fun hb => Nat.not_lt_zero _ hb)
    simpa using hb2)
  have hm := List.mem_of_getElem? hy
  rw [Nat.mul_one, Nat.add_zero] at c0
  have HM := Lib.hid hm
  clear hc hy hul hm hcall
  go_wp2
  go_ret
  exact ⟨_, rfl, ⟨y, HM.out, rfl⟩, hO, hA1⟩
end Go.Proofs.YtpihighajaeabaaGreat
