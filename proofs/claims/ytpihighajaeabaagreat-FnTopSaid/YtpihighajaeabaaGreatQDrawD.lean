/- Draws: words for what a drawing function has made; lists of items. -/
import Derived.Test.YtpihighajaeabaaGreatQDrawB
import Derived.Test.YtpihighajaeabaaGreatQItems
import Derived.Test.YtpihighajaeabaaGreatQWishes3
import Derived.Test.YtpihighajaeabaaGreatQReach
namespace Go.Proofs.YtpihighajaeabaaGreat
open Go.RowKit
set_option linter.unusedVariables false
set_option linter.unusedSimpArgs false
abbrev rBytes : Rep (List Int) := rSl 1 rU8
def wfBytes (xs : List Int) : Prop := ∀ x ∈ xs, 0 ≤ x ∧ x ≤ 255
theorem rBytes_good : Good rBytes := rSl_good rU8_good
set_option maxRecDepth 100000 in
set_option maxHeartbeats 1600000 in
theorem D_l1New (w : World) (xs : List Int) (v : Value) (h : Rd rBytes w xs [v]) (hx : wfBytes xs) : Calls Tryz.prog 69 #[v] w fun e w' => ∃ p, e = .returned (.pointer (some ⟨p, 0, none⟩)) ∧ At w p w' := by
  have HR := Lib.hid h
  obtain ⟨A, n, c, rfl, L0, Lc, Lm⟩ := rSl_open h
  unfold maxLen at Lm
  have L := Lib.hid L0
  clear L0
  have HX := Lib.hid hx
  have HH := Lib.hid h
  clear h
  go_enter Tryz.func69, Tryz.ntmps69
  go_wp2
  go_loopg [3, 4] n (fun g hh i w' => ∃ (k : Nat) (q : Int), k ≤ n ∧ g = n - k ∧ i = .int .i64 k ∧ hh = .int .i64 q ∧ w' = w)
  case atStart => exact ⟨0, _, by omega, rfl, rfl, rfl, rfl⟩
  case round =>
    obtain ⟨k, q, hk, rfl, rfl, rfl, rfl⟩ := hrel
    by_cases hlt : k < n ∧ k < 4000
    · have h := HH.out
      obtain ⟨x, hx⟩ := get_of_lt (xs := xs) (k := k) (by have := L.out; omega)
      obtain ⟨b, o, rfl, _, hc⟩ := rU8s_at h hx
      have i1 : (0 : Int) ≤ (k : Int) := by omega
      have i2 : (k : Int) < (n : Int) := by omega
      have i3 : (k : Int) < 4000 := by omega
      have hxb := hx
      clear hx h hxb
      go_wp2
      go_roundg (n - (k + 1))
      case measure => omega
      case rel => exact ⟨k + 1, _, by omega, rfl, by go_num, rfl, rfl⟩
    · have key : ∀ W q, W = wr.alloc (.cells #[.slice A n c, .int .i64 0, .int .i64 q] 150) → At wr wr.heap.size W := by
        rintro W q rfl
        refine ⟨(Bw.refl wr).alloc _, Nat.le_refl _, xs, A, n, c, 0, q, by go_simp, by go_simp, by go_simp, fun o => by go_simp, by omega, ?_, HX.out⟩
        exact rBytes_good.step ⟨fun _ h => h, fun p hp => Below.cell ((Bw.refl wr).alloc _) hp⟩ HH.out
      by_cases h1 : k < n
      · have h2 : ¬ (k : Int) < 4000 := by omega
        have i2 : (k : Int) < (n : Int) := by omega
        clear hlt h1
        go_wp2
        go_ret
        exact ⟨_, rfl, key _ _ rfl⟩
      · have i2 : ¬ (k : Int) < (n : Int) := by omega
        clear hlt h1
        go_wp2
        go_ret
        exact ⟨_, rfl, key _ _ rfl⟩
/-- an item of the call's own -/
def DItem (B : Nat) (Q : GItem → Prop) (W : World) (v : Value) : Prop := ∃ x u F, v = .agg #[.int .i64 x.id, u] ∧ fInts W x.vals [u] F ∧ Fresh B F ∧ Q x
/-- a list of the call's own -/
def DL {α : Type} (f : Fp α) (B : Nat) (Q : α → Prop) (W : World) (v : Value) : Prop := ∃ xs F, f W xs [v] F ∧ Fresh B F ∧ Q xs
set_option maxRecDepth 100000 in
set_option maxHeartbeats 3200000 in
theorem D_l2Item (w0 w : World) (p : Nat) (hA : At w0 p w) (id wide : Int) (h1 : 0 < wide) (h2 : wide ≤ 256) : Calls Tryz.prog 73 #[.pointer (some ⟨p, 0, none⟩), .int .i64 id, .int .i64 wide] w
    (RetD w0 p w (DItem w.heap.size fun x => x.id = id ∧ x.vals.length = 3 ∧ ∀ y ∈ x.vals, 0 ≤ y ∧ y < wide)) := by
  obtain ⟨i0, hi, hz0, hz1, hz2⟩ := info_parts info_int
  have hlt := hA.lt
  obtain ⟨W1, hW1⟩ : ∃ W1, W1 = (w.alloc (.cells #[.int .i64 0, .slice none 0 0] 30)).alloc (.cells #[.int .i64 id, .slice none 0 0] 30) := ⟨_, rfl⟩
  have b1 : Box2 W1 w.heap.size (.int .i64 0) (.slice none 0 0) := by rw [hW1]; exact (Box2.new _ _ _ _).bw ((Bw.refl _).alloc _)
  have b2 : Box2 W1 (w.heap.size + 1) (.int .i64 id) (.slice none 0 0) := by
    have := Box2.new (w.alloc (.cells #[.int .i64 0, .slice none 0 0] 30)) (.int .i64 id) (.slice none 0 0) 30
    rw [show (w.alloc (.cells #[.int .i64 0, .slice none 0 0] 30)).heap.size = w.heap.size + 1 from by simp] at this
    rw [hW1]; exact this
  have B1 : Bw w W1 := by rw [hW1]; exact ((Bw.refl _).alloc _).alloc _
  have A1 := hA.bwStep B1
  have z1 : W1.heap.size = w.heap.size + 2 := by rw [hW1]; simp
  have hn1 : fInts W1 [] [.slice none 0 0] [] := fSl_nil _
  have HW := Lib.hid hW1
  clear hW1
  go_enter Tryz.func73, Tryz.ntmps73
  go_wp2
  rw [← HW.out]
  go_loopg [8, 9] 3 (fun g s z w' => ∃ (k : Nat) (vals : List Int) (v : Value) (F : List Nat), k ≤ 3 ∧ g = 3 - k ∧ s = .int .i64 k ∧ Hid (vals.length = k ∧ ∀ y ∈ vals, 0 ≤ y ∧ y < wide) ∧ fInts w' vals [v] F ∧ (F.Nodup ∧ ∀ b ∈ F, w.heap.size + 2 ≤ b) ∧ Box2 w' w.heap.size (.int .i64 0) (.slice none 0 0) ∧ Box2 w' (w.heap.size + 1) (.int .i64 id) v ∧ Only [p] w w' ∧ At w0 p w')
  case atStart => exact ⟨0, [], _, [], by omega, rfl, rfl, Lib.hid ⟨rfl, by simp⟩, hn1, ⟨by simp, by simp⟩, b1, b2, B1.only _, A1⟩
  case round =>
    clear b1 b2 hn1 A1
    obtain ⟨k, vals, v, F, hk, rfl, rfl, HV, hv, hF, b1, b2, hO, hA1⟩ := hrel
    obtain ⟨A, c, rfl, _⟩ := rSl_shape (fInts_Rd hv)
    by_cases h3 : k < 3
    · have hcall := D_l1Below w0 wr p hA1 wide h1 (by omega)
      have i1 : (k : Int) < 3 := by omega
      have hFp : ∀ b ∈ F, b ∉ [p] := fun b hb h => by have := hF.2 b hb; simp at h; omega
      go_wp2_with fail
      refine hcall.mono ?_
      rintro e w2 ⟨v2, rfl, ⟨y, rfl, y1, y2⟩, hO2, hA2⟩
      have c1 := b1.only hO2 (by simp; omega)
      have c2 := b2.only hO2 (by simp; omega)
      have hv2 := hO2.keeps (fInts_good (B := 0)) hv hFp
      have hOO := hO.two hO2
      have hFm := (fInts_good (B := 0)).lt hv2
      have hAl := (Bw.refl w2).alloc (.cells #[.int .i64 y] 3)
      have hvW := (fInts_good (B := 0)).bw hAl (Nat.zero_le _) hv2
      have hAW := hA2.bwStep hAl
      have d1 := c1.bw hAl
      have d2 := c2.bw hAl
      have hOW := hOO.bwNext hAl
      have hcl := cell_one_new w2 (.int .i64 y) 3
      have hbs := hA2.bw.size
      have hww := hO.1
      have hge := hA2.ge
      have hFw : Fresh w0.heap.size F := ⟨hF.1, fun b hb => by have := hF.2 b hb; omega⟩
      have HL := Lib.hid HV.out.1
      have k0 := d2.c0
      have k1 := d2.c1
      have kf := d2.fr
      have j0 := c2.c0
      have j1 := c2.c1
      have jf := c2.fr
      clear hv hv2 b1 b2 c1 hcall hA1
      go_wp2_with (at_builtin; refine wpList_push2 _ rfl (.tmp 20) (.tmp 22) 26 rfl w0 3 i0 _ 1 8 Tryz.underlying26 hi hz0 hz1 hz2 rfl (by omega) fInt_good _ vals F rfl hvW hFw ⟨w2.heap.size, 0, none⟩ 1 rfl y [.int .i64 y] [] hcl ⟨rfl, rfl⟩ rfl _ hFm Fresh.nil hbs (by have := HL.out; omega) (by have := HL.out; omega) hAW.bw ?_; intro v3 w3 F3 hv3 hF3 hb3 hO3 hs3; obtain ⟨A3, n3, c3, rfl, l3, _⟩ := rSl_open (fInts_Rd hv3); replace l3 := Lib.hid l3; have m0 := (d2.only hO3 (fun h => by have := hF.2 _ h; omega)).c0; have m1 := (d2.only hO3 (fun h => by have := hF.2 _ h; omega)).c1; have mf := (d2.only hO3 (fun h => by have := hF.2 _ h; omega)).fr)
      have hAn := hAW.onlyStep hO3 (fun b hb => by have := hF.2 b hb; omega) hb3
      have e1 := d1.only hO3 (fun h => by have := hF.2 _ h; omega)
      have e2 := d2.only hO3 (fun h => by have := hF.2 _ h; omega)
      have hOn : Only [p] w w3 := ⟨Nat.le_trans hOW.1 hO3.1, fun b hb hn => (hO3.2 b (Nat.lt_of_lt_of_le hb hOW.1) (fun h => by have := hF.2 _ h; omega)).trans (hOW.2 b hb hn)⟩
      have hFr := hF3.raise hs3 (B := w.heap.size + 2) hF.2 (by simp) (by have := d2.lt; omega)
      have hlt3 := hAn.lt
      go_roundg (3 - (k + 1))
      case measure => omega
      case rel =>
        refine ⟨k + 1, vals ++ [y], .slice A3 n3 c3, F3, by omega, rfl, by go_num, Lib.hid ⟨by rw [List.length_append, HL.out]; rfl, fun z hz => ?_⟩, ?_, ⟨hFr.nodup, hFr.ge⟩, ?_, ?_, ?_, ?_⟩
        · rcases List.mem_append.1 hz with hz | hz
          · exact HV.out.2 z hz
          · rw [List.mem_singleton.1 hz]; exact ⟨y1, y2⟩
        · refine (fInts_good (B := 0)).step (fun b hb => ?_) hv3
          rcases hb with hb | hb
          · have := hFr.ge b hb
            rw [Below.heap_setCell _ _ _ _ (by dsimp only; omega)]
          · omega
        · exact e1.only (only_setCell _ _ _ _) (by simp)
        · exact ⟨by go_simp, by go_simp, fun o => by go_simp⟩
        · exact ⟨by simpa using hOn.1, fun b hb hn => (Below.heap_setCell _ _ _ _ (by dsimp only; omega)).trans (hOn.2 b hb hn)⟩
        · exact hAn.onlyStep (only_setCell _ _ _ _) (by simp; omega) (hAn.bw.set (by dsimp only; omega) _)
    · obtain rfl : k = 3 := by omega
      have j0 := b2.c0
      have j1 := b2.c1
      have i0 := b1.c0
      have i1 := b1.c1
      have jf := b1.fr
      go_wp2
      refine bodyPost_ret (v := .agg #[.int .i64 id, .slice A vals.length c]) (by simp [results, Tryz.results73, go_sem, i0, i1]) rfl ?_
      refine ⟨_, rfl, ⟨⟨id, vals⟩, _, F, rfl, ?_, ⟨hF.1, fun b hb => by have := hF.2 b hb; omega⟩, rfl, HV.out⟩, ?_, ?_⟩
      · refine (fInts_good (B := 0)).step (fun b hb => ?_) hv
        rcases hb with hb | hb
        · have := hF.2 b hb
          repeat rw [Below.heap_setCell _ _ _ _ (by dsimp only; omega)]
        · omega
      · exact ⟨by simpa using hO.1, fun b hb hn => by
          repeat rw [Below.heap_setCell _ _ _ _ (by dsimp only; omega)]
          exact hO.2 b hb hn⟩
      · have hge := hA1.ge
        refine ⟨?_, hge, hA1.cur.same fun b hb => ?_⟩
        · repeat (first | exact hA1.bw | refine Bw.set ?_ (by dsimp only; omega) _)
        · repeat rw [Below.heap_setCell _ _ _ _ (by dsimp only; omega)]
end Go.Proofs.YtpihighajaeabaaGreat

namespace Go.Proofs.YtpihighajaeabaaGreat
open Go.RowKit
set_option linter.unusedVariables false
set_option linter.unusedSimpArgs false
set_option maxHeartbeats 800000 in
theorem L_has (w : World) (xs : List Int) (x : Int) (v : Value) (h : Rd rInts w xs [v]) : Calls Tryz.prog 23 #[v, .int .i64 x] w (Ret w (.bool (xs.contains x))) := by
  obtain ⟨A, n, c, rfl, L0, Lc, Lm⟩ := rSl_open h
  unfold maxLen at Lm
  have L := Lib.hid L0
  clear L0
  go_enter Tryz.func23, Tryz.ntmps23
  go_wp2
  go_loopw [5] (fun i w' => ∃ k : Nat, k ≤ n ∧ i = .int .i64 k ∧ Hid (xs.contains x = (xs.drop k).contains x) ∧ Bw w w') (fun i _ => n - (intOf i).toNat)
  case atStart => exact ⟨0, by omega, rfl, Lib.hid rfl, Bw.refl _⟩
  case round =>
    obtain ⟨k, hk, rfl, HE, hb⟩ := hrel
    by_cases hlt : k < n
    · obtain ⟨y, hy⟩ := get_of_lt (xs := xs) (k := k) (by have := L.out; omega)
      obtain ⟨ba, oa, rfl, _, hc0⟩ := rInts_at h hy
      have hc := hb.cell hc0
      have HS := Lib.hid (contains_drop hy x)
      clear hy h hc0
      by_cases he : y = x
      · have e1 : (y == x) = true := by simpa using he
        have HX := Lib.hid he
        clear he
        go_wp2
        go_ret
        exact Ret.bool (by rw [HE.out, HS.out, HX.out]; simp) hb
      · have e1 : (y == x) = false := by simpa using he
        have HX := Lib.hid (show (x == y) = false by simpa using fun e => he e.symm)
        clear he
        go_wp2
        go_roundw
        case rel => exact ⟨k + 1, by omega, by go_num, Lib.hid (by rw [HE.out, HS.out, HX.out]; simp), hb⟩
        case measure => simp [intOf]; omega
    · go_wp2
      go_ret
      exact Ret.bool (by rw [HE.out, List.drop_of_length_le (by rw [← L.out]; omega)]; simp) hb
def subsetM (a b : List Int) : Bool := a.all fun x => b.contains x
theorem subset_drop {a b : List Int} {k : Nat} {x : Int} (h : a[k]? = some x) : subsetM (a.drop k) b = (b.contains x && subsetM (a.drop (k + 1)) b) := by unfold subsetM; rw [drop_cons h, List.all_cons]
set_option maxHeartbeats 800000 in
theorem L_subset (w : World) (a b : List Int) (v u : Value) (h : Rd rInts w a [v]) (h' : Rd rInts w b [u]) : Calls Tryz.prog 38 #[v, u] w (Ret w (.bool (subsetM a b))) := by
  obtain ⟨A, n, c, rfl, L0, Lc, Lm⟩ := rSl_open h
  unfold maxLen at Lm
  have L := Lib.hid L0
  clear L0
  go_enter Tryz.func38, Tryz.ntmps38
  go_wp2
  go_loopw [5] (fun i w' => ∃ k : Nat, k ≤ n ∧ i = .int .i64 k ∧ Hid (subsetM a b = subsetM (a.drop k) b) ∧ Bw w w') (fun i _ => n - (intOf i).toNat)
  case atStart => exact ⟨0, by omega, rfl, Lib.hid rfl, Bw.refl _⟩
  case round =>
    obtain ⟨k, hk, rfl, HE, hb⟩ := hrel
    by_cases hlt : k < n
    · obtain ⟨y, hy⟩ := get_of_lt (xs := a) (k := k) (by have := L.out; omega)
      obtain ⟨ba, oa, rfl, _, hc0⟩ := rInts_at h hy
      have hc := hb.cell hc0
      have HS := Lib.hid (subset_drop (b := b) hy)
      have hcall := L_has wr b y _ (h'.bw rInts_good hb)
      clear hy h hc0
      go_wp2_with fail
      refine hcall.mono ?_
      rintro e w2 ⟨rfl, hb2⟩
      have hbb := hb.then hb2
      rcases Bool.eq_false_or_eq_true (b.contains y) with e1 | e1
      · have HX := Lib.hid (show subsetM a b = subsetM (a.drop (k + 1)) b by rw [HE.out, HS.out, e1]; rfl)
        rw [e1]
        clear e1 HE HS hcall hc
        go_wp2
        go_roundw
        case rel => exact ⟨k + 1, by omega, by go_num, HX, hbb⟩
        case measure => simp [intOf]; omega
      · have HX := Lib.hid (show subsetM a b = false by rw [HE.out, HS.out, e1]; rfl)
        rw [e1]
        clear e1 HE HS hcall hc
        go_wp2
        go_ret
        exact Ret.bool HX.out.symm hbb
    · have HX := Lib.hid (show subsetM a b = true by rw [HE.out, List.drop_of_length_le (by rw [← L.out]; omega)]; rfl)
      clear HE
      go_wp2
      go_ret
      exact Ret.bool HX.out.symm hb
set_option maxHeartbeats 400000 in
theorem L_big (w : World) (xs : List Int) (v : Value) (h : Rd rBytes w xs [v]) : Calls Tryz.prog 9 #[v] w (Ret w (.bool (decide (1048576 < xs.length)))) := by
  obtain ⟨A, n, c, rfl, L0, Lc, Lm⟩ := rSl_open h
  unfold maxLen at Lm
  have L := Lib.hid L0
  clear L0
  obtain ⟨Y, hY⟩ : ∃ Y, Y = decide (1048576 < xs.length) := ⟨_, rfl⟩
  rw [← hY]
  have HY := Lib.hid (show Y = decide (1048576 < (n : Int)) by rw [hY, ← L.out, decide_eq_decide]; omega)
  clear hY h
  go_enter Tryz.func9, Tryz.ntmps9
  go_wp2
  go_ret
  exact Ret.bool HY.out.symm (Bw.refl _)
/-- a byte of the code, or a number made of its place -/
def atM (xs : List Int) (i : Nat) : Int := match xs[i]? with | some x => x | none => ((i : Int) * 37 + (xs.length : Int) * 11).tmod 256
theorem atM_nat {xs : List Int} (hx : wfBytes xs) (i : Nat) : 0 ≤ atM xs i ∧ atM xs i ≤ 255 := by
  unfold atM
  cases h : xs[i]? with
  | some x => exact hx x (List.mem_of_getElem? h)
  | none => dsimp only; rw [Int.tmod_eq_emod_of_nonneg (by omega)]; omega
set_option maxHeartbeats 800000 in
theorem L_at (w : World) (xs : List Int) (i : Nat) (v : Value) (h : Rd rBytes w xs [v]) (hx : wfBytes xs) (hn : xs.length ≤ 1048576) (hi : i ≤ 1048576) : Calls Tryz.prog 41 #[v, .int .i64 i] w (Ret w (.int .i64 (atM xs i))) := by
  have hA := atM_nat hx i
  obtain ⟨A, n, c, rfl, L0, Lc, Lm⟩ := rSl_open h
  unfold maxLen at Lm
  have L := Lib.hid L0
  clear L0
  rw [← L.out] at hn
  obtain ⟨Y, hY⟩ : ∃ Y, Y = atM xs i := ⟨_, rfl⟩
  rw [← hY]
  by_cases hlt : i < n
  · obtain ⟨x, hy⟩ := get_of_lt (xs := xs) (k := i) (by have := L.out; omega)
    have HE := Lib.hid (show x = Y by rw [hY]; unfold atM; rw [hy])
    have HX := Lib.hid (hx x (List.mem_of_getElem? hy))
    obtain ⟨b, o, rfl, _, hc⟩ := rU8s_at h hy
    have i1 : (0 : Int) ≤ (i : Int) := by omega
    have i2 : (i : Int) < (n : Int) := by omega
    have HW := Lib.hid (show wrap64 x = Y by rw [← HE.out]; have := HX.out; unfold wrap64; omega)
    clear hY hy hlt h hA
    go_enter Tryz.func41, Tryz.ntmps41
    go_wp2
    go_ret
    first
      | exact Ret.int HW.out (Bw.refl _)
      | exact Ret.int HE.out (Bw.refl _)
  · have HE := Lib.hid (show ((i : Int) * 37 + (n : Int) * 11).tmod 256 = Y by
      rw [hY]; unfold atM
      rw [List.getElem?_eq_none (by rw [← L.out]; omega), ← L.out])
    have HE2 := Lib.hid (show ((i : Int) * 37 + (n : Int) * 11) % 256 = Y by rw [← HE.out, Int.tmod_eq_emod_of_nonneg (by omega)])
    have i2 : ¬ (i : Int) < (n : Int) := by omega
    clear hY h hA hlt
    go_enter Tryz.func41, Tryz.ntmps41
    go_wp2
    go_ret
    first
      | exact Ret.int HE.out (Bw.refl _)
      | exact Ret.int HE2.out (Bw.refl _)
set_option maxHeartbeats 400000 in
theorem L_btoi (w : World) (b : Bool) : Calls Tryz.prog 32 #[.bool b] w (Ret w (.int .i64 (if b then 1 else 0))) := by
  cases b
  · go_enter Tryz.func32, Tryz.ntmps32
    go_wp2
    go_ret
    exact Ret.int rfl (Bw.refl _)
  · go_enter Tryz.func32, Tryz.ntmps32
    go_wp2
    go_ret
    exact Ret.int rfl (Bw.refl _)
end Go.Proofs.YtpihighajaeabaaGreat

namespace Go.Proofs.YtpihighajaeabaaGreat
open Go.RowKit
set_option linter.unusedVariables false
set_option linter.unusedSimpArgs false
/-- since w nothing has turned but the cursor, and what is new -/
structure Dn (w0 w : World) (p : Nat) (W : World) : Prop where
  only : Only [p] w W
  at' : At w0 p W
  lt : p < w.heap.size
  le : w0.heap.size ≤ w.heap.size
theorem Dn.start {w0 w : World} {p : Nat} (h : At w0 p w) : Dn w0 w p w := ⟨Only.refl _ _, h, h.lt, h.bw.size⟩
theorem Dn.call {w0 w W W' : World} {p : Nat} (h : Dn w0 w p W) (hO : Only [p] W W') (hA : At w0 p W') : Dn w0 w p W' := ⟨h.only.two hO, hA, h.lt, h.le⟩
theorem Dn.bw {w0 w W W' : World} {p : Nat} (h : Dn w0 w p W) (hb : Bw W W') : Dn w0 w p W' := ⟨h.only.bwNext hb, h.at'.bwStep hb, h.lt, h.le⟩
theorem Dn.alloc {w0 w W : World} {p : Nat} (h : Dn w0 w p W) (o : Obj) : Dn w0 w p (W.alloc o) := h.bw ((Bw.refl W).alloc o)
theorem Dn.drew {w0 w W : World} {p : Nat} (h : Dn w0 w p W) : Dn w0 w p W.drew := h.bw (Bw.refl W).drew
theorem Dn.next {w0 w W W' : World} {p : Nat} {F : List Nat} (h : Dn w0 w p W) (hO : Only F W W') (hF : ∀ b ∈ F, w.heap.size ≤ b) (hb : Bw w0 W') : Dn w0 w p W' :=
  ⟨⟨Nat.le_trans h.only.1 hO.1, fun b hb hn => (hO.2 b (Nat.lt_of_lt_of_le hb h.only.1) (fun e => by have := hF b e; omega)).trans (h.only.2 b hb hn)⟩, h.at'.onlyStep hO (fun b hb => by have := hF b hb; have := h.lt; omega) hb, h.lt, h.le⟩
theorem Dn.set {w0 w W : World} {p b o : Nat} (h : Dn w0 w p W) (hb : w.heap.size ≤ b) (u : Value) : Dn w0 w p (W.setCell ⟨b, o, none⟩ u) :=
  h.next (only_setCell b o W u) (by simpa using hb) (h.at'.bw.set (by have := h.le; dsimp only; omega) u)
theorem Dn.size {w0 w W : World} {p : Nat} (h : Dn w0 w p W) : w.heap.size ≤ W.heap.size := h.only.1
theorem Dn.ret {w0 w W : World} {p : Nat} {R : World → Value → Prop} {v : Value} (h : Dn w0 w p W) (hR : R W v) : RetD w0 p w R (.returned v) W := ⟨v, rfl, hR, h.only, h.at'⟩
/-- what is owned stands when the cursor turns -/
theorem Dn.keep {w0 w W W' : World} {p : Nat} (h : Dn w0 w p W) (hO : Only [p] W W') {α : Type} {R : Fp α} (hR : GoodF 0 R) {x : α} {cs : List Value} {F : List Nat} (hx : R W x cs F) (hF : ∀ b ∈ F, w.heap.size ≤ b) : R W' x cs F :=
  hO.keeps hR hx fun b hb e => by have := hF b hb; have := h.lt; simp at e; omega
/-- an append in a drawing function -/
theorem wpList_pushD {α : Type} {P : Program} {ops : Array Oper} {rest : List Oper} {o : Oper} {a : Act} {Q : Exit → Act → World → Prop} (W : World) (hgd : o.guard = none) (s x : Operand) (t : TypeId)
    (ho : o.op = .call { callee := .builtin .append, args := #[s, x], argTypes := #[t, t] })
    (w0 w : World) (p : Nat) (hD : Dn w0 w p W) (B : Nat) (hB : w.heap.size ≤ B) (hBW : B ≤ W.heap.size) (e : TypeId) (i : TypeInfo) (z : Value) (sz bytes : Nat) (ht : P.underlying t = some (.slice e)) (hi : P.info? e = some i) (hz : i.zero = some z)
    (hsize : i.size = sz) (hby : i.bytes = bytes) (hzs : z.cells.size = sz) (hsz : 0 < sz)
    {R : Fp α} (hR : GoodF 0 R) (v : Value) (xs : List α) (F : List Nat) (hs : a.eval s = v) (hv : fSl e sz R W xs [v] F) (hF : Fresh B F)
    (ad : Addr) (c : Nat) (hx : a.eval x = .slice (some ad) 1 c) (y : α) (u : List Value) (f : List Nat) (hu : ∀ j t, u[j]? = some t → W.cell? (ad.add j) = some t)
    (hy : R W y u f) (hul : u.length = sz) (m : Nat) (hFm : ∀ b ∈ F, b < m) (hf : Fresh m f) (hm : B ≤ m) (hbytes : (xs.length + 1) * bytes ≤ 140737488355328) (hlen : xs.length < 4611686018427387904)
    (h : ∀ v' w' F', fSl e sz R w' (xs ++ [y]) [v'] F' → Fresh B F' → Dn w0 w p w' → Only F W w' → wpList P ops Q rest (a.put o.dst v') w') : wpList P ops Q (o :: rest) a W := by
  have hle := hD.le
  refine wpList_push2 W hgd s x t ho w0 e i z sz bytes ht hi hz hsize hby hzs hsz (hR.mono (Nat.zero_le _)) v xs F hs hv (hF.mono (by omega)) ad c hx y u f hu hy hul m hFm hf (by omega) hbytes hlen hD.at'.bw ?_
  intro v' w' F' hv' hF' hb' hO' h5
  exact h v' w' F' hv' (hF'.raise h5 hF.ge (fun b hb => Nat.le_trans hm (hf.ge b hb)) hBW) (hD.next hO' (fun b hb => Nat.le_trans hB (hF.ge b hb)) hb') hO'
/-- what the items that are drawn look like -/
def gItem3 (x : GItem) : Prop := (-100 ≤ x.id ∧ x.id ≤ 1000) ∧ x.vals.length = 3 ∧ ∀ y ∈ x.vals, -100 ≤ y ∧ y ≤ 100
def gItem (x : GItem) : Prop := (-100 ≤ x.id ∧ x.id ≤ 1000) ∧ x.vals.length ≤ 4 ∧ ∀ y ∈ x.vals, -100 ≤ y ∧ y ≤ 100
theorem gItem3.g {x : GItem} (h : gItem3 x) : gItem x := ⟨h.1, by have := h.2.1; omega, h.2.2⟩
theorem fInts_tri (w : World) (a b c : Int) : fInts (w.alloc (.cells #[.int .i64 a, .int .i64 b, .int .i64 c] 3)) [a, b, c] [.slice (some ⟨w.heap.size, 0, none⟩) 3 3] [w.heap.size] := by
  refine ⟨_, [[.int .i64 a], [.int .i64 b], [.int .i64 c]], [[], [], []], rfl, ?_, ?_, rfl⟩
  · exact ⟨rfl, .inr ⟨w.heap.size, 3, #[.int .i64 a, .int .i64 b, .int .i64 c], rfl, Nat.zero_le _, heap_alloc_new w _, Nat.le_refl 3, (by decide : 3 ≤ maxLen), rfl, rfl⟩⟩
  · exact ⟨⟨⟨rfl, rfl⟩, rfl⟩, ⟨⟨rfl, rfl⟩, rfl⟩, ⟨⟨rfl, rfl⟩, rfl⟩, trivial⟩
set_option maxRecDepth 100000 in
set_option maxHeartbeats 3200000 in
theorem D_l2Items (w0 w : World) (p : Nat) (hA : At w0 p w) (most : Int) (h1 : 0 ≤ most) (h2 : most ≤ 16) : Calls Tryz.prog 128 #[.pointer (some ⟨p, 0, none⟩), .int .i64 most] w
    (RetD w0 p w (DL fItems w.heap.size fun xs => (xs.length : Int) ≤ most ∧ ∀ x ∈ xs, gItem3 x)) := by
  obtain ⟨i0, hi, hz0, hz1, hz2⟩ := info_parts info_Item
  have D0 := Dn.start hA
  have D1 := D0.alloc (.cells #[] 30)
  have D2 := D1.alloc (.cells #[.int .i64 2, .int .i64 4, .int .i64 10] 3)
  have hv0 := fSl_empty (e := 30) (sz := 2) (R := fItem) w
  have hv1 := keepBw ((Bw.refl _).alloc (.cells #[.int .i64 2, .int .i64 4, .int .i64 10] 3)) (fSl_good fItem_good) hv0
  have hl := fInts_tri (w.alloc (.cells #[] 30)) 2 4 10
  have hlt := hA.lt
  have hcall := D_l1PickInt w0 _ p D2.at' [2, 4, 10] _ _ hl (by simp; omega) (by decide) (by decide)
  rw [show (w.alloc (.cells #[] 30)).heap.size = w.heap.size + 1 from by simp] at hcall
  clear hl hv0
  go_enter Tryz.func128, Tryz.ntmps128
  go_wp2_with fail
  refine hcall.mono ?_
  rintro e w1 ⟨v1, rfl, ⟨wide, hw, rfl⟩, hO1, hA1⟩
  have D3 := D2.call hO1 hA1
  have hv2 := D2.keep hO1 (fSl_good fItem_good) hv1 (by simp)
  have hw2 : 0 < wide ∧ wide ≤ 10 := by simp at hw; omega
  have hcall2 := D_l1Below w0 w1 p hA1 3 (by omega) (by omega)
  clear hcall hw hv1 D1 D2 hO1
  go_wp2_with fail
  refine hcall2.mono ?_
  rintro e w2 ⟨v2, rfl, ⟨id0, rfl, id1, id2⟩, hO2, hA2⟩
  have D4 := D3.call hO2 hA2
  have hv3 := D3.keep hO2 (fSl_good fItem_good) hv2 (by simp)
  have hcall3 := D_l1Below w0 w2 p hA2 (most + 1) (by omega) (by omega)
  clear hcall2 hv2 D3 hO2
  go_wp2_with fail
  refine hcall3.mono ?_
  rintro e w3 ⟨v3, rfl, ⟨N0, rfl, N1, N2⟩, hO3, hA3⟩
  have D5 := D4.call hO3 hA3
  have hv4 := D4.keep hO3 (fSl_good fItem_good) hv3 (by simp)
  obtain ⟨N, rfl⟩ : ∃ N : Nat, N0 = (N : Int) := ⟨N0.toNat, by omega⟩
  clear hcall3 hv3 D4 hO3 hA1 hA2
  go_wp2
  have HN := Lib.hid N2
  have Hid0 := Lib.hid (And.intro id1 id2)
  clear id1 id2 N1 N2
  go_loopg [5, 7, 8] N (fun g s t z w' => ∃ (k : Nat) (n : Nat) (q : Int) (xs : List GItem) (F : List Nat), n = g ∧ z = .int .i64 n ∧ t = .int .i64 q ∧ Hid (k + n = N ∧ 0 ≤ q ∧ q ≤ 2 + 2 * k ∧ xs.length = k ∧ ∀ x ∈ xs, gItem3 x) ∧ fItems w' xs [s] F ∧ Fresh w.heap.size F ∧ Dn w0 w p w')
  case atStart => exact ⟨0, N, id0, [], [w.heap.size], rfl, rfl, rfl, Lib.hid ⟨by omega, by have := Hid0.out; omega, by have := Hid0.out; omega, rfl, by simp⟩, hv4, ⟨by simp, by simp⟩, D5⟩
  case round =>
    clear hv4 D5 hA3
    obtain ⟨k, n, q, xs, F, rfl, rfl, rfl, HI, hv, hF, hD⟩ := hrel
    have hk16 : k + n ≤ 16 := by have := HI.out.1; have := HN.out; omega
    have hq : 0 ≤ q ∧ q ≤ 34 := by have := HI.out.2; omega
    by_cases hn : 0 < n
    · have n1 : (0 : Int) < (n : Int) := by omega
      have hcall := D_l2Item w0 wr p hD.at' q wide hw2.1 (by omega)
      go_wp2_with fail
      refine hcall.mono ?_
      rintro e w4 ⟨v4, rfl, ⟨x, u, F2, rfl, o2, f2, HX⟩, hO4, hA4⟩
      have D4 := hD.call hO4 hA4
      obtain ⟨A2, n2, c2, rfl, l2, _⟩ := rSl_open (fInts_Rd o2)
      have HL2 := Lib.hid l2
      have HXX := Lib.hid HX
      have hv4 := hD.keep hO4 (fSl_good fItem_good) hv hF.ge
      have hFm := (fSl_good (sz := 2) (e := 30) (fItem_good (B := 0))).lt hv
      have DW := D4.alloc (.cells #[.int .i64 x.id, .slice A2 n2 c2] 30)
      have hvW := keepBw ((Bw.refl w4).alloc (.cells #[.int .i64 x.id, .slice A2 n2 c2] 30)) (fSl_good fItem_good) hv4
      have oW := keepBw ((Bw.refl w4).alloc (.cells #[.int .i64 x.id, .slice A2 n2 c2] 30)) fInts_good o2
      have hcl : ∀ j t, [Value.int .i64 x.id, .slice A2 n2 c2][j]? = some t → (w4.alloc (.cells #[.int .i64 x.id, .slice A2 n2 c2] 30)).cell? ((⟨w4.heap.size, 0, none⟩ : Addr).add j) = some t := World.news_of_block (cs := #[.int .i64 x.id, .slice A2 n2 c2]) (t := 30) (fr := (0, 0)) (heap_alloc_new w4 _)
      have hxl : xs.length = k := HI.out.2.2.2.1
      have HXL := Lib.hid hxl
      have hz1' := DW.size
      have hz2' := hD.size
      have HF2 := f2
      clear hcall l2 HX hv hv4 o2 hxl hO4 hA4
      go_wp2_with (at_builtin; refine wpList_pushD _ rfl (.tmp 23) (.tmp 28) 24 rfl w0 w p DW w.heap.size (Nat.le_refl _) hz1' 30 i0 _ 2 32 Tryz.underlying24 hi hz0 hz1 hz2 rfl (by omega) fItem_good _ xs F rfl hvW hF ⟨w4.heap.size, 0, none⟩ 1 rfl x [.int .i64 x.id, .slice A2 n2 c2] F2 hcl ⟨_, rfl, oW⟩ rfl wr.heap.size hFm f2 hz2' (by have := HXL.out; omega) (by have := HXL.out; omega) ?_; intro v5 w5 F5 hv5 hF5 hD5 hO5)
      have hcall5 := D_l1Below w0 w5 p hD5.at' 2 (by omega) (by omega)
      go_wp2_with fail
      refine hcall5.mono ?_
      rintro e w6 ⟨v6, rfl, ⟨z6, rfl, z61, z62⟩, hO6, hA6⟩
      have D6 := hD5.call hO6 hA6
      have hv6 := hD5.keep hO6 (fSl_good fItem_good) hv5 hF5.ge
      have HG := Lib.hid (show gItem3 x from by
        obtain ⟨e1, e2, e3⟩ := HXX.out
        exact ⟨by rw [e1]; omega, e2, fun y hy => by have := e3 y hy; omega⟩)
      have HI2 := HI
      obtain ⟨m, rfl⟩ : ∃ m, n = m + 1 := ⟨n - 1, by omega⟩
      clear hcall5 hv5 hvW oW hcl hO5 hO6 DW D4
      go_wp2
      go_roundg m
      case measure => omega
      case rel => exact ⟨k + 1, m, q + 1 + z6, xs ++ [x], F5, rfl, by go_num, rfl, Lib.hid ⟨by have := HI.out.1; omega, by omega, by have := HI.out.2.2.1; omega, by rw [List.length_append, HI.out.2.2.2.1]; rfl, fun y hy => (List.mem_append.1 hy).elim (HI.out.2.2.2.2 y) (fun h => by rw [List.mem_singleton.1 h]; exact HG.out)⟩, hv6, hF5, D6⟩
    · obtain rfl : n = 0 := by omega
      have HR := Lib.hid (show (xs.length : Int) ≤ most by have := HI.out.1; have := HI.out.2.2.2.1; have := HN.out; omega)
      clear hn
      go_wp2
      go_ret
      exact hD.ret ⟨xs, F, hv, hF, HR.out, HI.out.2.2.2.2⟩
end Go.Proofs.YtpihighajaeabaaGreat
