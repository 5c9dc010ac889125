/- The library's DeleteFunc on a window of items. -/
import Derived.Test.YtpihighajaeabaaGreatQHeldF
import Derived.Test.YtpihighajaeabaaGreatQSortP
namespace Go.Proofs.YtpihighajaeabaaGreat
open Go.RowKit
set_option linter.unusedVariables false
set_option linter.unusedSimpArgs false
/-- what a closure of BlockBest holds, apart from the window's block g -/
structure EnvC (w : World) (B g p1 p2 : Nat) (e : List GNode) (x : GItem) : Prop where
  ex : ∃ A n c, w.cell? ⟨p1, 0, none⟩ = some (.slice A n c) ∧ rNodes w (fun b => b < B) e [.slice A n c]
  it : ∃ A n c, w.cell? ⟨p2, 0, none⟩ = some (.int .i64 x.id) ∧ w.cell? ⟨p2, 1, none⟩ = some (.slice A n c) ∧ rInts w (fun b => b < B) x.vals [.slice A n c]
  n1 : p1 ≠ g
  n2 : p2 ≠ g
  hg : B ≤ g
  hB : B ≤ w.heap.size
theorem EnvC.env {w : World} {B g p1 p2 : Nat} {e : List GNode} {x : GItem} (h : EnvC w B g p1 p2 e x) : EnvB w p1 p2 e x := by
  obtain ⟨⟨A, n, c, h1, h2⟩, ⟨A', n', c', h3, h4, h5⟩, _, _, _, hB⟩ := h
  exact ⟨⟨A, n, c, h1, rNodes_good.step ⟨fun b hb => Nat.lt_of_lt_of_le hb hB, fun _ _ => rfl⟩ h2⟩, ⟨A', n', c', h3, h4, rInts_good.step ⟨fun b hb => Nat.lt_of_lt_of_le hb hB, fun _ _ => rfl⟩ h5⟩⟩
theorem EnvC.only {w w' : World} {B g p1 p2 : Nat} {e : List GNode} {x : GItem} (h : EnvC w B g p1 p2 e x) (hO : Only [g] w w') : EnvC w' B g p1 p2 e x := by
  obtain ⟨⟨A, n, c, h1, h2⟩, ⟨A', n', c', h3, h4, h5⟩, n1, n2, hg, hB⟩ := h
  have key : ∀ q : Addr, q.block < B → w'.cell? q = w.cell? q := fun q hq => World.cell?_of_block (hO.2 _ (Nat.lt_of_lt_of_le hq hB) (by simp; omega))
  exact ⟨⟨A, n, c, hO.cell h1 (by simpa using n1), rNodes_good.step ⟨fun _ hb => hb, fun q hq => key q hq⟩ h2⟩, ⟨A', n', c', hO.cell h3 (by simpa using n2), hO.cell h4 (by simpa using n2), rInts_good.step ⟨fun _ hb => hb, fun q hq => key q hq⟩ h5⟩, n1, n2, hg, Nat.le_trans hB hO.1⟩
theorem EnvC.bw {w w' : World} {B g p1 p2 : Nat} {e : List GNode} {x : GItem} (h : EnvC w B g p1 p2 e x) (hb : Bw w w') : EnvC w' B g p1 p2 e x := h.only (hb.only [g])
/-- cells of a row that are laid anew from some place on -/
theorem block_setCells {g : Nat} {t : TypeId} : ∀ (vs : List Value) (o : Nat) (W : World) (cur : Array Value), W.heap[g]? = some (.cells cur t (0, 0)) → ∃ cur', (W.setCells g o vs).heap[g]? = some (.cells cur' t (0, 0)) ∧ cur'.size = cur.size ∧ ∀ m, m ≤ o → cur'.toList.take m = cur.toList.take m
  | [], o, W, cur, h => ⟨cur, h, rfl, fun _ _ => rfl⟩
  | v :: vs, o, W, cur, h => by
    have h1 := heap_setCell_same W g o cur t v h
    obtain ⟨cur', h2, h3, h4⟩ := block_setCells vs (o + 1) _ _ h1
    refine ⟨cur', h2, by rw [h3]; simp, fun m hm => ?_⟩
    rw [h4 m (by omega), Array.toList_setIfInBounds, List.take_set_of_le hm]
theorem helds_F {B : Nat} {w : World} {xs : List GHeld} {v : Value} {F : List Nat} (h : fHelds B w xs [v] F) : F = v.ownBlock.toList := by
  obtain ⟨v', us, Fs, hv, hown, hall, hF⟩ := h
  injection hv with hv
  subst hv
  have : ∀ {xs : List GHeld} {us : List (List Value)} {fs : List (List Nat)}, all3 (fun x u f => fSh B rHeld w x u f ∧ u.length = 3) xs us fs → fs.flatten = [] := by
    intro xs
    induction xs with
    | nil => intro us fs h; cases us <;> cases fs <;> first | rfl | exact h.elim
    | cons x xs ih =>
      intro us fs h
      cases us <;> cases fs <;> first | exact h.elim | skip
      rename_i u us f fs
      have h1 := ih h.2
      rw [List.flatten_cons, h1, h.1.1.1]; rfl
  rw [hF, this hall, List.append_nil]
theorem helds_front {B g n c a : Nat} {W : World} {ys : List GHeld} {F : List Nat} (h : fHelds B W ys [.slice (some ⟨g, 0, none⟩) n c] F) (ha : a ≤ n) (hg : B ≤ g) (hB : B ≤ W.heap.size) (vs : List Value) : fHelds B (W.setCells g (a * 3) vs) (ys.take a) [.slice (some ⟨g, 0, none⟩) a c] [g] := by
  have hF := helds_F h
  obtain ⟨v0, us, Fs, hv0, hown, hall, hFe⟩ := h
  injection hv0 with hv0
  have hl := all3_len hall
  have hus : ∀ u ∈ us, u.length = 3 := fun u hu => by obtain ⟨x, f, hr⟩ := all3_mem_us hall hu; exact hr.2
  rcases hown.2 with ⟨h0, _⟩ | ⟨g', cap, cur, hv1, _, hb, h1, h2, h3, h4⟩
  · rw [← hv0] at h0; cases h0
  rw [← hv0] at hv1
  injection hv1 with e1 e2 e3
  injection e1 with e1
  injection e1 with e1
  subst e1 e3
  have hn : us.length = n := by rw [hl.1, e2]
  obtain ⟨cur', k1, k2, k3⟩ := block_setCells vs (a * 3) W cur hb
  refine ⟨_, us.take a, Fs.take a, rfl, ⟨by rw [flat_len (sz := 3) (fun u hu => hus u (List.mem_of_mem_take hu)), List.length_take, List.length_take, Nat.min_eq_left (by omega), Nat.min_eq_left (by rw [← hl.1]; omega)], .inr ⟨g, c, cur', ?_, Nat.zero_le _, k1, by rw [List.length_take, Nat.min_eq_left (by rw [← hl.1]; omega)]; omega, h2, by rw [k2, h3], ?_⟩⟩, ?_, ?_⟩
  · rw [List.length_take, Nat.min_eq_left (by rw [← hl.1]; omega)]
  · rw [List.length_take, Nat.min_eq_left (by rw [← hl.1]; omega), k3 _ (Nat.le_refl _), ← flat_take hus (by omega), ← h4, List.take_take, Nat.min_eq_left (Nat.mul_le_mul_right _ (by omega))]
  · refine all3_imp (fun y u f' hf' hy => ⟨⟨hy.1.1, rHeld_good.step ⟨fun _ hb => hb, fun q hq => ?_⟩ hy.1.2.1, hy.1.2.2⟩, hy.2⟩) (all3_take a hall)
    exact World.cell?_setCells_out g vs (a * 3) W q (fun e => by have : q.block < B := hq; omega)
  · have hflat : Fs.flatten = [] := by
      rw [hFe, ← hv0] at hF
      simpa [Value.ownBlock] using hF
    have : (Fs.take a).flatten = [] := by
      rw [List.flatten_eq_nil_iff] at hflat ⊢
      exact fun f hf => hflat f (List.mem_of_mem_take hf)
    rw [this]; rfl
theorem helds_put {B g n c a m c' : Nat} {w : World} {ys : List GHeld} {h : GHeld} {A' : Option Addr} (hv : fHelds B w ys [.slice (some ⟨g, 0, none⟩) n c] [g]) (ha : a < ys.length) (hg : B ≤ g) (hr : rHeld w (fun b => b < B) h [.int .i64 h.item.id, .slice A' m c', .bool h.early]) :
    fHelds B (((w.setCell ⟨g, a * 3, none⟩ (.int .i64 h.item.id)).setCell ⟨g, a * 3 + 1, none⟩ (.slice A' m c')).setCell ⟨g, a * 3 + 2, none⟩ (.bool h.early)) (ys.set a h) [.slice (some ⟨g, 0, none⟩) n c] [g] := by
  have hlt := (fHelds_good (Nat.le_refl B)).lt hv
  obtain ⟨F', h1, h2, _⟩ := fSl_put (fSh_good rHeld_good (Nat.le_refl B)) hv ⟨by simp, by simpa using hg⟩ (k := a) (y := h) (u := [.int .i64 h.item.id, .slice A' m c', .bool h.early]) (f := []) (shHeld hr) rfl (m := w.heap.size) hlt Fresh.nil (by have := hlt g (by simp); omega) ha
  simp only [putCells] at h1
  have h3 := helds_F h1
  rw [h3] at h1
  exact h1
theorem only_setCells {g : Nat} : ∀ (vs : List Value) (o : Nat) (w W : World), Only [g] w W → Only [g] w (W.setCells g o vs)
  | [], _, _, _, h => h
  | v :: vs, o, w, W, h => only_setCells vs (o + 1) w _ (h.two (only_setCell g o W v))
theorem keeps_setCells {g : Nat} : ∀ (vs : List Value) (o : Nat) (w W : World), Keeps g w W → Keeps g w (W.setCells g o vs)
  | [], _, _, _, h => h
  | v :: vs, o, w, W, h => keeps_setCells vs (o + 1) w _ h.set
theorem zero_held (w : World) : (zeroValue 116).run Tryz.prog w = .ok (.agg #[.int .i64 0, .slice none 0 0, .bool false]) w := by kernel_rfl
theorem run_clear_held (w : World) (ty : TypeId) (g o n c : Nat) (hn : 0 < n)
    (hc : ∀ j, j < n * 3 → (w.cell? ⟨g, o + j, none⟩).isSome = true) (hf : ∀ j, j < n * 3 → w.frozen? ⟨g, o + j, none⟩ = false) :
    (Builtin.clear_ #[113] ty #[.slice (some ⟨g, o, none⟩) n c]).run Tryz.prog w = .ok (.tuple #[]) (w.setCells g o (Builtin.zeroCells #[.int .i64 0, .slice none 0 0, .bool false] n).toList) := by
  have hlen : (Builtin.zeroCells #[.int .i64 0, .slice none 0 0, .bool false] n).toList.length = n * 3 := by simp [Builtin.zeroCells]
  have hone : ∀ v ∈ (Builtin.zeroCells #[.int .i64 0, .slice none 0 0, .bool false] n).toList, v.oneCell' = true := by
    intro v hv
    simp only [Builtin.zeroCells, Array.toList_map, List.mem_map] at hv
    obtain ⟨i, _, rfl⟩ := hv
    have : i % 3 < 3 := Nat.mod_lt _ (by omega)
    show ((#[.int .i64 0, .slice none 0 0, .bool false] : Array Value)[i % 3]!).oneCell' = true
    rcases (show i % 3 = 0 ∨ i % 3 = 1 ∨ i % 3 = 2 by omega) with h | h | h <;> rw [h] <;> rfl
  have hst := run_storeCells_cells (P := Tryz.prog) g o _ 0 w (by rw [hlen]; simpa using hc) (by rw [hlen]; simpa using hf) hone
  simp only [Nat.add_zero] at hst
  have hv := zero_held
  obtain ⟨m, rfl⟩ : ∃ m, n = m + 1 := ⟨n - 1, by omega⟩
  simp [Builtin.clear_, run_underlying Tryz.underlying113, hv, hst, Value.cells]
theorem take_set_next {α : Type} {l : List α} {a : Nat} {x : α} (h : a < l.length) : (l.set a x).take (a + 1) = l.take a ++ [x] := by
  rw [List.take_set, List.set_eq_take_append_cons_drop]
  rw [if_pos (by rw [List.length_take]; omega), List.take_take, Nat.min_eq_left (by omega), List.drop_eq_nil_of_le (by rw [List.length_take]; omega)]
theorem drop_set_far {α : Type} {l : List α} {a b : Nat} {x : α} (h : a < b) : (l.set a x).drop b = l.drop b := by
  rw [List.drop_set, if_pos h]
/-- what has been kept when k of the window have been looked at -/
structure Kp (Q : GHeld → Bool) (xs ys : List GHeld) (a k : Nat) : Prop where
  front : ys.take a = (xs.take k).filter Q
  back : ys.drop k = xs.drop k
  len : ys.length = xs.length
  lt : a < k
theorem Kp.keep {Q : GHeld → Bool} {xs ys : List GHeld} {a k : Nat} {h : GHeld} (H : Kp Q xs ys a k) (hh : xs[k]? = some h) (hq : Q h = true) : Kp Q xs (ys.set a h) (a + 1) (k + 1) := by
  have hk := (List.getElem?_eq_some_iff.1 hh).1
  have hlt := H.lt
  refine ⟨?_, ?_, by rw [List.length_set, H.len], by omega⟩
  · rw [take_set_next (by rw [H.len]; omega), H.front, List.take_add_one, hh, List.filter_append]
    simp [hq]
  · rw [drop_set_far (by omega), ← List.drop_drop, H.back, List.drop_drop]
theorem Kp.skip {Q : GHeld → Bool} {xs ys : List GHeld} {a k : Nat} {h : GHeld} (H : Kp Q xs ys a k) (hh : xs[k]? = some h) (hq : Q h = false) : Kp Q xs ys a (k + 1) := by
  refine ⟨?_, ?_, H.len, by have := H.lt; omega⟩
  · rw [H.front, List.take_add_one, hh, List.filter_append]
    simp [hq]
  · rw [← List.drop_drop, H.back, List.drop_drop]
theorem Kp.at' {Q : GHeld → Bool} {xs ys : List GHeld} {a k : Nat} {h : GHeld} (H : Kp Q xs ys a k) (hh : xs[k]? = some h) : ys[k]? = some h := by
  have h1 : (ys.drop k)[0]? = (xs.drop k)[0]? := by rw [H.back]
  rw [List.getElem?_drop, List.getElem?_drop, Nat.add_zero] at h1
  rw [h1, hh]
theorem Kp.done {Q : GHeld → Bool} {xs ys : List GHeld} {a k : Nat} (H : Kp Q xs ys a k) (hk : xs.length ≤ k) : ys.take a = xs.filter Q := by rw [H.front, List.take_of_length_le hk]
set_option maxRecDepth 100000 in
set_option maxHeartbeats 3200000 in
theorem held_delete (w : World) (B : Nat) (xs : List GHeld) (g n c : Nat) (F : List Nat) (p1 p2 : Nat) (e : List GNode) (x : GItem) (hv : fHelds B w xs [.slice (some ⟨g, 0, none⟩) n c] F) (hE : EnvC w B g p1 p2 e x) (he : isExpr e = true) (hx : isItem x = true) (hxs : ∀ h ∈ xs, isItem h.item = true) :
    Calls Tryz.prog 115 #[.slice (some ⟨g, 0, none⟩) n c, .func (.func 116) #[] #[.pointer (some ⟨p1, 0, none⟩), .pointer (some ⟨p2, 0, none⟩)]] w
      (fun e' w' => ∃ n', e' = .returned (.slice (some ⟨g, 0, none⟩) n' c) ∧ fHelds B w' (xs.filter fun h => !beats e x h.item) [.slice (some ⟨g, 0, none⟩) n' c] [g] ∧ Only [g] w w' ∧ Keeps g w w') := by
  have hi := held_idx2 w B xs (some ⟨g, 0, none⟩) n c F p1 p2 e x hv hE.hB hE.env he hx hxs
  obtain ⟨l1, l2, l3⟩ := helds_len hv
  have hF := helds_F hv
  simp [Value.ownBlock] at hF
  subst hF
  unfold maxLen at l3
  obtain ⟨Q, hQ⟩ : ∃ Q : GHeld → Bool, Q = fun h => !beats e x h.item := ⟨_, rfl⟩
  rw [← hQ]
  have HQ := Lib.hid hQ
  have L1 := Lib.hid l1
  rcases idxF_cases (fun h => beats e x h.item) xs 0 with ⟨h1, h2⟩ | ⟨k, y, h1, h2, h3, h4⟩
  · rw [h1] at hi
    have hfil : xs.filter Q = xs := by rw [List.filter_eq_self]; intro y hy; rw [hQ]; simp [h2 y hy]
    rw [hfil]
    have HV := Lib.hid hv
    have HB0 := Lib.hid hE.hB
    clear hv hE hQ l1 h1 h2 hfil
    go_enter Tryz.func115, Tryz.ntmps115
    go_wp2_with fail
    refine hi.mono ?_
    rintro e2 w2 ⟨rfl, hb2⟩
    clear hi
    go_wp2
    go_ret
    exact ⟨n, rfl, helds_bw HV.out HB0.out hb2, hb2.only [g], (Keeps.refl g w).bw hb2⟩
  · rw [Nat.zero_add] at h1
    rw [h1] at hi
    have hkn : k < n := by rw [l1]; exact (List.getElem?_eq_some_iff.1 h2).1
    have hk0 : Kp Q xs xs k (k + 1) := by
      refine ⟨?_, rfl, rfl, by omega⟩
      rw [List.take_add_one, h2, List.filter_append]
      have e1 : (xs.take k).filter Q = xs.take k := by rw [List.filter_eq_self]; intro z hz; rw [hQ]; simp [h4 z hz]
      have e2 : [y].filter Q = [] := by rw [List.filter_eq_nil_iff]; intro z hz; rw [List.mem_singleton.1 hz, hQ]; simp [h3]
      rw [e1]
      show _ = _ ++ [y].filter Q
      rw [e2, List.append_nil]
    have HK0 := Lib.hid hk0
    have HV := Lib.hid hv
    have HE := Lib.hid hE
    have e0 : ((k : Int) == -1) = false := by rw [beq_eq_false_iff_ne]; omega
    clear hv hE hQ l1 h1 h2 h3 h4 hk0
    go_enter Tryz.func115, Tryz.ntmps115
    go_wp2_with fail
    refine hi.mono ?_
    rintro e2 w2 ⟨rfl, hb2⟩
    clear hi
    go_wp2
    go_loopg [5, 6] (n + 1 - (k + 1)) (fun gg iv jv w' => ∃ (a b : Nat) (ys : List GHeld), b ≤ n ∧ gg = n + 1 - b ∧ iv = .int .i64 a ∧ jv = .int .i64 b ∧ a < b ∧ Hid (Kp Q xs ys a b) ∧ fHelds B w' ys [.slice (some ⟨g, 0, none⟩) n c] [g] ∧ Only [g] w w' ∧ Keeps g w w')
    case atStart => exact ⟨k, k + 1, xs, by omega, rfl, rfl, by go_num, by omega, HK0, helds_bw HV.out HE.out.hB hb2, hb2.only [g], (Keeps.refl g w).bw hb2⟩
    case round =>
      obtain ⟨a, b, ys, hb, rfl, rfl, rfl, hab, HK, hvr, hO, hKp⟩ := hrel
      have hEr := HE.out.only hO
      by_cases hlt : b < n
      · obtain ⟨h, hh⟩ := get_of_lt (xs := xs) (k := b) (by rw [← L1.out]; exact hlt)
        have hy := HK.out.at' hh
        have hhi := hxs h (List.mem_of_getElem? hh)
        obtain ⟨ba, oa, A', c', eA, ca, cb, cc, hlow⟩ := fHelds_at hvr hy
        injection eA with eA
        injection eA with eA eO
        subst eA eO
        obtain ⟨m, hm⟩ : ∃ m, m = h.item.vals.length := ⟨_, rfl⟩
        rw [← hm] at cb hlow
        rw [Nat.zero_add] at ca cb cc
        have i0 : (0 : Int) ≤ (b : Int) := by omega
        have i1 : (b : Int) < (n : Int) := by omega
        have i2 : (0 : Int) ≤ (a : Int) := by omega
        have i3 : (a : Int) < (n : Int) := by omega
        have hAl := (Bw.refl wr).alloc (.cells #[.int .i64 h.item.id, .slice A' m c', .bool h.early] 116)
        have hcall := I_bb2 _ h _ p1 p2 e x (hEr.env.bw hAl) ((held_low hlow hEr.hB).bw rInts_good hAl) he hx hhi
        have hglt := (fHelds_good (B := wr.heap.size) hEr.hB).lt hvr g (by simp)
        cases hq : beats e x h.item with
        | true =>
          have HN := Lib.hid (HK.out.skip hh (by rw [HQ.out]; simp [hq]))
          rw [hq] at hcall
          clear hh hy hm hq
          go_wp2_with fail
          refine hcall.mono ?_
          rintro e3 w3 ⟨rfl, hb3⟩
          clear hcall
          go_wp2
          go_roundg (n + 1 - (b + 1))
          case measure => omega
          case rel => exact ⟨a, b + 1, ys, by omega, rfl, rfl, by go_num, by omega, HN, helds_bw hvr hEr.hB (hAl.then hb3), hO.bwNext (hAl.then hb3), hKp.bw (hAl.then hb3)⟩
        | false =>
          have HN := Lib.hid (HK.out.keep hh (by rw [HQ.out]; simp [hq]))
          rw [hq] at hcall
          have HL := Lib.hid (show a < ys.length by rw [HK.out.len, ← L1.out]; omega)
          clear hh hy hm hq
          go_wp2_with fail
          refine hcall.mono ?_
          rintro e3 w3 ⟨rfl, hb3⟩
          clear hcall
          have hb13 := hAl.then hb3
          have hv3 := helds_bw hvr hEr.hB hb13
          have d0 : w3.cell? ⟨wr.heap.size, 0, none⟩ = some (.int .i64 h.item.id) := hb3.cell (by go_simp)
          have d1 : w3.cell? ⟨wr.heap.size, 1, none⟩ = some (.slice A' m c') := hb3.cell (by go_simp)
          have d2 : w3.cell? ⟨wr.heap.size, 2, none⟩ = some (.bool h.early) := hb3.cell (by go_simp)
          obtain ⟨h2, hh2⟩ := get_of_lt (xs := ys) (k := a) HL.out
          obtain ⟨_, _, A2, c2, eA, k0, k1, k2, _⟩ := fHelds_at hv3 hh2
          injection eA with eA
          injection eA with eA eO
          subst eA eO
          rw [Nat.zero_add] at k0 k1 k2
          have fz := fSl_frozen hv3
          have hput := helds_put hv3 HL.out hEr.hg ⟨_, rfl, rInts_good.step ⟨fun _ hb => hb, fun q hq => Below.cell hb13 (Nat.lt_of_lt_of_le hq hEr.hB)⟩ hlow⟩
          have HP := Lib.hid hput
          have hO3 := hO.bwNext hb13
          have hK3 := hKp.bw hb13
          clear hh2 hput hlow hEr hvr hv3
          go_wp2
          go_roundg (n + 1 - (b + 1))
          case measure => omega
          case rel => exact ⟨a + 1, b + 1, _, by omega, rfl, by go_num, by go_num, by omega, HN, HP.out, ((hO3.two (only_setCell g _ _ _)).two (only_setCell g _ _ _)).two (only_setCell g _ _ _), ((hK3.set).set).set⟩
      · obtain rfl : b = n := by omega
        have hacl : a < c := by omega
        have hglt := (fHelds_good (B := wr.heap.size) hEr.hB).lt hvr g (by simp)
        have hcl : ∀ j, j < (b - a) * 3 → (wr.cell? ⟨g, a * 3 + j, none⟩).isSome = true := fun j hj => by
          obtain ⟨h2, hh2⟩ := get_of_lt (xs := ys) (k := a + j / 3) (by rw [HK.out.len, ← L1.out]; omega)
          obtain ⟨_, _, A2, c2, eA, k0, k1, k2, _⟩ := fHelds_at hvr hh2
          injection eA with eA
          injection eA with eA eO
          subst eA eO
          rw [Nat.zero_add] at k0 k1 k2
          rcases (show j % 3 = 0 ∨ j % 3 = 1 ∨ j % 3 = 2 by omega) with h | h | h
          · rw [show a * 3 + j = (a + j / 3) * 3 by omega, k0]; rfl
          · rw [show a * 3 + j = (a + j / 3) * 3 + 1 by omega, k1]; rfl
          · rw [show a * 3 + j = (a + j / 3) * 3 + 2 by omega, k2]; rfl
        have hfz : ∀ j, j < (b - a) * 3 → wr.frozen? ⟨g, a * 3 + j, none⟩ = false := fun j _ => fSl_frozen hvr _
        have hclr := fun ty => run_clear_held wr ty g (a * 3) (b - a) (c - a) (by omega) hcl hfz
        obtain ⟨vs, hvs⟩ : ∃ vs, vs = (Builtin.zeroCells #[.int .i64 0, .slice none 0 0, .bool false] (b - a)).toList := ⟨_, rfl⟩
        simp only [← hvs] at hclr
        have hfr := helds_front hvr (a := a) (by omega) hEr.hg hEr.hB vs
        rw [HK.out.done (by rw [← L1.out]; omega)] at hfr
        have HFR := Lib.hid hfr
        have HOO := Lib.hid hO
        clear hvs hfr hcl hfz hEr hvr
        have i4 : (a : Int) ≤ (b : Int) := by omega
        have i5 : (0 : Int) ≤ (a : Int) := by omega
        have i6 : (b : Int) ≤ (c : Int) := by omega
        have i7 : (a : Int) ≤ (c : Int) := by omega
        go_wp2
        go_ret
        exact ⟨a, rfl, HFR.out, only_setCells vs _ _ _ HOO.out, keeps_setCells vs _ _ _ hKp⟩
end Go.Proofs.YtpihighajaeabaaGreat
