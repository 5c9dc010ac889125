/- The library's stable sort of Ids by how many items they dominate (below twenty: insertion). -/
import Derived.Test.YtpihighajaeabaaGreatQBand
namespace Go.Proofs.YtpihighajaeabaaGreat
open Go.RowKit
set_option linter.unusedVariables false
set_option linter.unusedSimpArgs false
def insR (c : Int → Nat) (x : Int) : List Int → List Int
  | [] => [x]
  | y :: r => if c y < c x then y :: insR c x r else x :: y :: r
def sortR (c : Int → Nat) (xs : List Int) : List Int := xs.foldl (fun r x => insR c x r) []
theorem insR_len (c : Int → Nat) (x : Int) : ∀ r : List Int, (insR c x r).length = r.length + 1
  | [] => rfl
  | y :: r => by rw [insR]; split <;> simp [insR_len c x r]
theorem sortR_take {c : Int → Nat} {xs : List Int} {k : Nat} {x : Int} (h : xs[k]? = some x) : sortR c (xs.take (k + 1)) = insR c x (sortR c (xs.take k)) := by
  unfold sortR
  rw [List.take_add_one, h, List.foldl_append]
  rfl
theorem sortR_len (c : Int → Nat) (xs : List Int) (k : Nat) (hk : k ≤ xs.length) : (sortR c (xs.take k)).length = k := by
  induction k with
  | zero => rfl
  | succ k ih =>
    rw [sortR_take (List.getElem?_eq_getElem (show k < xs.length by omega)), insR_len, ih (by omega)]
theorem swap_at (a : List Int) (y x : Int) (t : List Int) : ((a ++ y :: x :: t).set (a.length + 1) y).set a.length x = a ++ x :: y :: t := by
  induction a with
  | nil => rfl
  | cons z a ih => simp [ih]
theorem two_at (a : List Int) (y x : Int) (t : List Int) : (a ++ y :: x :: t)[a.length]? = some y ∧ (a ++ y :: x :: t)[a.length + 1]? = some x := by
  induction a with
  | nil => exact ⟨rfl, rfl⟩
  | cons z a ih => simp
theorem fInts_F {w : World} {xs : List Int} {v : Value} {F : List Nat} (h : fInts w xs [v] F) : F = v.ownBlock.toList := by
  obtain ⟨v', us, Fs, hv, hown, hall, hF⟩ := h
  injection hv with hv
  subst hv
  have : ∀ {xs : List Int} {us : List (List Value)} {fs : List (List Nat)}, all3 (fun x u f => fInt w x u f ∧ u.length = 1) xs us fs → fs.flatten = [] := by
    intro xs
    induction xs with
    | nil => intro us fs h; cases us <;> cases fs <;> first | rfl | exact h.elim
    | cons x xs ih =>
      intro us fs h
      cases us <;> cases fs <;> first | exact h.elim | skip
      rename_i u us f fs
      have h1 := ih h.2
      rw [List.flatten_cons, h1, h.1.1.2]; rfl
  rw [hF, this hall, List.append_nil]
theorem fInts_put {w : World} {g n c k : Nat} {y : Int} {xs : List Int} (hv : fInts w xs [.slice (some ⟨g, 0, none⟩) n c] [g]) (hk : k < xs.length) : fInts (w.setCell ⟨g, k, none⟩ (.int .i64 y)) (xs.set k y) [.slice (some ⟨g, 0, none⟩) n c] [g] := by
  have hlt := (fInts_good (B := 0)).lt hv
  obtain ⟨F', h1, h2, _⟩ := fSl_put (fInt_good (B := 0)) hv ⟨by simp, by simp⟩ (k := k) (y := y) (u := [.int .i64 y]) (f := []) ⟨rfl, rfl⟩ rfl (m := w.heap.size) hlt Fresh.nil (Nat.zero_le _) hk
  simp only [putCells, Nat.mul_one] at h1
  have h3 := fInts_F h1
  rw [h3] at h1
  exact h1
/-- what the closure holds: items and an expression, in boxes below B -/
structure Env (B p1 p2 : Nat) (vl ve : Value) (l : List GItem) (e : List GNode) (w : World) : Prop where
  c1 : w.cell? ⟨p1, 0, none⟩ = some vl
  c2 : w.cell? ⟨p2, 0, none⟩ = some ve
  l1 : p1 < B
  l2 : p2 < B
  rl : rItems w (fun b => b < B) l [vl]
  re : rNodes w (fun b => b < B) e [ve]
  sz : B ≤ w.heap.size
theorem Env.only {B p1 p2 g : Nat} {vl ve : Value} {l : List GItem} {e : List GNode} {w w' : World} (h : Env B p1 p2 vl ve l e w) (hO : Only [g] w w') (hg : B ≤ g) : Env B p1 p2 vl ve l e w' :=
  ⟨hO.cell h.c1 (by have := h.l1; simp; omega), hO.cell h.c2 (by have := h.l2; simp; omega), h.l1, h.l2,
    rItems_good.step ⟨fun _ hb => hb, fun q hq => World.cell?_of_block (hO.2 _ (Nat.lt_of_lt_of_le hq h.sz) (by have : q.block < B := hq; simp; omega))⟩ h.rl,
    rNodes_good.step ⟨fun _ hb => hb, fun q hq => World.cell?_of_block (hO.2 _ (Nat.lt_of_lt_of_le hq h.sz) (by have : q.block < B := hq; simp; omega))⟩ h.re, Nat.le_trans h.sz hO.1⟩
theorem Env.bw {B p1 p2 : Nat} {vl ve : Value} {l : List GItem} {e : List GNode} {w w' : World} (h : Env B p1 p2 vl ve l e w) (hb : Bw w w') : Env B p1 p2 vl ve l e w' :=
  ⟨hb.cell h.c1, hb.cell h.c2, h.l1, h.l2, rItems_good.step ⟨fun _ hb => hb, fun q hq => Below.cell hb (Nat.lt_of_lt_of_le hq h.sz)⟩ h.rl, rNodes_good.step ⟨fun _ hb => hb, fun q hq => Below.cell hb (Nat.lt_of_lt_of_le hq h.sz)⟩ h.re, Nat.le_trans h.sz hb.size⟩
theorem Env.rdl {B p1 p2 : Nat} {vl ve : Value} {l : List GItem} {e : List GNode} {w : World} (h : Env B p1 p2 vl ve l e w) : Rd rItems w l [vl] := rItems_good.step ⟨fun _ hb => Nat.lt_of_lt_of_le hb h.sz, fun _ _ => rfl⟩ h.rl
theorem Env.rde {B p1 p2 : Nat} {vl ve : Value} {l : List GItem} {e : List GNode} {w : World} (h : Env B p1 p2 vl ve l e w) : Rd rNodes w e [ve] := rNodes_good.step ⟨fun _ hb => Nat.lt_of_lt_of_le hb h.sz, fun _ _ => rfl⟩ h.re
def Keeps (g : Nat) (w w' : World) : Prop := ∀ w0 : World, Bw w0 w → w0.heap.size ≤ g → Bw w0 w'
theorem Keeps.refl (g : Nat) (w : World) : Keeps g w w := fun _ h _ => h
theorem Keeps.bw {g : Nat} {w w' w2 : World} (h : Keeps g w w') (hb : Bw w' w2) : Keeps g w w2 := fun w0 k hg => (h w0 k hg).then hb
theorem Keeps.set {g o : Nat} {w w' : World} {u : Value} (h : Keeps g w w') : Keeps g w (w'.setCell ⟨g, o, none⟩ u) := fun w0 k hg => (h w0 k hg).set hg u
theorem bestItems_16 (l : List GItem) (e : List GNode) : (bestItems l e).length ≤ 16 := by
  unfold bestItems
  split
  · rename_i h
    have h1 := areItems_len (areBoth_items h)
    exact Nat.le_trans (bestM_len l e) h1
  · simp
def cntM (l : List GItem) (e : List GNode) (id : Int) : Nat := (relM l e id (-1)).length
set_option maxRecDepth 100000 in
set_option maxHeartbeats 1600000 in
theorem I_progCmp (w : World) (a b : Int) (B p1 p2 : Nat) (vl ve : Value) (l : List GItem) (e : List GNode) (hE : Env B p1 p2 vl ve l e w) :
    Calls Tryz.prog 120 #[.int .i64 a, .int .i64 b, .pointer (some ⟨p1, 0, none⟩), .pointer (some ⟨p2, 0, none⟩)] w (Ret w (.int .i64 ((cntM l e b : Int) - (cntM l e a : Int)))) := by
  have c1 := hE.c1
  have c2 := hE.c2
  obtain ⟨Al, nl, cl, rfl, ll, lc, lm⟩ := rSl_open hE.rdl
  unfold maxLen at lm
  obtain ⟨Ae, ne, ce, rfl, le, _⟩ := rSl_open hE.rde
  have LL := Lib.hid ll
  have LE := Lib.hid le
  obtain ⟨ca, hca⟩ : ∃ n, n = cntM l e a := ⟨_, rfl⟩
  obtain ⟨cb, hcb⟩ : ∃ n, n = cntM l e b := ⟨_, rfl⟩
  rw [← hca, ← hcb]
  have ka : ca ≤ nl := by rw [hca, ll]; exact relM_len _ _ _ _
  have kb : cb ≤ nl := by rw [hcb, ll]; exact relM_len _ _ _ _
  have HW := Lib.hid (show IntKind.i64.wrap ((cb : Int) - (ca : Int)) = (cb : Int) - (ca : Int) by simp [IntKind.wrap, IntKind.bits, IntKind.signed]; omega)
  have hD := (Bw.refl w).drew
  have cc : ∀ (id : Int) (W : World), Bw w W → Calls Tryz.prog 121 #[.slice Al nl cl, .slice Ae ne ce, .int .i64 id] W (fun e' W' => ∃ A c, e' = .returned (.slice A (cntM l e id) c) ∧ Bw W W') := fun id W hb => by
    refine (I_DominatedBy W l e id _ _ ((hE.bw hb).rdl) ((hE.bw hb).rde)).mono ?_
    rintro e' W' ⟨v, rfl, ⟨F, o, f⟩, hb'⟩
    obtain ⟨A, n, c, rfl, hn, _⟩ := rSl_open (fInts_Rd o)
    exact ⟨A, c, by rw [hn]; rfl, hb'⟩
  have CA := Lib.hid (fun W (B : Bw w W) => (show Calls Tryz.prog 121 #[.slice Al nl cl, .slice Ae ne ce, .int .i64 a] W (fun e' W' => ∃ A c, e' = .returned (.slice A ca c) ∧ Bw W W') by rw [hca]; exact cc a W B))
  have CB := Lib.hid (fun W (B : Bw w W) => (show Calls Tryz.prog 121 #[.slice Al nl cl, .slice Ae ne ce, .int .i64 b] W (fun e' W' => ∃ A c, e' = .returned (.slice A cb c) ∧ Bw W W') by rw [hcb]; exact cc b W B))
  have hB := Bw.refl w.drew
  have y1 := hD.cell c1
  have y2 := hD.cell c2
  clear hca hcb cc hE ll le
  go_enter Tryz.func120, Tryz.ntmps120
  go_wp2_with fail
  go_region_held3 (fun w' => w'.cell? ⟨p1, 0, none⟩ = some (.slice Al nl cl) ∧ w'.cell? ⟨p2, 0, none⟩ = some (.slice Ae ne ce)) (first | exact ⟨y1, y2⟩ | exact ⟨hB.cell y1, hB.cell y2⟩)
    (first
      | (go_at_call 121; first | ((with_reducible refine (CB.out _ (hD.then hB)).mono ?_); rintro e' w5 ⟨A5, c5, rfl, hb5⟩; replace hB := hB.then hb5) | ((with_reducible refine (CA.out _ (hD.then hB)).mono ?_); rintro e' w5 ⟨A6, c6, rfl, hb5⟩; replace hB := hB.then hb5)))
  all_goals
    go_wp2
    go_ret
    exact Ret.int HW.out (hD.then hB)
set_option maxRecDepth 100000 in
set_option maxHeartbeats 6400000 in
theorem I_insertion (w : World) (xs : List Int) (g n c B p1 p2 : Nat) (vl ve : Value) (l : List GItem) (e : List GNode) (hv : fInts w xs [.slice (some ⟨g, 0, none⟩) n c] [g]) (hE : Env B p1 p2 vl ve l e w) (hg : B ≤ g) (hn : Hid (xs.length = n)) (hn1 : 1 ≤ n) (hn2 : n ≤ 1048576) :
    Calls Tryz.prog 234 #[.slice (some ⟨g, 0, none⟩) n c, .int .i64 0, .int .i64 n, .func (.func 120) #[] #[.pointer (some ⟨p1, 0, none⟩), .pointer (some ⟨p2, 0, none⟩)]] w
      (fun e' w' => e' = .returned (.tuple #[]) ∧ fInts w' (sortR (cntM l e) xs).reverse [.slice (some ⟨g, 0, none⟩) n c] [g] ∧ Only [g] w w' ∧ Keeps g w w') := by
  obtain ⟨cn, hcn⟩ : ∃ f, f = cntM l e := ⟨_, rfl⟩
  have HCN := Lib.hid hcn
  rw [← hcn]
  clear hcn
  go_enter Tryz.func234, Tryz.ntmps234
  go_wp2
  go_loopg [8] n (fun gg i w' => ∃ k : Nat, 1 ≤ k ∧ k ≤ n ∧ gg = n - k + 1 ∧ i = .int .i64 k ∧ fInts w' ((sortR cn (xs.take k)).reverse ++ xs.drop k) [.slice (some ⟨g, 0, none⟩) n c] [g] ∧ Only [g] w w' ∧ Keeps g w w')
  case atStart =>
    refine ⟨1, by omega, by omega, by omega, rfl, ?_, Only.refl _ _, Keeps.refl _ _⟩
    obtain ⟨x, hx⟩ := get_of_lt (xs := xs) (k := 0) (by have := hn.out; omega)
    rw [sortR_take hx]
    have : xs = x :: xs.drop 1 := by
      cases xs with
      | nil => simp at hx
      | cons y t => simp at hx; subst hx; rfl
    show fInts w ([x] ++ xs.drop 1) _ _
    rw [List.singleton_append, ← this]
    exact hv
  case round =>
    clear hv
    obtain ⟨k, hk1, hk, rfl, rfl, hv, hO, hK⟩ := hrel
    by_cases hlt : k < n
    · obtain ⟨x, hx⟩ := get_of_lt (xs := xs) (k := k) (by have := hn.out; omega)
      have HS := Lib.hid (sortR_take (c := cn) hx)
      have HRL := Lib.hid (sortR_len cn xs k (by have := hn.out; omega))
      have HX := Lib.hid (show xs.drop k = x :: xs.drop (k + 1) from drop_cons hx)
      rw [HX.out] at hv
      obtain ⟨R, hR⟩ : ∃ R, R = sortR cn (xs.take k) := ⟨_, rfl⟩
      obtain ⟨D, hD⟩ : ∃ D, D = xs.drop (k + 1) := ⟨_, rfl⟩
      rw [← hR] at hv HS HRL
      rw [← hD] at hv
      have HD := Lib.hid hD
      have HLEN := Lib.hid (show (R.reverse ++ x :: (([] : List Int).reverse ++ D)).length = n by
        have h1 := hn.out
        have h2 := HRL.out
        rw [HD.out]
        simp only [List.length_append, List.length_reverse, List.length_cons, List.length_drop, List.reverse_nil, List.nil_append]
        omega)
      clear hR hD hx HX
      go_wp2
      go_loopg [9] (k + 1) (fun gg z w' => ∃ (j : Nat) (p r : List Int), j ≤ k ∧ gg = j + 1 ∧ z = .int .i64 j ∧ Hid (r.length = j ∧ insR cn x R = p ++ insR cn x r ∧ (r.reverse ++ x :: (p.reverse ++ D)).length = n) ∧ fInts w' (r.reverse ++ x :: (p.reverse ++ D)) [.slice (some ⟨g, 0, none⟩) n c] [g] ∧ Only [g] w w' ∧ Keeps g w w')
      case atStart => exact ⟨k, [], R, Nat.le_refl _, rfl, rfl, Lib.hid ⟨HRL.out, rfl, HLEN.out⟩, by simpa using hv, hO, hK⟩
      case round =>
        clear hv hO hK
        obtain ⟨j, p, r, hjk, rfl, rfl, HI, hv, hO, hK⟩ := hrel
        by_cases hj : 0 < j
        · obtain ⟨q, rfl⟩ : ∃ q, j = q + 1 := ⟨j - 1, by omega⟩
          obtain ⟨y, r', hr⟩ : ∃ y r', r = y :: r' := by
            cases r with
            | nil => have := HI.out.1; simp at this
            | cons y r' => exact ⟨y, r', rfl⟩
          subst hr
          have hrl : r'.length = q := by have := HI.out.1; simpa using this
          have hrq : r'.reverse.length = q := by rw [List.length_reverse]; exact hrl
          have econt : (y :: r').reverse ++ x :: (p.reverse ++ D) = r'.reverse ++ y :: x :: (p.reverse ++ D) := by simp
          rw [econt] at hv
          obtain ⟨t1, t2⟩ := two_at r'.reverse y x (p.reverse ++ D)
          rw [hrq] at t1 t2
          obtain ⟨_, _, e1, _, cy⟩ := rInts_at (fInts_Rd hv) t1
          injection e1 with e1
          injection e1 with e1 e2
          subst e1 e2
          obtain ⟨_, _, e1, _, cx⟩ := rInts_at (fInts_Rd hv) t2
          injection e1 with e1
          injection e1 with e1 e2
          subst e1 e2
          have ff := fun o => fSl_frozen hv o
          rw [Nat.zero_add] at cy cx
          have hEr := hE.only hO hg
          have hcmp := fun (s : Since wr) => I_progCmp s.1 x y B p1 p2 vl ve l e (hEr.bw s.bw)
          rw [← HCN.out] at hcmp
          have ej : ((q + 1 : Nat) : Int) = (q : Int) + 1 := by omega
          have s1 := since_cell cy
          have s2 := since_cell cx
          have g1 : (0 : Int) < (q : Int) + 1 := by omega
          have g2 : (0 : Int) ≤ (q : Int) + 1 := by omega
          have g3 : (q : Int) + 1 < (n : Int) := by omega
          have g4 : (0 : Int) ≤ (q : Int) := by omega
          have g5 : (q : Int) < (n : Int) := by omega
          have hcl2 : ∀ s : Since wr, Calls Tryz.prog 120 #[.int .i64 x, .int .i64 y, .pointer (some ⟨p1, 0, none⟩), .pointer (some ⟨p2, 0, none⟩)] s.1 (Ret s.1 (.int .i64 ((cn y : Int) - (cn x : Int)))) := hcmp
          have HEC := Lib.hid econt
          have HRQ := Lib.hid hrq
          have HRL2 := Lib.hid hrl
          rw [ej]
          by_cases hc : cn y < cn x
          · have i1 : (cn y : Int) - (cn x : Int) < 0 := by omega
            have HJ := Lib.hid (show insR cn x R = (p ++ [y]) ++ insR cn x r' by rw [HI.out.2.1, insR, if_pos hc, List.append_assoc]; rfl)
            clear hcmp hc econt t1 t2 hj hrl hrq ej
            go_wp2
            refine wp_region_since (by kernel_rfl) (by kernel_rfl) ?_
            repeat (first | go_big_quiet_skip | (go_big_quiet_want; go_big_quiet_op; first | go_big_quiet_on | (apply Exists.intro; refine ⟨fun _ => ?_, ?_⟩; (· (((go_at_call 120; exact Calls_since (hcl2 _))))); go_big_quiet_on)))
            refine wpQuiet_nil ?_
            rintro ⟨wq, hbq⟩
            dsimp only at *
            have hvq := keepBw (hbq.then (Bw.refl wq).drew) fInts_good hv
            have cyq := (hbq.then (Bw.refl wq).drew).cell cy
            have cxq := (hbq.then (Bw.refl wq).drew).cell cx
            have ffq := fun o => fSl_frozen hvq o
            have hv1 := fInts_put (k := q + 1) (y := y) hvq (by rw [← HEC.out, HI.out.2.2]; omega)
            have hv2 := fInts_put (k := q) (y := x) hv1 (by rw [List.length_set, ← HEC.out, HI.out.2.2]; omega)
            have hsw := swap_at r'.reverse y x (p.reverse ++ D)
            rw [HRQ.out] at hsw
            rw [hsw, show r'.reverse ++ x :: y :: (p.reverse ++ D) = r'.reverse ++ x :: ((p ++ [y]).reverse ++ D) by simp] at hv2
            have HLN2 := Lib.hid (show (r'.reverse ++ x :: ((p ++ [y]).reverse ++ D)).length = n by
              have := HI.out.2.2
              simp only [List.length_append, List.length_reverse, List.length_cons, List.length_nil] at this ⊢
              omega)
            have hOq := ((hO.bwNext (hbq.then (Bw.refl wq).drew)).two (only_setCell g (q + 1) wq.drew (.int .i64 y))).two (only_setCell g q (wq.drew.setCell ⟨g, q + 1, none⟩ (.int .i64 y)) (.int .i64 x))
            have hKq := (((hK.bw hbq).bw (Bw.refl wq).drew).set (o := q + 1) (u := .int .i64 y)).set (o := q) (u := .int .i64 x)
            have cyw := hbq.cell cy
            have cxw := hbq.cell cx
            have ffw := fun o => fSl_frozen (keepBw hbq fInts_good hv) o
            clear hv hvq hv1 hsw hcl2 s1 s2
            go_wp2
            go_region
            all_goals
              clear cyq cxq ffq cyw cxw ffw
              go_wp2
              go_roundg (q + 1)
              case measure => omega
              case rel => exact ⟨q, p ++ [y], r', by omega, rfl, by go_num, Lib.hid ⟨HRL2.out, HJ.out, HLN2.out⟩, hv2, hOq, hKq⟩
          · have i1 : ¬ (cn y : Int) - (cn x : Int) < 0 := by omega
            have hend : fInts wr ((sortR cn (xs.take (k + 1))).reverse ++ xs.drop (k + 1)) [.slice (some ⟨g, 0, none⟩) n c] [g] := by
              rw [HS.out, HI.out.2.1, insR, if_neg hc, ← HD.out]
              simpa using hv
            clear hcmp hc econt t1 t2 hj hrl hrq ej
            go_wp2
            refine wp_region_since (by kernel_rfl) (by kernel_rfl) ?_
            repeat (first | go_big_quiet_skip | (go_big_quiet_want; go_big_quiet_op; first | go_big_quiet_on | (apply Exists.intro; refine ⟨fun _ => ?_, ?_⟩; (· (((go_at_call 120; exact Calls_since (hcl2 _))))); go_big_quiet_on)))
            refine wpQuiet_nil ?_
            rintro ⟨wq, hbq⟩
            dsimp only at *
            have hend2 := keepBw hbq fInts_good hend
            go_wp2
            go_roundg (n - (k + 1) + 1)
            case measure => omega
            case rel => exact ⟨k + 1, by omega, by omega, rfl, by go_num, hend2, hO.bwNext hbq, hK.bw hbq⟩
        · obtain rfl : j = 0 := by omega
          have hr0 : r = [] := List.eq_nil_of_length_eq_zero HI.out.1
          subst hr0
          have hend : fInts wr ((sortR cn (xs.take (k + 1))).reverse ++ xs.drop (k + 1)) [.slice (some ⟨g, 0, none⟩) n c] [g] := by
            rw [HS.out, HI.out.2.1, ← HD.out]
            simpa [insR] using hv
          clear hj
          go_wp2
          refine wp_region_since (by kernel_rfl) (by kernel_rfl) ?_
          repeat (first | go_big_quiet_skip | (go_big_quiet_want; go_big_quiet_op; first | go_big_quiet_on | (apply Exists.intro; refine ⟨fun _ => ?_, ?_⟩; (· (((fail)))); go_big_quiet_on)))
          refine wpQuiet_nil ?_
          rintro ⟨wq, hbq⟩
          dsimp only at *
          have hend2 := keepBw hbq fInts_good hend
          go_wp2
          go_roundg (n - (k + 1) + 1)
          case measure => omega
          case rel => exact ⟨k + 1, by omega, by omega, rfl, by go_num, hend2, hO.bwNext hbq, hK.bw hbq⟩
    · obtain rfl : k = n := by omega
      go_wp2
      refine bodyPost_end (results_none rfl _ _ _) rfl ?_
      have ek : xs.take k = xs := List.take_of_length_le (by rw [hn.out]; exact Nat.le_refl _)
      have ed : xs.drop k = [] := List.drop_of_length_le (by rw [hn.out]; exact Nat.le_refl _)
      rw [ek, ed, List.append_nil] at hv
      exact ⟨rfl, hv, hO, hK⟩
set_option maxRecDepth 100000 in
set_option maxHeartbeats 1600000 in
theorem I_insertion0 (w : World) (v f : Value) : Calls Tryz.prog 234 #[v, .int .i64 0, .int .i64 0, f] w (fun e' w' => e' = .returned (.tuple #[]) ∧ w' = w) := by
  go_enter Tryz.func234, Tryz.ntmps234
  go_wp2
  go_loopg [8] 0 (fun gg i w' => gg = 0 ∧ i = .int .i64 1 ∧ w' = w)
  case atStart => exact ⟨rfl, rfl, rfl⟩
  case round =>
    obtain ⟨rfl, rfl, rfl⟩ := hrel
    go_wp2
    refine bodyPost_end (results_none rfl _ _ _) rfl ?_
    exact ⟨rfl, rfl⟩
set_option maxRecDepth 100000 in
set_option maxHeartbeats 1600000 in
theorem I_stable (w : World) (sv fv : Value) (n : Nat) (R : Ending → World → Prop) (hc : Calls Tryz.prog 234 #[sv, .int .i64 0, .int .i64 n, fv] w R) (hn : n ≤ 16) (hR : ∀ e' w', R e' w' → e' = .returned (.tuple #[])) :
    Calls Tryz.prog 179 #[sv, .int .i64 n, fv] w R := by
  have i1 : ¬ (20 : Int) ≤ (n : Int) := by omega
  have i2 : ¬ (20 : Int) < (n : Int) := by omega
  have HR := Lib.hid hR
  clear hR
  go_enter Tryz.func179, Tryz.ntmps179
  go_wp2
  go_loopg [7, 8] 0 (fun gg x y w' => gg = 0 ∧ x = .int .i64 0 ∧ y = .int .i64 20 ∧ w' = w)
  case atStart => exact ⟨rfl, rfl, rfl, rfl⟩
  case round =>
    obtain ⟨rfl, rfl, rfl, rfl⟩ := hrel
    go_wp2_with fail
    refine hc.mono ?_
    rintro e' w2 hr
    obtain rfl := HR.out _ _ hr
    clear hc
    go_wp2
    go_loopg [6, 7, 8, 9] 0 (fun gg b x y z w' => gg = 0 ∧ b = .int .i64 20 ∧ w' = w2)
    case atStart => exact ⟨rfl, rfl, rfl⟩
    case round =>
      obtain ⟨rfl, rfl, rfl⟩ := hrel
      go_wp2
      refine bodyPost_end (results_none rfl _ _ _) rfl ?_
      exact hr
set_option maxHeartbeats 800000 in
theorem I_SortStable (w : World) (A : Option Addr) (c : Nat) (fv : Value) (n : Nat) (R : Ending → World → Prop) (hc : Calls Tryz.prog 234 #[.slice A n c, .int .i64 0, .int .i64 n, fv] w R) (hn : n ≤ 16) (hR : ∀ e' w', R e' w' → e' = .returned (.tuple #[])) :
    Calls Tryz.prog 119 #[.slice A n c, fv] w R := by
  have hcall := I_stable w _ fv n R hc hn hR
  have HR := Lib.hid hR
  clear hR hc
  go_enter Tryz.func119, Tryz.ntmps119
  go_wp2_with fail
  refine hcall.mono ?_
  rintro e' w2 hr
  obtain rfl := HR.out _ _ hr
  go_wp2
  refine bodyPost_end (results_none rfl _ _ _) rfl ?_
  exact hr
def progM (l : List GItem) (e : List GNode) : List Int := (sortR (cntM l e) (bestItems l e)).reverse
set_option maxRecDepth 100000 in
set_option maxHeartbeats 3200000 in
theorem I_ProgressiveBest (w : World) (l : List GItem) (e : List GNode) (v u : Value) (h : Rd rItems w l [v]) (h' : Rd rNodes w e [u]) :
    Calls Tryz.prog 36 #[v, u] w (RetV w (Made fInts w.heap.size (progM l e))) := by
  obtain ⟨Al, nl, cl, rfl, ll, _⟩ := rSl_open h
  obtain ⟨Ae, ne, ce, rfl, le, _⟩ := rSl_open h'
  have LL := Lib.hid ll
  have LE := Lib.hid le
  have A1 : Bw w (w.alloc (.cells #[.slice Al nl cl] 24)) := (Bw.refl w).alloc _
  have A2 := (Bw.refl (w.alloc (.cells #[.slice Al nl cl] 24))).alloc (.cells #[.slice Ae ne ce] 25)
  have c1 := A2.cell (show (w.alloc (.cells #[.slice Al nl cl] 24)).cell? ⟨w.heap.size, 0, none⟩ = some (.slice Al nl cl) by go_simp)
  have c2 : ((w.alloc (.cells #[.slice Al nl cl] 24)).alloc (.cells #[.slice Ae ne ce] 25)).cell? ⟨w.heap.size + 1, 0, none⟩ = some (.slice Ae ne ce) := by
    have := Box.new (w.alloc (.cells #[.slice Al nl cl] 24)) #[.slice Ae ne ce] 25
    rw [show (w.alloc (.cells #[.slice Al nl cl] 24)).heap.size = w.heap.size + 1 by simp] at this
    exact this.c 0 _ rfl
  have A0 := A1.then A2
  have hE : Env (w.heap.size + 2) w.heap.size (w.heap.size + 1) (.slice Al nl cl) (.slice Ae ne ce) l e ((w.alloc (.cells #[.slice Al nl cl] 24)).alloc (.cells #[.slice Ae ne ce] 25)) :=
    ⟨c1, c2, by omega, by omega, rItems_good.step ⟨fun b hb => by have : b < w.heap.size := hb; omega, fun q hq => Below.cell A0 hq⟩ h, rNodes_good.step ⟨fun b hb => by have : b < w.heap.size := hb; omega, fun q hq => Below.cell A0 hq⟩ h', by simp⟩
  have hcall := I_BestItems _ l e _ _ (h.bw rItems_good A0) (h'.bw rNodes_good A0)
  have h16 : (bestItems l e).length ≤ 16 := bestItems_16 l e
  have HP := Lib.hid (show progM l e = (sortR (cntM l e) (bestItems l e)).reverse from rfl)
  obtain ⟨Y, hY⟩ : ∃ Y, Y = progM l e := ⟨_, rfl⟩
  rw [← hY] at HP ⊢
  obtain ⟨xs, hxs⟩ : ∃ xs, xs = bestItems l e := ⟨_, rfl⟩
  rw [← hxs] at hcall h16 HP
  have hz : ((w.alloc (.cells #[.slice Al nl cl] 24)).alloc (.cells #[.slice Ae ne ce] 25)).heap.size = w.heap.size + 2 := by simp
  clear hY hxs ll le h h' A1 A2
  go_enter Tryz.func36, Tryz.ntmps36
  go_wp2_with fail
  refine hcall.mono ?_
  rintro e1 w1 ⟨v1, rfl, ⟨F1, o1, f1⟩, hb1⟩
  have hE1 := hE.bw hb1
  have B1 := A0.then hb1
  rw [hz] at f1
  clear hcall c1 c2 hE hz
  by_cases hx : xs = []
  · subst hx
    obtain ⟨A, n, c, rfl, hn, _⟩ := rSl_open (fInts_Rd o1)
    obtain rfl : n = 0 := by simpa using hn
    have hcs := I_SortStable w1 A c (.func (.func 120) #[] #[.pointer (some ⟨w.heap.size, 0, none⟩), .pointer (some ⟨w.heap.size + 1, 0, none⟩)]) 0 _ (I_insertion0 w1 _ _) (by omega) (fun _ _ h => h.1)
    clear hn
    go_wp2_with fail
    refine hcs.mono ?_
    rintro e2 w2 ⟨rfl, rfl⟩
    go_wp2
    go_ret
    exact ⟨_, rfl, ⟨F1, by rw [HP.out]; exact o1, f1.mono (by omega)⟩, B1⟩
  · obtain ⟨g, n, c, rfl, hn, hnc, hcm, _⟩ := fSl_lit' o1 (List.length_pos_iff.2 hx)
    have hF1 : F1 = [g] := by rw [fInts_F o1]; rfl
    subst hF1
    have hg := f1.ge g (by simp)
    have hn1 : 1 ≤ n := by rw [← hn.out]; exact List.length_pos_iff.2 hx
    have hn16 : n ≤ 16 := by rw [← hn.out]; exact h16
    have hins := I_insertion w1 xs g n c _ _ _ _ _ l e o1 hE1 hg hn hn1 (by omega)
    have hcs := I_SortStable w1 _ c _ n _ hins hn16 (fun _ _ h => h.1)
    clear hx h16 hins
    go_wp2_with fail
    refine hcs.mono ?_
    rintro e2 w2 ⟨rfl, o2, hO2, hK2⟩
    clear hcs
    go_wp2
    go_ret
    exact ⟨_, rfl, ⟨[g], by rw [HP.out]; exact o2, ⟨by simp, fun b hb => by rw [List.mem_singleton.1 hb]; omega⟩⟩, hK2 w B1 (by omega)⟩
end Go.Proofs.YtpihighajaeabaaGreat
