/- Lists of strings in the laws: comparison, marks, and what is looked for. -/
import Derived.Test.YtfffklkiikmieaaLines
import Derived.Test.YtfffklkiikmieaaMarks
namespace Go.Proofs.Ytfffklkiikmieaa
open Go.RowKit
set_option linter.unusedVariables false
set_option linter.unusedSimpArgs false
def mText (k : Nat) : ByteArray := strOfNums (109 :: digs k k [])
def mkStrs : List ByteArray → Nat → List ByteArray
  | [], _ => []
  | _ :: xs, k => mText k :: mkStrs xs (k + 1)
theorem mkStrs_length : ∀ (xs : List ByteArray) (k : Nat), (mkStrs xs k).length = xs.length
  | [], _ => rfl
  | _ :: xs, k => by rw [mkStrs, List.length_cons, mkStrs_length xs, List.length_cons]
theorem mkStrs_at : ∀ {xs : List ByteArray} {k j : Nat}, j < xs.length → (mkStrs xs k)[j]? = some (mText (k + j))
  | [], _, _, h => by simp at h
  | _ :: xs, k, 0, _ => rfl
  | _ :: xs, k, j + 1, h => by simp only [mkStrs, List.getElem?_cons_succ]; rw [mkStrs_at (by simpa using h)]; congr 2; omega
theorem all3_nilsS {w : World} : ∀ {xs : List ByteArray} {us : List (List Value)} {Fs : List (List Nat)}, all3 (fun x u f => fStr w x u f ∧ u.length = 1) xs us Fs → Fs.flatten = []
  | [], [], [], _ => rfl
  | _ :: xs, _ :: us, f :: Fs, h => by rw [List.flatten_cons, h.1.1.2, all3_nilsS (xs := xs) h.2]; rfl
  | [], _ :: _, _, h | [], [], _ :: _, h | _ :: _, [], _, h | _ :: _, _ :: _, [], h => h.elim
theorem fStrs_foot2 {w : World} {xs : List ByteArray} {v : Value} {f : List Nat} (h : fStrs w xs [v] f) : f = v.ownBlock.toList := by
  obtain ⟨v', us, Fs, hv, _, hall, hF⟩ := h
  injection hv with hv
  subst hv
  rw [hF, all3_nilsS hall, List.append_nil]
theorem bytes_eq {x y : ByteArray} (h : x = y) : (x.toList == y.toList) = true := by rw [h]; simp
theorem bytes_ne {x y : ByteArray} (h : ¬ x = y) : (x.toList == y.toList) = false := by
  rw [beq_eq_false_iff_ne]
  intro e
  rw [ByteArray.toList_eq, ByteArray.toList_eq] at e
  exact h (ByteArray.ext (Array.toList_inj.1 e))
set_option maxRecDepth 100000 in
set_option maxHeartbeats 400000 in
theorem L_markText (w : World) (N : Nat) (h0 : 0 < N) (h1 : Hid ((N : Int) ≤ 16777216)) :
    Calls Try.prog 123 #[.int .i64 N] w (Ret w (.string (mText N))) := by
  have hge : ¬ ((N : Int) ≤ 0) := by omega
  have hcv := conv_one
  have FIN : Hid (mText N = strOfNums (109 :: digs N N [])) := rfl
  go_enter Try.func123, Try.ntmps123
  go_wp2
  go_loopw [0, 3] (fun a s w' => ∃ (f m : Nat) (acc : List Int), m ≤ f ∧ a = .int .i64 m ∧ s = .string (strOfNums acc) ∧ Hid (digs f m acc = digs N N []) ∧ acc.length + m ≤ N ∧ Bw w w') (fun a s _ => (intOf a).toNat)
  case atStart => exact ⟨N, N, [], by omega, rfl, rfl, rfl, by simp, Bw.refl _⟩
  case round =>
    obtain ⟨f, m, acc, g1, rfl, rfl, HE, g2, hb⟩ := hrel
    by_cases hm : 0 < m
    · have hmb : (m : Int) ≤ 16777216 := by have := h1.out; omega
      have hne : (0 : Int) < (m : Int) := by omega
      have hadd : ∀ W, (Op.stringOp .add (strOfNums [48 + (m : Int) % 10]) (strOfNums acc)).run Try.prog W = .ok (.string (strOfNums ((48 + (m : Int) % 10) :: acc))) W := fun W => by
        rw [run_string_add_sum W _ _ (by rw [strOfNums_size, strOfNums_size]; have := h1.out; simp; omega), strOf_append]; rfl
      have HS := Lib.hid (digs_step f m acc hm g1)
      go_wp2
      go_roundw
      case rel => exact ⟨f - 1, m / 10, (48 + (m : Int) % 10) :: acc, by omega, by go_num, rfl, by show _ = _; rw [← HE.out, HS.out], by simp; omega, hb.alloc _⟩
      case measure => simp [intOf]; omega
    · obtain rfl : m = 0 := by omega
      have hadd : ∀ W, (Op.stringOp .add ⟨#[109]⟩ (strOfNums acc)).run Try.prog W = .ok (.string (strOfNums (109 :: acc))) W := fun W => by
        rw [run_string_add_sum W _ _ (by rw [strOfNums_size]; have := h1.out; simp [ByteArray.size]; omega)]
        exact congrArg (fun b => Result.ok (Value.string b) W) (strOf_append [109] acc)
      go_wp2
      go_ret
      exact Ret.str (by rw [FIN.out, ← HE.out, digs_done]) hb
set_option maxHeartbeats 400000 in
theorem L_eqStringS (w : World) (xs ys : List ByteArray) (v1 v2 : Value) (h1 : Rd rStrs w xs [v1]) (h2 : Rd rStrs w ys [v2]) :
    Calls Try.prog 33 #[v1, v2] w (Ret w (.bool (decide (xs = ys)))) := by
  obtain ⟨A1, n1, c1, rfl, a1, a2, a3⟩ := rSl_open h1
  obtain ⟨A2, n2, c2, rfl, b1, b2, b3⟩ := rSl_open h2
  unfold maxLen at a3 b3
  have L1 := Lib.hid a1
  have L2 := Lib.hid b1
  clear a1 b1
  by_cases hl : n1 = n2
  · subst hl
    go_enter Try.func33, Try.ntmps33
    go_wp2
    go_loopw [5] (fun i w' => ∃ k : Nat, k ≤ n1 ∧ i = .int .i64 k ∧ Hid (xs.take k = ys.take k) ∧ Bw w w') (fun i _ => n1 - (intOf i).toNat)
    case atStart => exact ⟨0, by omega, rfl, Lib.hid (by simp), Bw.refl _⟩
    case round =>
      obtain ⟨k, hk, rfl, HE, hb⟩ := hrel
      by_cases hlt : k < n1
      · obtain ⟨x, hx⟩ := get_of_lt (xs := xs) (k := k) (by rw [← L1.out]; exact hlt)
        obtain ⟨y, hy⟩ := get_of_lt (xs := ys) (k := k) (by rw [← L2.out]; exact hlt)
        obtain ⟨ba, oa, rfl, _, hcx⟩ := rStrs_at (h1.bw rStrs_good hb) hx
        obtain ⟨bb, ob, rfl, _, hcy⟩ := rStrs_at (h2.bw rStrs_good hb) hy
        have HX := Lib.hid hx
        have HY := Lib.hid hy
        clear hx hy h1 h2
        by_cases hxy : x = y
        · have b1 := bytes_eq hxy
          have HXY := Lib.hid hxy
          clear hxy
          go_wp2
          go_quiet (fail)
          go_wp2
          go_roundw
          case rel => exact ⟨k + 1, by omega, by go_num, Lib.hid (take_step HE.out HX.out HY.out HXY.out), hb.drewN _⟩
          case measure => simp [intOf]; omega
        · have b1 := bytes_ne hxy
          have HXY := Lib.hid hxy
          clear hxy
          go_wp2
          go_quiet (fail)
          go_wp2
          go_ret
          exact Ret.bool (by simpa using ne_of_at HX.out HY.out HXY.out) (hb.drewN _)
      · go_wp2
        go_ret
        exact Ret.bool (by simpa using eq_of_take HE.out (by rw [← L1.out]; omega) (by rw [← L2.out]; omega)) hb
  · go_enter Try.func33, Try.ntmps33
    go_wp2
    go_ret
    exact Ret.bool (by simp; intro e; exact hl (by rw [L1.out, L2.out, e])) (Bw.refl _)
set_option maxRecDepth 100000 in
set_option maxHeartbeats 800000 in
theorem L_markStringS (w0 w : World) (xs : List ByteArray) (v : Value) (F : List Nat) (k : Nat) (hv : fStrs w xs [v] F) (hF : Fresh w0.heap.size F) (hb : Bw w0 w) (hn : xs.length ≤ 1048576) (hk : k ≤ 8388608) (hk0 : 0 < k := by omega) : Calls Try.prog 34 #[v, .int .i64 k] w (RetM fStrs w0 w (mkStrs xs k) v F (k + xs.length)) := by
  obtain ⟨A, n, c, rfl, l1, l2, l3⟩ := rSl_open (fStrs_Rd hv)
  have hnn : n ≤ 1048576 := by rw [l1]; exact hn
  have L1 := Lib.hid l1
  unfold maxLen at l3
  clear l1 hn
  go_enter Try.func34, Try.ntmps34
  go_wp2
  go_loopw [1, 5] (fun s i w' => ∃ (j : Nat) (cur : List ByteArray), j ≤ n ∧ i = .int .i64 j ∧ s = .int .i64 ((k + j : Nat) : Int) ∧ fStrs w' cur [.slice A n c] F ∧ Hid (cur.length = n) ∧ Hid (cur.take j ++ mkStrs (cur.drop j) (k + j) = mkStrs xs k) ∧ Only F w w' ∧ Bw w0 w') (fun s i _ => n - (intOf i).toNat)
  case atStart => exact ⟨0, xs, by omega, rfl, rfl, hv, Lib.hid L1.out.symm, Lib.hid rfl, Only.refl _ _, hb⟩
  case round =>
    obtain ⟨j, cur, hj, rfl, rfl, hv1, HL, HE, hO, hb1⟩ := hrel
    clear hv
    by_cases hlt : j < n
    · have hcall := L_markText wr (k + j) (by omega) (Lib.hid (by omega))
      go_wp2_with fail
      refine (hcall).mono ?_
      rintro e w3 ⟨rfl, hb3⟩
      have hv3 := (fStrs_good (B := 0)).bw hb3 (Nat.zero_le _) hv1
      have hO3 := hO.then (b := wr) (c := w3) (G := []) ⟨hb3.size, fun b hb' _ => Below.block hb3 b hb'⟩ (by simp)
      have hb13 := hb1.then hb3
      clear hv1 hO hb1 hcall
      obtain ⟨y, hy⟩ := get_of_lt (xs := cur) (k := j) (by rw [HL.out]; exact hlt)
      obtain ⟨g, rfl, hne, hgF⟩ := fSl_lit2 hv3 (by rw [HL.out]; omega)
      clear hne
      have hffj := fSl_frozen hv3 j
      obtain ⟨bb, oo, ebb, _, hcy⟩ := rStrs_at (fStrs_Rd hv3) hy
      injection ebb with ebb
      injection ebb with ebb eoo _
      subst ebb eoo
      rw [Nat.zero_add] at hcy
      obtain ⟨F', hv', hF', hg, _, _⟩ := fSl_put (fStr_good (B := w0.heap.size)) hv3 hF (k := j) (y := mText (k + j)) (u := [.string (mText (k + j))]) ⟨rfl, rfl⟩ rfl (m := w3.heap.size) (fun b hb => (fStrs_good (B := 0)).lt hv3 b hb) Fresh.nil hb13.size (by rw [HL.out]; exact hlt)
      have e1 : putCells w3 g (j * 1) [.string (mText (k + j))] = w3.setCell ⟨g, j, none⟩ (.string (mText (k + j))) := by simp [putCells]
      rw [e1] at hv' hg
      have eF : F' = F := (fStrs_foot2 hv').trans (fStrs_foot2 hv3).symm
      rw [eF] at hv'
      have hO' := hO3.then (Only.of_grown hg (by simp) hgF) (fun _ h => h)
      have hb' := hb13.grown hg (fun q hq => by injection hq with hq; have := hF.ge g hgF; omega)
      have HL' := Lib.hid (show (cur.set j (mText (k + j))).length = n by rw [List.length_set]; exact HL.out)
      have HE' := Lib.hid (show (cur.set j (mText (k + j))).take (j + 1) ++ mkStrs ((cur.set j (mText (k + j))).drop (j + 1)) (k + (j + 1)) = mkStrs xs k by
        rw [set_take (by rw [HL.out]; exact hlt), set_drop, ← HE.out, drop_cons hy, mkStrs, List.append_assoc]; rfl)
      have hle : k + j ≤ 16777216 := by omega
      have i1 : (0 : Int) ≤ (j : Int) := by omega
      have i2 : (j : Int) < (n : Int) := by omega
      clear hy hv3 HL HE hO3 hg hF' e1 eF hgF hb13
      go_wp2
      go_roundw
      case rel => exact ⟨j + 1, _, by omega, by go_num, by go_num, hv', HL', HE', hO', hb'⟩
      case measure => simp [intOf]; omega
    · obtain rfl : j = n := by omega
      have HF := Lib.hid (show cur = mkStrs xs k by rw [← HE.out, show cur.drop j = [] from List.drop_of_length_le (by rw [HL.out]; exact Nat.le_refl _), mkStrs, List.append_nil, List.take_of_length_le (by rw [HL.out]; exact Nat.le_refl _)])
      have HN := Lib.hid (show ((k + j : Nat) : Int) = ((k + xs.length : Nat) : Int) by rw [← L1.out])
      clear HE HL
      go_wp2
      go_ret
      exact RetM.mk HN.out HF.out hv1 hO hb1
set_option maxRecDepth 100000 in
set_option maxHeartbeats 800000 in
theorem L_heldStringS (w : World) (xs : List ByteArray) (v : Value) (k : Nat) (h : Rd rStrs w (mkStrs xs k) [v]) (hn : xs.length ≤ 1048576) (hk : k ≤ 8388608) (hk0 : 0 < k := by omega) : Calls Try.prog 35 #[v, .int .i64 k] w (Ret w (.int .i64 ((k + xs.length : Nat) : Int))) := by
  obtain ⟨A, n, c, rfl, l1, l2, l3⟩ := rSl_open h
  rw [mkStrs_length] at l1
  have hnn : n ≤ 1048576 := by rw [l1]; exact hn
  have L1 := Lib.hid l1
  unfold maxLen at l3
  clear l1 hn
  go_enter Try.func35, Try.ntmps35
  go_wp2
  go_loopw [1, 5] (fun s i w' => ∃ j : Nat, j ≤ n ∧ i = .int .i64 j ∧ s = .int .i64 ((k + j : Nat) : Int) ∧ Bw w w') (fun s i _ => n - (intOf i).toNat)
  case atStart => exact ⟨0, by omega, rfl, rfl, Bw.refl _⟩
  case round =>
    obtain ⟨j, hj, rfl, rfl, hb⟩ := hrel
    by_cases hlt : j < n
    · obtain ⟨b, o, rfl, _, hc0⟩ := rStrs_at h (mkStrs_at (k := k) (show j < xs.length by rw [← L1.out]; exact hlt))
      have hcy := hb.cell hc0
      have hle : k + j ≤ 16777216 := by omega
      have hcall : ∀ s : Since wr, Calls Try.prog 123 #[.int .i64 ((k + j : Nat) : Int)] s.1 (Ret s.1 (.string (mText (k + j)))) := fun s => L_markText s.1 (k + j) (by omega) (Lib.hid (by omega))
      obtain ⟨T, hT⟩ : ∃ T, T = mText (k + j) := ⟨_, rfl⟩
      rw [← hT] at hcy hcall
      have s0 := since_cell hcy
      have b1 : (T.toList == T.toList) = true := by simp
      have i1 : (0 : Int) ≤ (j : Int) := by omega
      have i2 : (j : Int) < (n : Int) := by omega
      have HH := Lib.hid h
      clear h hc0 hT hcy
      go_wp2
      refine wp_region_since (by kernel_rfl) (by kernel_rfl) ?_
      repeat (first | go_big_quiet_skip | (go_big_quiet_want; go_big_quiet_op; first | go_big_quiet_on | (apply Exists.intro; refine ⟨fun _ => ?_, ?_⟩; (· (((first | (go_at_call 123; exact Calls_since (hcall _)))))); go_big_quiet_on)))
      refine wpQuiet_nil ?_
      rintro ⟨wq, hbq⟩
      dsimp only at *
      have h := HH.out
      go_wp2
      go_roundw
      case rel => exact ⟨j + 1, by omega, by go_num, by go_num, hb.then hbq⟩
      case measure => simp [intOf]; omega
    · obtain rfl : j = n := by omega
      have HN := Lib.hid (show ((k + j : Nat) : Int) = ((k + xs.length : Nat) : Int) by rw [← L1.out])
      go_wp2
      go_ret
      exact Ret.int HN.out hb
end Go.Proofs.Ytfffklkiikmieaa
