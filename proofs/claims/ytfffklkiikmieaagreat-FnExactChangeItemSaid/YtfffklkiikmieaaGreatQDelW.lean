/- An element is taken from the midst of a list of the call's own: append(xs[:k], xs[k+1:]...). -/
import Derived.Test.YtfffklkiikmieaaGreatQDelS
import Derived.Test.YtfffklkiikmieaaGreatQInsI
import Derived.Test.YtfffklkiikmieaaGreatQExclI
import Derived.Test.YtfffklkiikmieaaGreatQCopies
import Derived.Test.YtfffklkiikmieaaGreatQOwn3
namespace Go.Proofs.YtfffklkiikmieaaGreat
open Go.RowKit
set_option linter.unusedVariables false
set_option linter.unusedSimpArgs false
set_option maxRecDepth 100000 in
set_option maxHeartbeats 6400000 in
theorem I_DeleteItem_no (w : World) (s : GStanding) (id : Int) (va vb vc : Value) (ha : Rd rItems w s.items [va]) (hb : Rd rNodes w s.wanted [vb]) (hc : Rd rInts w s.best [vc]) (t1 : totItems s.items ≤ 1048576) (t2 : totNodes s.wanted ≤ 1048576) (t3 : s.best.length ≤ 1048576) (hno : delOk s id = false) :
    Calls Tryz.prog 23 #[.agg #[va, vb, vc, .int .i64 s.tests], .int .i64 id] w (RetV w (TwoA fStanding w.heap.size s (.bool false))) := by
  obtain ⟨K, hK⟩ : ∃ K, K = findIdx s.items id := ⟨_, rfl⟩
  have HK := Lib.hid hK
  clear hK
  obtain ⟨A, n, c, rfl, L0, Lc, Lm⟩ := rSl_open ha
  unfold maxLen at Lm
  have L := Lib.hid L0
  clear L0
  obtain ⟨B, m, c4, rfl, M0, Mc, Mm⟩ := rSl_open hc
  unfold maxLen at Mm
  have M := Lib.hid M0
  clear M0
  obtain ⟨W0, hW0⟩ : ∃ W0, W0 = (w.alloc (.cells #[.slice A n c, vb, .slice B m c4, .int .i64 s.tests] 47)).alloc (.cells #[.slice none 0 0, .slice none 0 0, .slice none 0 0, .int .i64 0] 47) := ⟨_, rfl⟩
  have A0 : Bw w W0 := by rw [hW0]; exact ((Bw.refl w).alloc _).alloc _
  have bS : Box W0 w.heap.size [.slice A n c, vb, .slice B m c4, .int .i64 s.tests] := by rw [hW0]; exact (Box.new w #[.slice A n c, vb, .slice B m c4, .int .i64 s.tests] 47).bw ((Bw.refl _).alloc _)
  have bR : Box W0 (w.heap.size + 1) [.slice none 0 0, .slice none 0 0, .slice none 0 0, .int .i64 0] := by
    have := Box.new (w.alloc (.cells #[.slice A n c, vb, .slice B m c4, .int .i64 s.tests] 47)) #[.slice none 0 0, .slice none 0 0, .slice none 0 0, .int .i64 0] 47
    rw [show (w.alloc (.cells #[.slice A n c, vb, .slice B m c4, .int .i64 s.tests] 47)).heap.size = w.heap.size + 1 from by simp] at this
    rw [hW0]; exact this
  have z0 : W0.heap.size = w.heap.size + 2 := by rw [hW0]; simp
  have hcopy := I_copyStanding W0 s _ vb _ (ha.bw rItems_good A0) (hb.bw rNodes_good A0) (hc.bw rInts_good A0) t1 t2 t3
  have HW0 := Lib.hid hW0
  clear hW0
  go_enter Tryz.func23, Tryz.ntmps23
  go_wp2_with fail
  rw [← HW0.out]
  refine hcopy.mono ?_
  rintro e w1 ⟨cs, F0, rfl, oS, fS, hb1⟩
  obtain ⟨A1, c1, A2, c2, A3, c3, rfl⟩ := fStanding_shape oS
  obtain ⟨F1, F2, F3, o1, o2, o3, rfl⟩ := fStanding_parts oS
  obtain ⟨m1, hm1⟩ : ∃ m, m = s.items.length := ⟨_, rfl⟩
  obtain ⟨m2, hm2⟩ : ∃ m, m = s.wanted.length := ⟨_, rfl⟩
  obtain ⟨m3, hm3⟩ : ∃ m, m = s.best.length := ⟨_, rfl⟩
  rw [← hm1] at o1
  rw [← hm2] at o2
  rw [← hm3] at o3
  dsimp only
  rw [← hm1, ← hm2, ← hm3]
  have bS1 := (bS.bw hb1).bw ((Bw.refl w1).alloc (.cells #[.slice A1 m1 c1, .slice A2 m2 c2, .slice A3 m3 c3, .int .i64 s.tests] 47))
  have y0 := bS1.c 0 _ rfl
  have y1 := bS1.c 1 _ rfl
  have y2 := bS1.c 2 _ rfl
  have y3 := bS1.c 3 _ rfl
  have HM1 := Lib.hid hm1
  have HM2 := Lib.hid hm2
  have HM3 := Lib.hid hm3
  clear hm1 hm2 hm3
  go_wp2_with fail
  obtain ⟨V, hV⟩ : ∃ V, V = w1.alloc (.cells #[.slice A1 m1 c1, .slice A2 m2 c2, .slice A3 m3 c3, .int .i64 s.tests] 47) := ⟨_, rfl⟩
  have A1' : Bw w1 V := by rw [hV]; exact (Bw.refl w1).alloc _
  have bO : Box V w1.heap.size [.slice A1 m1 c1, .slice A2 m2 c2, .slice A3 m3 c3, .int .i64 s.tests] := by rw [hV]; exact Box.new w1 #[.slice A1 m1 c1, .slice A2 m2 c2, .slice A3 m3 c3, .int .i64 s.tests] 47
  have zV : V.heap.size = w1.heap.size + 1 := by rw [hV]; simp
  have BV : Bw w V := A0.then (hb1.then A1')
  replace bS := bS.bw (hb1.then A1')
  replace bR := bR.bw (hb1.then A1')
  have zw : w.heap.size + 2 ≤ w1.heap.size := by have := hb1.size; omega
  have lS := (fStanding_good (B := 0)).lt oS
  replace o1 := keepBw A1' fItems_good o1
  replace o2 := keepBw A1' fNodes_good o2
  replace o3 := keepBw A1' fInts_good o3
  have fV : Fresh (w.heap.size + 2) (F1 ++ (F2 ++ F3)) := fS.mono (by omega)
  have HLS := Lib.hid lS
  have HV := Lib.hid hV
  have k1 := Lib.hid (fun W (B : Bw V W) => I_IsStanding W s _ vb _ (ha.bw rItems_good (BV.then B)) (hb.bw rNodes_good (BV.then B)) (hc.bw rInts_good (BV.then B)))
  have k3 := Lib.hid (fun W (B : Bw V W) => I_FindItem W s.items id _ (ha.bw rItems_good (BV.then B)))
  obtain ⟨b6, hb6⟩ : ∃ b, b = w1.heap.size := ⟨_, rfl⟩
  rw [← hb6] at bO zV zw lS
  have HB6 := Lib.hid hb6
  rw [← HV.out, ← HB6.out]
  clear hV oS fS hcopy hb1 A0 hb6 lS y0 y1 y2 y3 bS1
  have hcall := k3.out _ (Bw.refl V)
  rw [← HK.out] at hcall
  have y0 := bS.c 0 _ rfl
  go_wp2_with fail
  refine hcall.mono ?_
  rintro e w2 ⟨rfl, hb2⟩
  clear y0
  have bS2 := bS.bw hb2
  have y0 := bS2.c 0 _ rfl
  have y1 := bS2.c 1 _ rfl
  have y2 := bS2.c 2 _ rfl
  have y3 := bS2.c 3 _ rfl
  have yf := bS2.fr
  have hcall := k1.out _ hb2
  clear bS2
  go_wp2_with fail
  refine hcall.mono ?_
  rintro e w3 ⟨rfl, hb3⟩
  have hB3 := hb2.then hb3
  clear y0 y1 y2 y3 yf
  rcases Bool.eq_false_or_eq_true (isStand s) with e1 | e1
  · have E1 := Lib.hid e1
    rw [e1]
    clear e1
    by_cases hK0 : K < 0
    · clear hno
      have bR2 := bR.bw hB3
      have bO2 := bO.bw hB3
      have r0 := bR2.c 0 _ rfl
      have r1 := bR2.c 1 _ rfl
      have r2 := bR2.c 2 _ rfl
      have r3 := bR2.c 3 _ rfl
      have rf := bR2.fr
      have q0 := bO2.c 0 _ rfl
      have q1 := bO2.c 1 _ rfl
      have q2 := bO2.c 2 _ rfl
      have q3 := bO2.c 3 _ rfl
      have qf := bO2.fr
      have hBB := BV.then hB3
      have p1 := keepBw hB3 fItems_good o1
      have p2 := keepBw hB3 fNodes_good o2
      have p3 := keepBw hB3 fInts_good o3
      clear bR2 bO2 o1 o2 o3 bR bO
      go_wp2
      rw [HM1.out] at p1 ⊢
      rw [HM2.out] at p2 ⊢
      rw [HM3.out] at p3 ⊢
      refine bodyPost_ret (v := .tuple #[.agg #[.slice A1 s.items.length c1, .slice A2 s.wanted.length c2, .slice A3 s.best.length c3, .int .i64 s.tests], .bool false]) (by simp [results, Tryz.results23, go_sem, r0, r1, r2, r3]) rfl (stand_ret p1 p2 p3 (fV.mono (by omega)) (by omega) hBB)
    · have hK1 : ¬ K < (0 : Int) := hK0
      have ht0 : 999900 < s.tests := by
        rcases Decidable.em (999900 < s.tests) with h | h
        · exact h
        · exfalso
          have h2 : delOk s id = true := by
            unfold delOk
            rw [E1.out, decide_eq_true (show 0 ≤ findIdx s.items id by rw [← HK.out]; omega), decide_eq_true (show s.tests ≤ 999900 by omega)]; rfl
          rw [h2] at hno; cases hno
      have bS3 := bS.bw hB3
      have y0 := bS3.c 0 _ rfl
      have y1 := bS3.c 1 _ rfl
      have y2 := bS3.c 2 _ rfl
      have y3 := bS3.c 3 _ rfl
      have yf := bS3.fr
      clear hno bS3
      have bR2 := bR.bw hB3
      have bO2 := bO.bw hB3
      have r0 := bR2.c 0 _ rfl
      have r1 := bR2.c 1 _ rfl
      have r2 := bR2.c 2 _ rfl
      have r3 := bR2.c 3 _ rfl
      have rf := bR2.fr
      have q0 := bO2.c 0 _ rfl
      have q1 := bO2.c 1 _ rfl
      have q2 := bO2.c 2 _ rfl
      have q3 := bO2.c 3 _ rfl
      have qf := bO2.fr
      have hBB := BV.then hB3
      have p1 := keepBw hB3 fItems_good o1
      have p2 := keepBw hB3 fNodes_good o2
      have p3 := keepBw hB3 fInts_good o3
      clear bR2 bO2 o1 o2 o3 bR bO
      go_wp2
      rw [HM1.out] at p1 ⊢
      rw [HM2.out] at p2 ⊢
      rw [HM3.out] at p3 ⊢
      refine bodyPost_ret (v := .tuple #[.agg #[.slice A1 s.items.length c1, .slice A2 s.wanted.length c2, .slice A3 s.best.length c3, .int .i64 s.tests], .bool false]) (by simp [results, Tryz.results23, go_sem, r0, r1, r2, r3]) rfl (stand_ret p1 p2 p3 (fV.mono (by omega)) (by omega) hBB)
  · rw [e1]
    clear e1 hno
    have bR2 := bR.bw hB3
    have bO2 := bO.bw hB3
    have r0 := bR2.c 0 _ rfl
    have r1 := bR2.c 1 _ rfl
    have r2 := bR2.c 2 _ rfl
    have r3 := bR2.c 3 _ rfl
    have rf := bR2.fr
    have q0 := bO2.c 0 _ rfl
    have q1 := bO2.c 1 _ rfl
    have q2 := bO2.c 2 _ rfl
    have q3 := bO2.c 3 _ rfl
    have qf := bO2.fr
    have hBB := BV.then hB3
    have p1 := keepBw hB3 fItems_good o1
    have p2 := keepBw hB3 fNodes_good o2
    have p3 := keepBw hB3 fInts_good o3
    clear bR2 bO2 o1 o2 o3 bR bO
    go_wp2
    rw [HM1.out] at p1 ⊢
    rw [HM2.out] at p2 ⊢
    rw [HM3.out] at p3 ⊢
    refine bodyPost_ret (v := .tuple #[.agg #[.slice A1 s.items.length c1, .slice A2 s.wanted.length c2, .slice A3 s.best.length c3, .int .i64 s.tests], .bool false]) (by simp [results, Tryz.results23, go_sem, r0, r1, r2, r3]) rfl (stand_ret p1 p2 p3 (fV.mono (by omega)) (by omega) hBB)
end Go.Proofs.YtfffklkiikmieaaGreat

namespace Go.Proofs.YtfffklkiikmieaaGreat
open Go.RowKit
set_option linter.unusedVariables false
section
variable {α : Type} {R : α → List Value → List Nat → Prop}
theorem all3_take : ∀ {xs : List α} {us : List (List Value)} {fs : List (List Nat)} (k : Nat), all3 R xs us fs → all3 R (xs.take k) (us.take k) (fs.take k)
  | [], [], [], k, _ => by simp [all3]
  | x :: xs, u :: us, f :: fs, 0, _ => by simp [all3]
  | x :: xs, u :: us, f :: fs, k + 1, h => ⟨h.1, all3_take k h.2⟩
theorem all3_drop : ∀ {xs : List α} {us : List (List Value)} {fs : List (List Nat)} (k : Nat), all3 R xs us fs → all3 R (xs.drop k) (us.drop k) (fs.drop k)
  | [], [], [], k, _ => by simp [all3]
  | x :: xs, u :: us, f :: fs, 0, h => h
  | x :: xs, u :: us, f :: fs, k + 1, h => all3_drop k h.2
theorem all3_without {xs : List α} {us : List (List Value)} {fs : List (List Nat)} (k : Nat) (h : all3 R xs us fs) : all3 R (xs.take k ++ xs.drop (k + 1)) (us.take k ++ us.drop (k + 1)) (fs.take k ++ fs.drop (k + 1)) := all3_append (all3_take k h) (all3_drop (k + 1) h)
end
theorem flat_take {us : List (List Value)} {sz k : Nat} (h : ∀ u ∈ us, u.length = sz) (hk : k ≤ us.length) : us.flatten.take (k * sz) = (us.take k).flatten := by
  have hl : (us.take k).flatten.length = k * sz := by
    rw [flat_len (sz := sz) (fun u hu => h u (List.mem_of_mem_take hu)), List.length_take, Nat.min_eq_left hk]
  conv => lhs; rw [← List.take_append_drop k us, List.flatten_append]
  rw [← hl, List.take_left]
theorem flat_drop {us : List (List Value)} {sz k : Nat} (h : ∀ u ∈ us, u.length = sz) (hk : k ≤ us.length) : us.flatten.drop (k * sz) = (us.drop k).flatten := by
  have hl : (us.take k).flatten.length = k * sz := by
    rw [flat_len (sz := sz) (fun u hu => h u (List.mem_of_mem_take hu)), List.length_take, Nat.min_eq_left hk]
  conv => lhs; rw [← List.take_append_drop k us, List.flatten_append]
  rw [← hl, List.drop_left]
theorem fs_without {Fs : List (List Nat)} {k : Nat} : (Fs.take k ++ Fs.drop (k + 1)).flatten.Sublist Fs.flatten := by
  rw [List.flatten_append]
  conv => rhs; rw [← List.take_append_drop k Fs, List.flatten_append]
  refine List.Sublist.append (List.Sublist.refl _) ?_
  rcases h : Fs.drop k with _ | ⟨f, l⟩
  · have : Fs.drop (k + 1) = [] := by rw [← List.drop_drop, h]; rfl
    rw [this]; exact List.Sublist.refl _
  · have : Fs.drop (k + 1) = l := by rw [← List.drop_drop, h]; rfl
    rw [this, List.flatten_cons]; exact List.sublist_append_right _ _
section
variable {P : Program}
theorem step_without {α : Type} {ops : Array Oper} {o : Oper} {a : Act} {K : Act → World → Prop} {Q : Exit → Act → World → Prop} {E : Prop} (W : World) (hgd : o.guard = none) (s x : Operand) (t : TypeId)
    (ho : o.op = .call { callee := .builtin .append, args := #[s, x], argTypes := #[t, t] })
    (w0 : World) (e : TypeId) (i : TypeInfo) (z : Value) (sz bytes : Nat) (ht : P.underlying t = some (.slice e)) (hi : P.info? e = some i) (hz : i.zero = some z)
    (hsize : i.size = sz) (hby : i.bytes = bytes) (hzs : z.cells.size = sz) (hsz : 0 < sz)
    {R : Fp α} (hR : GoodF w0.heap.size R) (g n c : Nat) (xs : List α) (F : List Nat) (hv : fSl e sz R W xs [.slice (some ⟨g, 0, none⟩) n c] F) (hF : Fresh w0.heap.size F)
    (k : Nat) (hk : k < n) (hs : a.eval s = .slice (some ⟨g, 0, none⟩) k c) (ad : Addr) (l c' : Nat) (hx : a.eval x = .slice (some ad) l c') (hln : l = n - (k + 1)) (had : k + 1 < n → ad = ⟨g, (k + 1) * sz, none⟩)
    (hbytes : n * bytes ≤ 140737488355328) (hlen : n < 4611686018427387904) (hbw : Bw w0 W)
    (h : ∀ v' w' F', fSl e sz R w' (xs.take k ++ xs.drop (k + 1)) [v'] F' → Fresh w0.heap.size F' → Bw w0 w' → Only F W w' → (∀ b ∈ F', b ∈ F ∨ W.heap.size ≤ b) → K (a.put o.dst v') w') : if Region.wanted o (yielded ops a.tmps) = true then Oper.wp P o a W K Q else E := by
  have hw : Region.wanted o (yielded ops a.tmps) = true := by simp [Region.wanted, hgd]
  rw [if_pos hw]
  subst hln
  obtain ⟨v0, us, Fs, hv0, hown, hall, hFe⟩ := hv
  injection hv0 with hv0
  have hl := all3_len hall
  have hus : ∀ u ∈ us, u.length = sz := fun u hu => by obtain ⟨x, f, hr⟩ := all3_mem_us hall hu; exact hr.2
  rcases hown.2 with ⟨h0, _⟩ | ⟨g', cap, cur, hv1, _, hb, h1, h2, h3, h4⟩
  · rw [← hv0] at h0; cases h0
  rw [← hv0] at hv1
  injection hv1 with e1 e2 e3
  injection e1 with e1
  injection e1 with e1
  subst e1 e3
  have hn : us.length = n := by rw [hl.1, e2]
  have hpre : W.ownsRow 0 e sz (.slice (some ⟨g, 0, none⟩) k c) k (us.take k).flatten := by
    refine ⟨by rw [flat_len (sz := sz) (fun u hu => hus u (List.mem_of_mem_take hu)), List.length_take, Nat.min_eq_left (by omega)], .inr ⟨g, c, cur, rfl, Nat.zero_le _, hb, by omega, h2, h3, ?_⟩⟩
    rw [← flat_take hus (by omega), ← h4, List.take_take, Nat.min_eq_left (Nat.mul_le_mul_right _ (by omega))]
  have hnl : (us.drop (k + 1)).flatten.length = (n - (k + 1)) * sz := by rw [flat_len (sz := sz) (fun u hu => hus u (List.mem_of_mem_drop hu)), List.length_drop, hn]
  have hnews : ∀ j u, (us.drop (k + 1)).flatten[j]? = some u → W.cell? (ad.add j) = some u := by
    intro j u hj
    have hjl : j < (n - (k + 1)) * sz := by rw [← hnl]; exact (List.getElem?_eq_some_iff.1 hj).1
    have hkn : k + 1 < n := by
      rcases Nat.lt_or_ge (k + 1) n with h | h
      · exact h
      · rw [show n - (k + 1) = 0 from by omega] at hjl; omega
    rw [had hkn, show (⟨g, (k + 1) * sz, none⟩ : Addr).add j = ⟨g, (k + 1) * sz + j, none⟩ by
      unfold Addr.add
      split
      · rename_i h0; subst h0; rfl
      · rfl]
    rw [cell_of_row W g _ cur e (0, 0) hb]
    rw [← flat_drop hus (by omega), List.getElem?_drop, ← h4, List.getElem?_take] at hj
    split at hj
    · rw [← hj]; simp
    · cases hj
  have hone : ∀ u ∈ (us.drop (k + 1)).flatten, u.oneCell' = true := fun u hu => by
    obtain ⟨l, hl', hul⟩ := List.mem_flatten.1 hu
    obtain ⟨y, f, hr⟩ := all3_mem_us hall (List.mem_of_mem_drop hl')
    exact hR.one hr.1 u hul
  have hvg : w0.heap.size ≤ g := hF.ge g (by rw [hFe, ← hv0]; simp [Value.ownBlock])
  have hgF : g ∈ F := by rw [hFe, ← hv0]; simp [Value.ownBlock]
  obtain ⟨v', w', hrun, hown', hgrow, _, hat⟩ := run_append_own_at (P := P) W 0 t o.type e i z sz bytes ht hi hz hsize hby hzs hsz _ k _ hpre ad (n - (k + 1)) c' (us.drop (k + 1)).flatten hnl hnews hone
    (by simp only [maxLen]; omega) (by rw [show k + (n - (k + 1)) = n - 1 from by omega]; exact Nat.le_trans (Nat.mul_le_mul_right _ (by omega)) hbytes) (Nat.zero_le _)
  have hbw' : Bw w0 w' := hbw.grown hgrow (fun k' hk' => by simp [Value.ownBlock] at hk'; omega)
  have hnd := hF.nodup
  rw [hFe, ← hv0] at hnd
  simp only [Value.ownBlock, Option.toList, List.singleton_append, List.nodup_cons] at hnd
  have hsub := fs_without (Fs := Fs) (k := k)
  have hlts : ∀ b ∈ Fs.flatten, b < W.heap.size := fun b hb => (fSl_good hR).lt (⟨v0, us, Fs, rfl, hown, hall, rfl⟩ : fSl e sz R W xs [v0] _) b (List.mem_append_right _ hb)
  have hold : ∀ b, b < w0.heap.size → w'.heap[b]? = W.heap[b]? := fun b hb => hgrow.block b (Nat.lt_of_lt_of_le hb hbw.size) (fun e => by simp [Value.ownBlock] at e; omega)
  unfold Oper.wp execOp
  simp only [ho, resolve, invoke, builtin, Sem.run_bind, Sem.run_pure, Result.andThen_ok, List.map_toArray, List.map_cons, List.map_nil, hs, hx, hrun]
  refine h v' w' (v'.ownBlock.toList ++ (Fs.take k ++ Fs.drop (k + 1)).flatten) ⟨v', us.take k ++ us.drop (k + 1), Fs.take k ++ Fs.drop (k + 1), rfl, ?_, ?_, rfl⟩ ⟨?_, ?_⟩ hbw' ⟨hgrow.size, fun b hb hn => hgrow.block b hb (fun e => by simp [Value.ownBlock] at e; exact hn (e ▸ hgF))⟩ ?_
  · rw [List.flatten_append, List.length_append, List.length_take, List.length_drop, show min k xs.length + (xs.length - (k + 1)) = k + (n - (k + 1)) from by omega]; exact hown'
  · refine all3_imp (fun y u f' hf' hy => ⟨hR.step (fun b hb => ?_) hy.1, hy.2⟩) (all3_without k hall)
    rcases hb with hb | hb
    · have hb' : b ∈ Fs.flatten := hsub.subset (List.mem_flatten.2 ⟨_, hf', hb⟩)
      exact hgrow.block b (hlts b hb') (fun e => by simp [Value.ownBlock] at e; exact hnd.1 (e ▸ hb'))
    · exact hold b hb
  · rw [List.nodup_append]
    refine ⟨by cases v'.ownBlock <;> simp, hnd.2.sublist hsub, fun p hp q hq e => ?_⟩
    subst e
    have hp' : v'.ownBlock = some p := by simpa using hp
    have hq' := hsub.subset hq
    rcases hat with e | e
    · rw [hp'] at e; simp [Value.ownBlock] at e; exact hnd.1 (e ▸ hq')
    · rw [hp'] at e
      injection e with e
      have := hlts p hq'; omega
  · intro b hb
    rcases List.mem_append.1 hb with hb | hb
    · have hb' : v'.ownBlock = some b := by simpa using hb
      rcases hat with e | e
      · rw [hb'] at e; simp [Value.ownBlock] at e; omega
      · rw [hb'] at e
        injection e with e
        have := hbw.size
        omega
    · exact hF.ge b (by rw [hFe]; exact List.mem_append_right _ (hsub.subset hb))
  · intro b hb
    rcases List.mem_append.1 hb with hb | hb
    · have hb' : v'.ownBlock = some b := by simpa using hb
      rcases hat with e | e
      · rw [hb'] at e; simp [Value.ownBlock] at e; exact .inl (e ▸ hgF)
      · rw [hb'] at e
        injection e with e
        exact .inr (by omega)
    · exact .inl (by rw [hFe]; exact List.mem_append_right _ (hsub.subset hb))
end
end Go.Proofs.YtfffklkiikmieaaGreat
