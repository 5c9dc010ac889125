/- Tables of ten times ten truths, as memory holds them. -/
import Derived.Test.YtpihighajaeabaaGreatQOwn3
import Derived.Test.YtpihighajaeabaaGreatQBoxT
import Derived.Laws.Rows
import Derived.Laws.Tables
namespace Go.Proofs.YtpihighajaeabaaGreat
open Go.RowKit
set_option linter.unusedVariables false
theorem wp_append_own {α : Type} {P : Program} {o : Oper} {a : Act} {K : Act → World → Prop} {Q : Exit → Act → World → Prop} (W : World) (s x : Operand) (t : TypeId)
    (ho : o.op = .call { callee := .builtin .append, args := #[s, x], argTypes := #[t, t] })
    (w0 : World) (e : TypeId) (i : TypeInfo) (z : Value) (sz bytes : Nat) (ht : P.underlying t = some (.slice e)) (hi : P.info? e = some i) (hz : i.zero = some z)
    (hsize : i.size = sz) (hby : i.bytes = bytes) (hzs : z.cells.size = sz) (hsz : 0 < sz)
    {R : Fp α} (hR : GoodF w0.heap.size R) (v : Value) (xs : List α) (F : List Nat) (hs : a.eval s = v) (hv : fSl e sz R W xs [v] F) (hF : Fresh w0.heap.size F)
    (sv : Value) (hx : a.eval x = sv) (ys : List α) (G : List Nat) (hw : fSl e sz R W ys [sv] G) (m : Nat) (hFm : ∀ b ∈ F, b < m) (hG : Fresh m G) (hm : w0.heap.size ≤ m)
    (hbytes : (xs.length + ys.length) * bytes ≤ 140737488355328) (hlen : xs.length + ys.length < 4611686018427387904) (hbw : Bw w0 W)
    (h : ∀ v' w' F', fSl e sz R w' (xs ++ ys) [v'] F' → Fresh w0.heap.size F' → Bw w0 w' → Only F W w' → (∀ b ∈ F', b ∈ F ∨ b ∈ G ∨ W.heap.size ≤ b) → K (a.put o.dst v') w') : o.wp P a W K Q := by
  have hw0 := hw
  obtain ⟨v0, us, Fs, hv0, hown, hall, hFe⟩ := hv
  injection hv0 with hv0
  subst hv0
  obtain ⟨v1, vs, Gs, hv1, hownG, hallG, hGe⟩ := hw
  injection hv1 with hv1
  subst hv1
  have hl := all3_len hall
  have hlG := all3_len hallG
  have hvg : ∀ k, v.ownBlock = some k → w0.heap.size ≤ k := fun k hk => hF.ge k (by rw [hFe]; simp [hk])
  rcases hownG.2 with ⟨rfl, hz0⟩ | ⟨g, cap, cur, rfl, hb, hg, hnc, hcm, hcs, _⟩
  · have hy0 : ys = [] := List.eq_nil_of_length_eq_zero hz0
    subst hy0
    have hrun := run_append_of_nil (P := P) W 0 t o.type e i sz ht hi v xs.length us.flatten hown 0
    unfold Oper.wp execOp
    simp only [ho, resolve, invoke, builtin, Sem.run_bind, Sem.run_pure, Result.andThen_ok, List.map_toArray, List.map_cons, List.map_nil, hs, hx]
    rw [hrun]
    exact (h v W F (by rw [List.append_nil]; exact ⟨v, us, Fs, rfl, hown, hall, hFe⟩) hF hbw (Only.refl F W) (fun b hb => .inl hb))
  · have hvsl : ∀ u ∈ vs, u.length = sz := fun u hu => by obtain ⟨x, f, hr⟩ := all3_mem_us hallG hu; exact hr.2
    have hone : ∀ u ∈ vs.flatten, u.oneCell' = true := fun u hu => by
      obtain ⟨l, hl', hul⟩ := List.mem_flatten.1 hu
      obtain ⟨x, f, hr⟩ := all3_mem_us hallG hl'
      exact hR.one hr.1 u hul
    have hnews : ∀ j u, vs.flatten[j]? = some u → W.cell? ((⟨g, 0, none⟩ : Addr).add j) = some u := fun j u hj => hownG.cells (g := g) rfl j u hj
    obtain ⟨v', w', hrun, hown', hgrow, _, hat⟩ := run_append_own_at (P := P) W 0 t o.type e i z sz bytes ht hi hz hsize hby hzs hsz v xs.length us.flatten hown ⟨g, 0, none⟩ ys.length cap vs.flatten (by rw [flat_len hvsl, hlG.1]) hnews hone
      (by simp only [maxLen]; omega) hbytes (Nat.zero_le _)
    have hbw' : Bw w0 w' := hbw.grown hgrow hvg
    have hvF : ∀ b, b ∈ Fs.flatten → some b ≠ v.ownBlock := by
      intro b hb e
      have hn := hF.nodup
      rw [hFe, List.nodup_append] at hn
      exact hn.2.2 b (by simp [← e]) b hb rfl
    have hGge : ∀ b ∈ Gs.flatten, m ≤ b := fun b hb => hG.ge b (by rw [hGe]; exact List.mem_append_right _ hb)
    have hFlt : ∀ b ∈ Fs.flatten, b < m := fun b hb => hFm b (by rw [hFe]; exact List.mem_append_right _ hb)
    have hvG : ∀ b, b ∈ Gs.flatten → some b ≠ v.ownBlock := by
      intro b hb e
      have h1 := hGge b hb
      have h2 := hFm b (by rw [hFe]; simp [← e])
      omega
    have hlts : ∀ b ∈ Fs.flatten, b < W.heap.size := fun b hb => (fSl_good hR).lt (⟨v, us, Fs, rfl, hown, hall, rfl⟩ : fSl e sz R W xs [v] _) b (List.mem_append_right _ hb)
    have hltG : ∀ b ∈ Gs.flatten, b < W.heap.size := fun b hb => (fSl_good hR).lt hw0 b (by rw [hGe]; exact List.mem_append_right _ hb)
    have hold : ∀ b, b < w0.heap.size → w'.heap[b]? = W.heap[b]? := fun b hb => hgrow.block b (Nat.lt_of_lt_of_le hb hbw.size) (fun e => by have := hvg b e.symm; omega)
    unfold Oper.wp execOp
    simp only [ho, resolve, invoke, builtin, Sem.run_bind, Sem.run_pure, Result.andThen_ok, List.map_toArray, List.map_cons, List.map_nil, hs, hx, hrun]
    refine (h v' w' (v'.ownBlock.toList ++ (Fs ++ Gs).flatten) ⟨v', us ++ vs, Fs ++ Gs, rfl, ?_, ?_, rfl⟩ ⟨?_, ?_⟩ hbw' ⟨hgrow.size, fun b hb hn => hgrow.block b hb (fun e => hn (by rw [hFe]; simp [← e]))⟩ ?_)
    · rw [List.length_append, List.flatten_append]; exact hown'
    · refine all3_append (all3_imp (fun x u f' hf' hx => ⟨hR.step (fun b hb => ?_) hx.1, hx.2⟩) hall) (all3_imp (fun x u f' hf' hx => ⟨hR.step (fun b hb => ?_) hx.1, hx.2⟩) hallG)
      · rcases hb with hb | hb
        · have hb' : b ∈ Fs.flatten := List.mem_flatten.2 ⟨_, hf', hb⟩
          exact hgrow.block b (hlts b hb') (hvF b hb')
        · exact hold b hb
      · rcases hb with hb | hb
        · have hb' : b ∈ Gs.flatten := List.mem_flatten.2 ⟨_, hf', hb⟩
          exact hgrow.block b (hltG b hb') (hvG b hb')
        · exact hold b hb
    · rw [List.flatten_append, List.nodup_append]
      have hn := hF.nodup
      rw [hFe, List.nodup_append] at hn
      have hnG := hG.nodup
      rw [hGe, List.nodup_append] at hnG
      refine ⟨by cases v'.ownBlock <;> simp, List.nodup_append.2 ⟨hn.2.1, hnG.2.1, fun p hp q hq e => ?_⟩, fun p hp q hq e => ?_⟩
      · have := hFlt p hp; have := hGge q hq; omega
      · subst e
        have hp' : v'.ownBlock = some p := by simpa using hp
        rcases hat with e | e
        · rcases List.mem_append.1 hq with hq | hq
          · exact hvF p hq (by rw [← e, hp'])
          · exact hvG p hq (by rw [← e, hp'])
        · rw [hp'] at e
          injection e with e
          rcases List.mem_append.1 hq with hq | hq
          · have := hlts p hq; omega
          · have := hltG p hq; omega
    · intro b hb
      rcases List.mem_append.1 hb with hb | hb
      · have hb' : v'.ownBlock = some b := by simpa using hb
        rcases hat with e | e
        · exact hvg b (by rw [← e, hb'])
        · rw [hb'] at e
          injection e with e
          have := hbw.size
          omega
      · rw [List.flatten_append] at hb
        rcases List.mem_append.1 hb with hb | hb
        · exact hF.ge b (by rw [hFe]; exact List.mem_append_right _ hb)
        · have := hGge b hb; omega
    · intro b hb
      rcases List.mem_append.1 hb with hb | hb
      · have hb' : v'.ownBlock = some b := by simpa using hb
        rcases hat with e | e
        · exact .inl (by rw [hFe]; simp [← e, hb'])
        · rw [hb'] at e
          injection e with e
          exact .inr (.inr (by omega))
      · rw [List.flatten_append] at hb
        rcases List.mem_append.1 hb with hb | hb
        · exact .inl (by rw [hFe]; exact List.mem_append_right _ hb)
        · exact .inr (.inl (by rw [hGe]; exact List.mem_append_right _ hb))
theorem wpList_append_own {α : Type} {P : Program} {ops : Array Oper} {rest : List Oper} {o : Oper} {a : Act} {Q : Exit → Act → World → Prop} (W : World) (hgd : o.guard = none) (s x : Operand) (t : TypeId)
    (ho : o.op = .call { callee := .builtin .append, args := #[s, x], argTypes := #[t, t] })
    (w0 : World) (e : TypeId) (i : TypeInfo) (z : Value) (sz bytes : Nat) (ht : P.underlying t = some (.slice e)) (hi : P.info? e = some i) (hz : i.zero = some z)
    (hsize : i.size = sz) (hby : i.bytes = bytes) (hzs : z.cells.size = sz) (hsz : 0 < sz)
    {R : Fp α} (hR : GoodF w0.heap.size R) (v : Value) (xs : List α) (F : List Nat) (hs : a.eval s = v) (hv : fSl e sz R W xs [v] F) (hF : Fresh w0.heap.size F)
    (sv : Value) (hx : a.eval x = sv) (ys : List α) (G : List Nat) (hw : fSl e sz R W ys [sv] G) (m : Nat) (hFm : ∀ b ∈ F, b < m) (hG : Fresh m G) (hm : w0.heap.size ≤ m)
    (hbytes : (xs.length + ys.length) * bytes ≤ 140737488355328) (hlen : xs.length + ys.length < 4611686018427387904) (hbw : Bw w0 W)
    (h : ∀ v' w' F', fSl e sz R w' (xs ++ ys) [v'] F' → Fresh w0.heap.size F' → Bw w0 w' → Only F W w' → (∀ b ∈ F', b ∈ F ∨ b ∈ G ∨ W.heap.size ≤ b) → wpList P ops Q rest (a.put o.dst v') w') : wpList P ops Q (o :: rest) a W :=
  wpList_plain hgd fun _ hK => wp_append_own W s x t ho w0 e i z sz bytes ht hi hz hsize hby hzs hsz hR v xs F hs hv hF sv hx ys G hw m hFm hG hm hbytes hlen hbw fun v' w' F' h1 h2 h3 h4 h5 => hK _ _ (h v' w' F' h1 h2 h3 h4 h5)
end Go.Proofs.YtpihighajaeabaaGreat

namespace Go.Proofs.YtpihighajaeabaaGreat
open Go.RowKit
set_option linter.unusedVariables false
theorem all_range_drop (f : Nat → Bool) {k n : Nat} (h : k < n) : (List.range' k (n - k)).all f = (f k && (List.range' (k + 1) (n - (k + 1))).all f) := by
  rw [show n - k = (n - (k + 1)) + 1 by omega, List.range'_succ, List.all_cons]
set_option maxHeartbeats 800000 in
theorem S_ArePairs (w : World) (l : List GPair) (v : Value) (h : Rd rPairs w l [v]) : Calls Tryz.prog 175 #[v] w (Ret w (.bool (arePairs l))) := by
  go_enter Tryz.func175, Tryz.ntmps175
  go_wp2_with fail
  refine (S_l3Valid _ l _ h).mono ?_
  rintro e w2 ⟨rfl, hb2⟩
  have h2 := h.bw rPairs_good hb2
  rcases Bool.eq_false_or_eq_true (pairsIn l && decide (l.length ≤ 8)) with e1 | e1
  · have E1 := Lib.hid e1
    rw [e1]
    have hl : pairsIn l = true := by simp at e1; exact e1.1
    have h8 : l.length ≤ 8 := by simp at e1; exact e1.2
    have HL := Lib.hid hl
    have H8 := Lib.hid h8
    have HM := Lib.hid (show arePairs l = (List.range' 0 (10 - 0)).all (fun v => !reachB l (v : Int) (v : Int)) by
      unfold arePairs; rw [hl, List.range_eq_range']; simp [h8])
    clear e1 hl h8
    go_wp2
    go_loopg [3] 10 (fun g i w' => ∃ k : Nat, k ≤ 10 ∧ g = 10 - k ∧ i = .int .i64 k ∧ Hid (arePairs l = (List.range' k (10 - k)).all (fun v => !reachB l (v : Int) (v : Int))) ∧ Bw w w')
    case atStart => exact ⟨0, by omega, rfl, rfl, HM, hb2⟩
    case round =>
      obtain ⟨k, hk, rfl, rfl, HE, hb⟩ := hrel
      by_cases hlt : k < 10
      · have HS := Lib.hid (all_range_drop (fun v => !reachB l (v : Int) (v : Int)) hlt)
        have k9 : (k : Int) ≤ 9 := by omega
        go_wp2_with fail
        refine (S_l3Reach _ l (k : Int) (k : Int) _ (h.bw rPairs_good hb) HL.out H8.out (by omega) (by omega)).mono ?_
        rintro e w3 ⟨rfl, hb3⟩
        rcases Bool.eq_false_or_eq_true (reachB l (k : Int) (k : Int)) with e2 | e2
        · have E2 := Lib.hid e2
          rw [show reachB l (k : Int) (k : Int) = true from E2.out]
          clear e2
          go_wp2
          go_ret
          exact Ret.bool (by rw [HE.out, HS.out, E2.out]; simp) (hb.then hb3)
        · have E2 := Lib.hid e2
          rw [show reachB l (k : Int) (k : Int) = false from E2.out]
          clear e2
          go_wp2
          go_roundg (10 - (k + 1))
          case measure => omega
          case rel => exact ⟨k + 1, by omega, rfl, by go_num, Lib.hid (by rw [HE.out, HS.out, E2.out]; simp), hb.then hb3⟩
      · obtain rfl : k = 10 := by omega
        go_wp2
        go_ret
        exact Ret.bool (by rw [HE.out]; simp) hb
  · have HM := Lib.hid (show arePairs l = false by
      unfold arePairs
      simp at e1
      by_cases hl : pairsIn l = true
      · have := e1 hl; simp; intro _ h; omega
      · simp at hl; simp [hl])
    rw [e1]
    clear e1
    go_wp2
    go_ret
    exact Ret.bool (by rw [HM.out]) (hb2)
end Go.Proofs.YtpihighajaeabaaGreat

namespace Go.Proofs.YtpihighajaeabaaGreat
open Go.RowKit
set_option linter.unusedVariables false
def matOf (M : Nat → Nat → Bool) : Array Value := Array.ofFn fun k : Fin 100 => .bool (M (k.1 / 10) (k.1 % 10))
theorem matOf_size (M : Nat → Nat → Bool) : (matOf M).size = 100 := by simp [matOf]
theorem matOf_at {M : Nat → Nat → Bool} {i j : Nat} (hi : i < 10) (hj : j < 10) : (matOf M)[i * 10 + j]? = some (.bool (M i j)) := by
  have hk : i * 10 + j < 100 := by omega
  have e1 : (i * 10 + j) / 10 = i := by omega
  have e2 : (i * 10 + j) % 10 = j := by omega
  simp [matOf, hk, e1, e2]
def updM (M : Nat → Nat → Bool) (i j : Nat) (b : Bool) : Nat → Nat → Bool := fun a c => if a = i ∧ c = j then b else M a c
theorem matOf_set {M : Nat → Nat → Bool} {i j : Nat} {b : Bool} (hi : i < 10) (hj : j < 10) : (matOf M).setIfInBounds (i * 10 + j) (.bool b) = matOf (updM M i j b) := by
  apply Array.ext_getElem?
  intro k
  rw [Array.getElem?_setIfInBounds]
  by_cases hk : i * 10 + j = k
  · subst hk
    rw [if_pos rfl, if_pos (by rw [matOf_size]; omega), matOf_at hi hj]
    simp [updM]
  · rw [if_neg hk]
    by_cases hk2 : k < 100
    · simp only [matOf, Array.getElem?_ofFn, hk2, dif_pos, updM]
      rw [if_neg (by omega)]
    · rw [Array.getElem?_eq_none (by rw [matOf_size]; omega), Array.getElem?_eq_none (by rw [matOf_size]; omega)]
theorem matOf_congr {M M' : Nat → Nat → Bool} (h : ∀ i j, i < 10 → j < 10 → M i j = M' i j) : matOf M = matOf M' := by
  apply Array.ext_getElem?
  intro k
  by_cases hk2 : k < 100
  · simp only [matOf, Array.getElem?_ofFn, hk2, dif_pos]
    rw [h _ _ (by omega) (by omega)]
  · rw [Array.getElem?_eq_none (by rw [matOf_size]; omega), Array.getElem?_eq_none (by rw [matOf_size]; omega)]
theorem matOf_one (M : Nat → Nat → Bool) : (matOf M).all (·.oneCell') = true := by
  rw [Array.all_eq_true]
  intro i hi
  simp [matOf, Value.oneCell']
/-- a block known whole -/
def Row (w : World) (g : Nat) (t : TypeId) (cs : Array Value) : Prop := w.heap[g]? = some (.cells cs t (0, 0))
section
variable {w w' : World} {g : Nat} {t : TypeId} {cs : Array Value}
theorem Row.lt (h : Row w g t cs) : g < w.heap.size := by
  rcases Nat.lt_or_ge g w.heap.size with hlt | hge
  · exact hlt
  · unfold Row at h; rw [Array.getElem?_eq_none hge] at h; cases h
theorem Row.cell (h : Row w g t cs) (i : Nat) : w.cell? ⟨g, i, none⟩ = cs[i]? := cell_of_row w g i cs t (0, 0) h
theorem Row.frozen (h : Row w g t cs) (i : Nat) : w.frozen? ⟨g, i, none⟩ = false := by
  unfold Row at h
  simp [World.frozen?, h]
theorem Row.bw (h : Row w g t cs) (hb : Bw w w') : Row w' g t cs := (Below.block hb g h.lt).trans h
theorem Row.put (h : Row w g t cs) (i : Nat) (u : Value) : Row (w.setCell ⟨g, i, none⟩ u) g t (cs.setIfInBounds i u) := by
  unfold Row at h ⊢
  simp [World.setCell, Array.getElem?_modify, h]
theorem Row.far (h : Row w g t cs) {p : Addr} (hp : g ≠ p.block) (u : Value) : Row (w.setCell p u) g t cs := (Below.heap_setCell w p u g hp).trans h
end
theorem baseB_snoc {l : List GPair} {k : Nat} {p : GPair} (h : l[k]? = some p) {a b : Nat} (ha : p.fst = a) (hb : p.snd = b) : baseB (l.take (k + 1)) = updM (baseB (l.take k)) a b true := by
  funext i j
  have e : l.take (k + 1) = l.take k ++ [p] := by rw [List.take_add_one, h]; rfl
  rw [e]
  unfold updM baseB
  rw [List.any_append]
  simp only [List.any_cons, List.any_nil, Bool.or_false, ha, hb]
  by_cases h1 : i = a ∧ j = b
  · rw [if_pos h1]; simp [h1.1, h1.2]
  · rw [if_neg h1]
    have : (decide ((a : Int) = (i : Int)) && decide ((b : Int) = (j : Int))) = false := by
      simp; intro h2 h3; exact h1 ⟨by omega, by omega⟩
    rw [this, Bool.or_false]
/-- within a phase: the entries ahead of (i, j) are done -/
def partM (B : Nat → Nat → Bool) (k i j : Nat) : Nat → Nat → Bool := fun a c => if a < i ∨ (a = i ∧ c < j) then warsh B (k + 1) a c else warsh B k a c
theorem partM_zero (B : Nat → Nat → Bool) (k : Nat) : partM B k 0 0 = warsh B k := by funext a c; unfold partM; rw [if_neg (by omega)]
theorem partM_row (B : Nat → Nat → Bool) (k i : Nat) : matOf (partM B k i 10) = matOf (partM B k (i + 1) 0) := matOf_congr fun a c ha hc => by
  unfold partM
  by_cases h : a < i + 1
  · rw [if_pos (by omega), if_pos (by omega)]
  · rw [if_neg (by omega), if_neg (by omega)]
theorem partM_end (B : Nat → Nat → Bool) (k : Nat) : matOf (partM B k 10 0) = matOf (warsh B (k + 1)) := matOf_congr fun a c ha hc => by unfold partM; rw [if_pos (by omega)]
theorem partM_ij (B : Nat → Nat → Bool) (k i j : Nat) : partM B k i j i j = warsh B k i j := by unfold partM; rw [if_neg (by omega)]
theorem partM_ik (B : Nat → Nat → Bool) (k i j : Nat) : partM B k i j i k = warsh B k i k := by unfold partM; split; exact warsh_row; rfl
theorem partM_kj (B : Nat → Nat → Bool) (k i j : Nat) : partM B k i j k j = warsh B k k j := by unfold partM; split; exact warsh_col; rfl
theorem partM_step (B : Nat → Nat → Bool) (k i j : Nat) : updM (partM B k i j) i j (warsh B k i j || (warsh B k i k && warsh B k k j)) = partM B k i (j + 1) := by
  funext a c
  unfold updM
  by_cases h : a = i ∧ c = j
  · obtain ⟨rfl, rfl⟩ := h
    rw [if_pos ⟨rfl, rfl⟩]
    unfold partM
    rw [if_pos (by omega)]; rfl
  · rw [if_neg h]
    unfold partM
    by_cases h2 : a < i ∨ (a = i ∧ c < j)
    · rw [if_pos h2, if_pos (by omega)]
    · rw [if_neg h2, if_neg (by omega)]
theorem mat_info : (Tryz.prog.info? 228).map (·.size) = some 100 := by kernel_rfl
theorem setRow_row {w : World} {g : Nat} {t : TypeId} {cs : Array Value} (h : Row w g t cs) (c : Array Value) : Row (w.setRow g c) g t c := by
  unfold Row at h ⊢
  simp [World.setRow, Array.getElem?_modify, h]
theorem Bw.setRow {a w : World} (h : Bw a w) {g : Nat} (hg : a.heap.size ≤ g) (c : Array Value) : Bw a (w.setRow g c) := by
  have k : Below a.heap.size a w := h
  refine ⟨k.os, k.tape, k.output, ?_, fun b hb => ?_⟩
  · have := k.size
    simp only [World.setRow, Array.size_modify]; exact this
  · rw [← k.block b hb]
    simp only [World.setRow, Array.getElem?_modify]
    rw [if_neg (by omega)]
theorem still_of_quiet {P : Program} {o : Oper} {a : Act} {w : World} {K K' : Act → Prop} (h : o.quiet P a (fun w' => w' = w) K) (hK : ∀ a, K a → K' a) : o.still P a w K' := by
  obtain ⟨v, hv, hn⟩ := h
  have := hv w rfl
  unfold Oper.still
  unfold Oper.quietAt at this
  revert this
  cases (execOp a.eval o).run P w with
  | ok r w' =>
    cases r with
    | value u => intro ⟨h1, h2⟩; subst h2; exact ⟨h1, hK _ hn⟩
    | skip => intro ⟨h1, h2⟩; subst h2; exact ⟨h1, hK _ hn⟩
    | enter f args => intro ⟨h1, h2⟩; exact ⟨h1, v, h2, hK _ hn⟩
    | _ => intro h; exact h.elim
  | _ => intro h; exact h.elim
theorem wpStill_of_quiet {P : Program} {ops : Array Oper} {w : World} {Q : Act → Prop} : ∀ {l : List Oper} {a : Act}, wpQuiet P ops (fun w' => w' = w) Q l a → wpStill P ops w Q l a
  | [], a, h => h
  | o :: l, a, h => by
    unfold wpQuiet at h
    unfold wpStill
    by_cases hw : Region.wanted o (yielded ops a.tmps) = true
    · rw [if_pos hw] at h ⊢
      exact still_of_quiet h fun _ h => wpStill_of_quiet h
    · rw [if_neg hw] at h ⊢
      exact wpStill_of_quiet h
end Go.Proofs.YtpihighajaeabaaGreat
