/- The fewest wishes to drop: plain model and law; rows of wishes that share their lists with elder ones. -/
import Derived.Test.YthlaabaffbffkaaQPareto
import Derived.Test.YthlaabaffbffkaaQDom
import Derived.Test.YthlaabaffbffkaaQOnly
namespace Go.Proofs.Ythlaabaffbffkaa
open Go.RowKit
set_option linter.unusedVariables false
set_option linter.unusedSimpArgs false

def ascN (n : Nat) : Nat → List Nat → Prop
  | _, [] => True
  | lo, v :: t => lo ≤ v ∧ v < n ∧ ascN n (v + 1) t
def lexN : List Nat → List Nat → Bool
  | a :: s, b :: t => if a = b then lexN s t else decide (a < b)
  | _, _ => false
def lessN (s t : List Nat) : Bool := if s.length = t.length then lexN s t else decide (s.length < t.length)
def pick (F : List Nat → Bool) (n : Nat) : Nat → Nat → List Nat → Option (List Nat)
  | 0, _, set => if F set then some set else none
  | _ + 1, 0, _ => none
  | r + 1, m + 1, set => match pick F n r m (set ++ [n - (m + 1)]) with | some s => some s | none => pick F n (r + 1) m set
def dropI (F : List Nat → Bool) (n : Nat) : Nat → Nat → List Nat
  | 0, _ => []
  | f + 1, size => match pick F n size n [] with | some s => s | none => dropI F n f (size + 1)
def bitsTo (m : Nat) : Nat → List Nat
  | 0 => []
  | k + 1 => bitsTo m k ++ (if m.testBit k then [k] else [])
def foldS (F : List Nat → Bool) (n : Nat) : Nat → Option (List Nat)
  | 0 => none
  | m + 1 => match foldS F n m with
    | some b => if lessN (bitsTo m n) b && F (bitsTo m n) then some (bitsTo m n) else some b
    | none => if F (bitsTo m n) then some (bitsTo m n) else none
theorem pick_none {F : List Nat → Bool} {n : Nat} : ∀ {r m : Nat} {set : List Nat}, m ≤ n → pick F n r m set = none → ∀ t, ascN n (n - m) t → t.length = r → F (set ++ t) = false
  | 0, m, set, _, h, t, _, hl => by
    obtain rfl := List.eq_nil_of_length_eq_zero hl
    rw [List.append_nil]
    rw [pick] at h
    cases hf : F set
    · rfl
    · rw [hf] at h; simp at h
  | r + 1, 0, set, hm, h, [], _, hl => by simp at hl
  | r + 1, 0, set, hm, h, v :: t, ha, hl => by
    have h1 := ha.1; have h2 := ha.2.1; omega
  | r + 1, m + 1, set, hm, h, [], _, hl => by simp at hl
  | r + 1, m + 1, set, hm, h, v :: t, ha, hl => by
    obtain ⟨h1, h2, h3⟩ := ha
    rw [pick] at h
    cases hp : pick F n r m (set ++ [n - (m + 1)]) with
    | some s => rw [hp] at h; simp at h
    | none =>
      rw [hp] at h
      dsimp only at h
      by_cases hv : v = n - (m + 1)
      · subst hv
        have := pick_none (by omega) hp t (by rw [show n - m = n - (m + 1) + 1 by omega]; exact h3) (by simpa using hl)
        rw [List.append_assoc] at this
        exact this
      · exact pick_none (by omega) h (v :: t) ⟨by omega, h2, h3⟩ hl
theorem pick_some {F : List Nat → Bool} {n : Nat} : ∀ {r m : Nat} {set s : List Nat}, m ≤ n → pick F n r m set = some s → ∃ t, s = set ++ t ∧ t.length = r ∧ ascN n (n - m) t ∧ F s = true ∧ ∀ t', ascN n (n - m) t' → t'.length = r → lexN t' t = true → F (set ++ t') = false
  | 0, m, set, s, _, h => by
    rw [pick] at h
    split at h
    · rename_i hf
      cases h
      exact ⟨[], by simp, rfl, trivial, hf, fun t' _ hl hx => by obtain rfl := List.eq_nil_of_length_eq_zero hl; simp [lexN] at hx⟩
    · cases h
  | r + 1, 0, set, s, _, h => by rw [pick] at h; cases h
  | r + 1, m + 1, set, s, hm, h => by
    rw [pick] at h
    cases hp : pick F n r m (set ++ [n - (m + 1)]) with
    | some s' =>
      rw [hp] at h
      cases h
      obtain ⟨t, h1, h2, h3, h4, h5⟩ := pick_some (by omega) hp
      refine ⟨(n - (m + 1)) :: t, by rw [h1, List.append_assoc]; rfl, by rw [List.length_cons, h2], ⟨Nat.le_refl _, by omega, by rw [show n - (m + 1) + 1 = n - m by omega]; exact h3⟩, h4, ?_⟩
      intro t' ha hl hx
      match t', ha, hl, hx with
      | v :: t', ⟨g1, g2, g3⟩, hl, hx =>
        by_cases hv : v = n - (m + 1)
        · subst hv
          rw [lexN, if_pos rfl] at hx
          have := h5 t' (by rw [show n - m = n - (m + 1) + 1 by omega]; exact g3) (by simpa using hl) hx
          rw [List.append_assoc] at this
          exact this
        · rw [lexN, if_neg hv, decide_eq_true_eq] at hx
          omega
    | none =>
      rw [hp] at h
      dsimp only at h
      obtain ⟨t, h1, h2, h3, h4, h5⟩ := pick_some (by omega) h
      match t, h1, h2, h3, h5 with
      | v :: t, h1, h2, ⟨k1, k2, k3⟩, h5 =>
        refine ⟨v :: t, h1, h2, ⟨by omega, k2, k3⟩, h4, ?_⟩
        intro t' ha hl hx
        match t', ha, hl, hx with
        | v' :: t', ⟨g1, g2, g3⟩, hl, hx =>
          by_cases hv : v' = n - (m + 1)
          · subst hv
            have := pick_none (by omega) hp t' (by rw [show n - m = n - (m + 1) + 1 by omega]; exact g3) (by simpa using hl)
            rw [List.append_assoc] at this
            exact this
          · exact h5 (v' :: t') ⟨by omega, g2, g3⟩ hl hx
theorem lexN_eq : ∀ {s t : List Nat}, s.length = t.length → lexN s t = false → lexN t s = false → s = t
  | [], [], _, _, _ => rfl
  | a :: s, b :: t, hl, h1, h2 => by
    rw [lexN] at h1 h2
    by_cases hab : a = b
    · subst hab
      rw [if_pos rfl] at h1 h2
      rw [lexN_eq (by simpa using hl) h1 h2]
    · rw [if_neg hab, decide_eq_false_iff_not] at h1
      rw [if_neg (Ne.symm hab), decide_eq_false_iff_not] at h2
      omega
theorem lexN_trans : ∀ {s t u : List Nat}, lexN s t = true → lexN t u = true → lexN s u = true
  | [], _, _, h, _ => by simp [lexN] at h
  | _ :: _, [], _, h, _ => by simp [lexN] at h
  | _ :: _, _ :: _, [], _, h => by simp [lexN] at h
  | a :: s, b :: t, c :: u, h1, h2 => by
    rw [lexN] at h1 h2 ⊢
    by_cases hab : a = b
    · subst hab
      rw [if_pos rfl] at h1
      by_cases hac : a = c
      · rw [if_pos hac] at h2 ⊢
        exact lexN_trans h1 h2
      · rw [if_neg hac] at h2 ⊢; exact h2
    · rw [if_neg hab, decide_eq_true_eq] at h1
      by_cases hbc : b = c
      · subst hbc
        rw [if_neg hab]; exact decide_eq_true h1
      · rw [if_neg hbc, decide_eq_true_eq] at h2
        rw [if_neg (by omega)]; exact decide_eq_true (by omega)
theorem lessN_eq {s t : List Nat} (h1 : lessN s t = false) (h2 : lessN t s = false) : s = t := by
  unfold lessN at h1 h2
  by_cases hl : s.length = t.length
  · rw [if_pos hl] at h1
    rw [if_pos hl.symm] at h2
    exact lexN_eq hl h1 h2
  · rw [if_neg hl, decide_eq_false_iff_not] at h1
    rw [if_neg (Ne.symm hl), decide_eq_false_iff_not] at h2
    omega
theorem lessN_trans {s t u : List Nat} (h1 : lessN s t = true) (h2 : lessN t u = true) : lessN s u = true := by
  unfold lessN at h1 h2 ⊢
  by_cases hl : s.length = t.length
  · rw [if_pos hl] at h1
    by_cases hk : t.length = u.length
    · rw [if_pos hk] at h2
      rw [if_pos (hl.trans hk)]
      exact lexN_trans h1 h2
    · rw [if_neg hk, decide_eq_true_eq] at h2
      rw [if_neg (by omega)]; exact decide_eq_true (by omega)
  · rw [if_neg hl, decide_eq_true_eq] at h1
    by_cases hk : t.length = u.length
    · rw [if_neg (by omega)]; exact decide_eq_true (by omega)
    · rw [if_neg hk, decide_eq_true_eq] at h2
      rw [if_neg (by omega)]; exact decide_eq_true (by omega)
/-- the least of the lists that suit -/
def Least (F : List Nat → Bool) (n : Nat) (s : List Nat) : Prop := ascN n 0 s ∧ F s = true ∧ ∀ t, ascN n 0 t → F t = true → lessN t s = false
theorem Least.uniq {F : List Nat → Bool} {n : Nat} {s t : List Nat} (h : Least F n s) (k : Least F n t) : s = t := lessN_eq (k.2.2 s h.1 h.2.1) (h.2.2 t k.1 k.2.1)
theorem dropI_least {F : List Nat → Bool} {n : Nat} (t : List Nat) (ht : ascN n 0 t) (hF : F t = true) : ∀ {f size : Nat}, t.length < size + f → (∀ u, ascN n 0 u → u.length < size → F u = false) → Least F n (dropI F n f size) ∧ (∀ u, ascN n 0 u → u.length < (dropI F n f size).length → F u = false)
  | 0, size, hl, hs => by have := hs t ht (by omega); rw [hF] at this; cases this
  | f + 1, size, hl, hs => by
    rw [dropI]
    cases hp : pick F n size n [] with
    | some s =>
      obtain ⟨t', h1, h2, h3, h4, h5⟩ := pick_some (Nat.le_refl n) hp
      rw [List.nil_append] at h1
      subst h1
      rw [Nat.sub_self] at h3
      dsimp only
      refine ⟨⟨h3, h4, fun u hu hf => ?_⟩, fun u hu hl2 => hs u hu (by omega)⟩
      unfold lessN
      by_cases hul : u.length = s.length
      · rw [if_pos hul]
        cases hx : lexN u s with
        | false => rfl
        | true =>
          have := h5 u (by rw [Nat.sub_self]; exact hu) (by omega) hx
          rw [List.nil_append, hf] at this; cases this
      · rw [if_neg hul, decide_eq_false_iff_not]
        intro hlt
        have := hs u hu (by omega)
        rw [hf] at this; cases this
    | none =>
      dsimp only
      refine dropI_least t ht hF (by omega) fun u hu hl2 => ?_
      by_cases h3 : u.length = size
      · have := pick_none (Nat.le_refl n) hp u (by rw [Nat.sub_self]; exact hu) h3
        rw [List.nil_append] at this; exact this
      · exact hs u hu (by omega)
theorem ascN_up {n : Nat} : ∀ {s : List Nat} {lo : Nat}, ascN n lo s → ascN (n + 1) lo s
  | [], _, _ => trivial
  | v :: t, _, ⟨h1, h2, h3⟩ => ⟨h1, by omega, ascN_up h3⟩
theorem ascN_snoc {n : Nat} : ∀ {s : List Nat} {lo : Nat}, ascN n lo s → lo ≤ n → ascN (n + 1) lo (s ++ [n])
  | [], _, _, hl => ⟨hl, by omega, trivial⟩
  | v :: t, _, ⟨h1, h2, h3⟩, _ => ⟨h1, by omega, ascN_snoc h3 (by omega)⟩
theorem ascN_last {n : Nat} : ∀ {s : List Nat} {lo : Nat}, ascN (n + 1) lo s → ascN n lo s ∨ ∃ t, s = t ++ [n] ∧ ascN n lo t ∧ lo ≤ n
  | [], _, _ => .inl trivial
  | v :: t, lo, ⟨h1, h2, h3⟩ => by
    rcases ascN_last h3 with h | ⟨u, rfl, h, hl⟩
    · by_cases hv : v < n
      · exact .inl ⟨h1, hv, h⟩
      · match t, h with
        | [], _ => exact .inr ⟨[], by rw [List.nil_append, show v = n by omega], trivial, by omega⟩
        | x :: t, h => have := h.1; have := h.2.1; omega
    · exact .inr ⟨v :: u, rfl, ⟨h1, by omega, h⟩, by omega⟩
theorem ascN_len {n : Nat} : ∀ {s : List Nat} {lo : Nat}, ascN n lo s → lo ≤ n → s.length ≤ n - lo
  | [], _, _, _ => Nat.zero_le _
  | v :: t, lo, ⟨h1, h2, h3⟩, _ => by have := ascN_len h3 (by omega); rw [List.length_cons]; omega
theorem bits_asc (m : Nat) : ∀ n, ascN n 0 (bitsTo m n)
  | 0 => trivial
  | n + 1 => by
    rw [bitsTo]
    split
    · exact ascN_snoc (bits_asc m n) (Nat.zero_le _)
    · rw [List.append_nil]; exact ascN_up (bits_asc m n)
theorem bits_congr {m m' : Nat} : ∀ {n : Nat}, (∀ i, i < n → m.testBit i = m'.testBit i) → bitsTo m n = bitsTo m' n
  | 0, _ => rfl
  | n + 1, h => by rw [bitsTo, bitsTo, bits_congr (fun i hi => h i (by omega)), h n (by omega)]
theorem bits_onto : ∀ {n : Nat} {s : List Nat}, ascN n 0 s → ∃ m, m < 2 ^ n ∧ bitsTo m n = s
  | 0, [], _ => ⟨0, by decide, rfl⟩
  | 0, v :: t, h => absurd h.2.1 (Nat.not_lt_zero _)
  | n + 1, s, h => by
    rcases ascN_last h with h | ⟨t, rfl, h, _⟩
    · obtain ⟨m, hm, e⟩ := bits_onto h
      refine ⟨m, by rw [Nat.pow_succ]; omega, ?_⟩
      rw [bitsTo, Nat.testBit_lt_two_pow hm, e]; simp
    · obtain ⟨m, hm, e⟩ := bits_onto h
      refine ⟨2 ^ n + m, by rw [Nat.pow_succ]; omega, ?_⟩
      rw [bitsTo, Nat.testBit_two_pow_add_eq, Nat.testBit_lt_two_pow hm, bits_congr (m' := m) (fun i hi => Nat.testBit_two_pow_add_gt hi m), e]; simp
theorem foldS_least {F : List Nat → Bool} {n : Nat} : ∀ {M : Nat} {b : List Nat}, foldS F n M = some b → ascN n 0 b ∧ F b = true ∧ ∀ m, m < M → F (bitsTo m n) = true → lessN (bitsTo m n) b = false
  | 0, b, h => by cases h
  | M + 1, b, h => by
    rw [foldS] at h
    have irr : ∀ s, lessN s s = false := fun s => by
      unfold lessN; rw [if_pos rfl]
      induction s with
      | nil => rfl
      | cons a s ih => rw [lexN, if_pos rfl]; exact ih
    cases hp : foldS F n M with
    | some b' =>
      rw [hp] at h
      obtain ⟨h1, h2, h3⟩ := foldS_least hp
      dsimp only at h
      split at h
      · rename_i hc
        cases h
        rw [Bool.and_eq_true] at hc
        refine ⟨bits_asc M n, hc.2, fun m hm hf => ?_⟩
        by_cases hM : m = M
        · subst hM; exact irr _
        · cases hx : lessN (bitsTo m n) (bitsTo M n) with
          | false => rfl
          | true =>
            have := h3 m (by omega) hf
            rw [lessN_trans hx hc.1] at this; cases this
      · rename_i hc
        cases h
        refine ⟨h1, h2, fun m hm hf => ?_⟩
        by_cases hM : m = M
        · subst hM
          cases hx : lessN (bitsTo m n) b with
          | false => rfl
          | true => rw [hx, hf] at hc; simp at hc
        · exact h3 m (by omega) hf
    | none =>
      rw [hp] at h
      have hn : ∀ m, m < M → F (bitsTo m n) = false := by
        clear h
        have : ∀ {M : Nat}, foldS F n M = none → ∀ m, m < M → F (bitsTo m n) = false := by
          intro M
          induction M with
          | zero => intro _ m hm; omega
          | succ M ih =>
            intro hh m hm
            rw [foldS] at hh
            cases hq : foldS F n M with
            | some b => rw [hq] at hh; dsimp only at hh; split at hh <;> cases hh
            | none =>
              rw [hq] at hh
              dsimp only at hh
              by_cases hM : m = M
              · subst hM
                cases hf : F (bitsTo m n) with
                | false => rfl
                | true => rw [hf] at hh; simp at hh
              · exact ih hq m (by omega)
        exact this hp
      dsimp only at h
      split at h
      · rename_i hf
        cases h
        refine ⟨bits_asc M n, hf, fun m hm hf2 => ?_⟩
        by_cases hM : m = M
        · subst hM; exact irr _
        · rw [hn m (by omega)] at hf2; cases hf2
      · cases h
theorem foldS_none {F : List Nat → Bool} {n : Nat} : ∀ {M : Nat}, foldS F n M = none → ∀ m, m < M → F (bitsTo m n) = false
  | 0, _, m, hm => by omega
  | M + 1, hh, m, hm => by
    rw [foldS] at hh
    cases hq : foldS F n M with
    | some b => rw [hq] at hh; dsimp only at hh; split at hh <;> cases hh
    | none =>
      rw [hq] at hh
      dsimp only at hh
      by_cases hM : m = M
      · subst hM
        cases hf : F (bitsTo m n) with
        | false => rfl
        | true => rw [hf] at hh; simp at hh
      · exact foldS_none hq m (by omega)
/-- both ways find the same list -/
theorem drop_law {F : List Nat → Bool} {n : Nat} (t : List Nat) (ht : ascN n 0 t) (hF : F t = true) : foldS F n (2 ^ n) = some (dropI F n (n + 1) 0) := by
  have hl := ascN_len ht (Nat.zero_le _)
  have hL := (dropI_least (f := n + 1) (size := 0) t ht hF (by omega) (fun u _ h => absurd h (Nat.not_lt_zero _))).1
  cases hp : foldS F n (2 ^ n) with
  | none =>
    obtain ⟨m, hm, e⟩ := bits_onto ht
    have := foldS_none hp m hm
    rw [e, hF] at this; cases this
  | some b =>
    obtain ⟨h1, h2, h3⟩ := foldS_least hp
    have hb : Least F n b := ⟨h1, h2, fun u hu hf => by
      obtain ⟨m, hm, e⟩ := bits_onto hu
      have := h3 m hm (by rw [e]; exact hf)
      rw [e] at this; exact this⟩
    rw [hb.uniq hL]

/-- places as whole numbers -/
def ints (s : List Nat) : List Int := s.map (fun k : Nat => (k : Int))
theorem ints_len (s : List Nat) : (ints s).length = s.length := by unfold ints; exact List.length_map _
theorem ints_snoc (s : List Nat) (k : Nat) : ints (s ++ [k]) = ints s ++ [(k : Int)] := by unfold ints; rw [List.map_append]; rfl
theorem ints_contains (s : List Nat) (k : Nat) : (ints s).contains (k : Int) = s.contains k := by
  unfold ints
  induction s with
  | nil => rfl
  | cons a s ih =>
    rw [List.map_cons, List.contains_cons, List.contains_cons, ih]
    congr 1
    rw [Bool.eq_iff_iff]; simp; omega
def lexI : List Int → List Int → Bool
  | a :: s, b :: t => if a = b then lexI s t else decide (a < b)
  | _, _ => false
def lessI (s t : List Int) : Bool := if s.length = t.length then lexI s t else decide (s.length < t.length)
theorem lexI_ints : ∀ s t : List Nat, lexI (ints s) (ints t) = lexN s t
  | a :: s, b :: t => by
    have := lexI_ints s t
    unfold ints at this
    unfold ints
    rw [List.map_cons, List.map_cons, lexI, lexN, this]
    by_cases h : a = b
    · rw [if_pos h, if_pos (by rw [h])]
    · rw [if_neg h, if_neg (by omega)]; congr 1; rw [eq_iff_iff]; omega
  | [], t => by unfold ints; cases t <;> rfl
  | a :: s, [] => by unfold ints; rfl
theorem lessI_ints (s t : List Nat) : lessI (ints s) (ints t) = lessN s t := by
  unfold lessI lessN; rw [ints_len, ints_len, lexI_ints]
theorem lexI_step {s t : List Int} {k : Nat} {a b : Int} (h : s[k]? = some a) (h' : t[k]? = some b) : lexI (s.drop k) (t.drop k) = if a = b then lexI (s.drop (k + 1)) (t.drop (k + 1)) else decide (a < b) := by rw [drop_cons h, drop_cons h', lexI]
/-- the wishes that stay -/
def leftTo (w : List GWish) (s : List Nat) : Nat → List GWish
  | 0 => []
  | k + 1 => leftTo w s k ++ (match w[k]? with | some x => if s.contains k then [] else [x] | none => [])
def leftL (w : List GWish) (s : List Nat) : List GWish := leftTo w s w.length
theorem leftTo_yes {w : List GWish} {s : List Nat} {k : Nat} {x : GWish} (hx : w[k]? = some x) (h : s.contains k = false) : leftTo w s (k + 1) = leftTo w s k ++ [x] := by rw [leftTo, hx]; dsimp only; rw [h]; rfl
theorem leftTo_no {w : List GWish} {s : List Nat} {k : Nat} {x : GWish} (hx : w[k]? = some x) (h : s.contains k = true) : leftTo w s (k + 1) = leftTo w s k := by rw [leftTo, hx]; dsimp only; rw [h]; simp
theorem leftTo_len (w : List GWish) (s : List Nat) : ∀ k, (leftTo w s k).length ≤ k
  | 0 => Nat.zero_le _
  | k + 1 => by
    have := leftTo_len w s k
    rw [leftTo, List.length_append]
    cases w[k]? with
    | none => simp; omega
    | some x => dsimp only; split <;> simp <;> omega
theorem leftTo_mem (w : List GWish) (s : List Nat) : ∀ k, ∀ x ∈ leftTo w s k, x ∈ w
  | 0, x, h => by simp [leftTo] at h
  | k + 1, x, h => by
    rw [leftTo, List.mem_append] at h
    rcases h with h | h
    · exact leftTo_mem w s k x h
    · cases hw : w[k]? with
      | none => rw [hw] at h; simp at h
      | some y =>
        rw [hw] at h; dsimp only at h
        split at h
        · simp at h
        · rw [List.mem_singleton] at h; subst h; exact List.mem_of_getElem? hw
theorem sum_const {α : Type} (f : α → Nat) {B : Nat} : ∀ {l : List α}, (∀ x ∈ l, f x ≤ B) → sumL f l ≤ B * l.length
  | [], _ => by simp [sumL]
  | x :: l, h => by
    have h1 := h x (by simp)
    have h2 := sum_const f (l := l) (fun y hy => h y (by simp [hy]))
    simp only [sumL, List.length_cons, Nat.mul_add]
    omega
theorem left_tot {w : List GWish} (h : ∀ x ∈ w, isWish x = true) (s : List Nat) (k : Nat) (hk : k ≤ 16) : totWishes (leftTo w s k) ≤ 1048576 := by
  have h1 := leftTo_len w s k
  have h2 := sum_const totWish (B := 18) (l := leftTo w s k) (fun x hx => by
    have := wish_small (h x (leftTo_mem w s k x hx))
    unfold totWish; omega)
  have h3 : 18 * (leftTo w s k).length ≤ 18 * 16 := Nat.mul_le_mul_left _ (by omega)
  unfold totWishes; omega
theorem bits_contains (m : Nat) : ∀ (n k : Nat), (bitsTo m n).contains k = (decide (k < n) && m.testBit k)
  | 0, k => by simp [bitsTo]
  | n + 1, k => by
    have := bits_contains m n k
    rw [bitsTo]
    by_cases hk : k = n
    · subst hk
      cases hb : m.testBit k
      · rw [if_neg (by simp), List.append_nil, this, hb]; simp
      · rw [if_pos rfl]; simp
    · have h1 : decide (k < n + 1) = decide (k < n) := by congr 1; rw [eq_iff_iff]; omega
      rw [h1]
      split
      · rw [← this, Bool.eq_iff_iff]; simp [hk]
      · rw [List.append_nil, this]
theorem keptTo_eq (w : List GWish) (m n : Nat) : ∀ k, k ≤ n → leftTo w (bitsTo m k) k = leftTo w (bitsTo m n) k
  | 0, _ => rfl
  | k + 1, h => by
    have aux : ∀ (s s' : List Nat) (j : Nat), (∀ i, i < j → s.contains i = s'.contains i) → leftTo w s j = leftTo w s' j := by
      intro s s' j
      induction j with
      | zero => intro _; rfl
      | succ j ih => intro hh; rw [leftTo, leftTo, ih (fun i hi => hh i (by omega)), hh j (by omega)]
    exact aux _ _ _ (fun i hi => by rw [bits_contains, bits_contains]; congr 1; rw [decide_eq_true (show i < k + 1 by omega), decide_eq_true (show i < n by omega)])
/-- a set of wishes suits: without them the item is not beaten -/
def suits (l : List GItem) (w : List GWish) (id : Int) (s : List Nat) : Bool := !parOk (leftL w s) || (bestItems l (parL (leftL w s))).contains id
def dropOk (l : List GItem) (w : List GWish) (id : Int) : Bool := parOk w && (areItems l && decide (0 ≤ findIdx l id))
def dropL (l : List GItem) (w : List GWish) (id : Int) : List Int := if dropOk l w id then ints (dropI (suits l w id) w.length (w.length + 1) 0) else []
theorem parTo_length (w : List GWish) : ∀ k, k ≤ w.length → (parTo w k).length = 2 * k - 1
  | 0, _ => rfl
  | 1, h => by
    obtain ⟨x, hx⟩ : ∃ x, w[0]? = some x := ⟨w[0], by simp [List.getElem?_eq_getElem (show 0 < w.length by omega)]⟩
    rw [parTo_one hx]; rfl
  | k + 2, h => by
    obtain ⟨x, hx⟩ : ∃ x, w[k + 1]? = some x := ⟨w[k + 1], by simp [List.getElem?_eq_getElem (show k + 1 < w.length by omega)]⟩
    have := parTo_length w (k + 1) (by omega)
    rw [parTo_more hx (by omega), List.length_append, List.length_append, this]
    simp; omega
theorem parOk_len {w : List GWish} (h : parOk w = true) : w.length ≤ 5 := by
  unfold parOk isExpr at h
  rw [Bool.and_eq_true, decide_eq_true_eq, decide_eq_true_eq] at h
  have := parTo_length w w.length (Nat.le_refl _)
  omega
theorem depth_wish : ∀ {e : List GNode} {d r : Int}, depthOf e d = some r → ∀ n ∈ e, n.op = 0 → isWish n.wish = true
  | [], _, _, _, n, hn, _ => by simp at hn
  | m :: e, d, r, h, n, hn, h0 => by
    rw [depthOf] at h
    split at h
    · rename_i hk
      rcases List.mem_cons.1 hn with h1 | h1
      · subst h1
        unfold nodeOk at hk
        simp only [Bool.and_eq_true] at hk
        have hw := hk.2.2
        rw [if_pos h0] at hw
        exact hw
      · exact depth_wish h n h1 h0
    · cases h
theorem parTo_mem (w : List GWish) : ∀ k, ∀ j x, j < k → w[j]? = some x → (⟨0, x⟩ : GNode) ∈ parTo w k
  | 0, j, x, h, _ => absurd h (Nat.not_lt_zero _)
  | k + 1, j, x, h, hx => by
    rw [parTo, List.mem_append]
    by_cases hj : j = k
    · subst hj
      right; rw [hx]; exact List.mem_cons_self
    · exact .inl (parTo_mem w k j x (by omega) hx)
theorem parOk_wishes {w : List GWish} (h : parOk w = true) : ∀ x ∈ w, isWish x = true := by
  intro x hx
  obtain ⟨j, hj⟩ := List.getElem?_of_mem hx
  have hj2 : j < w.length := (List.getElem?_eq_some_iff.1 hj).1
  unfold parOk isExpr at h
  rw [Bool.and_eq_true, decide_eq_true_eq] at h
  exact depth_wish h.1 _ (parTo_mem w w.length j x hj2 hj) rfl
theorem asc_range : ∀ n, ascN n 0 (List.range n)
  | 0 => trivial
  | n + 1 => by rw [List.range_succ]; exact ascN_snoc (asc_range n) (Nat.zero_le _)
theorem left_none (w : List GWish) : ∀ k, k ≤ w.length → leftTo w (List.range w.length) k = []
  | 0, _ => rfl
  | k + 1, h => by
    obtain ⟨x, hx⟩ : ∃ x, w[k]? = some x := ⟨w[k], by simp [List.getElem?_eq_getElem (show k < w.length by omega)]⟩
    rw [leftTo_no hx (by simp; omega), left_none w k (by omega)]
theorem suits_all (l : List GItem) (w : List GWish) (id : Int) : suits l w id (List.range w.length) = true := by
  unfold suits
  have h : leftL w (List.range w.length) = [] := left_none w _ (Nat.le_refl _)
  rw [h, show parOk [] = false from rfl]; rfl
theorem drop_both (l : List GItem) (w : List GWish) (id : Int) : foldS (suits l w id) w.length (2 ^ w.length) = some (dropI (suits l w id) w.length (w.length + 1) 0) := drop_law _ (asc_range _) (suits_all l w id)
theorem drop_len (l : List GItem) (w : List GWish) (id : Int) : (dropI (suits l w id) w.length (w.length + 1) 0).length ≤ w.length := by
  have h := (dropI_least (f := w.length + 1) (size := 0) _ (asc_range w.length) (suits_all l w id) (by rw [List.length_range]; omega) (fun u _ h => absurd h (Nat.not_lt_zero _))).1.1
  exact ascN_len h (Nat.zero_le _)
/-- the reference's own question -/
theorem free_best {l : List GItem} {e : List GNode} {id : Int} {p : GItem} (hB : areBoth l e = true) (hp : p ∈ l) (hid : p.id = id) : (bestItems l e).contains id = freeO l e p.id p := by
  have h1 : bestItems l e = bestM l e := by unfold bestItems; rw [hB]; rfl
  rw [h1, Bool.eq_iff_iff, List.contains_iff_mem]
  have hirr : beats e p p = false := by
    unfold beats; rw [(cmpBy_PO (areBoth_expr hB)).refl p (areItems_mem (areBoth_items hB) hp)]; rfl
  constructor
  · intro hm
    obtain ⟨x, hx, hxi⟩ := List.mem_map.1 (show id ∈ (l.filter (freeIn l e)).map (·.id) from hm)
    have hxp : x = p := areItems_uniq (areBoth_items hB) (List.mem_filter.1 hx).1 hp (hxi.trans hid.symm)
    subst hxp
    have hf2 := (List.mem_filter.1 hx).2
    unfold freeIn at hf2
    rw [Bool.not_eq_true', List.any_eq_false] at hf2
    unfold freeO
    rw [Bool.not_eq_true', List.any_eq_false]
    intro y hy hc
    unfold beatsO at hc
    rw [Bool.and_eq_true] at hc
    exact hf2 y hy hc.2
  · intro hf
    refine List.mem_map.2 ⟨p, List.mem_filter.2 ⟨hp, ?_⟩, hid⟩
    unfold freeO at hf
    rw [Bool.not_eq_true', List.any_eq_false] at hf
    unfold freeIn
    rw [Bool.not_eq_true', List.any_eq_false]
    intro y hy hc
    by_cases hyp : y.id = p.id
    · have : y = p := areItems_uniq (areBoth_items hB) hy hp hyp
      subst this
      rw [hirr] at hc; cases hc
    · exact hf y hy (by unfold beatsO; rw [decide_eq_true hyp, hc]; rfl)
theorem parL_expr {w : List GWish} (h : parOk w = true) : isExpr (parL w) = true := by
  unfold parOk at h
  unfold parL; rw [if_pos h]; exact h
/-- wishes in a row of the call's own; what their lists lie in is older -/
abbrev fWishesS (S : Blocks) : Fp (List GWish) := fSl 71 5 (fShS S rWish)
theorem fWishesS_read {S : Blocks} {w : World} {xs : List GWish} {v : Value} {F : List Nat} (h : fWishesS S w xs [v] F) : rWishes w (fun b => b ∈ F ∨ S b) xs [v] := by
  obtain ⟨v0, us, Fs, e, hown, hall, hFe⟩ := h
  injection e with e
  subst e
  have hl := all3_len hall
  have hus : ∀ u ∈ us, u.length = 5 := fun u hu => by obtain ⟨x, f, hr⟩ := all3_mem_us hall hu; exact hr.2
  obtain ⟨A, c, rfl, h1, h2, h3⟩ := ownsRow_rSl hown hl.1 hus
  refine ⟨A, c, rfl, h1, h2, fun k x hx => ?_⟩
  obtain ⟨u, f, hu, hf, hr⟩ := all3_at hall hx
  obtain ⟨b, rfl, hb, hc⟩ := h3 k u hu
  exact ⟨b, 0, u, rfl, .inl (by simp [hFe, hb]), hr.2, hc, rWish_good.step ⟨fun _ hb => .inr hb, fun _ _ => rfl⟩ hr.1.2.1⟩
theorem fWishesS_Rd {S : Blocks} {B : Nat} {w : World} {xs : List GWish} {v : Value} {F : List Nat} (hS : ∀ b, S b → b < B) (h : fWishesS S w xs [v] F) (hB : B ≤ w.heap.size) : Rd rWishes w xs [v] := by
  have hlt := ((fSl_good (fShS_good rWish_good hS)) : GoodF B (fWishesS S)).lt h
  exact rWishes_good.step ⟨fun b hb => hb.elim (fun h => hlt b h) (fun h => Nat.lt_of_lt_of_le (hS b h) hB), fun _ _ => rfl⟩ (fWishesS_read h)
theorem sh_wish {w W : World} {S : Blocks} (hS : ∀ b, S b → b < w.heap.size) (hB : Bw w W) {x : GWish} {A A' : Option Addr} {c c' : Nat} (h : rInts w S x.list [.slice A x.list.length c]) (h' : rPairs w S x.pairs [.slice A' x.pairs.length c']) : fShS S rWish W x [.int .i64 x.kind, .int .i64 x.field, .int .i64 x.value, .slice A x.list.length c, .slice A' x.pairs.length c'] [] := by
  refine ⟨rfl, ⟨_, _, rfl, ?_, ?_⟩, fun u hu => ?_⟩
  · exact rInts_good.step ⟨fun _ h => h, fun p hp => Below.cell hB (hS _ hp)⟩ h
  · exact rPairs_good.step ⟨fun _ h => h, fun p hp => Below.cell hB (hS _ hp)⟩ h'
  · simp at hu; rcases hu with rfl | rfl | rfl | rfl | rfl <;> rfl
theorem Only.keepsB {α : Type} {R : Fp α} {B : Nat} {F G : List Nat} {w w' : World} (h : Only F w w') (hR : GoodF B R) (hB : B ≤ w.heap.size) (hF : ∀ b ∈ F, B ≤ b) {x : α} {cs : List Value} (hx : R w x cs G) (hd : ∀ b ∈ G, b ∉ F) : R w' x cs G :=
  hR.step (fun b hb => by
    rcases hb with hb | hb
    · exact h.2 b (hR.lt hx b hb) (hd b hb)
    · exact h.2 b (by omega) (fun hf => by have := hF b hf; omega)) hx
theorem bit_is : ∀ m : Nat, m < 32 → ∀ k : Nat, k < 5 → (bits BinOp.and IntKind.i64 ((m : Int) / 2 ^ k) 1 == 1) = m.testBit k := by decide
theorem bits_yes {m k : Nat} (h : m.testBit k = true) : ints (bitsTo m (k + 1)) = ints (bitsTo m k) ++ [(k : Int)] := by rw [bitsTo, if_pos h, ints_snoc]
theorem bits_no {m k : Nat} (h : m.testBit k = false) : ints (bitsTo m (k + 1)) = ints (bitsTo m k) := by rw [bitsTo, h]; simp
theorem bits_len (m : Nat) : ∀ k, (ints (bitsTo m k)).length ≤ k
  | 0 => by simp [bitsTo, ints]
  | k + 1 => by
    have := bits_len m k
    cases h : m.testBit k
    · rw [bits_no h]; omega
    · rw [bits_yes h, List.length_append]; simp; omega
theorem kept_no {w : List GWish} {m k n : Nat} {x : GWish} (hx : w[k]? = some x) (hk : k < n) (h : m.testBit k = true) : leftTo w (bitsTo m n) (k + 1) = leftTo w (bitsTo m n) k := leftTo_no hx (by rw [bits_contains, h, decide_eq_true hk]; rfl)
theorem kept_yes {w : List GWish} {m k n : Nat} {x : GWish} (hx : w[k]? = some x) (h : m.testBit k = false) : leftTo w (bitsTo m n) (k + 1) = leftTo w (bitsTo m n) k ++ [x] := leftTo_yes hx (by rw [bits_contains, h, Bool.and_false])
end Go.Proofs.Ythlaabaffbffkaa
