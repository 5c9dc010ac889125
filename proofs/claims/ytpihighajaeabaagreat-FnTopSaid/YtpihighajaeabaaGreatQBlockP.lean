/- Best items by windows (block-nested loops): what a pass leaves. No program in sight. -/
import Derived.Test.YtpihighajaeabaaGreatQHeldF
import Derived.Test.YtpihighajaeabaaGreatQStandP
namespace Go.Proofs.YtpihighajaeabaaGreat
open Go.RowKit
set_option linter.unusedVariables false
set_option linter.unusedSimpArgs false
def stepB (e : List GNode) (win : Nat) (st : List GHeld × List GItem) (x : GItem) : List GHeld × List GItem :=
  if st.1.any (fun h => beats e h.item x) then st
  else if (st.1.filter fun h => !beats e x h.item).length < win then ((st.1.filter fun h => !beats e x h.item) ++ [⟨x, decide (st.2.length = 0)⟩], st.2)
  else (st.1.filter fun h => !beats e x h.item, st.2 ++ [x])
def passB (e : List GNode) (win : Nat) (L : List GItem) (k : Nat) : List GHeld × List GItem := (L.take k).foldl (stepB e win) ([], [])
theorem passB_succ {e : List GNode} {win : Nat} {L : List GItem} {k : Nat} {x : GItem} (h : L[k]? = some x) : passB e win L (k + 1) = stepB e win (passB e win L k) x := by
  unfold passB
  rw [List.take_add_one, h, List.foldl_append]
  rfl
def earlyB (W : List GHeld) : List GItem := (W.filter (fun h => h.early)).map (·.item)
def lateB (W : List GHeld) : List GItem := (W.filter (fun h => !h.early)).map (·.item)
structure PInv (e : List GNode) (P : List GItem) (W : List GHeld) (A : List GItem) : Prop where
  dom : ∀ z ∈ P, ∃ w, (w ∈ A ∨ ∃ h ∈ W, h.item = w) ∧ (w = z ∨ beats e w z = true)
  anti : ∀ h ∈ W, ∀ g ∈ W, beats e h.item g.item = false
  apart : ∀ h ∈ W, h.early = true → ∀ a ∈ A, beats e h.item a = false
  top : ∀ h ∈ W, h.early = true → ∀ z ∈ P, beats e z h.item = false
  subA : ∀ a ∈ A, a ∈ P
  subW : ∀ h ∈ W, h.item ∈ P
  nd : (A ++ W.map (·.item)).Nodup
  cnt : P = [] ∨ A.length + (W.filter (fun h => !h.early)).length < P.length
theorem PInv.start (e : List GNode) : PInv e [] [] [] := ⟨by simp, by simp, by simp, by simp, by simp, by simp, by simp, .inl rfl⟩
theorem PInv.step {e : List GNode} {win : Nat} {P : List GItem} {W : List GHeld} {A : List GItem} {x : GItem} (hE : isExpr e = true) (h : PInv e P W A) (hP : ∀ y ∈ P, isItem y = true) (hx : isItem x = true) (hn : x ∉ P) (hw : 1 ≤ win) :
    PInv e (P ++ [x]) (stepB e win (W, A) x).1 (stepB e win (W, A) x).2 := by
  obtain ⟨dom, anti, apart, top, subA, subW, nd, cnt⟩ := h
  have hWi : ∀ h ∈ W, isItem h.item = true := fun h hh => hP _ (subW h hh)
  have hxx := beats_irr hE hx
  have hlen : (P ++ [x]).length = P.length + 1 := by rw [List.length_append]; rfl
  unfold stepB
  dsimp only
  by_cases ha : (W.any fun h => beats e h.item x) = true
  · rw [if_pos ha]
    obtain ⟨h0, hh0, hb0⟩ := List.any_eq_true.1 ha
    refine ⟨fun z hz => ?_, anti, apart, fun h hh he z hz => ?_, fun a ha => List.mem_append_left _ (subA a ha), fun h hh => List.mem_append_left _ (subW h hh), nd, .inr ?_⟩
    · rcases List.mem_append.1 hz with hz | hz
      · exact dom z hz
      · rw [List.mem_singleton.1 hz]
        exact ⟨h0.item, .inr ⟨h0, hh0, rfl⟩, .inr hb0⟩
    · rcases List.mem_append.1 hz with hz | hz
      · exact top h hh he z hz
      · rw [List.mem_singleton.1 hz]
        cases hq : beats e x h.item with
        | false => rfl
        | true =>
          have := beats_tr hE (hWi h0 hh0) hx (hWi h hh) hb0 hq
          rw [anti h0 hh0 h hh] at this; cases this
    · rw [hlen]
      rcases cnt with rfl | cnt
      · exact absurd (subW h0 hh0) (by simp)
      · dsimp only at cnt ⊢; omega
  · rw [if_neg ha]
    have hno : ∀ h ∈ W, beats e h.item x = false := fun h hh => by
      cases hq : beats e h.item x with
      | false => rfl
      | true => exact absurd (List.any_eq_true.2 ⟨h, hh, hq⟩) ha
    obtain ⟨I, hI⟩ : ∃ I, I = W.filter fun h => !beats e x h.item := ⟨_, rfl⟩
    rw [← hI]
    have hin : ∀ {h}, h ∈ I → h ∈ W ∧ beats e x h.item = false := fun {h} hh => by
      rw [hI] at hh
      obtain ⟨h1, h2⟩ := List.mem_filter.1 hh
      exact ⟨h1, by simpa using h2⟩
    have hout : ∀ {h}, h ∈ W → h ∈ I ∨ beats e x h.item = true := fun {h} hh => by
      cases hq : beats e x h.item with
      | true => exact .inr rfl
      | false => exact .inl (by rw [hI]; exact List.mem_filter.2 ⟨hh, by rw [hq]; rfl⟩)
    have hsub : I.Sublist W := by rw [hI]; exact List.filter_sublist
    have hlate : (I.filter (fun h => !h.early)).length ≤ (W.filter (fun h => !h.early)).length := (hsub.filter _).length_le
    have hnA : x ∉ A := fun hh => hn (subA x hh)
    have hnW : x ∉ W.map (·.item) := fun hh => by
      obtain ⟨h, h1, h2⟩ := List.mem_map.1 hh
      exact hn (h2 ▸ subW h h1)
    have hnI : x ∉ I.map (·.item) := fun hh => hnW ((hsub.map _).subset hh)
    have ndA := (List.nodup_append.1 nd).1
    have ndW := (List.nodup_append.1 nd).2.1
    have ndD := (List.nodup_append.1 nd).2.2
    have ndI : (I.map (·.item)).Nodup := ndW.sublist (hsub.map _)
    have htop : ∀ h ∈ I, h.early = true → ∀ z ∈ P ++ [x], beats e z h.item = false := fun h hh he z hz => by
      rcases List.mem_append.1 hz with hz | hz
      · exact top h (hin hh).1 he z hz
      · rw [List.mem_singleton.1 hz]; exact (hin hh).2
    have hdom : ∀ z ∈ P, (∃ w, (w ∈ A ∨ ∃ h ∈ I, h.item = w) ∧ (w = z ∨ beats e w z = true)) ∨ beats e x z = true := fun z hz => by
      obtain ⟨w, hw1, hw2⟩ := dom z hz
      rcases hw1 with hw1 | ⟨h, hh, rfl⟩
      · exact .inl ⟨w, .inl hw1, hw2⟩
      · rcases hout hh with hi | hb
        · exact .inl ⟨_, .inr ⟨h, hi, rfl⟩, hw2⟩
        · rcases hw2 with rfl | hw2
          · exact .inr hb
          · exact .inr (beats_tr hE hx (hWi h hh) (hP z hz) hb hw2)
    by_cases hlt : I.length < win
    · rw [if_pos hlt]
      refine ⟨fun z hz => ?_, fun h hh g hg => ?_, fun h hh he a ha => ?_, fun h hh he z hz => ?_, fun a ha => List.mem_append_left _ (subA a ha), fun h hh => ?_, ?_, .inr ?_⟩
      · rcases List.mem_append.1 hz with hz | hz
        · rcases hdom z hz with ⟨w, hw1, hw2⟩ | hb
          · refine ⟨w, hw1.imp id (fun ⟨h, h1, h2⟩ => ⟨h, List.mem_append_left _ h1, h2⟩), hw2⟩
          · exact ⟨x, .inr ⟨_, List.mem_append_right _ (List.mem_singleton.2 rfl), rfl⟩, .inr hb⟩
        · exact ⟨x, .inr ⟨_, List.mem_append_right _ (List.mem_singleton.2 rfl), rfl⟩, .inl (List.mem_singleton.1 hz).symm⟩
      · rcases List.mem_append.1 hh with hh | hh
        · rcases List.mem_append.1 hg with hg | hg
          · exact anti h (hin hh).1 g (hin hg).1
          · rw [List.mem_singleton.1 hg]; exact hno h (hin hh).1
        · rw [List.mem_singleton.1 hh]
          rcases List.mem_append.1 hg with hg | hg
          · exact (hin hg).2
          · rw [List.mem_singleton.1 hg]; exact hxx
      · rcases List.mem_append.1 hh with hh | hh
        · exact apart h (hin hh).1 he a ha
        · rw [List.mem_singleton.1 hh] at he
          have : A.length = 0 := by simpa using he
          rw [List.length_eq_zero_iff.1 this] at ha
          cases ha
      · rcases List.mem_append.1 hh with hh | hh
        · exact htop h hh he z hz
        · rw [List.mem_singleton.1 hh] at he ⊢
          have hA0 : A = [] := List.length_eq_zero_iff.1 (by simpa using he)
          dsimp only
          rcases List.mem_append.1 hz with hz | hz
          · cases hq : beats e z x with
            | false => rfl
            | true =>
              obtain ⟨w, hw1, hw2⟩ := dom z hz
              rcases hw1 with hw1 | ⟨h', hh', rfl⟩
              · rw [hA0] at hw1; cases hw1
              · rcases hw2 with rfl | hw2
                · rw [hno h' hh'] at hq; cases hq
                · have := beats_tr hE (hWi h' hh') (hP z hz) hx hw2 hq
                  rw [hno h' hh'] at this; cases this
          · rw [List.mem_singleton.1 hz]; exact hxx
      · rcases List.mem_append.1 hh with hh | hh
        · exact List.mem_append_left _ (subW h (hin hh).1)
        · rw [List.mem_singleton.1 hh]; exact List.mem_append_right _ (List.mem_singleton.2 rfl)
      · rw [List.map_append]
        refine List.nodup_append.2 ⟨ndA, List.nodup_append.2 ⟨ndI, by simp, fun a hma b hb hab => ?_⟩, fun a hma b hb hab => ?_⟩
        · rw [List.map_cons, List.map_nil, List.mem_singleton] at hb; have hbx : b = x := hb; exact hnI (by rw [← hbx, ← hab]; exact hma)
        · rcases List.mem_append.1 hb with hb | hb
          · exact ndD a hma b ((hsub.map _).subset hb) hab
          · rw [List.map_cons, List.map_nil, List.mem_singleton] at hb; have hbx : b = x := hb; exact hnA (by rw [← hbx, ← hab]; exact hma)
      · rw [hlen, List.filter_append, List.length_append]
        have h1 : ([(⟨x, decide (A.length = 0)⟩ : GHeld)].filter (fun h => !h.early)).length ≤ 1 := List.length_filter_le _ _
        rcases cnt with rfl | cnt
        · have hA0 : A = [] := List.eq_nil_iff_forall_not_mem.2 (fun a ha => by have := subA a ha; simp at this)
          have hW0 : W = [] := List.eq_nil_iff_forall_not_mem.2 (fun a ha => by have := subW a ha; simp at this)
          subst hA0
          have hI0 : I = [] := by rw [hI, hW0]; rfl
          rw [hI0]
          simp
        · dsimp only at cnt hlate ⊢; omega
    · rw [if_neg hlt]
      have hWne : ∃ h, h ∈ W := by
        cases hi : I with
        | nil => rw [hi] at hlt; simp at hlt; omega
        | cons h t => exact ⟨h, (hin (by rw [hi]; simp)).1⟩
      refine ⟨fun z hz => ?_, fun h hh g hg => anti h (hin hh).1 g (hin hg).1, fun h hh he a ha => ?_, htop, fun a ha => ?_, fun h hh => List.mem_append_left _ (subW h (hin hh).1), ?_, .inr ?_⟩
      · rcases List.mem_append.1 hz with hz | hz
        · rcases hdom z hz with ⟨w, hw1, hw2⟩ | hb
          · exact ⟨w, hw1.imp (fun h => List.mem_append_left _ h) id, hw2⟩
          · exact ⟨x, .inl (List.mem_append_right _ (List.mem_singleton.2 rfl)), .inr hb⟩
        · exact ⟨x, .inl (List.mem_append_right _ (List.mem_singleton.2 rfl)), .inl (List.mem_singleton.1 hz).symm⟩
      · rcases List.mem_append.1 ha with ha | ha
        · exact apart h (hin hh).1 he a ha
        · rw [List.mem_singleton.1 ha]; exact hno h (hin hh).1
      · rcases List.mem_append.1 ha with ha | ha
        · exact List.mem_append_left _ (subA a ha)
        · exact List.mem_append_right _ ha
      · refine List.nodup_append.2 ⟨List.nodup_append.2 ⟨ndA, by simp, fun a hma b hb hab => ?_⟩, ndI, fun a hma b hb hab => ?_⟩
        · rw [List.mem_singleton] at hb; have hbx : b = x := hb; exact hnA (by rw [← hbx, ← hab]; exact hma)
        · rcases List.mem_append.1 hma with hma | hma
          · exact ndD a hma b ((hsub.map _).subset hb) hab
          · rw [List.mem_singleton] at hma; exact hnI (by rw [← hma, hab]; exact hb)
      · rw [hlen, List.length_append]
        obtain ⟨h, hh⟩ := hWne
        rcases cnt with rfl | cnt
        · exact absurd (subW h hh) (by simp)
        · dsimp only at cnt hlate ⊢; simp; omega
theorem passB_inv {e : List GNode} {win : Nat} {L : List GItem} (hE : isExpr e = true) (hL : ∀ y ∈ L, isItem y = true) (hN : L.Nodup) (hw : 1 ≤ win) : ∀ k, k ≤ L.length → PInv e (L.take k) (passB e win L k).1 (passB e win L k).2
  | 0, _ => PInv.start e
  | k + 1, hk => by
    obtain ⟨x, hx⟩ : ∃ x, L[k]? = some x := ⟨_, List.getElem?_eq_getElem (by omega)⟩
    have ih := passB_inv (win := win) hE hL hN hw k (by omega)
    rw [passB_succ hx, List.take_add_one, hx]
    refine PInv.step hE ih (fun y hy => hL y (List.mem_of_mem_take hy)) (hL x (List.mem_of_getElem? hx)) (fun hm => ?_) hw
    obtain ⟨j, hj⟩ := List.mem_iff_getElem?.1 hm
    rw [List.getElem?_take] at hj
    split at hj
    · rename_i hjk
      have := (List.getElem?_inj (show j < L.length by omega) hN).1 (hj.trans hx.symm)
      omega
    · cases hj
/-- what has been put out, and what is left to be looked at -/
structure BInv (l : List GItem) (e : List GNode) (O L : List GItem) : Prop where
  free : ∀ x ∈ O, x ∈ l ∧ Free l e x
  all : ∀ m ∈ l, Free l e m → m ∈ O ∨ m ∈ L
  sub : ∀ x ∈ L, x ∈ l
  nd : (O ++ L).Nodup
  apart : ∀ o ∈ O, ∀ x ∈ L, beats e o x = false
theorem items_nodup {l : List GItem} (h : areItems l = true) : l.Nodup := (items_sorted h).imp (fun h e => by rw [e] at h; omega)
theorem BInv.start {l : List GItem} (e : List GNode) (h : areItems l = true) : BInv l e [] l := ⟨by simp, fun m hm _ => .inr hm, fun _ h => h, items_nodup h, by simp⟩
theorem early_late (A : List GItem) (W : List GHeld) : (earlyB W ++ (A ++ lateB W)).Perm (A ++ W.map (·.item)) := by
  have h1 : (earlyB W ++ lateB W).Perm (W.map (·.item)) := by
    unfold earlyB lateB
    rw [← List.map_append]
    exact (List.filter_append_perm _ W).map _
  refine List.Perm.trans ?_ (h1.append_left A)
  rw [← List.append_assoc, ← List.append_assoc]
  exact List.perm_append_comm.append_right _
theorem BInv.next {l : List GItem} {e : List GNode} {O L : List GItem} {W : List GHeld} {A : List GItem} (hE : isExpr e = true) (hI : areItems l = true) (h : BInv l e O L) (hp : PInv e L W A) : BInv l e (O ++ earlyB W) (A ++ lateB W) := by
  have hl : ∀ x ∈ l, isItem x = true := fun x hx => areItems_mem hI hx
  have memE : ∀ {x}, x ∈ earlyB W → ∃ h ∈ W, h.early = true ∧ h.item = x := fun {x} hx => by
    obtain ⟨h, h1, h2⟩ := List.mem_map.1 hx
    obtain ⟨h3, h4⟩ := List.mem_filter.1 h1
    exact ⟨h, h3, h4, h2⟩
  have memL : ∀ {x}, x ∈ lateB W → ∃ h ∈ W, h.item = x := fun {x} hx => by
    obtain ⟨h, h1, h2⟩ := List.mem_map.1 hx
    exact ⟨h, (List.mem_filter.1 h1).1, h2⟩
  have memA : ∀ {x}, x ∈ A ++ lateB W → x ∈ L := fun {x} hx => by
    rcases List.mem_append.1 hx with hx | hx
    · exact hp.subA x hx
    · obtain ⟨h, h1, rfl⟩ := memL hx
      exact hp.subW h h1
  refine ⟨fun x hx => ?_, fun m hm hf => ?_, fun x hx => h.sub x (memA hx), ?_, fun o ho x hx => ?_⟩
  · rcases List.mem_append.1 hx with hx | hx
    · exact h.free x hx
    · obtain ⟨g, hg, he, rfl⟩ := memE hx
      have hgl := h.sub _ (hp.subW g hg)
      refine ⟨hgl, Classical.byContradiction fun hnf => ?_⟩
      obtain ⟨m, hm, hmf, hmb⟩ := beaten_top hE hl (hl _ hgl) hnf
      rcases h.all m hm hmf with ho | hL
      · rw [h.apart m ho _ (hp.subW g hg)] at hmb; cases hmb
      · rw [hp.top g hg he m hL] at hmb; cases hmb
  · rcases h.all m hm hf with ho | hL
    · exact .inl (List.mem_append_left _ ho)
    · obtain ⟨w, hw1, hw2⟩ := hp.dom m hL
      have hwl : w ∈ l := by
        rcases hw1 with hw1 | ⟨g, hg, rfl⟩
        · exact h.sub _ (hp.subA w hw1)
        · exact h.sub _ (hp.subW g hg)
      have hwm : w = m := hw2.resolve_right (fun hb => by rw [hf w hwl] at hb; cases hb)
      subst hwm
      rcases hw1 with hw1 | ⟨g, hg, rfl⟩
      · exact .inr (List.mem_append_left _ hw1)
      · cases he : g.early with
        | true => exact .inl (List.mem_append_right _ (List.mem_map.2 ⟨g, List.mem_filter.2 ⟨hg, he⟩, rfl⟩))
        | false => exact .inr (List.mem_append_right _ (List.mem_map.2 ⟨g, List.mem_filter.2 ⟨hg, by rw [he]; rfl⟩, rfl⟩))
  · rw [List.append_assoc]
    have h1 := List.nodup_append.1 h.nd
    refine List.nodup_append.2 ⟨h1.1, (early_late A W).nodup_iff.2 hp.nd, fun a ha b hb hab => ?_⟩
    have hbL : b ∈ L := by
      rcases List.mem_append.1 hb with hb | hb
      · obtain ⟨g, hg, _, rfl⟩ := memE hb
        exact hp.subW g hg
      · exact memA hb
    exact h1.2.2 a ha b hbL hab
  · rcases List.mem_append.1 ho with ho | ho
    · exact h.apart o ho x (memA hx)
    · obtain ⟨g, hg, he, rfl⟩ := memE ho
      rcases List.mem_append.1 hx with hx | hx
      · exact hp.apart g hg he x hx
      · obtain ⟨g2, hg2, rfl⟩ := memL hx
        exact hp.anti g hg g2 hg2
theorem PInv.less {e : List GNode} {L : List GItem} {W : List GHeld} {A : List GItem} (hp : PInv e L W A) (hL : 0 < L.length) : (A ++ lateB W).length < L.length := by
  unfold lateB
  rw [List.length_append, List.length_map]
  rcases hp.cnt with rfl | h
  · simp at hL
  · exact h
theorem BInv.done {l : List GItem} {e : List GNode} {O : List GItem} (hI : areItems l = true) (h : BInv l e O []) : sortI (O.map (·.id)) = bestM l e := by
  have hnd : (O.map (·.id)).Nodup := by
    have h1 : O.Nodup := by have := h.nd; rwa [List.append_nil] at this
    refine List.pairwise_map.2 (h1.imp_of_mem (fun {a b} ha hb hab e => hab ?_))
    exact areItems_uniq hI (h.free a ha).1 (h.free b hb).1 e
  refine asc_ext (sort_asc hnd) (bestM_asc e hI) (fun v => ?_)
  rw [sort_mem, bestM_iff, List.mem_map]
  constructor
  · rintro ⟨y, hy, rfl⟩
    exact ⟨y, (h.free y hy).1, (h.free y hy).2, rfl⟩
  · rintro ⟨y, hy, hf, rfl⟩
    exact ⟨y, (h.all y hy hf).resolve_right (by simp), rfl⟩
theorem BInv.len {l : List GItem} {e : List GNode} {O L : List GItem} (h : BInv l e O L) : O.length + L.length ≤ l.length := by
  rw [← List.length_append]
  exact h.nd.length_le_of_subset (fun x hx => by
    rcases List.mem_append.1 hx with hx | hx
    · exact (h.free x hx).1
    · exact h.sub x hx)
end Go.Proofs.YtpihighajaeabaaGreat
