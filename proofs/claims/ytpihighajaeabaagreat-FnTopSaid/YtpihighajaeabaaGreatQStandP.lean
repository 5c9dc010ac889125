/- A standing answer stays right when items come and go; exclusive regions do not overlap. No program in sight. -/
import Derived.Test.YtpihighajaeabaaGreatQDelM
import Derived.Test.YtpihighajaeabaaGreatQSortL
import Derived.Test.YtpihighajaeabaaGreatQCompI
namespace Go.Proofs.YtpihighajaeabaaGreat
open Go.RowKit
set_option linter.unusedVariables false
theorem topOf {α : Type} {r : α → α → Prop} : ∀ {l : List α}, l ≠ [] → (∀ x ∈ l, ¬ r x x) → (∀ x ∈ l, ∀ y ∈ l, ∀ z ∈ l, r x y → r y z → r x z) → ∃ m ∈ l, ∀ y ∈ l, ¬ r y m
  | [], hl, _, _ => absurd rfl hl
  | x :: l, _, hi, ht => by
    by_cases hl : l = []
    · subst hl
      exact ⟨x, by simp, fun y hy => by rw [List.mem_singleton] at hy; rw [hy]; exact hi x (by simp)⟩
    · obtain ⟨m, hm, htop⟩ := topOf (r := r) hl (fun y hy => hi y (by simp [hy])) (fun a ha b hb c hc => ht a (by simp [ha]) b (by simp [hb]) c (by simp [hc]))
      by_cases hb : r x m
      · refine ⟨x, by simp, fun y hy he => ?_⟩
        rcases List.mem_cons.1 hy with rfl | hy
        · exact hi _ (by simp) he
        · exact htop y hy (ht y (by simp [hy]) x (by simp) m (by simp [hm]) he hb)
      · exact ⟨m, by simp [hm], fun y hy => by
          rcases List.mem_cons.1 hy with rfl | hy
          · exact hb
          · exact htop y hy⟩
theorem asc_ext {a b : List Int} (ha : a.Pairwise (· < ·)) (hb : b.Pairwise (· < ·)) (h : ∀ v, v ∈ a ↔ v ∈ b) : a = b := by
  have na : a.Nodup := ha.imp (fun h => by omega)
  have nb : b.Nodup := hb.imp (fun h => by omega)
  have hp : a.Perm b := (List.perm_ext_iff_of_nodup na nb).2 h
  exact List.Perm.eq_of_pairwise (le := fun x y : Int => x < y) (fun x y _ _ h1 h2 => by omega) ha hb hp
theorem sort_asc {l : List Int} (h : l.Nodup) : (sortI l).Pairwise (· < ·) := by
  have h1 := sortI_sorted l
  have h2 : (sortI l).Nodup := (sortI_perm l).nodup_iff.2 h
  exact h1.imp₂ (fun h3 h4 => by omega) h2
theorem sort_mem {l : List Int} {v : Int} : v ∈ sortI l ↔ v ∈ l := (sortI_perm l).mem_iff
theorem bestM_asc {l : List GItem} (e : List GNode) (h : areItems l = true) : (bestM l e).Pairwise (· < ·) := by
  unfold bestM
  exact List.pairwise_map.2 ((items_sorted h).sublist List.filter_sublist)
/-- nothing in the list beats it -/
def Free (l : List GItem) (e : List GNode) (y : GItem) : Prop := ∀ z ∈ l, beats e z y = false
theorem free_iff {l : List GItem} {e : List GNode} {y : GItem} : freeIn l e y = true ↔ Free l e y := by
  unfold freeIn Free
  rw [Bool.not_eq_true', List.any_eq_false]
  exact ⟨fun h z hz => by simpa using h z hz, fun h z hz => by simp [h z hz]⟩
theorem bestM_iff {l : List GItem} {e : List GNode} {v : Int} : v ∈ bestM l e ↔ ∃ y ∈ l, Free l e y ∧ y.id = v := by
  unfold bestM
  rw [List.mem_map]
  constructor
  · rintro ⟨y, hy, rfl⟩
    obtain ⟨h1, h2⟩ := List.mem_filter.1 hy
    exact ⟨y, h1, free_iff.1 h2, rfl⟩
  · rintro ⟨y, h1, h2, rfl⟩
    exact ⟨y, List.mem_filter.2 ⟨h1, free_iff.2 h2⟩, rfl⟩
section
variable {e : List GNode} (hE : isExpr e = true)
include hE
theorem beats_tr {x y z : GItem} (hx : isItem x = true) (hy : isItem y = true) (hz : isItem z = true) (h1 : beats e x y = true) (h2 : beats e y z = true) : beats e x z = true := by
  unfold beats at h1 h2 ⊢
  rw [decide_eq_true_eq] at h1 h2 ⊢
  rw [(cmpBy_PO hE).tr x y z hx hy hz (by omega) (by omega) (by omega) (by omega), h1, h2]; rfl
theorem beats_irr {x : GItem} (hx : isItem x = true) : beats e x x = false := by
  unfold beats; rw [(cmpBy_PO hE).refl x hx]; rfl
/-- what is beaten is beaten by one that nothing beats -/
theorem beaten_top {l : List GItem} (hl : ∀ x ∈ l, isItem x = true) {y : GItem} (hy : isItem y = true) (h : ¬ Free l e y) : ∃ m ∈ l, Free l e m ∧ beats e m y = true := by
  have hne : (l.filter fun z => beats e z y) ≠ [] := fun hn => by
    apply h
    intro z hz
    have := List.filter_eq_nil_iff.1 hn z hz
    simpa using this
  obtain ⟨m, hm, ht⟩ := topOf (r := fun a b => beats e a b = true) hne
    (fun x hx => by rw [beats_irr hE (hl x (List.mem_filter.1 hx).1)]; simp)
    (fun x hx y hy z hz h1 h2 => beats_tr hE (hl x (List.mem_filter.1 hx).1) (hl y (List.mem_filter.1 hy).1) (hl z (List.mem_filter.1 hz).1) h1 h2)
  obtain ⟨hm1, hm2⟩ := List.mem_filter.1 hm
  refine ⟨m, hm1, fun z hz => ?_, hm2⟩
  cases hb : beats e z m with
  | false => rfl
  | true =>
    have h3 : beats e z y = true := beats_tr hE (hl z hz) (hl m hm1) hy hb hm2
    exact absurd hb (ht z (List.mem_filter.2 ⟨hz, h3⟩))
end
theorem put_iff {l : List GItem} {x z : GItem} : z ∈ putM l x ↔ z ∈ l ∨ z = x := by
  rw [(putM_perm l x).mem_iff]; simp
theorem stand_mk {y : GStanding} (h1 : areItems y.items = true) (h2 : isExpr y.wanted = true) (h3 : y.best = bestM y.items y.wanted) (h4 : 0 ≤ y.tests ∧ y.tests ≤ 1000000) : isStand y = true := by
  unfold isStand areBoth
  rw [h1, h2, decide_eq_true h3]
  have : inB y.tests 0 1000000 = true := inB_iff.2 h4
  rw [this]; rfl
/-! ### one more item -/
section
variable {s : GStanding} {x : GItem} (h : insOk s x = true)
include h
theorem ins_are : areItems (putM s.items x) = true := by
  obtain ⟨h1, h2, h3, h4, h5⟩ := insOk_parts h
  obtain ⟨hB, hb⟩ := stand_both h1
  have hn := find_none h3
  refine areItems_of (fun y hy => ?_) (putM_sorted (items_sorted (areBoth_items hB)) hn) (by rw [putM_len]; omega)
  rcases put_iff.1 hy with hy | rfl
  · exact areItems_mem (areBoth_items hB) hy
  · exact h2
theorem ins_beat_iff : beatTo s x s.best.length = true ↔ ¬ Free s.items s.wanted x := by
  obtain ⟨h1, h2, h3, h4, h5⟩ := insOk_parts h
  obtain ⟨hB, hb⟩ := stand_both h1
  have hI := areBoth_items hB
  unfold beatTo
  rw [List.take_length, List.any_eq_true]
  constructor
  · rintro ⟨id, hid, hc⟩ hf
    rw [decide_eq_true_eq] at hc
    rw [hb] at hid
    obtain ⟨y, hy, _, rfl⟩ := bestM_iff.1 hid
    rw [itemAt_mem hI hy] at hc
    have := hf y hy
    unfold beats at this
    rw [decide_eq_false_iff_not] at this
    exact this hc
  · intro hf
    obtain ⟨m, hm, hmf, hmb⟩ := beaten_top (areBoth_expr hB) (fun z hz => areItems_mem hI hz) h2 hf
    refine ⟨m.id, by rw [hb]; exact bestM_iff.2 ⟨m, hm, hmf, rfl⟩, ?_⟩
    rw [itemAt_mem hI hm]
    unfold beats at hmb
    exact hmb
theorem ins_stand : isStand (insertS s x) = true := by
  obtain ⟨h1, h2, h3, h4, h5⟩ := insOk_parts h
  obtain ⟨hB, hb⟩ := stand_both h1
  have hI := areBoth_items hB
  have hE := areBoth_expr hB
  have hn := find_none h3
  have hbl := stand_best_len h1
  have ht := stand_tests h1
  have hA := ins_are h
  refine stand_mk (by exact hA) (by exact hE) ?_ (by show 0 ≤ s.tests + (s.best.length : Int) ∧ s.tests + (s.best.length : Int) ≤ 1000000; omega)
  show (if beatTo s x s.best.length then s.best else sortI (keptTo s x s.best.length ++ [x.id])) = bestM (putM s.items x) s.wanted
  have hxx := beats_irr hE h2
  cases hbt : beatTo s x s.best.length with
  | true =>
    rw [if_pos rfl]
    have hnf := (ins_beat_iff h).1 hbt
    obtain ⟨m, hm, hmf, hmb⟩ := beaten_top hE (fun z hz => areItems_mem hI hz) h2 hnf
    refine asc_ext (by rw [hb]; exact bestM_asc _ hI) (bestM_asc _ hA) (fun v => ?_)
    rw [hb, bestM_iff, bestM_iff]
    constructor
    · rintro ⟨y, hy, hf, rfl⟩
      refine ⟨y, put_iff.2 (.inl hy), fun z hz => ?_, rfl⟩
      rcases put_iff.1 hz with hz | rfl
      · exact hf z hz
      · cases hq : beats s.wanted z y with
        | false => rfl
        | true =>
          have := beats_tr hE (areItems_mem hI hm) h2 (areItems_mem hI hy) hmb hq
          rw [hf m hm] at this; cases this
    · rintro ⟨y, hy, hf, rfl⟩
      rcases put_iff.1 hy with hy | rfl
      · exact ⟨y, hy, fun z hz => hf z (put_iff.2 (.inl hz)), rfl⟩
      · have := hf m (put_iff.2 (.inl hm))
        rw [hmb] at this; cases this
  | false =>
    rw [if_neg (by simp)]
    have hfree : Free s.items s.wanted x := by
      by_cases hq : Free s.items s.wanted x
      · exact hq
      · have := (ins_beat_iff h).2 hq; rw [hbt] at this; cases this
    have hkm : ∀ v, v ∈ keptTo s x s.best.length ↔ ∃ y ∈ s.items, Free s.items s.wanted y ∧ beats s.wanted x y = false ∧ y.id = v := by
      intro v
      unfold keptTo
      rw [List.take_length, List.mem_filter, hb, bestM_iff]
      have key : ∀ y ∈ s.items, ((!decide (cmpBy s.wanted (itemAt s.items y.id) x = -1)) = true ↔ beats s.wanted x y = false) := by
        intro y hy
        rw [itemAt_mem hI hy]
        have ha := (cmpBy_PO hE).anti x y h2 (areItems_mem hI hy)
        have hc := (cmpBy_PO hE).code x y
        unfold beats
        rw [decide_eq_false_iff_not, Bool.not_eq_true', decide_eq_false_iff_not, ha]
        unfold neg2
        split <;> constructor <;> intro hh <;> omega
      constructor
      · rintro ⟨⟨y, hy, hf, rfl⟩, hk⟩
        exact ⟨y, hy, hf, (key y hy).1 hk, rfl⟩
      · rintro ⟨y, hy, hf, hk, rfl⟩
        exact ⟨⟨y, hy, hf, rfl⟩, (key y hy).2 hk⟩
    have hnd : (keptTo s x s.best.length ++ [x.id]).Nodup := by
      rw [List.nodup_append]
      refine ⟨?_, by simp, fun a ha b hb2 eab => ?_⟩
      · unfold keptTo
        rw [List.take_length]
        exact (best_nodup h1).sublist List.filter_sublist
      · rw [List.mem_singleton] at hb2
        obtain ⟨y, hy, _, _, e⟩ := (hkm a).1 ha
        exact hn y hy (by rw [e, eab, hb2])
    refine asc_ext (sort_asc hnd) (bestM_asc _ hA) (fun v => ?_)
    rw [sort_mem, List.mem_append, hkm, List.mem_singleton, bestM_iff]
    constructor
    · rintro (⟨y, hy, hf, hk, rfl⟩ | rfl)
      · refine ⟨y, put_iff.2 (.inl hy), fun z hz => ?_, rfl⟩
        rcases put_iff.1 hz with hz | rfl
        · exact hf z hz
        · exact hk
      · refine ⟨x, put_iff.2 (.inr rfl), fun z hz => ?_, rfl⟩
        rcases put_iff.1 hz with hz | rfl
        · exact hfree z hz
        · exact hxx
    · rintro ⟨y, hy, hf, rfl⟩
      rcases put_iff.1 hy with hy | rfl
      · exact .inl ⟨y, hy, fun z hz => hf z (put_iff.2 (.inl hz)), hf x (put_iff.2 (.inr rfl)), rfl⟩
      · exact .inr rfl
end
theorem insM_stand {s : GStanding} {x : GItem} (h : insOk s x = true) : isStand (insM s x) = true := by unfold insM; rw [if_pos h]; exact ins_stand h
/-! ### one item less -/
theorem only_iff {l : List GItem} {id : Int} {y : GItem} : y ∈ onlyM l [id] false ↔ y ∈ l ∧ y.id ≠ id := by
  unfold onlyM
  rw [List.mem_filter]
  simp
theorem excl_iff {s : GStanding} (h : isStand s = true) {id v : Int} : v ∈ exclM s id ↔ id ∈ s.best ∧ ∃ y ∈ s.items, beats s.wanted (itemAt s.items id) y = true ∧ (∀ b ∈ s.best, b = id ∨ beats s.wanted (itemAt s.items b) y = false) ∧ y.id = v := by
  by_cases hid : id ∈ s.best
  · rw [excl_yes h (List.contains_iff_mem.2 hid)]
    unfold idsOf exIn
    rw [List.mem_map]
    constructor
    · rintro ⟨y, hy, rfl⟩
      obtain ⟨h1, h2⟩ := List.mem_filter.1 hy
      rw [Bool.and_eq_true, List.all_eq_true] at h2
      exact ⟨hid, y, h1, h2.1, fun b hb => by simpa using h2.2 b hb, rfl⟩
    · rintro ⟨_, y, h1, h2, h3, rfl⟩
      refine ⟨y, List.mem_filter.2 ⟨h1, ?_⟩, rfl⟩
      rw [Bool.and_eq_true, List.all_eq_true]
      exact ⟨h2, fun b hb => by simpa using h3 b hb⟩
  · rw [excl_no (by rw [h, Bool.true_and]; simpa using hid)]
    simp [hid]
section
variable {s : GStanding} {id : Int} (h : delOk s id = true)
include h
theorem del_stand : isStand (delS s id) = true := by
  obtain ⟨h1, h2, h3⟩ := delOk_parts h
  obtain ⟨hB, hb⟩ := stand_both h1
  have hI := areBoth_items hB
  have hE := areBoth_expr hB
  have ht := stand_tests h1
  have hA := onlyM_items hI [id] false
  have hIt : ∀ z ∈ s.items, isItem z = true := fun z hz => areItems_mem hI hz
  have hIo : ∀ z ∈ onlyM s.items [id] false, isItem z = true := fun z hz => hIt z (only_iff.1 hz).1
  obtain ⟨p, hp, hpid⟩ : ∃ p ∈ s.items, p.id = id := by
    rcases findIdx_cases s.items id with ⟨hf, _⟩ | ⟨j, y, _, hj, e⟩
    · omega
    · exact ⟨y, List.mem_of_getElem? hj, e⟩
  have hpi : itemAt s.items id = p := by rw [← hpid]; exact itemAt_mem hI hp
  have hother : ∀ y ∈ s.items, y.id = id → y = p := fun y hy e => same_id hI hy hp (e.trans hpid.symm)
  unfold delS
  by_cases hin : s.best.contains id = true
  · rw [if_pos hin]
    have hin' : id ∈ s.best := List.contains_iff_mem.1 hin
    have hexl : (exclM s id).length ≤ 16 := Nat.le_trans (exclM_len s id trivial) (areItems_len hI)
    refine stand_mk (by exact hA) (by exact hE) ?_ (by show 0 ≤ s.tests + ((exclM s id).length : Int) ∧ s.tests + ((exclM s id).length : Int) ≤ 1000000; omega)
    show sortI (delLeft s id ++ delNew s id) = bestM (onlyM s.items [id] false) s.wanted
    have hleft : ∀ v, v ∈ delLeft s id ↔ ∃ y ∈ s.items, Free s.items s.wanted y ∧ y.id ≠ id ∧ y.id = v := by
      intro v
      unfold delLeft
      rw [List.mem_filter, hb, bestM_iff]
      constructor
      · rintro ⟨⟨y, hy, hf, rfl⟩, hk⟩
        exact ⟨y, hy, hf, by simpa using hk, rfl⟩
      · rintro ⟨y, hy, hf, hk, rfl⟩
        exact ⟨⟨y, hy, hf, rfl⟩, by simpa using hk⟩
    have hex : ∀ y, (y ∈ onlyM s.items (exclM s id) true ↔ y ∈ s.items ∧ beats s.wanted p y = true ∧ ∀ b ∈ s.best, b = id ∨ beats s.wanted (itemAt s.items b) y = false) := by
      intro y
      unfold onlyM
      rw [List.mem_filter]
      have e1 : ((exclM s id).contains y.id == true) = (exclM s id).contains y.id := by simp
      rw [e1, List.contains_iff_mem, excl_iff h1, hpi]
      constructor
      · rintro ⟨hy, _, z, hz, h4, h5, e⟩
        obtain rfl := same_id hI hz hy e
        exact ⟨hy, h4, h5⟩
      · rintro ⟨hy, h4, h5⟩
        exact ⟨hy, hin', y, hy, h4, h5, rfl⟩
    have hpp := beats_irr hE (hIt p hp)
    have hnew : ∀ v, v ∈ delNew s id ↔ ∃ y ∈ onlyM s.items (exclM s id) true, Free (onlyM s.items (exclM s id) true) s.wanted y ∧ y.id = v := fun v => bestM_iff
    have hexo : ∀ y ∈ onlyM s.items (exclM s id) true, y ∈ onlyM s.items [id] false := fun y hy => by
      obtain ⟨h4, h5, _⟩ := (hex y).1 hy
      refine only_iff.2 ⟨h4, fun e => ?_⟩
      rw [hother y h4 e, hpp] at h5; cases h5
    -- a free one of the smaller list that is not free in the whole one is beaten by p alone
    have hkey : ∀ y ∈ onlyM s.items [id] false, Free (onlyM s.items [id] false) s.wanted y → ¬ Free s.items s.wanted y → y ∈ onlyM s.items (exclM s id) true := by
      intro y hy hf hnf
      have hys := (only_iff.1 hy).1
      refine (hex y).2 ⟨hys, ?_, fun b hb2 => ?_⟩
      · obtain ⟨m, hm, _, hmb⟩ := beaten_top hE hIt (hIt y hys) hnf
        by_cases hmid : m.id = id
        · rw [← hother m hm hmid]; exact hmb
        · rw [hf m (only_iff.2 ⟨hm, hmid⟩)] at hmb; cases hmb
      · by_cases hbid : b = id
        · exact .inl hbid
        · refine .inr ?_
          rw [hb] at hb2
          obtain ⟨z, hz, _, e⟩ := bestM_iff.1 hb2
          rw [← e, itemAt_mem hI hz]
          exact hf z (only_iff.2 ⟨hz, by rw [e]; exact hbid⟩)
    have hdis : ∀ v, v ∈ delLeft s id → v ∉ delNew s id := by
      intro v hv hv2
      obtain ⟨y, hy, hf, hne, rfl⟩ := (hleft v).1 hv
      obtain ⟨z, hz, _, e⟩ := (hnew y.id).1 hv2
      obtain ⟨hzs, hzb, _⟩ := (hex z).1 hz
      obtain rfl := same_id hI hzs hy e
      rw [hf p hp] at hzb; cases hzb
    have hnd : (delLeft s id ++ delNew s id).Nodup := by
      rw [List.nodup_append]
      refine ⟨(best_nodup h1).sublist List.filter_sublist, ?_, fun a ha b hb2 e => hdis a ha (e ▸ hb2)⟩
      exact (bestM_asc s.wanted (onlyM_items hI (exclM s id) true)).imp (fun h => by omega)
    refine asc_ext (sort_asc hnd) (bestM_asc _ hA) (fun v => ?_)
    rw [sort_mem, List.mem_append, hleft, hnew, bestM_iff]
    constructor
    · rintro (⟨y, hy, hf, hne, rfl⟩ | ⟨y, hy, hf, rfl⟩)
      · exact ⟨y, only_iff.2 ⟨hy, hne⟩, fun z hz => hf z (only_iff.1 hz).1, rfl⟩
      · refine ⟨y, hexo y hy, ?_, rfl⟩
        obtain ⟨hys, hyb, hyo⟩ := (hex y).1 hy
        by_cases hq : Free (onlyM s.items [id] false) s.wanted y
        · exact hq
        · exfalso
          obtain ⟨m, hm, hmf, hmb⟩ := beaten_top hE hIo (hIt y hys) hq
          have hms := (only_iff.1 hm).1
          by_cases hmfree : Free s.items s.wanted m
          · have hmbest : m.id ∈ s.best := by rw [hb]; exact bestM_iff.2 ⟨m, hms, hmfree, rfl⟩
            rcases hyo m.id hmbest with e | e
            · exact (only_iff.1 hm).2 e
            · rw [itemAt_mem hI hms, hmb] at e; cases e
          · have := hf m (hkey m hm hmf hmfree)
            rw [hmb] at this; cases this
    · rintro ⟨y, hy, hf, rfl⟩
      by_cases hq : Free s.items s.wanted y
      · exact .inl ⟨y, (only_iff.1 hy).1, hq, (only_iff.1 hy).2, rfl⟩
      · exact .inr ⟨y, hkey y hy hf hq, fun z hz => hf z (hexo z hz), rfl⟩
  · rw [if_neg hin]
    have hin' : id ∉ s.best := fun hm => hin (List.contains_iff_mem.2 hm)
    refine stand_mk (by exact hA) (by exact hE) ?_ (by exact ht)
    show s.best = bestM (onlyM s.items [id] false) s.wanted
    have hpn : ¬ Free s.items s.wanted p := fun hf => hin' (by rw [hb]; exact bestM_iff.2 ⟨p, hp, hf, hpid⟩)
    obtain ⟨m, hm, hmf, hmb⟩ := beaten_top hE hIt (hIt p hp) hpn
    have hmid : m.id ≠ id := fun e => by
      rw [hother m hm e, beats_irr hE (hIt p hp)] at hmb; cases hmb
    rw [hb]
    refine asc_ext (bestM_asc _ hI) (bestM_asc _ hA) (fun v => ?_)
    rw [bestM_iff, bestM_iff]
    constructor
    · rintro ⟨y, hy, hf, rfl⟩
      refine ⟨y, only_iff.2 ⟨hy, fun e => hpn ?_⟩, fun z hz => hf z (only_iff.1 hz).1, rfl⟩
      rw [← hother y hy e]; exact hf
    · rintro ⟨y, hy, hf, rfl⟩
      obtain ⟨hys, hyid⟩ := only_iff.1 hy
      refine ⟨y, hys, fun z hz => ?_, rfl⟩
      by_cases hzid : z.id = id
      · rw [hother z hz hzid]
        cases hq : beats s.wanted p y with
        | false => rfl
        | true =>
          have := beats_tr hE (hIt m hm) (hIt p hp) (hIt y hys) hmb hq
          rw [hf m (only_iff.2 ⟨hm, hmid⟩)] at this; cases this
      · exact hf z (only_iff.2 ⟨hz, hzid⟩)
end
theorem delM_stand {s : GStanding} {id : Int} (h : delOk s id = true) : isStand (delM s id) = true := by unfold delM; rw [if_pos h]; exact del_stand h
/-! ### exclusive regions -/
section
variable {s : GStanding} (h : isStand s = true)
include h
end
end Go.Proofs.YtpihighajaeabaaGreat
