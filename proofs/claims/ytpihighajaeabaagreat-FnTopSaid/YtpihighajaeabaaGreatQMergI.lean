/- Best items of two parts, merged, in the program. -/
import Derived.Test.YtpihighajaeabaaGreatQStandP
import Derived.Test.YtpihighajaeabaaGreatQCmpI
import Derived.Test.YtpihighajaeabaaGreatQFind
import Derived.Deep.RegionHeld3
namespace Go.Proofs.YtpihighajaeabaaGreat
open Go.RowKit
set_option linter.unusedVariables false
set_option linter.unusedSimpArgs false
/-- the Ids of a that no Id of b beats -/
def keptBy (l : List GItem) (e : List GNode) (a b : List Int) : List Int := a.filter fun i => !(b.any fun k => beats e (itemAt l k) (itemAt l i))
def mergeM (l : List GItem) (e : List GNode) (a b : List Int) : List Int := sortI (keptBy l e a b ++ keptBy l e b a)
theorem sub_items {l p : List GItem} (h : areItems l = true) (hs : p.Sublist l) : areItems p = true :=
  areItems_of (fun x hx => areItems_mem h (hs.subset hx)) ((items_sorted h).sublist hs) (Nat.le_trans hs.length_le (areItems_len h))
theorem kept_iff {l : List GItem} {e : List GNode} {p q : List GItem} (hE : isExpr e = true) (hI : areItems l = true) (hp : ∀ x ∈ p, x ∈ l) (hq : ∀ x ∈ q, x ∈ l) {v : Int} : v ∈ keptBy l e (bestM p e) (bestM q e) ↔ ∃ y ∈ p, Free (p ++ q) e y ∧ y.id = v := by
  unfold keptBy
  rw [List.mem_filter, bestM_iff]
  constructor
  · rintro ⟨⟨y, hy, hf, rfl⟩, hn⟩
    rw [itemAt_mem hI (hp y hy), Bool.not_eq_true', List.any_eq_false] at hn
    refine ⟨y, hy, fun z hz => ?_, rfl⟩
    rcases List.mem_append.1 hz with hz | hz
    · exact hf z hz
    · have hfq : Free q e y := Classical.byContradiction fun hnf => by
        obtain ⟨m, hm, hmf, hmb⟩ := beaten_top hE (fun x hx => areItems_mem hI (hq x hx)) (areItems_mem hI (hp y hy)) hnf
        have := hn m.id (bestM_iff.2 ⟨m, hm, hmf, rfl⟩)
        rw [itemAt_mem hI (hq m hm), hmb] at this
        exact this rfl
      exact hfq z hz
  · rintro ⟨y, hy, hf, rfl⟩
    refine ⟨⟨y, hy, fun z hz => hf z (List.mem_append_left _ hz), rfl⟩, ?_⟩
    rw [itemAt_mem hI (hp y hy), Bool.not_eq_true', List.any_eq_false]
    intro k hk
    obtain ⟨m, hm, _, rfl⟩ := bestM_iff.1 hk
    rw [itemAt_mem hI (hq m hm), hf m (List.mem_append_right _ hm)]
    decide
theorem free_comm {p q : List GItem} {e : List GNode} {y : GItem} (h : Free (q ++ p) e y) : Free (p ++ q) e y := fun z hz => h z (by
  rcases List.mem_append.1 hz with h | h
  · exact List.mem_append_right _ h
  · exact List.mem_append_left _ h)
theorem merge_best {l : List GItem} {e : List GNode} {p q : List GItem} (hE : isExpr e = true) (hI : areItems l = true) (hs : (p ++ q).Sublist l) : mergeM l e (bestM p e) (bestM q e) = bestM (p ++ q) e := by
  have hp : p.Sublist l := (List.sublist_append_left p q).trans hs
  have hq : q.Sublist l := (List.sublist_append_right p q).trans hs
  have hnd : (keptBy l e (bestM p e) (bestM q e) ++ keptBy l e (bestM q e) (bestM p e)).Nodup := by
    have n1 : (bestM p e).Nodup := (bestM_asc e (sub_items hI hp)).imp (fun h => by omega)
    have n2 : (bestM q e).Nodup := (bestM_asc e (sub_items hI hq)).imp (fun h => by omega)
    refine List.nodup_append.2 ⟨n1.filter _, n2.filter _, fun a ha b hb hab => ?_⟩
    obtain ⟨y, hy, _, hya⟩ := bestM_iff.1 (List.mem_filter.1 ha).1
    obtain ⟨z, hz, _, hzb⟩ := bestM_iff.1 (List.mem_filter.1 hb).1
    have := (List.pairwise_append.1 ((items_sorted hI).sublist hs)).2.2 y hy z hz
    omega
  unfold mergeM
  refine asc_ext (sort_asc hnd) (bestM_asc e (sub_items hI hs)) (fun v => ?_)
  rw [sort_mem, List.mem_append, kept_iff hE hI (fun x hx => hp.subset hx) (fun x hx => hq.subset hx), kept_iff hE hI (fun x hx => hq.subset hx) (fun x hx => hp.subset hx), bestM_iff]
  constructor
  · rintro (⟨y, hy, hf, rfl⟩ | ⟨y, hy, hf, rfl⟩)
    · exact ⟨y, List.mem_append_left _ hy, hf, rfl⟩
    · exact ⟨y, List.mem_append_right _ hy, free_comm hf, rfl⟩
  · rintro ⟨y, hy, hf, rfl⟩
    rcases List.mem_append.1 hy with hy | hy
    · exact .inl ⟨y, hy, hf, rfl⟩
    · exact .inr ⟨y, hy, free_comm hf, rfl⟩
theorem best_one (e : List GNode) {x : GItem} (hE : isExpr e = true) (hx : isItem x = true) : bestM [x] e = [x.id] := by
  have h : freeIn [x] e x = true := free_iff.2 (fun z hz => by rw [List.mem_singleton.1 hz]; exact beats_irr hE hx)
  unfold bestM
  simp [h]
theorem best_find {l p : List GItem} {e : List GNode} (hI : areItems l = true) (hp : p.Sublist l) {v : Int} (hv : v ∈ bestM p e) : ∃ (j : Nat) (x : GItem), findIdx l v = (j : Int) ∧ l[j]? = some x ∧ itemAt l v = x := by
  obtain ⟨y, hy, _, rfl⟩ := bestM_iff.1 hv
  rcases findIdx_cases l y.id with ⟨_, h⟩ | ⟨j, x, h1, h2, h3⟩
  · exact absurd rfl (h y (hp.subset hy))
  · exact ⟨j, x, h1, h2, itemAt_of h1 h2⟩
def keptTo2 (l : List GItem) (e : List GNode) (a b : List Int) (k : Nat) : List Int := keptBy l e (a.take k) b
theorem kept_yes {l : List GItem} {e : List GNode} {a b : List Int} {k : Nat} {i : Int} (h : a[k]? = some i) (hn : (b.any fun k => beats e (itemAt l k) (itemAt l i)) = false) : keptTo2 l e a b (k + 1) = keptTo2 l e a b k ++ [i] := by
  unfold keptTo2 keptBy
  rw [List.take_add_one, h, List.filter_append]
  simp [hn]
theorem kept_no {l : List GItem} {e : List GNode} {a b : List Int} {k : Nat} {i : Int} (h : a[k]? = some i) (hn : (b.any fun k => beats e (itemAt l k) (itemAt l i)) = true) : keptTo2 l e a b (k + 1) = keptTo2 l e a b k := by
  unfold keptTo2 keptBy
  rw [List.take_add_one, h, List.filter_append]
  simp [hn]
theorem kept_len (l : List GItem) (e : List GNode) (a b : List Int) : (keptBy l e a b).length ≤ a.length := List.length_filter_le _ _
end Go.Proofs.YtpihighajaeabaaGreat

namespace Go.Proofs.YtpihighajaeabaaGreat
open Go.RowKit
set_option linter.unusedVariables false
set_option linter.unusedSimpArgs false
/-- what the closure of merged holds: an expression, items, an item -/
structure EnvG (w : World) (p1 p2 p3 : Nat) (e : List GNode) (l : List GItem) (x : GItem) : Prop where
  ex : ∃ A n c, w.cell? ⟨p1, 0, none⟩ = some (.slice A n c) ∧ Rd rNodes w e [.slice A n c]
  li : ∃ A n c, w.cell? ⟨p2, 0, none⟩ = some (.slice A n c) ∧ Rd rItems w l [.slice A n c]
  it : ∃ A n c, w.cell? ⟨p3, 0, none⟩ = some (.int .i64 x.id) ∧ w.cell? ⟨p3, 1, none⟩ = some (.slice A n c) ∧ Rd rInts w x.vals [.slice A n c]
theorem EnvG.bw {w w' : World} {p1 p2 p3 : Nat} {e : List GNode} {l : List GItem} {x : GItem} (h : EnvG w p1 p2 p3 e l x) (hb : Bw w w') : EnvG w' p1 p2 p3 e l x := by
  obtain ⟨⟨A, n, c, h1, h2⟩, ⟨A1, n1, c1, k1, k2⟩, ⟨A', n', c', h3, h4, h5⟩⟩ := h
  exact ⟨⟨A, n, c, hb.cell h1, h2.bw rNodes_good hb⟩, ⟨A1, n1, c1, hb.cell k1, k2.bw rItems_good hb⟩, ⟨A', n', c', hb.cell h3, hb.cell h4, h5.bw rInts_good hb⟩⟩
/-- the Ids are of the items -/
def idsIn (l : List GItem) (a : List Int) : Prop := ∀ k ∈ a, ∃ (j : Nat) (y : GItem), findIdx l k = (j : Int) ∧ l[j]? = some y ∧ itemAt l k = y
def idxI' (P : Int → Bool) : Nat → List Int → Int
  | _, [] => -1
  | k, h :: l => if P h then (k : Int) else idxI' P (k + 1) l
theorem idxI'_yes {P : Int → Bool} {l : List Int} {k : Nat} {x : Int} (h : l[k]? = some x) (e : P x = true) : idxI' P k (l.drop k) = k := by rw [drop_cons h, idxI', if_pos e]
theorem idxI'_no {P : Int → Bool} {l : List Int} {k : Nat} {x : Int} (h : l[k]? = some x) (e : P x = false) : idxI' P k (l.drop k) = idxI' P (k + 1) (l.drop (k + 1)) := by rw [drop_cons h, idxI', if_neg (by rw [e]; simp)]
theorem idxI'_end {P : Int → Bool} {l : List Int} {k : Nat} (h : l.length ≤ k) : idxI' P k (l.drop k) = -1 := by rw [List.drop_of_length_le h, idxI']
theorem idxI'_any (P : Int → Bool) : ∀ (l : List Int) (k : Nat), decide (0 ≤ idxI' P k l) = l.any P
  | [], _ => rfl
  | h :: l, k => by
    rw [idxI', List.any_cons]
    cases hp : P h with
    | true => simp
    | false => simp [idxI'_any P l (k + 1)]
set_option maxRecDepth 100000 in
set_option maxHeartbeats 1600000 in
theorem I_merged1 (w : World) (k : Int) (p1 p2 p3 : Nat) (e : List GNode) (l : List GItem) (x y : GItem) (j : Nat) (hE : EnvG w p1 p2 p3 e l x) (he : isExpr e = true) (hx : isItem x = true) (hI : areItems l = true) (hf : findIdx l k = (j : Int)) (hy : l[j]? = some y) :
    Calls Tryz.prog 178 #[.int .i64 k, .pointer (some ⟨p1, 0, none⟩), .pointer (some ⟨p2, 0, none⟩), .pointer (some ⟨p3, 0, none⟩)] w (Ret w (.bool (beats e y x))) := by
  obtain ⟨⟨Ae, ne, ce, c1, r1⟩, ⟨Al, nl, cl, c2, r2⟩, ⟨Ax, nx, cx, c3, c4, r3⟩⟩ := hE
  have hjl := (List.getElem?_eq_some_iff.1 hy).1
  obtain ⟨ba, oa, A', c', rfl, _, cy0, cy1, hyv⟩ := rItems_at r2 hy
  obtain ⟨m, hm⟩ : ∃ m, m = y.vals.length := ⟨_, rfl⟩
  rw [← hm] at cy1 hyv
  have hyI := areItems_mem hI (List.mem_of_getElem? hy)
  have hln := (rSl_len r2).1
  have hl2 := (rSl_len r2).2
  unfold maxLen at hl2
  have i1 : (0 : Int) ≤ (j : Int) := by omega
  have i2 : (j : Int) < (nl : Int) := by omega
  have s1 := since_cell c1
  have s2 := since_cell c2
  have s3 := since_cell c3
  have s4 := since_cell c4
  have s5 := since_cell cy0
  have s6 := since_cell cy1
  have k1 : ∀ s : Since w, Calls Tryz.prog 77 #[.slice (some ⟨ba, oa, none⟩) nl cl, .int .i64 k] s.1 (Ret s.1 (.int .i64 (j : Int))) := fun s => by
    have := I_FindItem s.1 l k _ (r2.bw rItems_good s.2)
    rwa [hf] at this
  have k2 : ∀ s : Since w, Calls Tryz.prog 78 #[.slice Ae ne ce, .agg #[.int .i64 y.id, .slice A' m c'], .agg #[.int .i64 x.id, .slice Ax nx cx]] s.1 (Ret s.1 (.int .i64 (cmpBy e y x))) := fun s =>
    I_compareBy s.1 e y x _ _ _ (r1.bw rNodes_good s.2) (Rd.bw rInts_good hyv s.2) (r3.bw rInts_good s.2) he hyI hx
  obtain ⟨C, hC⟩ : ∃ C, C = cmpBy e y x := ⟨_, rfl⟩
  simp only [← hC] at k2
  have HC := Lib.hid (show decide (C = 1) = beats e y x by rw [hC]; rfl)
  clear hC hy hm hyv r1 r2 r3 hln hjl hf
  go_enter Tryz.func178, Tryz.ntmps178
  go_wp2_with fail
  refine wp_region_since (by kernel_rfl) (by kernel_rfl) ?_
  repeat (first | go_big_quiet_skip | (go_big_quiet_want; go_big_quiet_op; first | go_big_quiet_on | (apply Exists.intro; refine ⟨fun _ => ?_, ?_⟩; (· (((first | (go_at_call 77; with_reducible exact Calls_since (k1 _)) | (go_at_call 78; with_reducible exact Calls_since (k2 _)))))); go_big_quiet_on)))
  refine wpQuiet_nil ?_
  rintro ⟨wq, hbq⟩
  dsimp only at *
  go_wp2
  go_ret
  exact Ret.bool (by rw [← HC.out]; rfl) hbq
set_option maxRecDepth 100000 in
set_option maxHeartbeats 1600000 in
theorem merged_idx (w : World) (xs : List Int) (v : Value) (p1 p2 p3 : Nat) (e : List GNode) (l : List GItem) (x : GItem) (h : Rd rInts w xs [v]) (hE : EnvG w p1 p2 p3 e l x) (he : isExpr e = true) (hx : isItem x = true) (hI : areItems l = true) (hxs : idsIn l xs) :
    Calls Tryz.prog 233 #[v, .func (.func 178) #[] #[.pointer (some ⟨p1, 0, none⟩), .pointer (some ⟨p2, 0, none⟩), .pointer (some ⟨p3, 0, none⟩)]] w (Ret w (.int .i64 (idxI' (fun k => beats e (itemAt l k) x) 0 xs))) := by
  obtain ⟨A, n, c, rfl, l1, _, l3⟩ := rSl_open h
  unfold maxLen at l3
  have L1 := Lib.hid l1
  have HV := Lib.hid h
  have HE := Lib.hid hE
  obtain ⟨Q, hQ⟩ : ∃ Q : Int → Bool, Q = fun k => beats e (itemAt l k) x := ⟨_, rfl⟩
  rw [← hQ]
  have HQ := Lib.hid hQ
  obtain ⟨Y, hY⟩ : ∃ Y, Y = idxI' Q 0 xs := ⟨_, rfl⟩
  rw [← hY]
  have HY := Lib.hid hY
  clear hQ hY l1 h hE
  go_enter Tryz.func233, Tryz.ntmps233
  go_wp2
  go_loopg [8] (n + 1) (fun gg i w' => ∃ k : Nat, k ≤ n ∧ gg = n + 1 - k ∧ i = .int .i64 k ∧ Hid (Y = idxI' Q k (xs.drop k)) ∧ Bw w w')
  case atStart => exact ⟨0, by omega, by omega, rfl, HY, Bw.refl _⟩
  case round =>
    obtain ⟨k, hk, rfl, rfl, HI, hb⟩ := hrel
    by_cases hlt : k < n
    · obtain ⟨h, hh⟩ := get_of_lt (xs := xs) (k := k) (by rw [← L1.out]; exact hlt)
      obtain ⟨ba, oa, rfl, _, ca⟩ := rInts_at (HV.out.bw rInts_good hb) hh
      obtain ⟨j, y, hj, hy, hyA⟩ := hxs h (List.mem_of_getElem? hh)
      have hcall := I_merged1 wr h p1 p2 p3 e l x y j (HE.out.bw hb) he hx hI hj hy
      have i1 : (k : Int) < (n : Int) := by omega
      have i0 : (0 : Int) ≤ (k : Int) := by omega
      have hq' : Q h = beats e y x := by rw [HQ.out, ← hyA]
      cases hq : Q h with
      | true =>
        have HS := Lib.hid (idxI'_yes hh hq)
        rw [← hq', hq] at hcall
        clear hh hq hq' hj hy hyA
        go_wp2_with fail
        refine hcall.mono ?_
        rintro e2 w2 ⟨rfl, hb2⟩
        clear hcall
        go_wp2
        go_ret
        exact Ret.int (by rw [HI.out, HS.out]) (hb.then hb2)
      | false =>
        have HS := Lib.hid (idxI'_no hh hq)
        rw [← hq', hq] at hcall
        clear hh hq hq' hj hy hyA
        go_wp2_with fail
        refine hcall.mono ?_
        rintro e2 w2 ⟨rfl, hb2⟩
        clear hcall
        go_wp2
        go_roundg (n + 1 - (k + 1))
        case measure => omega
        case rel => exact ⟨k + 1, by omega, rfl, by go_num, Lib.hid (by rw [HI.out, HS.out]), hb.then hb2⟩
    · have i1 : ¬ (k : Int) < (n : Int) := by omega
      go_wp2
      go_ret
      exact Ret.int (by rw [HI.out, idxI'_end (by rw [← L1.out]; omega)]) hb
set_option maxRecDepth 100000 in
set_option maxHeartbeats 800000 in
theorem merged_contains (w : World) (xs : List Int) (v : Value) (p1 p2 p3 : Nat) (e : List GNode) (l : List GItem) (x : GItem) (h : Rd rInts w xs [v]) (hE : EnvG w p1 p2 p3 e l x) (he : isExpr e = true) (hx : isItem x = true) (hI : areItems l = true) (hxs : idsIn l xs) :
    Calls Tryz.prog 177 #[v, .func (.func 178) #[] #[.pointer (some ⟨p1, 0, none⟩), .pointer (some ⟨p2, 0, none⟩), .pointer (some ⟨p3, 0, none⟩)]] w (Ret w (.bool (xs.any fun k => beats e (itemAt l k) x))) := by
  have hcall := merged_idx w xs v p1 p2 p3 e l x h hE he hx hI hxs
  have ha := idxI'_any (fun k => beats e (itemAt l k) x) xs 0
  obtain ⟨A, n, c, rfl, ln, _⟩ := rSl_open h
  clear ln
  obtain ⟨Y, hY⟩ : ∃ Y, Y = xs.any fun k => beats e (itemAt l k) x := ⟨_, rfl⟩
  rw [← hY] at ha ⊢
  obtain ⟨I, hI2⟩ : ∃ I, I = idxI' (fun k => beats e (itemAt l k) x) 0 xs := ⟨_, rfl⟩
  rw [← hI2] at ha hcall
  have HA := Lib.hid ha
  clear hY hI2 ha h hE
  go_enter Tryz.func177, Tryz.ntmps177
  go_wp2_with fail
  refine hcall.mono ?_
  rintro e2 w2 ⟨rfl, hb2⟩
  clear hcall
  go_wp2
  go_ret
  exact Ret.bool HA.out hb2
end Go.Proofs.YtpihighajaeabaaGreat
