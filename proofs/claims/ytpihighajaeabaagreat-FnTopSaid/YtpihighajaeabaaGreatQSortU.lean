/- The library's sort of items by their numbers. -/
import Derived.Test.YtpihighajaeabaaGreatQDrawI
import Derived.Test.YtpihighajaeabaaGreatQDrawD
import Derived.Test.YtpihighajaeabaaGreatQDelS2
import Derived.Test.YtpihighajaeabaaGreatQDelM
namespace Go.Proofs.YtpihighajaeabaaGreat
open Go.RowKit
set_option linter.unusedVariables false
set_option linter.unusedSimpArgs false
/-- a drawn value is read -/
def T {α : Type} (R : Rep α) (Q : α → Prop) (W : World) (v : Value) : Prop := ∃ xs, Rd R W xs [v] ∧ Q xs
theorem T.bw {α : Type} {R : Rep α} (hR : Good R) {Q : α → Prop} {W W' : World} {v : Value} (h : T R Q W v) (hb : Bw W W') : T R Q W' v := by
  obtain ⟨xs, h, hq⟩ := h
  exact ⟨xs, h.bw hR hb, hq⟩
theorem DL.gi {B B' : Nat} {n : Int} {W : World} {v : Value} (h : DL fItems B (fun xs => (xs.length : Int) ≤ n ∧ ∀ x ∈ xs, gItem3 x) W v) (hB : B' ≤ B) (hn : n ≤ 8) : DR rItems B' (gItems 8) W v :=
  h.items.low rItems_good hB (fun x hx => ⟨by have := hx.1; omega, fun y hy => (hx.2 y hy).g⟩)
theorem DL.ge {B B' : Nat} {W : World} {v : Value} (h : DL fNodes B (fun xs => 0 < xs.length ∧ xs.length ≤ 7 ∧ ∀ x ∈ xs, gNode x) W v) (hB : B' ≤ B) : DR rNodes B' (gNodes 8) W v :=
  h.nodes.low rNodes_good hB (fun x hx => ⟨by have := hx.2.1; omega, hx.2.2⟩)
end Go.Proofs.YtpihighajaeabaaGreat

namespace Go.Proofs.YtpihighajaeabaaGreat
open Go.RowKit
set_option linter.unusedVariables false
set_option linter.unusedSimpArgs false
/-- items and an expression of the call's own -/
def D7 (B : Nat) (W : World) (v : Value) : Prop := ∃ va ve, v = .tuple #[va, ve] ∧ DR rItems B (gItems 8) W va ∧ DR rNodes B (gNodes 8) W ve
set_option maxRecDepth 100000 in
set_option maxHeartbeats 1600000 in
theorem D_l7Draw (w0 w : World) (p : Nat) (hA : At w0 p w) : Calls Tryz.prog 106 #[.pointer (some ⟨p, 0, none⟩)] w (RetD w0 p w (D7 w.heap.size)) := by
  have hp := hA.lt
  go_enter Tryz.func106, Tryz.ntmps106
  have hcall := D_l2Items w0 w p hA 8 (by omega) (by omega)
  go_wp2_with fail
  refine hcall.mono ?_
  rintro e w2 ⟨va, rfl, ha, hO2, hA2⟩
  clear hcall
  replace ha := ha.gi (Nat.le_refl _) (by omega)
  have z2 := hO2.1
  have hcall := D_l5Expression w0 w2 p hA2
  go_wp2_with fail
  refine hcall.mono ?_
  rintro e w3 ⟨ve, rfl, he, hO3, hA3⟩
  clear hcall
  replace ha := hO3.read rItems_good hp ha
  replace he := he.ge z2
  have z3 := hO3.1
  have hcall := D_l1Below w0 w3 p hA3 16 (by omega) (by omega)
  go_wp2_with fail
  refine hcall.mono ?_
  rintro e w4 ⟨v4, rfl, ⟨sw, rfl, s1, s2⟩, hO4, hA4⟩
  clear hcall
  replace ha := hO4.read rItems_good hp ha
  replace he := hO4.read rNodes_good hp he
  have hO := (hO2.two hO3).two hO4
  have z14 := hO.1
  by_cases h0 : sw = 0
  · subst h0
    have hcall := D_l2Any w0 w4 p hA4
    go_wp2_with fail
    refine hcall.mono ?_
    rintro e w9 ⟨va2, rfl, ha2, hO9, hA9⟩
    clear hcall
    replace ha2 := ha2.items.low rItems_good z14 (fun _ h => h)
    replace he := hO9.read rNodes_good hp he
    go_wp2
    refine bodyPost_ret (v := .tuple #[va2, ve]) (by simp [results, Tryz.results106, go_sem]) rfl ?_
    exact ⟨_, rfl, ⟨_, _, rfl, ha2, he⟩, hO.two hO9, hA9⟩
  · by_cases h1 : sw = 1
    · subst h1
      clear h0
      have hcall := D_l5Any w0 w4 p hA4
      go_wp2_with fail
      refine hcall.mono ?_
      rintro e w9 ⟨ve2, rfl, he2, hO9, hA9⟩
      clear hcall
      replace he2 := he2.low rNodes_good z14 (fun _ h => h)
      replace ha := hO9.read rItems_good hp ha
      go_wp2
      refine bodyPost_ret (v := .tuple #[va, ve2]) (by simp [results, Tryz.results106, go_sem]) rfl ?_
      exact ⟨_, rfl, ⟨_, _, rfl, ha, he2⟩, hO.two hO9, hA9⟩
    · have e0 : (sw == 0) = false := by simpa using h0
      have e1 : (sw == 1) = false := by simpa using h1
      clear h0 h1
      go_wp2
      refine bodyPost_ret (v := .tuple #[va, ve]) (by simp [results, Tryz.results106, go_sem]) rfl ?_
      exact ⟨_, rfl, ⟨_, _, rfl, ha, he⟩, hO, hA4⟩


/-- an item that is drawn, to be read -/
def TI (W : World) (v : Value) : Prop := ∃ x u, v = .agg #[.int .i64 x.id, u] ∧ Rd rInts W x.vals [u] ∧ gItem x
theorem TI.bw {W W' : World} {v : Value} (h : TI W v) (hb : Bw W W') : TI W' v := by
  obtain ⟨x, u, e, h, g⟩ := h
  exact ⟨x, u, e, h.bw rInts_good hb, g⟩


end Go.Proofs.YtpihighajaeabaaGreat

namespace Go.Proofs.YtpihighajaeabaaGreat
open Go.RowKit
set_option linter.unusedVariables false
set_option linter.unusedSimpArgs false
/-- read from the blocks that are named -/
def fRd {α : Type} (R : Rep α) : Fp α := fun w x cs F => R w (fun b => b ∈ F) x cs ∧ (∀ b ∈ F, b < w.heap.size) ∧ ∀ u ∈ cs, u.oneCell' = true
abbrev fVoters : Fp (List (List GNode)) := fSl 25 1 (fRd rNodes)
/-- a drawn value, read from blocks between two marks -/
def DB {α : Type} (R : Rep α) (B m : Nat) (Q : α → Prop) (W : World) (v : Value) : Prop := ∃ xs, R W (fun b => B ≤ b ∧ b < m) xs [v] ∧ Q xs
theorem DB.only {α : Type} {R : Rep α} (hR : Good R) {B m : Nat} {Q : α → Prop} {W W' : World} {v : Value} {F : List Nat} (h : DB R B m Q W v) (hO : Only F W W') (hm : m ≤ W.heap.size) (hF : ∀ b ∈ F, b < B ∨ m ≤ b) : DB R B m Q W' v := by
  obtain ⟨xs, h, hq⟩ := h
  exact ⟨xs, hR.step ⟨fun _ hb => hb, fun q hq => World.cell?_of_block (hO.2 _ (Nat.lt_of_lt_of_le hq.2 hm) (fun hf => by have := hF _ hf; have := hq.1; have := hq.2; omega))⟩ h, hq⟩
theorem DB.bw {α : Type} {R : Rep α} (hR : Good R) {B m : Nat} {Q : α → Prop} {W W' : World} {v : Value} (h : DB R B m Q W v) (hb : Bw W W') (hm : m ≤ W.heap.size) : DB R B m Q W' v := h.only hR (hb.only []) hm (by simp)
end Go.Proofs.YtpihighajaeabaaGreat

namespace Go.Proofs.YtpihighajaeabaaGreat
open Go.RowKit
set_option linter.unusedVariables false
set_option linter.unusedSimpArgs false
theorem gNodes_tot {n : Nat} {xs : List GNode} (hn : n ≤ 16) (h : gNodes n xs) : totNodes xs ≤ 1048576 := by
  have h2 := sum_le totNode 18 (l := xs) (fun x hx => by
    have h3 := (h.2 x hx).2.2.2.2
    have := h3.1.1
    have := h3.2.1
    unfold totNode totWish; omega)
  have h1 := h.1
  unfold totNodes; omega
end Go.Proofs.YtpihighajaeabaaGreat

namespace Go.Proofs.YtpihighajaeabaaGreat
open Go.RowKit
set_option linter.unusedVariables false
set_option linter.unusedSimpArgs false
end Go.Proofs.YtpihighajaeabaaGreat

namespace Go.Proofs.YtpihighajaeabaaGreat
open Go.RowKit
set_option linter.unusedVariables false
set_option linter.unusedSimpArgs false
theorem perm_lift {α β : Type} (f : α → β) {m l2 : List β} (hp : l2.Perm m) : ∀ l1 : List α, l1.map f = m → ∃ l : List α, l.Perm l1 ∧ l.map f = l2 := by
  induction hp with
  | nil => intro l1 h; exact ⟨[], by simp at h; rw [h], rfl⟩
  | cons x _ ih =>
    intro l1 h
    cases l1 with
    | nil => simp at h
    | cons a l1 =>
      rw [List.map_cons] at h
      injection h with h1 h2
      obtain ⟨l, hl, hm⟩ := ih l1 h2
      exact ⟨a :: l, hl.cons a, by rw [List.map_cons, hm, h1]⟩
  | swap x y l =>
    intro l1 h
    match l1, h with
    | a :: b :: l1, h =>
      simp only [List.map_cons, List.cons.injEq] at h
      obtain ⟨h1, h2, h3⟩ := h
      exact ⟨b :: a :: l1, List.Perm.swap a b l1, by simp [h1, h2, h3]⟩
  | trans _ _ ih1 ih2 =>
    intro l1 h
    obtain ⟨l, hl, hm⟩ := ih2 l1 h
    obtain ⟨l', hl', hm'⟩ := ih1 l hm
    exact ⟨l', hl'.trans hl, hm'⟩
theorem take_putCells_id (cur F : Array Value) (h : F.size ≤ cur.size) : (Go.Sort.putCells id 0 F cur).toList.take F.size = F.toList := by
  apply List.ext_getElem?
  intro j
  by_cases hj : j < F.size
  · rw [List.getElem?_take_of_lt hj, Array.getElem?_toList]
    simp [Go.Sort.putCells, hj, show j < cur.size by omega]
  · rw [List.getElem?_take_eq_none (by omega), List.getElem?_eq_none (by simp; omega)]
theorem flatK_list {α : Type} [Inhabited α] (enc : α → List Value) (k : Nat) (hk0 : 0 < k) (hk : ∀ x, (enc x).length = k) (d : Array α) : (Go.Sort.flatK enc k d).toList = (d.toList.map enc).flatten := by
  have hl : ((d.toList.map enc).flatten).length = d.size * k := by
    rw [flat_len (sz := k) (by intro u hu; obtain ⟨x, _, rfl⟩ := List.mem_map.1 hu; exact hk x)]; simp
  apply List.ext_getElem?
  intro t
  by_cases ht : t < d.size * k
  · have hd : t / k < d.size := Nat.div_lt_of_lt_mul (by rw [Nat.mul_comm]; exact ht)
    have h1 : (d.toList.map enc)[t / k]? = some (enc d[t / k]!) := by rw [List.getElem?_map, Array.getElem?_toList]; simp [hd]
    have h2 := flatten_at (us := d.toList.map enc) (sz := k) (k := t / k) (j := t % k) (by intro u hu; obtain ⟨x, _, rfl⟩ := List.mem_map.1 hu; exact hk x) h1 (Nat.mod_lt _ hk0)
    rw [Nat.div_add_mod' t k] at h2
    rw [h2, Array.getElem?_toList, Array.getElem?_eq_getElem (by simpa using ht)]
    have h3 := Go.Sort.get_flatK enc k d t ht
    rw [getElem!_pos _ _ (by simpa using ht)] at h3
    rw [h3, List.getElem?_eq_getElem (by rw [hk]; exact Nat.mod_lt _ hk0), getElem!_pos _ _ (by rw [hk]; exact Nat.mod_lt _ hk0)]
  · rw [List.getElem?_eq_none (by simp; omega), List.getElem?_eq_none (by omega)]
/-- an item's two cells -/
abbrev IC : Type := { q : Int × Value // 0 ≤ q.1 ∧ q.1 ≤ 99 ∧ q.2.oneCell' = true }
instance : Inhabited IC := ⟨⟨(0, .int .i64 0), by decide, by decide, rfl⟩⟩
def encIC (x : IC) : List Value := [.int .i64 x.1.1, x.1.2]
def cfIC (x y : IC) : Int := x.1.1 - y.1.1
theorem ltIC (x y : IC) : Go.Proofs.ltOf cfIC x y = decide (x.1.1 < y.1.1) := by unfold Go.Proofs.ltOf cfIC; rw [decide_eq_decide]; omega
theorem swoIC : Go.Sort.SWO (Go.Proofs.ltOf cfIC) where
  irrefl x := by rw [ltIC]; simp
  trans x y z h1 h2 := by rw [ltIC] at *; simp at *; omega
  ntrans x y z h1 h2 := by rw [ltIC] at *; simp at *; omega
set_option maxHeartbeats 1000000 in
theorem closIC (x y : IC) (W : World) : Calls Tryz.prog 82 #[.agg #[.int .i64 x.1.1, x.1.2], .agg #[.int .i64 y.1.1, y.1.2]] W fun e w' => e = .returned (.int .i64 (cfIC x y)) ∧ ∃ q os', w' = Go.Sort.grow (W.drewN q) os' := by
  obtain ⟨⟨a, va⟩, h1, h2, h3⟩ := x
  obtain ⟨⟨b, vb⟩, k1, k2, k3⟩ := y
  simp only at h1 h2 h3 k1 k2 k3
  unfold cfIC
  dsimp only
  go_enter Tryz.func82, Tryz.ntmps82
  go_wp2
  go_ret
  exact ⟨rfl, 0, _, by rw [Go.Sort.alloc_eq_grow, Go.Sort.alloc_eq_grow, Go.Sort.grow_grow]; rfl⟩
theorem cmpIC (blk off size : Nat) (w : World) : Go.Proofs.CmpLays Tryz.prog 82 #[] encIC 2 cfIC blk off size w := fun _ _ _ _ x y => closIC x y _
/-- rows of items, told by their cells -/
theorem items_triples : ∀ {xs : List GItem} {us : List (List Value)} {fs : List (List Nat)} {w : World}, all3 (fun x u f => fItem w x u f ∧ u.length = 2) xs us fs → (∀ x ∈ xs, 0 ≤ x.id ∧ x.id ≤ 99) →
    ∃ zs : List (GItem × IC × List Nat), zs.map (·.1) = xs ∧ zs.map (fun z => encIC z.2.1) = us ∧ zs.map (·.2.2) = fs ∧ ∀ z ∈ zs, z.1.id = z.2.1.1.1 ∧ fItem w z.1 (encIC z.2.1) z.2.2
  | [], [], [], _, _, _ => ⟨[], rfl, rfl, rfl, by simp⟩
  | x :: xs, u :: us, f :: fs, w, h, hI => by
    obtain ⟨zs, h1, h2, h3, h4⟩ := items_triples (xs := xs) (w := w) h.2 (fun y hy => hI y (by simp [hy]))
    obtain ⟨⟨v, hu, hv⟩, _⟩ := h.1
    have hone : v.oneCell' = true := (fInts_good (B := 0)).one hv v (by simp)
    have hx := hI x (by simp)
    refine ⟨(x, ⟨(x.id, v), hx.1, hx.2, hone⟩, f) :: zs, by simp [h1], ?_, by simp [h3], fun z hz => ?_⟩
    · rw [List.map_cons, h2, hu]; rfl
    · rcases List.mem_cons.1 hz with rfl | hz
      · exact ⟨rfl, v, rfl, hv⟩
      · exact h4 z hz
  | [], _ :: _, _, _, h, _ | [], [], _ :: _, _, h, _ | _ :: _, [], _, _, h, _ | _ :: _, _ :: _, [], _, h, _ => h.elim
theorem all3_triples {w : World} : ∀ {zs : List (GItem × IC × List Nat)}, (∀ z ∈ zs, fItem w z.1 (encIC z.2.1) z.2.2) → all3 (fun x u f => fItem w x u f ∧ u.length = 2) (zs.map (·.1)) (zs.map (fun z => encIC z.2.1)) (zs.map (·.2.2))
  | [], _ => trivial
  | z :: zs, h => ⟨⟨h z (by simp), rfl⟩, all3_triples (zs := zs) (fun y hy => h y (by simp [hy]))⟩
/-- what the sort of items leaves -/
def RetSortI (w : World) (xs : List GItem) (g : Nat) (v : Value) (F : List Nat) (e : Ending) (w' : World) : Prop := e = .returned (.tuple #[]) ∧ ∃ ys F', ys.Perm xs ∧ ys.Pairwise (fun a b => a.id ≤ b.id) ∧ fItems w' ys [v] F' ∧ F'.Perm F ∧ Only [g] w w' ∧ ∀ w0 : World, Bw w0 w → w0.heap.size ≤ g → Bw w0 w'
set_option maxRecDepth 100000 in
set_option maxHeartbeats 1000000 in
theorem I_SortItems (w : World) (xs : List GItem) (g c : Nat) (F : List Nat) (h : fItems w xs [.slice (some ⟨g, 0, none⟩) xs.length c] F) (hnd : F.Nodup) (hI : ∀ x ∈ xs, 0 ≤ x.id ∧ x.id ≤ 99) (hn : xs.length ≤ 1048576) :
    Calls Tryz.prog 81 #[.slice (some ⟨g, 0, none⟩) xs.length c, .func (.func 82) #[] #[]] w (RetSortI w xs g (.slice (some ⟨g, 0, none⟩) xs.length c) F) := by
  obtain ⟨v, us, fs, e, hown, hall, hF⟩ := h
  injection e with e
  subst e
  obtain ⟨zs, e1, e2, e3, hz⟩ := items_triples hall hI
  rcases hown.2 with ⟨h0, _⟩ | ⟨g', cap, cur, hv, hbase, hb, h1, h2, h3, h4⟩
  · cases h0
  injection hv with hv1 hv2 hv3
  injection hv1 with hv1
  injection hv1 with hv1
  subst hv1 hv3
  have hzl : zs.length = xs.length := by rw [← e1, List.length_map]
  obtain ⟨d, hd⟩ : ∃ d : Array IC, d = (zs.map (·.2.1)).toArray := ⟨_, rfl⟩
  have hds : d.size = xs.length := by rw [hd]; simp [hzl]
  have hfl : (Go.Sort.flatK encIC 2 d).toList = us.flatten := by
    rw [flatK_list encIC 2 (by omega) (fun _ => rfl), hd, ← e2]; simp [List.map_map, Function.comp_def]
  have hH : Go.Sort.HoldsK encIC 2 w g 0 d := by
    intro j hj
    have hj2 : j < us.flatten.length := by rw [← hfl]; simpa using hj
    refine ⟨?_, by simp [World.frozen?, hb]⟩
    have hc := hown.cells (g := g) rfl j _ (List.getElem?_eq_getElem hj2)
    have hadd : (⟨g, 0, none⟩ : Addr).add j = ⟨g, 0 + j, none⟩ := by unfold Addr.add; split <;> simp_all
    rw [hadd] at hc
    rw [hc]
    congr 1
    rw [getElem!_pos _ j hj]
    simp only [← hfl, Array.getElem_toList]
    rfl
  have hg : g < w.heap.size := (Array.getElem?_eq_some_iff.1 hb).1
  have eg : ∀ args w, (callFunc 82 args).run Tryz.prog w = .ok (.enter 82 args) w := enters_of Tryz.func82 (by kernel_rfl) rfl
  have hcon := Go.Proofs.AnyQ.slices_SortFunc layItems 2 Tryz.isAgg30 Tryz.sizeOf30 encIC (fun _ => rfl) (fun x v hv => by simp [encIC] at hv; rcases hv with rfl | rfl <;> first | rfl | exact x.2.2.2) cfIC swoIC 82 #[] g 0 c d w eg (cmpIC g 0 d.size w) hH hg (by omega)
  change Calls Tryz.prog 81 _ _ _ at hcon
  rw [hds] at hcon
  refine hcon.mono ?_
  rintro e w' ⟨rfl, d', n, os, hp, hs, rfl⟩
  have hsz' : d'.size = d.size := hp.1
  have hperm : d'.toList.Perm d.toList := by
    have h5 := hp.2.2
    have q1 : d'.extract 0 xs.length = d' := by rw [← hds, ← hsz']; simp
    have q2 : d.extract 0 xs.length = d := by rw [← hds]; simp
    rwa [q1, q2] at h5
  obtain ⟨zs', hpz, hmz⟩ := perm_lift (fun z : GItem × IC × List Nat => z.2.1) hperm zs (by rw [hd])
  have hz' : ∀ z ∈ zs', z.1.id = z.2.1.1.1 ∧ fItem w z.1 (encIC z.2.1) z.2.2 := fun z h => hz z (hpz.mem_iff.1 h)
  have hlen' : zs'.length = xs.length := by rw [hpz.length_eq, hzl]
  obtain ⟨W', hW'⟩ : ∃ W', W' = Go.Proofs.sortWorldK encIC 2 w g 0 n d' os := ⟨_, rfl⟩
  rw [← hW']
  have hgr : w.grownBy W' (some g) := by
    rw [hW']
    refine ⟨rfl, rfl, rfl, by simp [Go.Proofs.sortWorldK, Go.Sort.putRowK], fun k hk hne => ?_⟩
    unfold Go.Proofs.sortWorldK Go.Sort.putRowK
    rw [Go.Sort.heap_grow_old _ _ (by simpa using hk)]
    have : g ≠ k := fun e => hne (by rw [e])
    simp [Go.Sort.putRow, Go.Sort.mapBlock, Go.Sort.ahead, Array.getElem?_modify, this]
  have hhp : W'.heap[g]? = some (.cells (Go.Sort.putCells id 0 (Go.Sort.flatK encIC 2 d') cur) 30 (0, 0)) := by
    rw [hW']
    unfold Go.Proofs.sortWorldK Go.Sort.putRowK
    rw [Go.Sort.heap_grow_old _ _ (by simpa using hg)]
    simp [Go.Sort.putRow, Go.Sort.mapBlock, Go.Sort.ahead, Array.getElem?_modify, hb, Go.Sort.onCells]
  have hgn : g ∉ fs.flatten := by
    rw [hF] at hnd
    simp [Value.ownBlock] at hnd
    simpa using hnd.1
  refine ⟨rfl, zs'.map (·.1), [g] ++ (zs'.map (·.2.2)).flatten, ?_, ?_, ?_, ?_, Only.of_grown hgr hgr.size (by simp), fun w0 hbw hge => hbw.grown hgr (fun k hk => by injection hk with hk; omega)⟩
  · rw [← e1]; exact hpz.map _
  · rw [List.pairwise_map, List.pairwise_iff_getElem]
    intro i j hi hj hij
    have h6 := hs i j (Nat.zero_le _) hij (by rw [← hlen']; simpa using hj)
    rw [ltIC] at h6
    have h7 : ∀ k (hk : k < zs'.length), d'[k]!.1.1 = zs'[k].1.id := fun k hk => by
      rw [(hz' _ (List.getElem_mem hk)).1]
      have h8 : d'.toList[k]? = some zs'[k].2.1 := by rw [← hmz, List.getElem?_map, List.getElem?_eq_getElem hk]; rfl
      rw [Array.getElem?_toList] at h8
      have h9 : k < d'.size := by rw [hsz', hds, ← hlen']; exact hk
      rw [getElem!_pos d' k h9]
      rw [Array.getElem?_eq_getElem h9] at h8
      injection h8 with h8
      rw [h8]
    rw [h7 j hj, h7 i hi] at h6
    simp at h6
    exact h6
  · have hall' := all3_triples (w := W') (zs := zs') (fun z h => (fItem_good (B := 0)).step (fun b hb => ?_) (hz' z h).2)
    · refine ⟨_, zs'.map (fun z => encIC z.2.1), zs'.map (·.2.2), rfl, ?_, hall', rfl⟩
      have e4 : zs'.map (fun z => encIC z.2.1) = d'.toList.map encIC := by rw [← hmz, List.map_map]; rfl
      have e5 : (zs'.map (·.1)).length = xs.length := by rw [List.length_map, hlen']
      rw [e4, ← flatK_list encIC 2 (by omega) (fun _ => rfl), e5]
      refine ⟨by simp [hsz', hds], .inr ⟨g, c, _, rfl, Nat.zero_le _, hhp, h1, h2, by simp [Go.Sort.putCells, h3], ?_⟩⟩
      have e6 : (Go.Sort.flatK encIC 2 d').size = xs.length * 2 := by simp [hsz', hds]
      rw [← e6]
      exact take_putCells_id _ _ (by rw [e6, h3]; exact Nat.mul_le_mul_right 2 h1)
    · rcases hb with hb | hb
      · have hm : b ∈ fs.flatten := by
          rw [← e3]
          exact List.mem_flatten.2 ⟨z.2.2, List.mem_map.2 ⟨z, hpz.mem_iff.1 h, rfl⟩, hb⟩
        exact hgr.block b ((fItem_good (B := 0)).lt (hz' z h).2 b hb) (fun e => by injection e with e; exact hgn (e ▸ hm))
      · omega
  · rw [hF, ← e3]
    exact (List.Perm.refl [g]).append ((hpz.map _).flatten)
end Go.Proofs.YtpihighajaeabaaGreat
