/- An item is added to a standing answer, in the program. -/
import Derived.Test.YtpihighajaeabaaGreatQStandM
import Derived.Test.YtpihighajaeabaaGreatQInsS
namespace Go.Proofs.YtpihighajaeabaaGreat
open Go.RowKit
set_option linter.unusedVariables false
set_option linter.unusedSimpArgs false
theorem perm_lift {α β : Type} (f : α → β) {m l2 : List β} (hp : l2.Perm m) : ∀ l1 : List α, l1.map f = m → ∃ l : List α, l.Perm l1 ∧ l.map f = l2 := by
  induction hp with
  | nil => intro l1 h; exact ⟨[], by simp at h; rw [h], rfl⟩
  | cons x _ ih =>
    intro l1 h
    cases l1 with
    | nil => simp at h
    | cons a l1 =>
      rw [List.map_cons] at h
      injection h with h1 h2
      obtain ⟨l, hl, hm⟩ := ih l1 h2
      exact ⟨a :: l, hl.cons a, by rw [List.map_cons, hm, h1]⟩
  | swap x y l =>
    intro l1 h
    match l1, h with
    | a :: b :: l1, h =>
      simp only [List.map_cons, List.cons.injEq] at h
      obtain ⟨h1, h2, h3⟩ := h
      exact ⟨b :: a :: l1, List.Perm.swap a b l1, by simp [h1, h2, h3]⟩
  | trans _ _ ih1 ih2 =>
    intro l1 h
    obtain ⟨l, hl, hm⟩ := ih2 l1 h
    obtain ⟨l', hl', hm'⟩ := ih1 l hm
    exact ⟨l', hl'.trans hl, hm'⟩
theorem take_putCells_id (cur F : Array Value) (h : F.size ≤ cur.size) : (Go.Sort.putCells id 0 F cur).toList.take F.size = F.toList := by
  apply List.ext_getElem?
  intro j
  by_cases hj : j < F.size
  · rw [List.getElem?_take_of_lt hj, Array.getElem?_toList]
    simp [Go.Sort.putCells, hj, show j < cur.size by omega]
  · rw [List.getElem?_take_eq_none (by omega), List.getElem?_eq_none (by simp; omega)]
theorem flatK_list {α : Type} [Inhabited α] (enc : α → List Value) (k : Nat) (hk0 : 0 < k) (hk : ∀ x, (enc x).length = k) (d : Array α) : (Go.Sort.flatK enc k d).toList = (d.toList.map enc).flatten := by
  have hl : ((d.toList.map enc).flatten).length = d.size * k := by
    rw [flat_len (sz := k) (by intro u hu; obtain ⟨x, _, rfl⟩ := List.mem_map.1 hu; exact hk x)]; simp
  apply List.ext_getElem?
  intro t
  by_cases ht : t < d.size * k
  · have hd : t / k < d.size := Nat.div_lt_of_lt_mul (by rw [Nat.mul_comm]; exact ht)
    have h1 : (d.toList.map enc)[t / k]? = some (enc d[t / k]!) := by rw [List.getElem?_map, Array.getElem?_toList]; simp [hd]
    have h2 := flatten_at (us := d.toList.map enc) (sz := k) (k := t / k) (j := t % k) (by intro u hu; obtain ⟨x, _, rfl⟩ := List.mem_map.1 hu; exact hk x) h1 (Nat.mod_lt _ hk0)
    rw [Nat.div_add_mod' t k] at h2
    rw [h2, Array.getElem?_toList, Array.getElem?_eq_getElem (by simpa using ht)]
    have h3 := Go.Sort.get_flatK enc k d t ht
    rw [getElem!_pos _ _ (by simpa using ht)] at h3
    rw [h3, List.getElem?_eq_getElem (by rw [hk]; exact Nat.mod_lt _ hk0), getElem!_pos _ _ (by rw [hk]; exact Nat.mod_lt _ hk0)]
  · rw [List.getElem?_eq_none (by simp; omega), List.getElem?_eq_none (by omega)]
/-- an item's two cells -/
abbrev IC : Type := { q : Int × Value // 0 ≤ q.1 ∧ q.1 ≤ 99 ∧ q.2.oneCell' = true }
instance : Inhabited IC := ⟨⟨(0, .int .i64 0), by decide, by decide, rfl⟩⟩
def encIC (x : IC) : List Value := [.int .i64 x.1.1, x.1.2]
def cfIC (x y : IC) : Int := x.1.1 - y.1.1
theorem ltIC (x y : IC) : Go.Proofs.ltOf cfIC x y = decide (x.1.1 < y.1.1) := by unfold Go.Proofs.ltOf cfIC; rw [decide_eq_decide]; omega
theorem swoIC : Go.Sort.SWO (Go.Proofs.ltOf cfIC) where
  irrefl x := by rw [ltIC]; simp
  trans x y z h1 h2 := by rw [ltIC] at *; simp at *; omega
  ntrans x y z h1 h2 := by rw [ltIC] at *; simp at *; omega
set_option maxHeartbeats 1000000 in
theorem closIC (x y : IC) (W : World) : Calls Tryz.prog 82 #[.agg #[.int .i64 x.1.1, x.1.2], .agg #[.int .i64 y.1.1, y.1.2]] W fun e w' => e = .returned (.int .i64 (cfIC x y)) ∧ ∃ q os', w' = Go.Sort.grow (W.drewN q) os' := by
  obtain ⟨⟨a, va⟩, h1, h2, h3⟩ := x
  obtain ⟨⟨b, vb⟩, k1, k2, k3⟩ := y
  simp only at h1 h2 h3 k1 k2 k3
  unfold cfIC
  dsimp only
  go_enter Tryz.func82, Tryz.ntmps82
  go_wp2
  go_ret
  exact ⟨rfl, 0, _, by rw [Go.Sort.alloc_eq_grow, Go.Sort.alloc_eq_grow, Go.Sort.grow_grow]; rfl⟩
theorem cmpIC (blk off size : Nat) (w : World) : Go.Proofs.CmpLays Tryz.prog 82 #[] encIC 2 cfIC blk off size w := fun _ _ _ _ x y => closIC x y _
/-- rows of items, told by their cells -/
theorem items_triples : ∀ {xs : List GItem} {us : List (List Value)} {fs : List (List Nat)} {w : World}, all3 (fun x u f => fItem w x u f ∧ u.length = 2) xs us fs → (∀ x ∈ xs, 0 ≤ x.id ∧ x.id ≤ 99) →
    ∃ zs : List (GItem × IC × List Nat), zs.map (·.1) = xs ∧ zs.map (fun z => encIC z.2.1) = us ∧ zs.map (·.2.2) = fs ∧ ∀ z ∈ zs, z.1.id = z.2.1.1.1 ∧ fItem w z.1 (encIC z.2.1) z.2.2
  | [], [], [], _, _, _ => ⟨[], rfl, rfl, rfl, by simp⟩
  | x :: xs, u :: us, f :: fs, w, h, hI => by
    obtain ⟨zs, h1, h2, h3, h4⟩ := items_triples (xs := xs) (w := w) h.2 (fun y hy => hI y (by simp [hy]))
    obtain ⟨⟨v, hu, hv⟩, _⟩ := h.1
    have hone : v.oneCell' = true := (fInts_good (B := 0)).one hv v (by simp)
    have hx := hI x (by simp)
    refine ⟨(x, ⟨(x.id, v), hx.1, hx.2, hone⟩, f) :: zs, by simp [h1], ?_, by simp [h3], fun z hz => ?_⟩
    · rw [List.map_cons, h2, hu]; rfl
    · rcases List.mem_cons.1 hz with rfl | hz
      · exact ⟨rfl, v, rfl, hv⟩
      · exact h4 z hz
  | [], _ :: _, _, _, h, _ | [], [], _ :: _, _, h, _ | _ :: _, [], _, _, h, _ | _ :: _, _ :: _, [], _, h, _ => h.elim
theorem all3_triples {w : World} : ∀ {zs : List (GItem × IC × List Nat)}, (∀ z ∈ zs, fItem w z.1 (encIC z.2.1) z.2.2) → all3 (fun x u f => fItem w x u f ∧ u.length = 2) (zs.map (·.1)) (zs.map (fun z => encIC z.2.1)) (zs.map (·.2.2))
  | [], _ => trivial
  | z :: zs, h => ⟨⟨h z (by simp), rfl⟩, all3_triples (zs := zs) (fun y hy => h y (by simp [hy]))⟩
/-- what the sort of items leaves -/
def RetSortI (w : World) (xs : List GItem) (g : Nat) (v : Value) (F : List Nat) (e : Ending) (w' : World) : Prop := e = .returned (.tuple #[]) ∧ ∃ ys F', ys.Perm xs ∧ ys.Pairwise (fun a b => a.id ≤ b.id) ∧ fItems w' ys [v] F' ∧ F'.Perm F ∧ Only [g] w w' ∧ ∀ w0 : World, Bw w0 w → w0.heap.size ≤ g → Bw w0 w'
set_option maxRecDepth 100000 in
set_option maxHeartbeats 1000000 in
theorem I_SortItems (w : World) (xs : List GItem) (g c : Nat) (F : List Nat) (h : fItems w xs [.slice (some ⟨g, 0, none⟩) xs.length c] F) (hnd : F.Nodup) (hI : ∀ x ∈ xs, 0 ≤ x.id ∧ x.id ≤ 99) (hn : xs.length ≤ 1048576) :
    Calls Tryz.prog 81 #[.slice (some ⟨g, 0, none⟩) xs.length c, .func (.func 82) #[] #[]] w (RetSortI w xs g (.slice (some ⟨g, 0, none⟩) xs.length c) F) := by
  obtain ⟨v, us, fs, e, hown, hall, hF⟩ := h
  injection e with e
  subst e
  obtain ⟨zs, e1, e2, e3, hz⟩ := items_triples hall hI
  rcases hown.2 with ⟨h0, _⟩ | ⟨g', cap, cur, hv, hbase, hb, h1, h2, h3, h4⟩
  · cases h0
  injection hv with hv1 hv2 hv3
  injection hv1 with hv1
  injection hv1 with hv1
  subst hv1 hv3
  have hzl : zs.length = xs.length := by rw [← e1, List.length_map]
  obtain ⟨d, hd⟩ : ∃ d : Array IC, d = (zs.map (·.2.1)).toArray := ⟨_, rfl⟩
  have hds : d.size = xs.length := by rw [hd]; simp [hzl]
  have hfl : (Go.Sort.flatK encIC 2 d).toList = us.flatten := by
    rw [flatK_list encIC 2 (by omega) (fun _ => rfl), hd, ← e2]; simp [List.map_map, Function.comp_def]
  have hH : Go.Sort.HoldsK encIC 2 w g 0 d := by
    intro j hj
    have hj2 : j < us.flatten.length := by rw [← hfl]; simpa using hj
    refine ⟨?_, by simp [World.frozen?, hb]⟩
    have hc := hown.cells (g := g) rfl j _ (List.getElem?_eq_getElem hj2)
    have hadd : (⟨g, 0, none⟩ : Addr).add j = ⟨g, 0 + j, none⟩ := by unfold Addr.add; split <;> simp_all
    rw [hadd] at hc
    rw [hc]
    congr 1
    rw [getElem!_pos _ j hj]
    simp only [← hfl, Array.getElem_toList]
    rfl
  have hg : g < w.heap.size := (Array.getElem?_eq_some_iff.1 hb).1
  have eg : ∀ args w, (callFunc 82 args).run Tryz.prog w = .ok (.enter 82 args) w := enters_of Tryz.func82 (by kernel_rfl) rfl
  have hcon := Go.Proofs.AnyQ.slices_SortFunc layItems 2 Tryz.isAgg30 Tryz.sizeOf30 encIC (fun _ => rfl) (fun x v hv => by simp [encIC] at hv; rcases hv with rfl | rfl <;> first | rfl | exact x.2.2.2) cfIC swoIC 82 #[] g 0 c d w eg (cmpIC g 0 d.size w) hH hg (by omega)
  change Calls Tryz.prog 81 _ _ _ at hcon
  rw [hds] at hcon
  refine hcon.mono ?_
  rintro e w' ⟨rfl, d', n, os, hp, hs, rfl⟩
  have hsz' : d'.size = d.size := hp.1
  have hperm : d'.toList.Perm d.toList := by
    have h5 := hp.2.2
    have q1 : d'.extract 0 xs.length = d' := by rw [← hds, ← hsz']; simp
    have q2 : d.extract 0 xs.length = d := by rw [← hds]; simp
    rwa [q1, q2] at h5
  obtain ⟨zs', hpz, hmz⟩ := perm_lift (fun z : GItem × IC × List Nat => z.2.1) hperm zs (by rw [hd])
  have hz' : ∀ z ∈ zs', z.1.id = z.2.1.1.1 ∧ fItem w z.1 (encIC z.2.1) z.2.2 := fun z h => hz z (hpz.mem_iff.1 h)
  have hlen' : zs'.length = xs.length := by rw [hpz.length_eq, hzl]
  obtain ⟨W', hW'⟩ : ∃ W', W' = Go.Proofs.sortWorldK encIC 2 w g 0 n d' os := ⟨_, rfl⟩
  rw [← hW']
  have hgr : w.grownBy W' (some g) := by
    rw [hW']
    refine ⟨rfl, rfl, rfl, by simp [Go.Proofs.sortWorldK, Go.Sort.putRowK], fun k hk hne => ?_⟩
    unfold Go.Proofs.sortWorldK Go.Sort.putRowK
    rw [Go.Sort.heap_grow_old _ _ (by simpa using hk)]
    have : g ≠ k := fun e => hne (by rw [e])
    simp [Go.Sort.putRow, Go.Sort.mapBlock, Go.Sort.ahead, Array.getElem?_modify, this]
  have hhp : W'.heap[g]? = some (.cells (Go.Sort.putCells id 0 (Go.Sort.flatK encIC 2 d') cur) 30 (0, 0)) := by
    rw [hW']
    unfold Go.Proofs.sortWorldK Go.Sort.putRowK
    rw [Go.Sort.heap_grow_old _ _ (by simpa using hg)]
    simp [Go.Sort.putRow, Go.Sort.mapBlock, Go.Sort.ahead, Array.getElem?_modify, hb, Go.Sort.onCells]
  have hgn : g ∉ fs.flatten := by
    rw [hF] at hnd
    simp [Value.ownBlock] at hnd
    simpa using hnd.1
  refine ⟨rfl, zs'.map (·.1), [g] ++ (zs'.map (·.2.2)).flatten, ?_, ?_, ?_, ?_, Only.of_grown hgr hgr.size (by simp), fun w0 hbw hge => hbw.grown hgr (fun k hk => by injection hk with hk; omega)⟩
  · rw [← e1]; exact hpz.map _
  · rw [List.pairwise_map, List.pairwise_iff_getElem]
    intro i j hi hj hij
    have h6 := hs i j (Nat.zero_le _) hij (by rw [← hlen']; simpa using hj)
    rw [ltIC] at h6
    have h7 : ∀ k (hk : k < zs'.length), d'[k]!.1.1 = zs'[k].1.id := fun k hk => by
      rw [(hz' _ (List.getElem_mem hk)).1]
      have h8 : d'.toList[k]? = some zs'[k].2.1 := by rw [← hmz, List.getElem?_map, List.getElem?_eq_getElem hk]; rfl
      rw [Array.getElem?_toList] at h8
      have h9 : k < d'.size := by rw [hsz', hds, ← hlen']; exact hk
      rw [getElem!_pos d' k h9]
      rw [Array.getElem?_eq_getElem h9] at h8
      injection h8 with h8
      rw [h8]
    rw [h7 j hj, h7 i hi] at h6
    simp at h6
    exact h6
  · have hall' := all3_triples (w := W') (zs := zs') (fun z h => (fItem_good (B := 0)).step (fun b hb => ?_) (hz' z h).2)
    · refine ⟨_, zs'.map (fun z => encIC z.2.1), zs'.map (·.2.2), rfl, ?_, hall', rfl⟩
      have e4 : zs'.map (fun z => encIC z.2.1) = d'.toList.map encIC := by rw [← hmz, List.map_map]; rfl
      have e5 : (zs'.map (·.1)).length = xs.length := by rw [List.length_map, hlen']
      rw [e4, ← flatK_list encIC 2 (by omega) (fun _ => rfl), e5]
      refine ⟨by simp [hsz', hds], .inr ⟨g, c, _, rfl, Nat.zero_le _, hhp, h1, h2, by simp [Go.Sort.putCells, h3], ?_⟩⟩
      have e6 : (Go.Sort.flatK encIC 2 d').size = xs.length * 2 := by simp [hsz', hds]
      rw [← e6]
      exact take_putCells_id _ _ (by rw [e6, h3]; exact Nat.mul_le_mul_right 2 h1)
    · rcases hb with hb | hb
      · have hm : b ∈ fs.flatten := by
          rw [← e3]
          exact List.mem_flatten.2 ⟨z.2.2, List.mem_map.2 ⟨z, hpz.mem_iff.1 h, rfl⟩, hb⟩
        exact hgr.block b ((fItem_good (B := 0)).lt (hz' z h).2 b hb) (fun e => by injection e with e; exact hgn (e ▸ hm))
      · omega
  · rw [hF, ← e3]
    exact (List.Perm.refl [g]).append ((hpz.map _).flatten)
end Go.Proofs.YtpihighajaeabaaGreat

namespace Go.Proofs.YtpihighajaeabaaGreat
open Go.RowKit
set_option linter.unusedVariables false
set_option linter.unusedSimpArgs false
set_option maxRecDepth 100000 in
set_option maxHeartbeats 6400000 in
theorem I_InsertItem_no (w : World) (s : GStanding) (x : GItem) (va vb vc u : Value) (ha : Rd rItems w s.items [va]) (hb : Rd rNodes w s.wanted [vb]) (hc : Rd rInts w s.best [vc]) (hx : Rd rInts w x.vals [u]) (t1 : totItems s.items ≤ 1048576) (t2 : totNodes s.wanted ≤ 1048576) (t3 : s.best.length ≤ 1048576) (hno : insOk s x = false) :
    Calls Tryz.prog 11 #[.agg #[va, vb, vc, .int .i64 s.tests], .agg #[.int .i64 x.id, u]] w (RetV w (TwoA fStanding w.heap.size s (.bool false))) := by
  obtain ⟨A, n, c, rfl, L0, Lc, Lm⟩ := rSl_open ha
  unfold maxLen at Lm
  have L := Lib.hid L0
  clear L0
  obtain ⟨B, m, c4, rfl, M0, Mc, Mm⟩ := rSl_open hc
  unfold maxLen at Mm
  have M := Lib.hid M0
  clear M0
  obtain ⟨W0, hW0⟩ : ∃ W0, W0 = ((w.alloc (.cells #[.slice A n c, vb, .slice B m c4, .int .i64 s.tests] 28)).alloc (.cells #[.int .i64 x.id, u] 30)).alloc (.cells #[.slice none 0 0, .slice none 0 0, .slice none 0 0, .int .i64 0] 28) := ⟨_, rfl⟩
  have A0 : Bw w W0 := by rw [hW0]; exact (((Bw.refl w).alloc _).alloc _).alloc _
  have bS : Box W0 w.heap.size [.slice A n c, vb, .slice B m c4, .int .i64 s.tests] := by rw [hW0]; exact (Box.new w #[.slice A n c, vb, .slice B m c4, .int .i64 s.tests] 28).bw (((Bw.refl _).alloc _).alloc _)
  have bX : Box W0 (w.heap.size + 1) [.int .i64 x.id, u] := by
    have := Box.new (w.alloc (.cells #[.slice A n c, vb, .slice B m c4, .int .i64 s.tests] 28)) #[.int .i64 x.id, u] 30
    rw [show (w.alloc (.cells #[.slice A n c, vb, .slice B m c4, .int .i64 s.tests] 28)).heap.size = w.heap.size + 1 from by simp] at this
    rw [hW0]; exact this.bw ((Bw.refl _).alloc _)
  have bR : Box W0 (w.heap.size + 1 + 1) [.slice none 0 0, .slice none 0 0, .slice none 0 0, .int .i64 0] := by
    have := Box.new ((w.alloc (.cells #[.slice A n c, vb, .slice B m c4, .int .i64 s.tests] 28)).alloc (.cells #[.int .i64 x.id, u] 30)) #[.slice none 0 0, .slice none 0 0, .slice none 0 0, .int .i64 0] 28
    rw [show ((w.alloc (.cells #[.slice A n c, vb, .slice B m c4, .int .i64 s.tests] 28)).alloc (.cells #[.int .i64 x.id, u] 30)).heap.size = w.heap.size + 1 + 1 from by simp] at this
    rw [hW0]; exact this
  have z0 : W0.heap.size = w.heap.size + 3 := by rw [hW0]; simp
  have hcopy := I_copyStanding W0 s _ vb _ (ha.bw rItems_good A0) (hb.bw rNodes_good A0) (hc.bw rInts_good A0) t1 t2 t3
  have HW0 := Lib.hid hW0
  clear hW0
  go_enter Tryz.func11, Tryz.ntmps11
  go_wp2_with fail
  rw [← HW0.out]
  refine hcopy.mono ?_
  rintro e w1 ⟨cs, F0, rfl, oS, fS, hb1⟩
  obtain ⟨A1, c1, A2, c2, A3, c3, rfl⟩ := fStanding_shape oS
  obtain ⟨F1, F2, F3, o1, o2, o3, rfl⟩ := fStanding_parts oS
  obtain ⟨m1, hm1⟩ : ∃ m, m = s.items.length := ⟨_, rfl⟩
  obtain ⟨m2, hm2⟩ : ∃ m, m = s.wanted.length := ⟨_, rfl⟩
  obtain ⟨m3, hm3⟩ : ∃ m, m = s.best.length := ⟨_, rfl⟩
  rw [← hm1] at o1
  rw [← hm2] at o2
  rw [← hm3] at o3
  dsimp only
  rw [← hm1, ← hm2, ← hm3]
  have bS1 := (bS.bw hb1).bw ((Bw.refl w1).alloc (.cells #[.slice A1 m1 c1, .slice A2 m2 c2, .slice A3 m3 c3, .int .i64 s.tests] 28))
  have y0 := bS1.c 0 _ rfl
  have y1 := bS1.c 1 _ rfl
  have y2 := bS1.c 2 _ rfl
  have y3 := bS1.c 3 _ rfl
  have HM1 := Lib.hid hm1
  have HM2 := Lib.hid hm2
  have HM3 := Lib.hid hm3
  clear hm1 hm2 hm3
  go_wp2_with fail
  obtain ⟨V, hV⟩ : ∃ V, V = w1.alloc (.cells #[.slice A1 m1 c1, .slice A2 m2 c2, .slice A3 m3 c3, .int .i64 s.tests] 28) := ⟨_, rfl⟩
  have A1' : Bw w1 V := by rw [hV]; exact (Bw.refl w1).alloc _
  have bO : Box V w1.heap.size [.slice A1 m1 c1, .slice A2 m2 c2, .slice A3 m3 c3, .int .i64 s.tests] := by rw [hV]; exact Box.new w1 #[.slice A1 m1 c1, .slice A2 m2 c2, .slice A3 m3 c3, .int .i64 s.tests] 28
  have zV : V.heap.size = w1.heap.size + 1 := by rw [hV]; simp
  have BV : Bw w V := A0.then (hb1.then A1')
  replace bS := bS.bw (hb1.then A1')
  replace bX := bX.bw (hb1.then A1')
  replace bR := bR.bw (hb1.then A1')
  have zw : w.heap.size + 3 ≤ w1.heap.size := by have := hb1.size; omega
  have lS := (fStanding_good (B := 0)).lt oS
  replace o1 := keepBw A1' fItems_good o1
  replace o2 := keepBw A1' fNodes_good o2
  replace o3 := keepBw A1' fInts_good o3
  have fV : Fresh (w.heap.size + 3) (F1 ++ (F2 ++ F3)) := fS.mono (by omega)
  have HLS := Lib.hid lS
  have HV := Lib.hid hV
  have k1 := Lib.hid (fun W (B : Bw V W) => I_IsStanding W s _ vb _ (ha.bw rItems_good (BV.then B)) (hb.bw rNodes_good (BV.then B)) (hc.bw rInts_good (BV.then B)))
  have k2 := Lib.hid (fun W (B : Bw V W) => I_IsItem W x u (hx.bw rInts_good (BV.then B)))
  have k3 := Lib.hid (fun W (B : Bw V W) => I_FindItem W s.items x.id _ (ha.bw rItems_good (BV.then B)))
  obtain ⟨b6, hb6⟩ : ∃ b, b = w1.heap.size := ⟨_, rfl⟩
  rw [← hb6] at bO zV zw lS
  have HB6 := Lib.hid hb6
  rw [← HV.out, ← HB6.out]
  clear hV oS fS hcopy hb1 A1' A0 hb6 lS y0 y1 y2 y3 bS1
  refine (k1.out _ (Bw.refl V)).mono ?_
  rintro e w2 ⟨rfl, hb2⟩
  rcases Bool.eq_false_or_eq_true (isStand s) with e1 | e1
  · have E1 := Lib.hid e1
    rw [e1]
    clear e1
    have bS2 := bS.bw hb2
    have bX2 := bX.bw hb2
    have y0 := bS2.c 0 _ rfl
    have y1 := bS2.c 1 _ rfl
    have y2 := bS2.c 2 _ rfl
    have y3 := bS2.c 3 _ rfl
    have yf := bS2.fr
    have x0 := bX2.c 0 _ rfl
    have x1 := bX2.c 1 _ rfl
    have xf := bX2.fr
    have hcall := k2.out _ hb2
    clear bS2 bX2
    go_wp2_with fail
    refine hcall.mono ?_
    rintro e w3 ⟨rfl, hb3⟩
    have hB3 := hb2.then hb3
    clear y0 y1 y2 y3 yf
    clear x0 x1 xf
    rcases Bool.eq_false_or_eq_true (isItem x) with e2 | e2
    · have E2 := Lib.hid e2
      rw [e2]
      clear e2
      have bS3 := bS.bw hB3
      have bX3 := bX.bw hB3
      have y0 := bS3.c 0 _ rfl
      have y1 := bS3.c 1 _ rfl
      have y2 := bS3.c 2 _ rfl
      have y3 := bS3.c 3 _ rfl
      have yf := bS3.fr
      have x0 := bX3.c 0 _ rfl
      have x1 := bX3.c 1 _ rfl
      have xf := bX3.fr
      have hcall := k3.out _ hB3
      obtain ⟨K, hK⟩ : ∃ K, K = findIdx s.items x.id := ⟨_, rfl⟩
      rw [← hK] at hcall
      have HK := Lib.hid hK
      clear bS3 bX3 hK
      go_wp2_with fail
      refine hcall.mono ?_
      rintro e w4 ⟨rfl, hb4⟩
      have hB4 := hB3.then hb4
      clear y0 y1 y2 y3 yf
      clear x0 x1 xf
      by_cases hK0 : 0 ≤ K
      · clear hno
        have bR2 := bR.bw hB4
        have bO2 := bO.bw hB4
        have r0 := bR2.c 0 _ rfl
        have r1 := bR2.c 1 _ rfl
        have r2 := bR2.c 2 _ rfl
        have r3 := bR2.c 3 _ rfl
        have rf := bR2.fr
        have q0 := bO2.c 0 _ rfl
        have q1 := bO2.c 1 _ rfl
        have q2 := bO2.c 2 _ rfl
        have q3 := bO2.c 3 _ rfl
        have qf := bO2.fr
        have hBB := BV.then hB4
        have p1 := keepBw hB4 fItems_good o1
        have p2 := keepBw hB4 fNodes_good o2
        have p3 := keepBw hB4 fInts_good o3
        clear bR2 bO2 o1 o2 o3 bR bO
        go_wp2
        rw [HM1.out] at p1 ⊢
        rw [HM2.out] at p2 ⊢
        rw [HM3.out] at p3 ⊢
        refine bodyPost_ret (v := .tuple #[.agg #[.slice A1 s.items.length c1, .slice A2 s.wanted.length c2, .slice A3 s.best.length c3, .int .i64 s.tests], .bool false]) (by simp [results, Tryz.results11, go_sem, r0, r1, r2, r3]) rfl (stand_ret p1 p2 p3 (fV.mono (by omega)) (by omega) hBB)
      · have hK1 : ¬ (0 : Int) ≤ K := hK0
        by_cases hn16 : 16 ≤ n
        · have hn2 : n = 16 := by
            have h1 := areItems_len (areBoth_items (stand_both E1.out).1)
            have := L.out; omega
          have hn1 : ((n : Int) == 16) = true := by rw [hn2]; rfl
          clear hn2
          have bS4 := bS.bw hB4
          have y0 := bS4.c 0 _ rfl
          have y1 := bS4.c 1 _ rfl
          have y2 := bS4.c 2 _ rfl
          have y3 := bS4.c 3 _ rfl
          have yf := bS4.fr
          clear hno bS4
          have bR2 := bR.bw hB4
          have bO2 := bO.bw hB4
          have r0 := bR2.c 0 _ rfl
          have r1 := bR2.c 1 _ rfl
          have r2 := bR2.c 2 _ rfl
          have r3 := bR2.c 3 _ rfl
          have rf := bR2.fr
          have q0 := bO2.c 0 _ rfl
          have q1 := bO2.c 1 _ rfl
          have q2 := bO2.c 2 _ rfl
          have q3 := bO2.c 3 _ rfl
          have qf := bO2.fr
          have hBB := BV.then hB4
          have p1 := keepBw hB4 fItems_good o1
          have p2 := keepBw hB4 fNodes_good o2
          have p3 := keepBw hB4 fInts_good o3
          clear bR2 bO2 o1 o2 o3 bR bO
          go_wp2
          rw [HM1.out] at p1 ⊢
          rw [HM2.out] at p2 ⊢
          rw [HM3.out] at p3 ⊢
          refine bodyPost_ret (v := .tuple #[.agg #[.slice A1 s.items.length c1, .slice A2 s.wanted.length c2, .slice A3 s.best.length c3, .int .i64 s.tests], .bool false]) (by simp [results, Tryz.results11, go_sem, r0, r1, r2, r3]) rfl (stand_ret p1 p2 p3 (fV.mono (by omega)) (by omega) hBB)
        · have hn1 : ((n : Int) == 16) = false := by rw [beq_eq_false_iff_ne]; omega
          have ht0 : 999900 < s.tests := by
            rcases Decidable.em (999900 < s.tests) with h | h
            · exact h
            · exfalso
              have h2 : insOk s x = true := by
                unfold insOk
                rw [E1.out, E2.out, decide_eq_true (show findIdx s.items x.id < 0 by rw [← HK.out]; omega), decide_eq_true (show s.items.length < 16 by rw [← L.out]; omega), decide_eq_true (show s.tests ≤ 999900 by omega)]; rfl
              rw [h2] at hno; cases hno
          have bS4 := bS.bw hB4
          have y0 := bS4.c 0 _ rfl
          have y1 := bS4.c 1 _ rfl
          have y2 := bS4.c 2 _ rfl
          have y3 := bS4.c 3 _ rfl
          have yf := bS4.fr
          clear hno bS4
          have bR2 := bR.bw hB4
          have bO2 := bO.bw hB4
          have r0 := bR2.c 0 _ rfl
          have r1 := bR2.c 1 _ rfl
          have r2 := bR2.c 2 _ rfl
          have r3 := bR2.c 3 _ rfl
          have rf := bR2.fr
          have q0 := bO2.c 0 _ rfl
          have q1 := bO2.c 1 _ rfl
          have q2 := bO2.c 2 _ rfl
          have q3 := bO2.c 3 _ rfl
          have qf := bO2.fr
          have hBB := BV.then hB4
          have p1 := keepBw hB4 fItems_good o1
          have p2 := keepBw hB4 fNodes_good o2
          have p3 := keepBw hB4 fInts_good o3
          clear bR2 bO2 o1 o2 o3 bR bO
          go_wp2
          rw [HM1.out] at p1 ⊢
          rw [HM2.out] at p2 ⊢
          rw [HM3.out] at p3 ⊢
          refine bodyPost_ret (v := .tuple #[.agg #[.slice A1 s.items.length c1, .slice A2 s.wanted.length c2, .slice A3 s.best.length c3, .int .i64 s.tests], .bool false]) (by simp [results, Tryz.results11, go_sem, r0, r1, r2, r3]) rfl (stand_ret p1 p2 p3 (fV.mono (by omega)) (by omega) hBB)
    · rw [e2]
      clear e2 hno
      have bR2 := bR.bw hB3
      have bO2 := bO.bw hB3
      have r0 := bR2.c 0 _ rfl
      have r1 := bR2.c 1 _ rfl
      have r2 := bR2.c 2 _ rfl
      have r3 := bR2.c 3 _ rfl
      have rf := bR2.fr
      have q0 := bO2.c 0 _ rfl
      have q1 := bO2.c 1 _ rfl
      have q2 := bO2.c 2 _ rfl
      have q3 := bO2.c 3 _ rfl
      have qf := bO2.fr
      have hBB := BV.then hB3
      have p1 := keepBw hB3 fItems_good o1
      have p2 := keepBw hB3 fNodes_good o2
      have p3 := keepBw hB3 fInts_good o3
      clear bR2 bO2 o1 o2 o3 bR bO
      go_wp2
      rw [HM1.out] at p1 ⊢
      rw [HM2.out] at p2 ⊢
      rw [HM3.out] at p3 ⊢
      refine bodyPost_ret (v := .tuple #[.agg #[.slice A1 s.items.length c1, .slice A2 s.wanted.length c2, .slice A3 s.best.length c3, .int .i64 s.tests], .bool false]) (by simp [results, Tryz.results11, go_sem, r0, r1, r2, r3]) rfl (stand_ret p1 p2 p3 (fV.mono (by omega)) (by omega) hBB)
  · rw [e1]
    clear e1 hno
    have bR2 := bR.bw hb2
    have bO2 := bO.bw hb2
    have r0 := bR2.c 0 _ rfl
    have r1 := bR2.c 1 _ rfl
    have r2 := bR2.c 2 _ rfl
    have r3 := bR2.c 3 _ rfl
    have rf := bR2.fr
    have q0 := bO2.c 0 _ rfl
    have q1 := bO2.c 1 _ rfl
    have q2 := bO2.c 2 _ rfl
    have q3 := bO2.c 3 _ rfl
    have qf := bO2.fr
    have hBB := BV.then hb2
    have p1 := keepBw hb2 fItems_good o1
    have p2 := keepBw hb2 fNodes_good o2
    have p3 := keepBw hb2 fInts_good o3
    clear bR2 bO2 o1 o2 o3 bR bO
    go_wp2
    rw [HM1.out] at p1 ⊢
    rw [HM2.out] at p2 ⊢
    rw [HM3.out] at p3 ⊢
    refine bodyPost_ret (v := .tuple #[.agg #[.slice A1 s.items.length c1, .slice A2 s.wanted.length c2, .slice A3 s.best.length c3, .int .i64 s.tests], .bool false]) (by simp [results, Tryz.results11, go_sem, r0, r1, r2, r3]) rfl (stand_ret p1 p2 p3 (fV.mono (by omega)) (by omega) hBB)
end Go.Proofs.YtpihighajaeabaaGreat
