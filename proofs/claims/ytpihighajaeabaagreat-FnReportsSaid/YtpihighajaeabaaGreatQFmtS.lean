/- Wishes as text, in the reference. -/
import Derived.Test.YtpihighajaeabaaGreatQFmtW
namespace Go.Proofs.YtpihighajaeabaaGreat
open Go.RowKit
set_option linter.unusedVariables false
set_option linter.unusedSimpArgs false
set_option maxRecDepth 100000 in
set_option maxHeartbeats 1600000 in
theorem S_FormatWish_no (w : World) (x : GWish) (v u : Value) (h : Rd rInts w x.list [v]) (h' : Rd rPairs w x.pairs [u]) (hI : isWish x = false) :
    Calls Tryz.prog 143 #[.agg #[.int .i64 x.kind, .int .i64 x.field, .int .i64 x.value, v, u]] w (Ret w (.string ⟨#[]⟩)) := by
  have B0 : Bw w (w.alloc (.cells #[.int .i64 x.kind, .int .i64 x.field, .int .i64 x.value, v, u] 109)) := (Bw.refl w).alloc _
  have c1 := S_IsWish _ x v u (h.bw rInts_good B0) (h'.bw rPairs_good B0)
  rw [hI] at c1
  clear hI
  go_enter Tryz.func143, Tryz.ntmps143
  go_wp2_with fail
  refine (c1).mono ?_
  rintro e w1 ⟨rfl, hb1⟩
  go_wp2
  go_ret
  exact Ret.str (rfl) (B0.then hb1)
set_option maxRecDepth 100000 in
set_option maxHeartbeats 3200000 in
theorem S_FormatWish0 (w : World) (x : GWish) (v u : Value) (h : Rd rInts w x.list [v]) (h' : Rd rPairs w x.pairs [u]) (hI : isWish x = true) (hK : x.kind = 0) :
    Calls Tryz.prog 143 #[.agg #[.int .i64 0, .int .i64 x.field, .int .i64 x.value, v, u]] w (Ret w (.string (wishText x))) := by
  obtain ⟨Av, nv, cv, rfl, l1, l2, l3⟩ := rSl_open h
  obtain ⟨Au, nu, cu, rfl, l4, l5, l6⟩ := rSl_open h'
  clear l1 l2 l3 l4 l5 l6
  have B0 : Bw w (w.alloc (.cells #[.int .i64 0, .int .i64 x.field, .int .i64 x.value, .slice Av nv cv, .slice Au nu cu] 109)) := (Bw.refl w).alloc _
  have c1 := S_IsWish _ x _ _ (h.bw rInts_good B0) (h'.bw rPairs_good B0)
  rw [hK, hI] at c1
  have wf1 := wf_small' (n := x.field) (by have := isWish_field hI; omega)
  have wf2 := wf_small' (n := x.value) (by have := isWish_value hI; omega)
  have cF := fun W => S_FormatInt W x.field wf1
  have hsz := (fmtInt_size wf1).2
  obtain ⟨F, hF⟩ : ∃ F, F = fmtInt x.field := ⟨_, rfl⟩
  rw [← hF] at hsz
  simp only [← hF] at cF
  have e2 : (⟨#[32, 102]⟩ : ByteArray).size = 2 := rfl
  have ew : (⟨#[108, 111, 119]⟩ : ByteArray).size ≤ 5 := by show _ ≤ _; decide
  obtain ⟨H, hH⟩ : ∃ H : ByteArray, H = ⟨#[32, 102]⟩ ++ F := ⟨_, rfl⟩
  have hHs : H.size ≤ 22 := by rw [hH, size_append]; omega
  have a1 : ∀ W, (Op.stringOp .add ⟨#[32, 102]⟩ F).run Tryz.prog W = .ok (.string H) W := by rw [hH]; exact add_sum (by omega)
  obtain ⟨E, hE⟩ : ∃ E : ByteArray, E = ⟨#[108, 111, 119]⟩ ++ H := ⟨_, rfl⟩
  have hEs : E.size ≤ 27 := by rw [hE, size_append]; omega
  have a2 : ∀ W, (Op.stringOp .add ⟨#[108, 111, 119]⟩ H).run Tryz.prog W = .ok (.string E) W := by rw [hE]; exact add_sum (by omega)
  have hh : wishHead x = E := by rw [wishHead, hK, hE, hH, hF, ← bytes_assoc]; rfl
  have HF := Lib.hid (show wishText x = E by rw [wishText, if_pos hI, hK, ← hh]; rfl)
  have CF := Lib.hid cF
  clear cF hF hsz e2 ew wf1 wf2 hI hK h h' hH hHs hE hEs hh
  go_enter Tryz.func143, Tryz.ntmps143
  go_wp2_with fail
  refine (c1).mono ?_
  rintro e w1 ⟨rfl, hb1⟩
  have p0 : w1.cell? ⟨w.heap.size, 0, none⟩ = some (.int .i64 0) := hb1.cell (by go_simp)
  have p1 : w1.cell? ⟨w.heap.size, 1, none⟩ = some (.int .i64 x.field) := hb1.cell (by go_simp)
  have p2 : w1.cell? ⟨w.heap.size, 2, none⟩ = some (.int .i64 x.value) := hb1.cell (by go_simp)
  have p3 : w1.cell? ⟨w.heap.size, 3, none⟩ = some (.slice Av nv cv) := hb1.cell (by go_simp)
  have p4 : w1.cell? ⟨w.heap.size, 4, none⟩ = some (.slice Au nu cu) := hb1.cell (by go_simp)
  have B1 := B0.then hb1
  clear c1
  go_wp2_with fail
  refine (CF.out _).mono ?_
  rintro e' w2 ⟨rfl, hb2⟩
  replace p0 := hb2.cell p0
  replace p2 := hb2.cell p2
  replace p3 := hb2.cell p3
  replace p4 := hb2.cell p4
  have B2 := B1.then hb2
  go_wp2
  go_ret
  exact Ret.str (HF.out.symm) (B2)
set_option maxRecDepth 100000 in
set_option maxHeartbeats 3200000 in
theorem S_FormatWish1 (w : World) (x : GWish) (v u : Value) (h : Rd rInts w x.list [v]) (h' : Rd rPairs w x.pairs [u]) (hI : isWish x = true) (hK : x.kind = 1) :
    Calls Tryz.prog 143 #[.agg #[.int .i64 1, .int .i64 x.field, .int .i64 x.value, v, u]] w (Ret w (.string (wishText x))) := by
  obtain ⟨Av, nv, cv, rfl, l1, l2, l3⟩ := rSl_open h
  obtain ⟨Au, nu, cu, rfl, l4, l5, l6⟩ := rSl_open h'
  clear l1 l2 l3 l4 l5 l6
  have B0 : Bw w (w.alloc (.cells #[.int .i64 1, .int .i64 x.field, .int .i64 x.value, .slice Av nv cv, .slice Au nu cu] 109)) := (Bw.refl w).alloc _
  have c1 := S_IsWish _ x _ _ (h.bw rInts_good B0) (h'.bw rPairs_good B0)
  rw [hK, hI] at c1
  have wf1 := wf_small' (n := x.field) (by have := isWish_field hI; omega)
  have wf2 := wf_small' (n := x.value) (by have := isWish_value hI; omega)
  have cF := fun W => S_FormatInt W x.field wf1
  have hsz := (fmtInt_size wf1).2
  obtain ⟨F, hF⟩ : ∃ F, F = fmtInt x.field := ⟨_, rfl⟩
  rw [← hF] at hsz
  simp only [← hF] at cF
  have e2 : (⟨#[32, 102]⟩ : ByteArray).size = 2 := rfl
  have ew : (⟨#[104, 105, 103, 104]⟩ : ByteArray).size ≤ 5 := by show _ ≤ _; decide
  obtain ⟨H, hH⟩ : ∃ H : ByteArray, H = ⟨#[32, 102]⟩ ++ F := ⟨_, rfl⟩
  have hHs : H.size ≤ 22 := by rw [hH, size_append]; omega
  have a1 : ∀ W, (Op.stringOp .add ⟨#[32, 102]⟩ F).run Tryz.prog W = .ok (.string H) W := by rw [hH]; exact add_sum (by omega)
  obtain ⟨E, hE⟩ : ∃ E : ByteArray, E = ⟨#[104, 105, 103, 104]⟩ ++ H := ⟨_, rfl⟩
  have hEs : E.size ≤ 27 := by rw [hE, size_append]; omega
  have a2 : ∀ W, (Op.stringOp .add ⟨#[104, 105, 103, 104]⟩ H).run Tryz.prog W = .ok (.string E) W := by rw [hE]; exact add_sum (by omega)
  have hh : wishHead x = E := by rw [wishHead, hK, hE, hH, hF, ← bytes_assoc]; rfl
  have HF := Lib.hid (show wishText x = E by rw [wishText, if_pos hI, hK, ← hh]; rfl)
  have CF := Lib.hid cF
  clear cF hF hsz e2 ew wf1 wf2 hI hK h h' hH hHs hE hEs hh
  go_enter Tryz.func143, Tryz.ntmps143
  go_wp2_with fail
  refine (c1).mono ?_
  rintro e w1 ⟨rfl, hb1⟩
  have p0 : w1.cell? ⟨w.heap.size, 0, none⟩ = some (.int .i64 1) := hb1.cell (by go_simp)
  have p1 : w1.cell? ⟨w.heap.size, 1, none⟩ = some (.int .i64 x.field) := hb1.cell (by go_simp)
  have p2 : w1.cell? ⟨w.heap.size, 2, none⟩ = some (.int .i64 x.value) := hb1.cell (by go_simp)
  have p3 : w1.cell? ⟨w.heap.size, 3, none⟩ = some (.slice Av nv cv) := hb1.cell (by go_simp)
  have p4 : w1.cell? ⟨w.heap.size, 4, none⟩ = some (.slice Au nu cu) := hb1.cell (by go_simp)
  have B1 := B0.then hb1
  clear c1
  go_wp2_with fail
  refine (CF.out _).mono ?_
  rintro e' w2 ⟨rfl, hb2⟩
  replace p0 := hb2.cell p0
  replace p2 := hb2.cell p2
  replace p3 := hb2.cell p3
  replace p4 := hb2.cell p4
  have B2 := B1.then hb2
  go_wp2
  go_ret
  exact Ret.str (HF.out.symm) (B2)
set_option maxRecDepth 100000 in
set_option maxHeartbeats 3200000 in
theorem S_FormatWish2 (w : World) (x : GWish) (v u : Value) (h : Rd rInts w x.list [v]) (h' : Rd rPairs w x.pairs [u]) (hI : isWish x = true) (hK : x.kind = 2) :
    Calls Tryz.prog 143 #[.agg #[.int .i64 2, .int .i64 x.field, .int .i64 x.value, v, u]] w (Ret w (.string (wishText x))) := by
  obtain ⟨Av, nv, cv, rfl, l1, l2, l3⟩ := rSl_open h
  obtain ⟨Au, nu, cu, rfl, l4, l5, l6⟩ := rSl_open h'
  clear l1 l2 l3 l4 l5 l6
  have B0 : Bw w (w.alloc (.cells #[.int .i64 2, .int .i64 x.field, .int .i64 x.value, .slice Av nv cv, .slice Au nu cu] 109)) := (Bw.refl w).alloc _
  have c1 := S_IsWish _ x _ _ (h.bw rInts_good B0) (h'.bw rPairs_good B0)
  rw [hK, hI] at c1
  have wf1 := wf_small' (n := x.field) (by have := isWish_field hI; omega)
  have wf2 := wf_small' (n := x.value) (by have := isWish_value hI; omega)
  have cF := fun W => S_FormatInt W x.field wf1
  have hsz := (fmtInt_size wf1).2
  obtain ⟨F, hF⟩ : ∃ F, F = fmtInt x.field := ⟨_, rfl⟩
  rw [← hF] at hsz
  simp only [← hF] at cF
  have e2 : (⟨#[32, 102]⟩ : ByteArray).size = 2 := rfl
  have ew : (⟨#[110, 101, 97, 114]⟩ : ByteArray).size ≤ 5 := by show _ ≤ _; decide
  obtain ⟨H, hH⟩ : ∃ H : ByteArray, H = ⟨#[32, 102]⟩ ++ F := ⟨_, rfl⟩
  have hHs : H.size ≤ 22 := by rw [hH, size_append]; omega
  have a1 : ∀ W, (Op.stringOp .add ⟨#[32, 102]⟩ F).run Tryz.prog W = .ok (.string H) W := by rw [hH]; exact add_sum (by omega)
  obtain ⟨E, hE⟩ : ∃ E : ByteArray, E = ⟨#[110, 101, 97, 114]⟩ ++ H := ⟨_, rfl⟩
  have hEs : E.size ≤ 27 := by rw [hE, size_append]; omega
  have a2 : ∀ W, (Op.stringOp .add ⟨#[110, 101, 97, 114]⟩ H).run Tryz.prog W = .ok (.string E) W := by rw [hE]; exact add_sum (by omega)
  have hh : wishHead x = E := by rw [wishHead, hK, hE, hH, hF, ← bytes_assoc]; rfl
  obtain ⟨V, hV⟩ : ∃ V, V = fmtInt x.value := ⟨_, rfl⟩
  have cV : ∀ W, Bw w W → Calls Tryz.prog 64 #[.int .i64 x.value] W (Ret W (.string V)) := fun W _ => by rw [hV]; exact S_FormatInt W x.value wf2
  have hVs : V.size ≤ 400 := by rw [hV]; have := (fmtInt_size wf2).2; omega
  have es : (⟨#[32]⟩ : ByteArray).size = 1 := rfl
  have b1 : ∀ W, (Op.stringOp .add E ⟨#[32]⟩).run Tryz.prog W = .ok (.string (E ++ ⟨#[32]⟩)) W := add_sum (by omega)
  have b2 : ∀ W, (Op.stringOp .add (E ++ ⟨#[32]⟩) V).run Tryz.prog W = .ok (.string (E ++ ⟨#[32]⟩ ++ V)) W := add_sum (by rw [size_append]; omega)
  have HF := Lib.hid (show wishText x = E ++ ⟨#[32]⟩ ++ V by rw [wishText, if_pos hI, hK, hV, ← hh] <;> rfl)
  have CV := Lib.hid cV
  clear cV hV hVs es
  have CF := Lib.hid cF
  clear cF hF hsz e2 ew wf1 wf2 hI hK h h' hH hHs hE hEs hh
  go_enter Tryz.func143, Tryz.ntmps143
  go_wp2_with fail
  refine (c1).mono ?_
  rintro e w1 ⟨rfl, hb1⟩
  have p0 : w1.cell? ⟨w.heap.size, 0, none⟩ = some (.int .i64 2) := hb1.cell (by go_simp)
  have p1 : w1.cell? ⟨w.heap.size, 1, none⟩ = some (.int .i64 x.field) := hb1.cell (by go_simp)
  have p2 : w1.cell? ⟨w.heap.size, 2, none⟩ = some (.int .i64 x.value) := hb1.cell (by go_simp)
  have p3 : w1.cell? ⟨w.heap.size, 3, none⟩ = some (.slice Av nv cv) := hb1.cell (by go_simp)
  have p4 : w1.cell? ⟨w.heap.size, 4, none⟩ = some (.slice Au nu cu) := hb1.cell (by go_simp)
  have B1 := B0.then hb1
  clear c1
  go_wp2_with fail
  refine (CF.out _).mono ?_
  rintro e' w2 ⟨rfl, hb2⟩
  replace p0 := hb2.cell p0
  replace p2 := hb2.cell p2
  replace p3 := hb2.cell p3
  replace p4 := hb2.cell p4
  have B2 := B1.then hb2
  go_wp2_with fail
  refine (CV.out _ B2).mono ?_
  rintro e' w3 ⟨rfl, hb3⟩
  go_wp2
  go_ret
  exact Ret.str (HF.out.symm) (B2.then hb3)
set_option maxRecDepth 100000 in
set_option maxHeartbeats 3200000 in
theorem S_FormatWish3 (w : World) (x : GWish) (v u : Value) (h : Rd rInts w x.list [v]) (h' : Rd rPairs w x.pairs [u]) (hI : isWish x = true) (hK : x.kind = 3) :
    Calls Tryz.prog 143 #[.agg #[.int .i64 3, .int .i64 x.field, .int .i64 x.value, v, u]] w (Ret w (.string (wishText x))) := by
  obtain ⟨Av, nv, cv, rfl, l1, l2, l3⟩ := rSl_open h
  obtain ⟨Au, nu, cu, rfl, l4, l5, l6⟩ := rSl_open h'
  clear l1 l2 l3 l4 l5 l6
  have B0 : Bw w (w.alloc (.cells #[.int .i64 3, .int .i64 x.field, .int .i64 x.value, .slice Av nv cv, .slice Au nu cu] 109)) := (Bw.refl w).alloc _
  have c1 := S_IsWish _ x _ _ (h.bw rInts_good B0) (h'.bw rPairs_good B0)
  rw [hK, hI] at c1
  have wf1 := wf_small' (n := x.field) (by have := isWish_field hI; omega)
  have wf2 := wf_small' (n := x.value) (by have := isWish_value hI; omega)
  have cF := fun W => S_FormatInt W x.field wf1
  have hsz := (fmtInt_size wf1).2
  obtain ⟨F, hF⟩ : ∃ F, F = fmtInt x.field := ⟨_, rfl⟩
  rw [← hF] at hsz
  simp only [← hF] at cF
  have e2 : (⟨#[32, 102]⟩ : ByteArray).size = 2 := rfl
  have ew : (⟨#[97, 109, 111, 110, 103]⟩ : ByteArray).size ≤ 5 := by show _ ≤ _; decide
  obtain ⟨H, hH⟩ : ∃ H : ByteArray, H = ⟨#[32, 102]⟩ ++ F := ⟨_, rfl⟩
  have hHs : H.size ≤ 22 := by rw [hH, size_append]; omega
  have a1 : ∀ W, (Op.stringOp .add ⟨#[32, 102]⟩ F).run Tryz.prog W = .ok (.string H) W := by rw [hH]; exact add_sum (by omega)
  obtain ⟨E, hE⟩ : ∃ E : ByteArray, E = ⟨#[97, 109, 111, 110, 103]⟩ ++ H := ⟨_, rfl⟩
  have hEs : E.size ≤ 27 := by rw [hE, size_append]; omega
  have a2 : ∀ W, (Op.stringOp .add ⟨#[97, 109, 111, 110, 103]⟩ H).run Tryz.prog W = .ok (.string E) W := by rw [hE]; exact add_sum (by omega)
  have hh : wishHead x = E := by rw [wishHead, hK, hE, hH, hF, ← bytes_assoc]; rfl
  obtain ⟨V, hV⟩ : ∃ V, V = numText x.list ⟨#[44]⟩ := ⟨_, rfl⟩
  have cV : ∀ W, Bw w W → Calls Tryz.prog 145 #[.slice Av nv cv] W (Ret W (.string V)) := fun W B => by rw [hV]; exact S_l2List W x.list _ (h.bw rInts_good B) (wish_list_wf hI) (by have := wish_list_len hI; omega)
  have hVs : V.size ≤ 400 := by rw [hV]; have := numText_len hI; omega
  have es : (⟨#[32]⟩ : ByteArray).size = 1 := rfl
  have b1 : ∀ W, (Op.stringOp .add E ⟨#[32]⟩).run Tryz.prog W = .ok (.string (E ++ ⟨#[32]⟩)) W := add_sum (by omega)
  have b2 : ∀ W, (Op.stringOp .add (E ++ ⟨#[32]⟩) V).run Tryz.prog W = .ok (.string (E ++ ⟨#[32]⟩ ++ V)) W := add_sum (by rw [size_append]; omega)
  have HF := Lib.hid (show wishText x = E ++ ⟨#[32]⟩ ++ V by rw [wishText, if_pos hI, hK, hV, ← hh] <;> rfl)
  have CV := Lib.hid cV
  clear cV hV hVs es
  have CF := Lib.hid cF
  clear cF hF hsz e2 ew wf1 wf2 hI hK h h' hH hHs hE hEs hh
  go_enter Tryz.func143, Tryz.ntmps143
  go_wp2_with fail
  refine (c1).mono ?_
  rintro e w1 ⟨rfl, hb1⟩
  have p0 : w1.cell? ⟨w.heap.size, 0, none⟩ = some (.int .i64 3) := hb1.cell (by go_simp)
  have p1 : w1.cell? ⟨w.heap.size, 1, none⟩ = some (.int .i64 x.field) := hb1.cell (by go_simp)
  have p2 : w1.cell? ⟨w.heap.size, 2, none⟩ = some (.int .i64 x.value) := hb1.cell (by go_simp)
  have p3 : w1.cell? ⟨w.heap.size, 3, none⟩ = some (.slice Av nv cv) := hb1.cell (by go_simp)
  have p4 : w1.cell? ⟨w.heap.size, 4, none⟩ = some (.slice Au nu cu) := hb1.cell (by go_simp)
  have B1 := B0.then hb1
  clear c1
  go_wp2_with fail
  refine (CF.out _).mono ?_
  rintro e' w2 ⟨rfl, hb2⟩
  replace p0 := hb2.cell p0
  replace p2 := hb2.cell p2
  replace p3 := hb2.cell p3
  replace p4 := hb2.cell p4
  have B2 := B1.then hb2
  go_wp2_with fail
  refine (CV.out _ B2).mono ?_
  rintro e' w3 ⟨rfl, hb3⟩
  go_wp2
  go_ret
  exact Ret.str (HF.out.symm) (B2.then hb3)
set_option maxRecDepth 100000 in
set_option maxHeartbeats 3200000 in
theorem S_FormatWish4 (w : World) (x : GWish) (v u : Value) (h : Rd rInts w x.list [v]) (h' : Rd rPairs w x.pairs [u]) (hI : isWish x = true) (hK : x.kind = 4) :
    Calls Tryz.prog 143 #[.agg #[.int .i64 4, .int .i64 x.field, .int .i64 x.value, v, u]] w (Ret w (.string (wishText x))) := by
  obtain ⟨Av, nv, cv, rfl, l1, l2, l3⟩ := rSl_open h
  obtain ⟨Au, nu, cu, rfl, l4, l5, l6⟩ := rSl_open h'
  clear l1 l2 l3 l4 l5 l6
  have B0 : Bw w (w.alloc (.cells #[.int .i64 4, .int .i64 x.field, .int .i64 x.value, .slice Av nv cv, .slice Au nu cu] 109)) := (Bw.refl w).alloc _
  have c1 := S_IsWish _ x _ _ (h.bw rInts_good B0) (h'.bw rPairs_good B0)
  rw [hK, hI] at c1
  have wf1 := wf_small' (n := x.field) (by have := isWish_field hI; omega)
  have wf2 := wf_small' (n := x.value) (by have := isWish_value hI; omega)
  have cF := fun W => S_FormatInt W x.field wf1
  have hsz := (fmtInt_size wf1).2
  obtain ⟨F, hF⟩ : ∃ F, F = fmtInt x.field := ⟨_, rfl⟩
  rw [← hF] at hsz
  simp only [← hF] at cF
  have e2 : (⟨#[32, 102]⟩ : ByteArray).size = 2 := rfl
  have ew : (⟨#[111, 114, 100, 101, 114]⟩ : ByteArray).size ≤ 5 := by show _ ≤ _; decide
  obtain ⟨H, hH⟩ : ∃ H : ByteArray, H = ⟨#[32, 102]⟩ ++ F := ⟨_, rfl⟩
  have hHs : H.size ≤ 22 := by rw [hH, size_append]; omega
  have a1 : ∀ W, (Op.stringOp .add ⟨#[32, 102]⟩ F).run Tryz.prog W = .ok (.string H) W := by rw [hH]; exact add_sum (by omega)
  obtain ⟨E, hE⟩ : ∃ E : ByteArray, E = ⟨#[111, 114, 100, 101, 114]⟩ ++ H := ⟨_, rfl⟩
  have hEs : E.size ≤ 27 := by rw [hE, size_append]; omega
  have a2 : ∀ W, (Op.stringOp .add ⟨#[111, 114, 100, 101, 114]⟩ H).run Tryz.prog W = .ok (.string E) W := by rw [hE]; exact add_sum (by omega)
  have hh : wishHead x = E := by rw [wishHead, hK, hE, hH, hF, ← bytes_assoc]; rfl
  obtain ⟨V, hV⟩ : ∃ V, V = pairsText x.pairs := ⟨_, rfl⟩
  have cV : ∀ W, Bw w W → Calls Tryz.prog 196 #[.slice Au nu cu] W (Ret W (.string V)) := fun W B => by rw [hV]; exact S_FormatPairs W x.pairs _ (h'.bw rPairs_good B)
  have hVs : V.size ≤ 400 := by rw [hV]; exact pairsText_size x.pairs
  have es : (⟨#[32]⟩ : ByteArray).size = 1 := rfl
  have b1 : ∀ W, (Op.stringOp .add E ⟨#[32]⟩).run Tryz.prog W = .ok (.string (E ++ ⟨#[32]⟩)) W := add_sum (by omega)
  have b2 : ∀ W, (Op.stringOp .add (E ++ ⟨#[32]⟩) V).run Tryz.prog W = .ok (.string (E ++ ⟨#[32]⟩ ++ V)) W := add_sum (by rw [size_append]; omega)
  have HF := Lib.hid (show wishText x = E ++ ⟨#[32]⟩ ++ V by rw [wishText, if_pos hI, hK, hV, ← hh] <;> rfl)
  have CV := Lib.hid cV
  clear cV hV hVs es
  have CF := Lib.hid cF
  clear cF hF hsz e2 ew wf1 wf2 hI hK h h' hH hHs hE hEs hh
  go_enter Tryz.func143, Tryz.ntmps143
  go_wp2_with fail
  refine (c1).mono ?_
  rintro e w1 ⟨rfl, hb1⟩
  have p0 : w1.cell? ⟨w.heap.size, 0, none⟩ = some (.int .i64 4) := hb1.cell (by go_simp)
  have p1 : w1.cell? ⟨w.heap.size, 1, none⟩ = some (.int .i64 x.field) := hb1.cell (by go_simp)
  have p2 : w1.cell? ⟨w.heap.size, 2, none⟩ = some (.int .i64 x.value) := hb1.cell (by go_simp)
  have p3 : w1.cell? ⟨w.heap.size, 3, none⟩ = some (.slice Av nv cv) := hb1.cell (by go_simp)
  have p4 : w1.cell? ⟨w.heap.size, 4, none⟩ = some (.slice Au nu cu) := hb1.cell (by go_simp)
  have B1 := B0.then hb1
  clear c1
  go_wp2_with fail
  refine (CF.out _).mono ?_
  rintro e' w2 ⟨rfl, hb2⟩
  replace p0 := hb2.cell p0
  replace p2 := hb2.cell p2
  replace p3 := hb2.cell p3
  replace p4 := hb2.cell p4
  have B2 := B1.then hb2
  go_wp2_with fail
  refine (CV.out _ B2).mono ?_
  rintro e' w3 ⟨rfl, hb3⟩
  go_wp2
  go_ret
  exact Ret.str (HF.out.symm) (B2.then hb3)
theorem S_FormatWish (w : World) (x : GWish) (v u : Value) (h : Rd rInts w x.list [v]) (h' : Rd rPairs w x.pairs [u]) :
    Calls Tryz.prog 143 #[.agg #[.int .i64 x.kind, .int .i64 x.field, .int .i64 x.value, v, u]] w (Ret w (.string (wishText x))) := by
  rcases Bool.eq_false_or_eq_true (isWish x) with hI | hI
  · have hk := isWish_kind hI
    rcases (show x.kind = 0 ∨ x.kind = 1 ∨ x.kind = 2 ∨ x.kind = 3 ∨ x.kind = 4 by omega) with h0 | h0 | h0 | h0 | h0
    · rw [h0]; exact S_FormatWish0 w x v u h h' hI h0
    · rw [h0]; exact S_FormatWish1 w x v u h h' hI h0
    · rw [h0]; exact S_FormatWish2 w x v u h h' hI h0
    · rw [h0]; exact S_FormatWish3 w x v u h h' hI h0
    · rw [h0]; exact S_FormatWish4 w x v u h h' hI h0
  · rw [show wishText x = ⟨#[]⟩ by rw [wishText, hI]; rfl]
    exact S_FormatWish_no w x v u h h' hI
end Go.Proofs.YtpihighajaeabaaGreat
