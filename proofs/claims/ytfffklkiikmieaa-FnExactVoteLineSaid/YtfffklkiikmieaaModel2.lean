/- The program's answers in plain words: wishes and expressions. No program in sight. -/
import Derived.Test.YtfffklkiikmieaaModel
namespace Go.Proofs.Ytfffklkiikmieaa
open Go.RowKit
set_option linter.unusedVariables false

/-! ### wishes -/
def ascFrom : Option Int → List Int → Bool
  | _, [] => true
  | none, v :: l => inB v 0 9 && ascFrom (some v) l
  | some p, v :: l => (inB v 0 9 && decide (p < v)) && ascFrom (some v) l
def prevI (l : List Int) (k : Nat) : Option Int := match k with | 0 => none | k + 1 => l[k]?
theorem prevI_succ {l : List Int} {k : Nat} {x : Int} (h : l[k]? = some x) : prevI l (k + 1) = some x := h
theorem asc_first {l : List Int} {x : Int} (h : l[0]? = some x) : ascFrom (prevI l 0) (l.drop 0) = (inB x 0 9 && ascFrom (prevI l 1) (l.drop 1)) := by
  rw [prevI_succ h, drop_cons h]; rfl
theorem asc_next {l : List Int} {k : Nat} {x y : Int} (hy : l[k]? = some y) (h : l[k + 1]? = some x) : ascFrom (prevI l (k + 1)) (l.drop (k + 1)) = ((inB x 0 9 && decide (y < x)) && ascFrom (prevI l (k + 1 + 1)) (l.drop (k + 1 + 1))) := by
  rw [prevI_succ hy, prevI_succ h, drop_cons h]; rfl
theorem ascFrom_mem : ∀ {l : List Int} {p : Option Int} {v : Int}, ascFrom p l = true → v ∈ l → 0 ≤ v ∧ v ≤ 9
  | u :: l, none, v, h, hv => by
    simp only [ascFrom, Bool.and_eq_true] at h
    rcases List.mem_cons.1 hv with rfl | hv
    · exact inB_iff.1 h.1
    · exact ascFrom_mem h.2 hv
  | u :: l, some p, v, h, hv => by
    simp only [ascFrom, Bool.and_eq_true] at h
    rcases List.mem_cons.1 hv with rfl | hv
    · exact inB_iff.1 h.1.1
    · exact ascFrom_mem h.2 hv
def isWish (w : GWish) : Bool :=
  inB w.field 0 2 && (inB w.kind 0 4 && (inB w.value 0 9 && (ascFrom none w.list && ((decide (w.kind = 2) || decide (w.value = 0)) && ((decide (w.kind = 3) == decide (0 < w.list.length)) &&
    (if w.kind = 4 then arePairs w.pairs else decide (w.pairs.length = 0)))))))
def rankV (w : GWish) (v : Int) : Int :=
  if w.kind = 0 then v else if w.kind = 1 then 9 - v else if w.kind = 2 then max (v - w.value) (w.value - v) else if w.list.contains v then 0 else 1
def cmpV (w : GWish) (a b : Int) : Int :=
  if w.kind = 4 then (if a = b then 0 else if reachB w.pairs a b then 1 else if reachB w.pairs b a then -1 else 2)
  else if rankV w a < rankV w b then 1 else if rankV w b < rankV w a then -1 else 0
def cmpItem (w : GWish) (x y : GItem) : Int := cmpV w (valAt x w.field) (valAt y w.field)
theorem cmpV_code (w : GWish) (a b : Int) : -1 ≤ cmpV w a b ∧ cmpV w a b ≤ 2 := by
  unfold cmpV; repeat' split
  all_goals omega

/-! ### expressions -/
def noWish : GWish := ⟨0, 0, 0, [], []⟩
def opnds (op : Int) : Int := if op = 0 then 0 else if op = 3 then 1 else 2
def nodeOk (n : GNode) (d : Int) : Bool := inB n.op 0 4 && (decide (opnds n.op ≤ d) && if n.op = 0 then isWish n.wish else decide (n.wish = noWish))
/-- the depth behind a list of nodes, or none -/
def depthOf : List GNode → Int → Option Int
  | [], d => some d
  | n :: l, d => if nodeOk n d then depthOf l (d - opnds n.op + 1) else none
def isExpr (e : List GNode) : Bool := decide (depthOf e 0 = some 1) && decide (e.length ≤ 9)
def comb (op a b : Int) : Int :=
  if op = 1 then (if a = 2 ∨ b = 2 ∨ a * b < 0 then 2 else if a = 0 then b else a) else if op = 2 then (if a = 0 then b else a) else if a = b then a else 2
def neg2 (a : Int) : Int := if a = 2 then 2 else -a
/-- one node on a stack whose top stands last -/
def stackStep (x y : GItem) (st : List Int) (n : GNode) : List Int :=
  if n.op = 0 then st ++ [cmpItem n.wish x y]
  else if n.op = 3 then st.take (st.length - 1) ++ [neg2 (st.getD (st.length - 1) 0)]
  else st.take (st.length - 2) ++ [comb n.op (st.getD (st.length - 2) 0) (st.getD (st.length - 1) 0)]
def cmpBy (e : List GNode) (x y : GItem) : Int := (e.foldl (stackStep x y) []).getD 0 0
theorem comb_code {op a b : Int} (ha : -1 ≤ a ∧ a ≤ 2) (hb : -1 ≤ b ∧ b ≤ 2) : -1 ≤ comb op a b ∧ comb op a b ≤ 2 := by
  unfold comb; repeat' split
  all_goals omega
theorem neg2_code {a : Int} (ha : -1 ≤ a ∧ a ≤ 2) : -1 ≤ neg2 a ∧ neg2 a ≤ 2 := by
  unfold neg2; split <;> omega
end Go.Proofs.Ytfffklkiikmieaa
