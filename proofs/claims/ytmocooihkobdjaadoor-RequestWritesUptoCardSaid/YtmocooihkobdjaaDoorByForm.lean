/-
  Plain Lean: which relations are well shaped, and how relations are written.
-/
import Derived.Test.YtmocooihkobdjaaDoorByBase
import Derived.Lib.Join
set_option linter.unusedVariables false
set_option linter.unusedSimpArgs false
namespace Go.Proofs.YtmocooihkobdjaaDoor.Model
open Go.RowKit Go.Proofs.YtmocooihkobdjaaDoor.B Go.Proofs.YtmocooihkobdjaaDoorW.PrintWords Go.Proofs.YtmocooihkobdjaaDoorW.PrintLast Go.Proofs.YtmocooihkobdjaaDoor.Ver

/-- Well shaped, as the program asks. -/
def formM (x : S46) : Bool := nameM x.f0.data.toList && (if x.f1 = 0 then x.f2.toList == ([] : List UInt8) else if (wordOf x.f1).toList = ([] : List UInt8) then false else okS x.f2)
def textM (x : S46) : B := if x.f1 = 0 then x.f0.data.toList else x.f0.data.toList ++ ([32, 40] ++ ((wordOf x.f1).data.toList ++ ([32] ++ (x.f2.data.toList ++ [41]))))
def rowT (m : List S46) : B := Lib.join (m.map textM) [32, 124, 32]
def textsM (L : List (List S46)) : B := Lib.join (L.map rowT) [44, 32]
def okL (L : List (List S46)) : Bool := L.all (fun m => !m.isEmpty && m.all formM)
theorem joinTail_cons (sep : B) (x : B) (r : List B) : Lib.joinTail sep (x :: r) = sep ++ (x ++ Lib.joinTail sep r) := by
  simp [Lib.joinTail]
theorem rowT_cons (x : S46) (m : List S46) : rowT (x :: m) = textM x ++ Lib.joinTail [32, 124, 32] (m.map textM) := by
  unfold rowT
  rw [List.map_cons, Lib.join_cons]
/-! ### reading lists at a place -/
theorem rd_at {L : List (List S46)} {i : Nat} (h : i < L.length) : rd_L3 L (i : Int) = L[i] := by
  unfold rd_L3
  rw [Int.toNat_natCast, List.getD_eq_getElem?_getD, List.getElem?_eq_getElem h, Option.getD_some]
theorem rt_at {l : List S46} {i : Nat} (h : i < l.length) : rd_T46 l (i : Int) = l[i] := by
  unfold rd_T46
  rw [Int.toNat_natCast, List.getD_eq_getElem?_getD, List.getElem?_eq_getElem h, Option.getD_some]
theorem drop_at {α : Type} {l : List α} {i : Nat} (h : i < l.length) : l.drop i = l[i] :: l.drop (i + 1) := List.drop_eq_getElem_cons h
theorem row_len {L : List (List S46)} {m : List S46} (h : m ∈ L) : m.length ≤ L.flatten.length := by
  induction L with
  | nil => cases h
  | cons a L ih =>
    simp only [List.flatten_cons, List.length_append]
    rcases List.mem_cons.1 h with q | q
    · rw [q]; omega
    · have := ih q; omega
def full (L : List (List S46)) : Bool := L.all (fun m => !m.isEmpty)
def fair (L : List (List S46)) : Bool := L.all (fun m => m.all formM)
theorem okL_parts (L : List (List S46)) : okL L = (full L && fair L) := by
  unfold okL full fair
  induction L with
  | nil => rfl
  | cons m L ih =>
    rw [List.all_cons, List.all_cons, List.all_cons, ih]
    cases m.isEmpty <;> cases m.all formM <;> simp
theorem fair_flat (L : List (List S46)) : L.flatten.all formM = fair L := by
  unfold fair
  induction L with
  | nil => rfl
  | cons m L ih => rw [List.flatten_cons, List.all_append, List.all_cons, ih]
end Go.Proofs.YtmocooihkobdjaaDoor.Model
