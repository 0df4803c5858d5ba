/-
  Plain Lean: a measure of relations, lists and lists of lists.
-/
import Derived.Test.YtmocooihkobdjaaDoorB0
namespace Go.Proofs.YtmocooihkobdjaaDoor.Model
open Go.RowKit Go.Proofs.YtmocooihkobdjaaDoor.B
def relW (x : S46) : Nat := x.f0.size + x.f2.size + 1
def rowW (l : List S46) : Nat := (l.map relW).sum + 1
def rowsW (L : List (List S46)) : Nat := (L.map rowW).sum + 1
theorem relW_mem {l : List S46} {x : S46} (h : x ∈ l) : relW x ≤ (l.map relW).sum := by
  induction l with
  | nil => cases h
  | cons a l ih =>
    rw [List.map_cons, List.sum_cons]
    rcases List.mem_cons.1 h with q | q
    · rw [q]; omega
    · have := ih q; omega
theorem rowW_mem {L : List (List S46)} {m : List S46} (h : m ∈ L) : rowW m ≤ (L.map rowW).sum := by
  induction L with
  | nil => cases h
  | cons a l ih =>
    rw [List.map_cons, List.sum_cons]
    rcases List.mem_cons.1 h with q | q
    · rw [q]; omega
    · have := ih q; omega
theorem row_length (l : List S46) : l.length ≤ (l.map relW).sum := by
  induction l with
  | nil => simp
  | cons a l ih =>
    rw [List.map_cons, List.sum_cons, List.length_cons]
    unfold relW at *
    omega
theorem rows_length (L : List (List S46)) : L.length ≤ (L.map rowW).sum := by
  induction L with
  | nil => simp
  | cons a l ih =>
    rw [List.map_cons, List.sum_cons, List.length_cons]
    unfold rowW at *
    omega
theorem flat_weigh (L : List (List S46)) : (L.flatten.map relW).sum + L.length ≤ (L.map rowW).sum := by
  induction L with
  | nil => simp
  | cons a l ih =>
    rw [List.map_cons, List.sum_cons, List.flatten_cons, List.map_append, List.sum_append, List.length_cons]
    have : rowW a = (a.map relW).sum + 1 := rfl
    omega
end Go.Proofs.YtmocooihkobdjaaDoor.Model
