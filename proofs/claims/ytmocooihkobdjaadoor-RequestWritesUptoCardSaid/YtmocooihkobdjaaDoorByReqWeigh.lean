/-
  Plain Lean: a request's measure, and whether it is well shaped.
-/
import Derived.Test.YtmocooihkobdjaaDoorByForm
import Derived.Test.YtmocooihkobdjaaDoorByWeigh
set_option linter.unusedVariables false
set_option linter.unusedSimpArgs false
namespace Go.Proofs.YtmocooihkobdjaaDoor.Model
open Go.RowKit Go.Proofs.YtmocooihkobdjaaDoor.B Go.Proofs.YtmocooihkobdjaaDoorW.PrintWords Go.Proofs.YtmocooihkobdjaaDoorW.PrintLast Go.Proofs.YtmocooihkobdjaaDoor.Ver

def wrels (W : List S48) : List S46 := W.map (fun x => x.f1)
def reqW (L : List (List S46)) (F : List S46) (W : List S48) : Nat := rowsW L + (rowW F + rowW (wrels W))
def reqOk (L : List (List S46)) (F : List S46) (W : List S48) : Bool := okL L && ((wrels W).all formM && F.all formM)
theorem req_parts {L : List (List S46)} {F : List S46} {W : List S48} {n : Nat} (h : reqW L F W ≤ n) : (L.map rowW).sum + 1 ≤ n ∧ (F.map relW).sum + 1 ≤ n ∧ ((wrels W).map relW).sum + 1 ≤ n ∧ L.length + L.flatten.length + F.length + W.length ≤ n ∧ (L.flatten.map relW).sum ≤ n := by
  have e1 : rowsW L = (L.map rowW).sum + 1 := rfl
  have e2 : rowW F = (F.map relW).sum + 1 := rfl
  have e3 : rowW (wrels W) = ((wrels W).map relW).sum + 1 := rfl
  have l1 := flat_weigh L
  have l2 := row_length F
  have l3 := row_length (wrels W)
  have l4 := row_length L.flatten
  have l5 : (wrels W).length = W.length := by unfold wrels; rw [List.length_map]
  unfold reqW at h
  omega
theorem wt_at {l : List S48} {i : Nat} (h : i < l.length) : rd_T48 l (i : Int) = l[i] := by
  unfold rd_T48
  rw [Int.toNat_natCast, List.getD_eq_getElem?_getD, List.getElem?_eq_getElem h, Option.getD_some]
theorem wrels_at {W : List S48} {i : Nat} (h : i < W.length) : W[i].f1 ∈ wrels W := List.mem_map.2 ⟨_, List.getElem_mem h, rfl⟩
end Go.Proofs.YtmocooihkobdjaaDoor.Model
