/-
  What relation's table of operators holds: the fact that is handed along with each call that reads it.
-/
import Derived.Below
import Derived.Deep.Draws
import Derived.WalkKit
namespace Go.Proofs.YtmocooihkobdjaaDoor
open Go Go.RowKit

/-- The cells of relation.operators. -/
def opCells : Array Value := #[.int .i64 1, .string ⟨#[60, 60]⟩, .int .i64 2, .string ⟨#[60, 61]⟩, .int .i64 3, .string ⟨#[61]⟩, .int .i64 4, .string ⟨#[62, 61]⟩, .int .i64 5, .string ⟨#[62, 62]⟩]
/-- relation.operators holds what its initialiser lays. -/
def GG (w : World) : Prop := ∃ t fr, w.heap[0]? = some (.cells opCells t fr)
theorem GG.below {w W : World} (h : GG w) (hb : Below w.heap.size w W) : GG W := by
  obtain ⟨t, fr, h⟩ := h
  exact ⟨t, fr, (hb.block 0 (Array.getElem?_eq_some_iff.1 h).1).trans h⟩
theorem GG.drewN {w : World} (h : GG w) (n : Nat) : GG (w.drewN n) := h
end Go.Proofs.YtmocooihkobdjaaDoor
