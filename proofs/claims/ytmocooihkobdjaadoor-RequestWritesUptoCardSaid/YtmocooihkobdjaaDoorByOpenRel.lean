/-
  Relations, lists of relations and lists of lists, from an argument's reading to the kinds of the printed walks; and how much they hold of a reading's bulk.
-/
import Derived.Test.YtmocooihkobdjaaDoorByWeigh
import Derived.Test.YtmocooihkobdjaaDoorOpen
import Derived.Test.YtmocooihkobdjaaDoorRows
namespace Go.Proofs.YtmocooihkobdjaaDoor.Open
open Go Go.RowKit Go.Deep Go.Proofs.YtmocooihkobdjaaDoorW.PrintWords Go.Proofs.YtmocooihkobdjaaDoor.B Go.Proofs.YtmocooihkobdjaaDoor.Model
section
variable {H : Type} {enc : TypeId × Value → H} {W : World}
theorem three_of {α : Type} {cs : List α} (h : cs.length = 3) : ∃ a b c, cs = [a, b, c] := by
  match cs, h with
  | [a, b, c], _ => exact ⟨a, b, c, rfl⟩
theorem opens_rel : Opens enc Tryd.prog W 46 k46 (fun x d => d = .agg [.lit (.string x.f0.data.toList), .lit (.int .i64 x.f1), .lit (.string x.f2.data.toList)]) := by
  intro fuel cs x h
  obtain ⟨y0, y1, y2, n, rfl, hl, h0, h1, h2⟩ := trod_struct3 Tryd.underlying46 h
  obtain ⟨s0, c0, rfl, _⟩ := DataW.trod_string Tryd.underlying9 h0
  obtain ⟨z, c1, rfl, _⟩ := DataW.trod_int Tryd.underlying3 h1
  obtain ⟨s2, c2, rfl, _⟩ := DataW.trod_string Tryd.underlying9 h2
  have eR : Tryd.prog.cellsOf 46 = 3 := by kernel_rfl
  have eS : Tryd.prog.cellsOf 9 = 1 := by kernel_rfl
  have eI : Tryd.prog.cellsOf 3 = 1 := by kernel_rfl
  simp only [eR, eS, eI] at hl c0 c1 c2
  clear h h0 h1 h2 eR eS eI
  obtain ⟨a, b, c, rfl⟩ := three_of hl
  simp only [List.drop_zero, List.drop_succ_cons, List.take_succ_cons, List.take_zero, List.cons.injEq, and_true] at c0 c1 c2
  subst c0 c1 c2
  exact ⟨⟨s0, z, s2⟩, k46_mk W ⟨s0, z, s2⟩, rfl⟩
theorem opens_row : Opens enc Tryd.prog W 23 (Kd.slice 46 k46) (SliceQ (fun (x : S46) (d : DataW H) => d = .agg [.lit (.string x.f0.data.toList), .lit (.int .i64 x.f1), .lit (.string x.f2.data.toList)])) :=
  opens_slice Tryd.underlying23 (by kernel_rfl) opens_rel
theorem rel_bulk (x : S46) (d : DataW H) (h : d = .agg [.lit (.string x.f0.data.toList), .lit (.int .i64 x.f1), .lit (.string x.f2.data.toList)]) : relW x ≤ Rows.uptoBulk d := by
  subst h
  simp only [Rows.uptoBulk, Rows.uptoBulkAll, Array.length_toList]
  have e0 : x.f0.data.size = x.f0.size := rfl
  have e2 : x.f2.data.size = x.f2.size := rfl
  unfold relW
  omega
theorem row_bulk (l : List S46) (d : DataW H) (h : SliceQ (fun (x : S46) (d : DataW H) => d = .agg [.lit (.string x.f0.data.toList), .lit (.int .i64 x.f1), .lit (.string x.f2.data.toList)]) l d) : rowW l ≤ Rows.uptoBulk d :=
  slice_sum (all := Rows.uptoBulkAll) (by simp only [Rows.uptoBulk]) (fun e s => by simp only [Rows.uptoBulk]) (fun d r => by simp only [Rows.uptoBulkAll]) rel_bulk h
/-- An argument of lists of lists: nil or not, its lists, and their measure. -/
theorem open_rows {A : Option Addr} {n c : Nat} {d : DataW H} {p : List MemPlace} (h : DataW.Trod enc Tryd.prog W 0 (fun _ => true) true 22 (.slice A n c) d p) :
    ∃ L : List (List S46), n = L.length ∧ L.length ≤ c ∧ Kd.C (Kd.slice 46 k46) W A L.length L ∧ rowsW L ≤ Rows.uptoBulk d := by
  obtain ⟨fuel, hf⟩ := h
  obtain ⟨L, A', c', h1, h2, h3, h4⟩ := slice_cells Tryd.underlying22 (d := Kd.slice 46 k46) (by kernel_rfl) opens_row hf
  simp only [Value.cells, List.cons.injEq, Value.slice.injEq, and_true] at h1
  obtain ⟨rfl, rfl, rfl⟩ := h1
  exact ⟨L, rfl, h2, h3, slice_sum (all := Rows.uptoBulkAll) (by simp only [Rows.uptoBulk]) (fun e s => by simp only [Rows.uptoBulk]) (fun d r => by simp only [Rows.uptoBulkAll]) row_bulk h4⟩
end
end Go.Proofs.YtmocooihkobdjaaDoor.Open
