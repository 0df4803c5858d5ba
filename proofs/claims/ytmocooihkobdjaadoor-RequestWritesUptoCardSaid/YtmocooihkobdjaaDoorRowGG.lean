/-
  From a row's condition on relation.operators to the fact that the walks ask for.
-/
import Derived.Test.YtmocooihkobdjaaDoorCards
import Derived.Test.YtmocooihkobdjaaDoorTie
import Derived.Test.YtmocooihkobdjaaDoorGG
import Derived.WalkKit
import Derived.ProofKit
import Derived.OpenShut
import Derived.ChangeSame
import Derived.Deep.DeepHandedRow
import Derived.Lib.LaidTab
namespace Go.Proofs.YtmocooihkobdjaaDoor
open Go Go.RowKit Go.ChangeShapes

theorem opNamed : Tryd.prog.globalNamed "depot/relation.operators" = some 0 := by kernel_rfl
theorem opType : (Tryd.prog.globals[0]?).map (·.type) = some 106 := by kernel_rfl
theorem opArr : Tryd.prog.cellsOf 106 = 10 := by kernel_rfl
theorem opTwo : Tryd.prog.cellsOf 105 = 2 := by kernel_rfl
theorem opInt : Tryd.prog.cellsOf 3 = 1 := by kernel_rfl
theorem opStr : Tryd.prog.cellsOf 9 = 1 := by kernel_rfl

theorem op_cells {w : World} {fuel : Nat} {cs : List Value} {n : Int} {s : List UInt8} {p : List MemPlace}
    (h : DataW.trod (fun _ => ()) Tryd.prog w 0 (fun _ => true) false fuel 105 cs = some (.agg [.lit (.int .i64 n), .lit (.string s)], p)) : cs = [.int .i64 n, .string ⟨s.toArray⟩] := by
  obtain ⟨y0, y1, m, hx, hl, h0, h1⟩ := trod_struct2 Tryd.underlying105 h
  obtain ⟨n', hc0, rfl, _⟩ := DataW.trod_int Tryd.underlying3 h0
  obtain ⟨s', hc1, rfl, _⟩ := DataW.trod_string Tryd.underlying9 h1
  simp only [opInt, opStr, opTwo] at hc0 hc1 hl
  simp only [Prod.mk.injEq, DataW.agg.injEq, List.cons.injEq, DataW.lit.injEq, Lit.int.injEq, Lit.string.injEq, true_and, and_true] at hx
  obtain ⟨⟨rfl, rfl⟩, _⟩ := hx
  clear h h0 h1
  match cs, hl with
  | [a, b], _ =>
    simp only [List.drop_zero, List.drop_succ_cons, List.take_succ_cons, List.take_zero, List.cons.injEq, and_true] at hc0 hc1
    rw [hc0, hc1]

theorem GG_of {W : World} (h : laidMetH Tryd.prog [("depot/relation.operators", Rows.laid_depot_relation_operators)] W) : GG W := by
  obtain ⟨ps, ⟨g, t, cs, fuel, p, q, hg, ht, hvar, hd, _, _⟩, _⟩ := h
  obtain rfl := Option.some.inj (opNamed.symm.trans hg)
  obtain rfl := Option.some.inj (opType.symm.trans ht)
  obtain ⟨xs, m, _, hx, hl, hn, hi⟩ := DataW.trod_array Tryd.underlying106 hd
  rw [opTwo] at hi
  rw [opArr] at hl
  have hxs : xs.map (·.1) = [.agg [.lit (.int .i64 1), .lit (.string [60, 60])], .agg [.lit (.int .i64 2), .lit (.string [60, 61])], .agg [.lit (.int .i64 3), .lit (.string [61])], .agg [.lit (.int .i64 4), .lit (.string [62, 61])], .agg [.lit (.int .i64 5), .lit (.string [62, 62])]] := by
    have := congrArg Prod.fst hx
    simp only [Rows.laid_depot_relation_operators, DataW.agg.injEq] at this
    exact this.symm
  revert hxs hi hx
  match xs, hn with
  | [x0, x1, x2, x3, x4], _ =>
    intro hx hi hxs
    simp only [List.map_cons, List.map_nil, List.cons.injEq, and_true] at hxs
    obtain ⟨e0, e1, e2, e3, e4⟩ := hxs
    have o0 := op_cells (p := x0.2) ((hi 0 (by decide)).trans (congrArg some (Prod.ext e0 rfl)))
    have o1 := op_cells (p := x1.2) ((hi 1 (by decide)).trans (congrArg some (Prod.ext e1 rfl)))
    have o2 := op_cells (p := x2.2) ((hi 2 (by decide)).trans (congrArg some (Prod.ext e2 rfl)))
    have o3 := op_cells (p := x3.2) ((hi 3 (by decide)).trans (congrArg some (Prod.ext e3 rfl)))
    have o4 := op_cells (p := x4.2) ((hi 4 (by decide)).trans (congrArg some (Prod.ext e4 rfl)))
    have hcs : cs = opCells := by
      clear hvar hd
      revert o0 o1 o2 o3 o4 hi
      obtain ⟨l⟩ := cs
      simp only at hl
      match l, hl with
      | [a0, a1, a2, a3, a4, a5, a6, a7, a8, a9], _ =>
        intro hi o0 o1 o2 o3 o4
        simp at o0 o1 o2 o3 o4
        simp [opCells, o0, o1, o2, o3, o4]
    subst hcs
    simp only [World.var?, opNamed, Option.bind_some] at hvar
    split at hvar
    · rename_i cs t fr hb
      obtain rfl := Option.some.inj hvar
      exact ⟨_, _, hb⟩
    · cases hvar
end Go.Proofs.YtmocooihkobdjaaDoor
