/-
  A request, from an argument's reading to the kinds of the printed walks; and its measure.
-/
import Derived.Test.YtmocooihkobdjaaDoorByReqWeigh
import Derived.Test.YtmocooihkobdjaaDoorByOpenRel
import Derived.Lib.SmallJoins
import Derived.WideShapes
import Derived.ChangeSame
namespace Go.Proofs.YtmocooihkobdjaaDoor.Open
open Go Go.RowKit Go.Deep Go.WideShapes Go.ChangeShapes Go.Proofs.YtmocooihkobdjaaDoorW.PrintWords Go.Proofs.YtmocooihkobdjaaDoor.B Go.Proofs.YtmocooihkobdjaaDoor.Model
section
variable {H : Type} {enc : TypeId × Value → H} {W : World}
theorem opens_wish : Opens enc Tryd.prog W 48 k48 (fun x d => d = .agg [.lit (.bool x.f0), .agg [.lit (.string x.f1.f0.data.toList), .lit (.int .i64 x.f1.f1), .lit (.string x.f1.f2.data.toList)]]) := by
  intro fuel cs x h
  obtain ⟨y0, y1, n, rfl, hl, h0, h1⟩ := trod_struct2 Tryd.underlying48 h
  obtain ⟨b, c0, rfl⟩ := DataW.trod_bool Tryd.underlying4 h0
  obtain ⟨r, kr, rfl'⟩ := opens_rel _ _ _ h1
  have eW : Tryd.prog.cellsOf 48 = 4 := by kernel_rfl
  have eR : Tryd.prog.cellsOf 46 = 3 := by kernel_rfl
  have eB : Tryd.prog.cellsOf 4 = 1 := by kernel_rfl
  simp only [eW, eR, eB] at hl c0 kr
  clear h h0 h1 eW eR eB
  obtain ⟨a, cs, rfl⟩ : ∃ a r, cs = a :: r := by
    cases cs with
    | nil => simp at hl
    | cons a r => exact ⟨a, r, rfl⟩
  simp only [List.drop_zero, List.drop_succ_cons, List.take_succ_cons, List.take_zero, List.cons.injEq, and_true] at c0 kr
  subst c0
  have e3 : cs.take 3 = cs := List.take_of_length_le (by simp only [List.length_cons] at hl; omega)
  rw [e3] at kr
  exact ⟨⟨b, r⟩, ⟨[.bool b], cs, rfl, rfl, kr⟩, by show DataW.agg [_, y1.1] = _; rw [rfl']⟩
theorem wish_bulk (x : S48) (d : DataW H) (h : d = .agg [.lit (.bool x.f0), .agg [.lit (.string x.f1.f0.data.toList), .lit (.int .i64 x.f1.f1), .lit (.string x.f1.f2.data.toList)]]) : relW x.f1 ≤ Rows.uptoBulk d := by
  subst h
  simp only [Rows.uptoBulk, Rows.uptoBulkAll, Array.length_toList]
  have e0 : x.f1.f0.data.size = x.f1.f0.size := rfl
  have e2 : x.f1.f2.data.size = x.f1.f2.size := rfl
  unfold relW
  omega
theorem reqThree : Tryd.prog.cellsOf 26 = 3 := by kernel_rfl
set_option maxRecDepth 100000 in
/-- An argument that is a request. -/
theorem open_req {r : Reach} {b0 : Nat} {v : Value} {d : DataW H} {p : List MemPlace} (hv : Value.okWide Tryd.prog W r b0 26 v) (h : DataW.Trod enc Tryd.prog W 0 (fun _ => true) true 26 v d p) :
    ∃ (L : List (List S46)) (F : List S46) (Wi : List S48) (A0 A1 A2 : Option Addr) (c0 c1 c2 : Nat), v = .agg #[.slice A0 L.length c0, .slice A1 F.length c1, .slice A2 Wi.length c2] ∧
      L.length ≤ c0 ∧ F.length ≤ c1 ∧ Wi.length ≤ c2 ∧ Kd.C (Kd.slice 46 k46) W A0 L.length L ∧ Kd.C k46 W A1 F.length F ∧ Kd.C k48 W A2 Wi.length Wi ∧ reqW L F Wi ≤ Rows.uptoBulk d := by
  obtain ⟨u0, u1, u2, z0, z1, z2, n, rfl, rfl, rfl, t0, t1, t2⟩ := Joins.open_agg3 Tryd.underlying26 (by kernel_rfl) reqThree hv h
  obtain ⟨L, A0, c0, e0, l0, k0, q0⟩ := slice_cells Tryd.underlying22 (d := Kd.slice 46 k46) (by kernel_rfl) opens_row t0
  obtain ⟨F, A1, c1, e1, l1, k1, q1⟩ := slice_cells Tryd.underlying23 (d := k46) (by kernel_rfl) opens_rel t1
  obtain ⟨Wi, A2, c2, e2, l2, k2, q2⟩ := slice_cells Tryd.underlying24 (d := k48) (by kernel_rfl) opens_wish t2
  have b0 : rowsW L ≤ Rows.uptoBulk z0.1 := slice_sum (all := Rows.uptoBulkAll) (by simp only [Rows.uptoBulk]) (fun e s => by simp only [Rows.uptoBulk]) (fun d r => by simp only [Rows.uptoBulkAll]) row_bulk q0
  have b1 : rowW F ≤ Rows.uptoBulk z1.1 := slice_sum (all := Rows.uptoBulkAll) (by simp only [Rows.uptoBulk]) (fun e s => by simp only [Rows.uptoBulk]) (fun d r => by simp only [Rows.uptoBulkAll]) rel_bulk q1
  have b2 : (Wi.map (fun x => relW x.f1)).sum + 1 ≤ Rows.uptoBulk z2.1 := slice_sum (all := Rows.uptoBulkAll) (by simp only [Rows.uptoBulk]) (fun e s => by simp only [Rows.uptoBulk]) (fun d r => by simp only [Rows.uptoBulkAll]) wish_bulk q2
  have b3 : rowW (wrels Wi) = (Wi.map (fun x => relW x.f1)).sum + 1 := by
    unfold rowW wrels
    rw [List.map_map]; rfl
  simp only [List.cons.injEq, and_true] at e0 e1 e2
  subst e0 e1 e2
  refine ⟨L, F, Wi, A0, A1, A2, c0, c1, c2, rfl, l0, l1, l2, k0, k1, k2, ?_⟩
  simp only [Rows.uptoBulk, Rows.uptoBulkAll]
  unfold reqW
  omega
end
end Go.Proofs.YtmocooihkobdjaaDoor.Open
