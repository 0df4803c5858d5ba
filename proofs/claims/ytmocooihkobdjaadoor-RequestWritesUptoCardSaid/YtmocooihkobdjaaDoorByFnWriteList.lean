/-
  Plain Lean: relation.WriteList: each relation as a list of its own.
-/
import Derived.Test.YtmocooihkobdjaaDoorByFnWrite
set_option linter.unusedVariables false
set_option linter.unusedSimpArgs false
namespace Go.Proofs.YtmocooihkobdjaaDoor.Model
open Go.RowKit Go.Proofs.YtmocooihkobdjaaDoor.B Go.Proofs.YtmocooihkobdjaaDoorW.PrintWords Go.Proofs.YtmocooihkobdjaaDoorW.PrintLast Go.Proofs.YtmocooihkobdjaaDoor.Ver

def singles (l : List S46) : List (List S46) := l.map (fun x => [x])
theorem singles_weigh (l : List S46) : ((singles l).map rowW).sum ≤ 2 * (l.map relW).sum := by
  unfold singles
  induction l with
  | nil => simp
  | cons x l ih =>
    simp only [List.map_cons, List.sum_cons] at ih ⊢
    have h1 : rowW [x] = relW x + 1 := by simp [rowW]
    have h2 : 1 ≤ relW x := by unfold relW; omega
    omega
theorem singles_flat (l : List S46) : (singles l).flatten = l := by
  unfold singles
  induction l with
  | nil => rfl
  | cons x l ih => rw [List.map_cons, List.flatten_cons, ih]; rfl
theorem singles_ok (l : List S46) : okL (singles l) = l.all formM := by
  unfold okL singles
  induction l with
  | nil => rfl
  | cons x l ih => rw [List.map_cons, List.all_cons, List.all_cons, ih]; simp
theorem singles_one (l : List S46) : ∀ r ∈ singles l, r.length = 1 := by
  intro r hr
  unfold singles at hr
  obtain ⟨x, _, rfl⟩ := List.mem_map.1 hr
  rfl
theorem writelist_ev (l : List S46) (hl : (l.map relW).sum ≤ 400000000) : Ev (fun k => relation_WriteList.f k l) (if l.all formM = true then (ofL (textsM (singles l)), 0) else (⟨#[]⟩, 1)) := by
  have hlen := row_length l
  have hsw := singles_weigh l
  have key : ∀ (d i : Nat), i + d = l.length → ∀ x4 : List (List S46), x4 = singles (l.take i) → Ev (fun k => relation_WriteList.l0 k x4 l (l.length : Int) (i : Int)) (if l.all formM = true then (ofL (textsM (singles l)), 0) else (⟨#[]⟩, 1)) := by
    intro d
    induction d with
    | zero =>
      intro i hi x4 hx
      obtain rfl : i = l.length := by omega
      rw [List.take_length] at hx
      subst hx
      have hw := write_ev (singles l) (by omega)
      rw [singles_ok] at hw
      refine Ev.step (f := fun k => (relation_Write.f k (singles l)).bind fun bt => some (bt.1, bt.2)) (fun k => ?_) (Ev.bind hw (Ev.now _))
      simp only [relation_WriteList.l0]
      rw [if_neg (by omega)]
    | succ d ih =>
      intro i hi x4 hx
      have hi' : i < l.length := by omega
      have ew : wrap64 ((i : Int) + 1) = ((i + 1 : Nat) : Int) := by rw [wrap_id (by omega) (by omega)]; omega
      have h4 : x4.length = i := by rw [hx]; unfold singles; rw [List.length_map, List.length_take]; omega
      have hn := ih (i + 1) (by omega) (x4 ++ [[l[i]]]) (by rw [List.take_succ_eq_append_getElem hi', hx]; unfold singles; rw [List.map_append]; rfl)
      refine Ev.step (f := _) (fun k => ?_) hn
      simp only [relation_WriteList.l0, rt_at hi', ew]
      rw [if_pos (by omega), if_pos (by omega), if_pos (by omega), if_pos (by omega)]
  unfold relation_WriteList.f
  exact key l.length 0 (by omega) [] rfl
end Go.Proofs.YtmocooihkobdjaaDoor.Model
