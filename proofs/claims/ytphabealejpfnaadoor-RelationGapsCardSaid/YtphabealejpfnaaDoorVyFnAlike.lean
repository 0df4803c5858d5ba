/- Plain Lean: alike of lists with themselves. -/
import Derived.Test.YtphabealejpfnaaDoorVyModelProps
import Derived.Test.YtphabealejpfnaaDoorVyFnSame
set_option linter.unusedVariables false
set_option linter.unusedSimpArgs false
namespace Go.Proofs.YtphabealejpfnaaDoor.Model
open Go.RowKit Go.Proofs.YtphabealejpfnaaDoor.V Go.Proofs.YtphabealejpfnaaDoorW.PrintWords Go.Proofs.YtphabealejpfnaaDoorW.PrintLast Go.Proofs.YtphabealejpfnaaDoor.Ver

theorem alike_self (l : List (List S23)) (hl : l.length ≤ 140737488351232) (hin : ∀ m ∈ l, m.length ≤ 140737488351232) : Ev (fun k => depotlaw22_alike.f k l l) true := by
  have key : ∀ (d i : Nat), i + d = l.length → Ev (fun k => depotlaw22_alike.l0 k l l (i : Int)) true := by
    intro d
    induction d with
    | zero =>
      intro i hi
      refine Ev.step (f := fun _ => some true) (fun k => ?_) (Ev.now _)
      simp only [depotlaw22_alike.l0]
      rw [if_neg (by omega)]
    | succ d ih =>
      intro i hi
      have ew : wrap64 ((i : Int) + 1) = ((i + 1 : Nat) : Int) := by rw [wrap_id (by omega) (by omega)]; omega
      refine Ev.step (f := fun k => (depotlaw22_same.f k (rd_L7 l (i : Int)) (rd_L7 l (i : Int))).bind fun t198 => (if t198 = true then (depotlaw22_alike.l0 k l l ((i + 1 : Nat) : Int)) else (some false))) (fun k => ?_) ?_
      · simp only [depotlaw22_alike.l0, ew, if_pos (show (i : Int) < l.length by omega), if_pos (show (0 : Int) ≤ i by omega)]
      · have hi' : i < l.length := by omega
        rw [rd_at hi']
        refine Ev.bind (same_self _ (hin _ (List.getElem_mem hi'))) ?_
        simp only [if_true]
        exact ih (i + 1) (by omega)
  unfold depotlaw22_alike.f
  simp only [if_true]
  exact key l.length 0 (by omega)
end Go.Proofs.YtphabealejpfnaaDoor.Model
