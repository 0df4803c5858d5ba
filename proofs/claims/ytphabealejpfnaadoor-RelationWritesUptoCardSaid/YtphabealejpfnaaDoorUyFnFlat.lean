/- Plain Lean: flat gives all relations, one behind the other. -/
import Derived.Test.YtphabealejpfnaaDoorUyForm
set_option linter.unusedVariables false
set_option linter.unusedSimpArgs false
namespace Go.Proofs.YtphabealejpfnaaDoor.Model
open Go.RowKit Go.Proofs.YtphabealejpfnaaDoor.U Go.Proofs.YtphabealejpfnaaDoorW.PrintWords Go.Proofs.YtphabealejpfnaaDoorW.PrintLast Go.Proofs.YtphabealejpfnaaDoor.Ver

theorem flat_law (L : List (List S23)) (hL : L.length ≤ 140737488351232) (h : L.flatten.length < 3518437208883) : Ev (fun k => depotlaw22_flat.f k L) L.flatten := by
  have key : ∀ (d i : Nat), i + d = L.length → ∀ acc : List S23, acc.length + (L.drop i).flatten.length < 3518437208883 → Ev (fun k => depotlaw22_flat.l0 k L acc (i : Int)) (acc ++ (L.drop i).flatten) := by
    intro d
    induction d with
    | zero =>
      intro i hi acc ha
      rw [List.drop_of_length_le (by omega), List.flatten_nil, List.append_nil]
      refine Ev.step (f := fun _ => some acc) (fun k => ?_) (Ev.now _)
      simp only [depotlaw22_flat.l0]
      rw [if_neg (by omega)]
    | succ d ih =>
      intro i hi acc ha
      have hi' : i < L.length := by omega
      have ew : wrap64 ((i : Int) + 1) = ((i + 1 : Nat) : Int) := by rw [wrap_id (by omega) (by omega)]; omega
      rw [drop_at hi', List.flatten_cons, List.length_append] at ha
      have hn := ih (i + 1) (by omega) (acc ++ L[i]) (by rw [List.length_append]; omega)
      rw [drop_at hi', List.flatten_cons, ← List.append_assoc]
      refine Ev.step (f := _) (fun k => ?_) hn
      simp only [depotlaw22_flat.l0, ew, rd_at hi', if_pos (show (i : Int) < L.length by omega), if_pos (show (0 : Int) ≤ i by omega), if_pos (show acc.length + L[i].length < 3518437208883 by omega)]
  have := key L.length 0 (by omega) [] (by simpa using h)
  simpa [depotlaw22_flat.f] using this
end Go.Proofs.YtphabealejpfnaaDoor.Model
