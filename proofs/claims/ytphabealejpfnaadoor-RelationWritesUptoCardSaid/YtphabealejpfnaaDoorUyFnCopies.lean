/- Plain Lean: copies gives the lists. -/
import Derived.Test.YtphabealejpfnaaDoorUyForm
set_option linter.unusedVariables false
set_option linter.unusedSimpArgs false
namespace Go.Proofs.YtphabealejpfnaaDoor.Model
open Go.RowKit Go.Proofs.YtphabealejpfnaaDoor.U Go.Proofs.YtphabealejpfnaaDoorW.PrintWords Go.Proofs.YtphabealejpfnaaDoorW.PrintLast Go.Proofs.YtphabealejpfnaaDoor.Ver

theorem copies_law (L : List (List S23)) (hL : L.length < 5864062014805) (h : ∀ m ∈ L, m.length < 3518437208883) : Ev (fun k => depotlaw22_copies.f k L) L := by
  have key : ∀ (d i : Nat), i + d = L.length → ∀ acc : List (List S23), acc.length = i → Ev (fun k => depotlaw22_copies.l0 k L acc (i : Int)) (acc ++ L.drop i) := by
    intro d
    induction d with
    | zero =>
      intro i hi acc ha
      rw [List.drop_of_length_le (by omega), List.append_nil]
      refine Ev.step (f := fun _ => some acc) (fun k => ?_) (Ev.now _)
      simp only [depotlaw22_copies.l0]
      rw [if_neg (by omega)]
    | succ d ih =>
      intro i hi acc ha
      have hi' : i < L.length := by omega
      have ew : wrap64 ((i : Int) + 1) = ((i + 1 : Nat) : Int) := by rw [wrap_id (by omega) (by omega)]; omega
      have hn := ih (i + 1) (by omega) (acc ++ [L[i]]) (by simp [ha])
      have hm := h _ (List.getElem_mem hi')
      rw [drop_at hi', show acc ++ L[i] :: L.drop (i + 1) = (acc ++ [L[i]]) ++ L.drop (i + 1) by simp]
      refine Ev.step (f := _) (fun k => ?_) hn
      simp only [depotlaw22_copies.l0, depotlaw22_copied.f, ew, rd_at hi', if_pos (show (i : Int) < L.length by omega), if_pos (show (0 : Int) ≤ i by omega), List.length_nil, Nat.zero_add, if_pos hm, Option.bind_some, List.nil_append, if_pos (show acc.length < 5864062014805 by omega)]
  have := key L.length 0 (by omega) [] rfl
  simpa [depotlaw22_copies.f] using this
end Go.Proofs.YtphabealejpfnaaDoor.Model
