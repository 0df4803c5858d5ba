/-
  RelationWrites (P22.3) as plain Lean, for all lists of a measure of at most 2^20.
-/
import Derived.Test.YtphabealejpfnaaDoorUyFnRefWrite
import Derived.Test.YtphabealejpfnaaDoorUyFnCopies
import Derived.Test.YtphabealejpfnaaDoorUyFnFlat
set_option linter.unusedVariables false
set_option linter.unusedSimpArgs false
namespace Go.Proofs.YtphabealejpfnaaDoor.Model
open Go.RowKit Go.Proofs.YtphabealejpfnaaDoor.U Go.Proofs.YtphabealejpfnaaDoorW.PrintWords Go.Proofs.YtphabealejpfnaaDoorW.PrintLast Go.Proofs.YtphabealejpfnaaDoor.Ver

theorem writes_law (L : List (List S23)) (h : rowsW L ≤ 1048576) : Ev (fun k => depotlaw22_RelationWrites.f k L) true := by
  have hr : rowsW L = (L.map rowW).sum + 1 := rfl
  have h1 := rows_length L
  have h2 := flat_weigh L
  have h3 := row_length L.flatten
  have hF := flat_law L (by omega) (by omega)
  unfold depotlaw22_RelationWrites.f
  refine Ev.bind (copies_law L (by omega) (fun m hm => by have := row_len hm; omega)) ?_
  refine Ev.bind (write_ev L (by omega)) ?_
  refine Ev.bind (rwrite_ev L (by omega)) ?_
  refine Ev.bind hF ?_
  refine Ev.bind (writelist_ev L.flatten (by omega)) ?_
  refine Ev.bind hF ?_
  refine Ev.bind (rwritelist_ev L.flatten (by omega)) ?_
  simp only [if_true, beq_self_eq_true]
  exact Ev.now _
end Go.Proofs.YtphabealejpfnaaDoor.Model
