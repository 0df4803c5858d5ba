/- Plain Lean: relation.Read by the reader's function on bytes. -/
import Derived.Test.YtphabealejpfnaaDoorVyModelProps
set_option linter.unusedVariables false
set_option linter.unusedSimpArgs false
namespace Go.Proofs.YtphabealejpfnaaDoor.Model
open Go.RowKit Go.Proofs.YtphabealejpfnaaDoor.V Go.Proofs.YtphabealejpfnaaDoorW.PrintWords Go.Proofs.YtphabealejpfnaaDoorW.PrintLast Go.Proofs.YtphabealejpfnaaDoor.Ver

theorem Read_ev (s : ByteArray) (hb : s.size ≤ 3000000000000) : Ev (fun k => relation_Read.f k s) (placeM s (readM true s.data.toList)) := by
  unfold relation_Read.f
  exact Ev.bind (read_ev s hb true) (Ev.now _)
end Go.Proofs.YtphabealejpfnaaDoor.Model
