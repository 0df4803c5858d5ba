/-
  RelationNumbers asks nothing of an input: its answer, computed.
-/
import Derived.Test.YtphabealejpfnaaDoorN
namespace Go.Proofs.YtphabealejpfnaaDoor
open N
set_option maxRecDepth 1000000 in
theorem numbers_pure : depotlaw22_RelationNumbers.Pure := ⟨60, by kernel_rfl⟩
end Go.Proofs.YtphabealejpfnaaDoor
