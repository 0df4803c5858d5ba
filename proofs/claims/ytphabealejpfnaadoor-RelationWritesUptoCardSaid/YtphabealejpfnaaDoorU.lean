-- printed by wip/myprint.py of this session over the kit's print.py; Lean checks it
import Derived.Test.YtphabealejpfnaaDoorU0
import Derived.Test.YtphabealejpfnaaDoorU1
import Derived.Test.YtphabealejpfnaaDoorU2
import Derived.Test.YtphabealejpfnaaDoorU3
import Derived.Test.YtphabealejpfnaaDoorU4
import Derived.Test.YtphabealejpfnaaDoorU5
import Derived.Test.YtphabealejpfnaaDoorU6
import Derived.Test.YtphabealejpfnaaDoorU7
import Derived.Test.YtphabealejpfnaaDoorU8
namespace Go.Proofs.YtphabealejpfnaaDoor.U
open Go.RowKit Go.Proofs.YtphabealejpfnaaDoorW.PrintWords Go.Proofs.YtphabealejpfnaaDoorW.PrintLast Go.Proofs.YtphabealejpfnaaDoorW.PrintMore
attribute [local go_sem] max2_int min2_int max_two min_two max_three min_three max_four min_four   -- for this text's walks alone
set_option linter.unusedVariables false
set_option linter.unusedSimpArgs false

end Go.Proofs.YtphabealejpfnaaDoor.U
