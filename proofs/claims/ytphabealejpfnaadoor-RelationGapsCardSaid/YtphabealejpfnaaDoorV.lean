-- printed by wip/myprint.py of this session over the kit's print.py; Lean checks it
import Derived.Test.YtphabealejpfnaaDoorV0
import Derived.Test.YtphabealejpfnaaDoorV1
import Derived.Test.YtphabealejpfnaaDoorV2
import Derived.Test.YtphabealejpfnaaDoorV3
import Derived.Test.YtphabealejpfnaaDoorV4
import Derived.Test.YtphabealejpfnaaDoorV5
import Derived.Test.YtphabealejpfnaaDoorV6
import Derived.Test.YtphabealejpfnaaDoorV7
import Derived.Test.YtphabealejpfnaaDoorV8
namespace Go.Proofs.YtphabealejpfnaaDoor.V
open Go.RowKit Go.Proofs.YtphabealejpfnaaDoorW.PrintWords Go.Proofs.YtphabealejpfnaaDoorW.PrintLast Go.Proofs.YtphabealejpfnaaDoorW.PrintMore
attribute [local go_sem] max2_int min2_int max_two min_two max_three min_three max_four min_four   -- for this text's walks alone
set_option linter.unusedVariables false
set_option linter.unusedSimpArgs false

end Go.Proofs.YtphabealejpfnaaDoor.V
