-- printed by wip/myprint.py of this session over the kit's print.py; Lean checks it
import Derived.Test.YtphabealejpfnaaDoorR0
import Derived.Test.YtphabealejpfnaaDoorR1
import Derived.Test.YtphabealejpfnaaDoorR2
import Derived.Test.YtphabealejpfnaaDoorR3
import Derived.Test.YtphabealejpfnaaDoorR4
import Derived.Test.YtphabealejpfnaaDoorR5
import Derived.Test.YtphabealejpfnaaDoorR6
import Derived.Test.YtphabealejpfnaaDoorR7
import Derived.Test.YtphabealejpfnaaDoorR8
import Derived.Test.YtphabealejpfnaaDoorR9
import Derived.Test.YtphabealejpfnaaDoorR10
import Derived.Test.YtphabealejpfnaaDoorR11
import Derived.Test.YtphabealejpfnaaDoorR12
namespace Go.Proofs.YtphabealejpfnaaDoor.R
open Go.RowKit Go.Proofs.YtphabealejpfnaaDoorW.PrintWords Go.Proofs.YtphabealejpfnaaDoorW.PrintLast Go.Proofs.YtphabealejpfnaaDoorW.PrintMore
attribute [local go_sem] max2_int min2_int max_two min_two max_three min_three max_four min_four   -- for this text's walks alone
set_option linter.unusedVariables false
set_option linter.unusedSimpArgs false

end Go.Proofs.YtphabealejpfnaaDoor.R
