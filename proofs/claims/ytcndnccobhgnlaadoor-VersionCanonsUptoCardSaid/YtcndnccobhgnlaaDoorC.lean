-- printed by wip/myprint.py of this session over the kit's print.py; Lean checks it
import Derived.Test.YtcndnccobhgnlaaDoorC0
import Derived.Test.YtcndnccobhgnlaaDoorC1
import Derived.Test.YtcndnccobhgnlaaDoorC2
import Derived.Test.YtcndnccobhgnlaaDoorC3
import Derived.Test.YtcndnccobhgnlaaDoorC4
import Derived.Test.YtcndnccobhgnlaaDoorC5
import Derived.Test.YtcndnccobhgnlaaDoorC6
import Derived.Test.YtcndnccobhgnlaaDoorC7
import Derived.Test.YtcndnccobhgnlaaDoorC8
import Derived.Test.YtcndnccobhgnlaaDoorC9
import Derived.Test.YtcndnccobhgnlaaDoorC10
namespace Go.Proofs.YtcndnccobhgnlaaDoor.C
open Go.RowKit Go.Proofs.YtcndnccobhgnlaaDoorW.PrintWords Go.Proofs.YtcndnccobhgnlaaDoorW.PrintLast Go.Proofs.YtcndnccobhgnlaaDoorW.PrintMore
attribute [local go_sem] max2_int min2_int max_two min_two max_three min_three max_four min_four   -- for this text's walks alone
set_option linter.unusedVariables false
set_option linter.unusedSimpArgs false

end Go.Proofs.YtcndnccobhgnlaaDoor.C
