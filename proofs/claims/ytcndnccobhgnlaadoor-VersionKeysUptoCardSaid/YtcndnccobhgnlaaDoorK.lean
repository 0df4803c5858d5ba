-- printed by wip/myprint.py of this session over the kit's print.py; Lean checks it
import Derived.Test.YtcndnccobhgnlaaDoorK0
import Derived.Test.YtcndnccobhgnlaaDoorK1
import Derived.Test.YtcndnccobhgnlaaDoorK2
import Derived.Test.YtcndnccobhgnlaaDoorK3
import Derived.Test.YtcndnccobhgnlaaDoorK4
import Derived.Test.YtcndnccobhgnlaaDoorK5
import Derived.Test.YtcndnccobhgnlaaDoorK6
import Derived.Test.YtcndnccobhgnlaaDoorK7
namespace Go.Proofs.YtcndnccobhgnlaaDoor.K
open Go.RowKit Go.Proofs.YtcndnccobhgnlaaDoorW.PrintWords Go.Proofs.YtcndnccobhgnlaaDoorW.PrintLast Go.Proofs.YtcndnccobhgnlaaDoorW.PrintMore
attribute [local go_sem] max2_int min2_int max_two min_two max_three min_three max_four min_four   -- for this text's walks alone
set_option linter.unusedVariables false
set_option linter.unusedSimpArgs false

end Go.Proofs.YtcndnccobhgnlaaDoor.K
