-- printed by wip/myprint.py of this session over the kit's print.py; Lean checks it
import Derived.Test.YtcndnccobhgnlaaQ0
import Derived.Test.YtcndnccobhgnlaaQ1
import Derived.Test.YtcndnccobhgnlaaQ2
import Derived.Test.YtcndnccobhgnlaaQ3
import Derived.Test.YtcndnccobhgnlaaQ4
import Derived.Test.YtcndnccobhgnlaaQ5
import Derived.Test.YtcndnccobhgnlaaQ6
import Derived.Test.YtcndnccobhgnlaaQ7
import Derived.Test.YtcndnccobhgnlaaQ8
import Derived.Test.YtcndnccobhgnlaaQ9
import Derived.Test.YtcndnccobhgnlaaQ10
import Derived.Test.YtcndnccobhgnlaaQ11
import Derived.Test.YtcndnccobhgnlaaQ12
import Derived.Test.YtcndnccobhgnlaaQ13
import Derived.Test.YtcndnccobhgnlaaQ14
import Derived.Test.YtcndnccobhgnlaaQ15
import Derived.Test.YtcndnccobhgnlaaQ16
import Derived.Test.YtcndnccobhgnlaaQ17
import Derived.Test.YtcndnccobhgnlaaQ18
import Derived.Test.YtcndnccobhgnlaaQ19
import Derived.Test.YtcndnccobhgnlaaQ20
import Derived.Test.YtcndnccobhgnlaaQ21
namespace Go.Proofs.Ytcndnccobhgnlaa.Q
open Go.RowKit Go.Proofs.YtcndnccobhgnlaaW.PrintWords Go.Proofs.YtcndnccobhgnlaaW.PrintLast Go.Proofs.YtcndnccobhgnlaaW.PrintMore
attribute [local go_sem] max2_int min2_int max_two min_two max_three min_three max_four min_four   -- for this text's walks alone
set_option linter.unusedVariables false
set_option linter.unusedSimpArgs false

end Go.Proofs.Ytcndnccobhgnlaa.Q
