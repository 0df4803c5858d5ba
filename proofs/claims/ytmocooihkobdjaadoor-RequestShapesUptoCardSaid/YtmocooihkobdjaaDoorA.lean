-- printed by wip/myprint.py of this session over the kit's print.py; Lean checks it
import Derived.Test.YtmocooihkobdjaaDoorA0
import Derived.Test.YtmocooihkobdjaaDoorA1
import Derived.Test.YtmocooihkobdjaaDoorA2
import Derived.Test.YtmocooihkobdjaaDoorA3
import Derived.Test.YtmocooihkobdjaaDoorA4
import Derived.Test.YtmocooihkobdjaaDoorA5
import Derived.Test.YtmocooihkobdjaaDoorA6
import Derived.Test.YtmocooihkobdjaaDoorA7
import Derived.Test.YtmocooihkobdjaaDoorA8
namespace Go.Proofs.YtmocooihkobdjaaDoor.A
open Go.RowKit Go.Proofs.YtmocooihkobdjaaDoorW.PrintWords Go.Proofs.YtmocooihkobdjaaDoorW.PrintLast Go.Proofs.YtmocooihkobdjaaDoorW.PrintMore
attribute [local go_sem] max2_int min2_int max_two min_two max_three min_three max_four min_four   -- for this text's walks alone
set_option linter.unusedVariables false
set_option linter.unusedSimpArgs false

end Go.Proofs.YtmocooihkobdjaaDoor.A
