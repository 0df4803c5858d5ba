-- printed by wip/myprint.py of this session over the kit's print.py; Lean checks it
import Derived.Test.YtmocooihkobdjaaDoorB0
import Derived.Test.YtmocooihkobdjaaDoorB1
import Derived.Test.YtmocooihkobdjaaDoorB2
import Derived.Test.YtmocooihkobdjaaDoorB3
import Derived.Test.YtmocooihkobdjaaDoorB4
import Derived.Test.YtmocooihkobdjaaDoorB5
import Derived.Test.YtmocooihkobdjaaDoorB6
import Derived.Test.YtmocooihkobdjaaDoorB7
import Derived.Test.YtmocooihkobdjaaDoorB8
import Derived.Test.YtmocooihkobdjaaDoorB9
import Derived.Test.YtmocooihkobdjaaDoorB10
import Derived.Test.YtmocooihkobdjaaDoorB11
namespace Go.Proofs.YtmocooihkobdjaaDoor.B
open Go.RowKit Go.Proofs.YtmocooihkobdjaaDoorW.PrintWords Go.Proofs.YtmocooihkobdjaaDoorW.PrintLast Go.Proofs.YtmocooihkobdjaaDoorW.PrintMore
attribute [local go_sem] max2_int min2_int max_two min_two max_three min_three max_four min_four   -- for this text's walks alone
set_option linter.unusedVariables false
set_option linter.unusedSimpArgs false

end Go.Proofs.YtmocooihkobdjaaDoor.B
