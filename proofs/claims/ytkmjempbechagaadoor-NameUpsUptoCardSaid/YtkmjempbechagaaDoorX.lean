-- written by xprint.py, a program of this claim's work (wip/xprint), which runs the kit's printer with hooks
import Derived.Test.YtkmjempbechagaaDoorX0
import Derived.Test.YtkmjempbechagaaDoorX1
import Derived.Test.YtkmjempbechagaaDoorX2
import Derived.Test.YtkmjempbechagaaDoorX3
import Derived.Test.YtkmjempbechagaaDoorX4
import Derived.Test.YtkmjempbechagaaDoorX5
import Derived.Test.YtkmjempbechagaaDoorX6
import Derived.Test.YtkmjempbechagaaDoorX7
import Derived.Test.YtkmjempbechagaaDoorX8
import Derived.Test.YtkmjempbechagaaDoorX9
import Derived.Test.YtkmjempbechagaaDoorX10
namespace Go.Proofs.YtkmjempbechagaaDoor.X
open Go.RowKit Go.Proofs.YtkmjempbechagaaDoorW.PrintWords Go.Proofs.YtkmjempbechagaaDoorW.PrintLast Go.Proofs.YtkmjempbechagaaDoorW.PrintMore
attribute [local go_sem] max2_int min2_int max_two min_two max_three min_three max_four min_four   -- for this text's walks alone
set_option linter.unusedVariables false
set_option linter.unusedSimpArgs false

end Go.Proofs.YtkmjempbechagaaDoor.X
