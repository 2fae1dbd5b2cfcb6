-- Written by a program of this session (wip/fprint) out of the translation: each Go function as a Lean function, and its walk.
import Derived.Test.YtlglcnljjpedcaaPRealx0
import Derived.Test.YtlglcnljjpedcaaPRealx1
import Derived.Test.YtlglcnljjpedcaaPRealx2
import Derived.Test.YtlglcnljjpedcaaPRealx3
import Derived.Test.YtlglcnljjpedcaaPRealx4
import Derived.Test.YtlglcnljjpedcaaPRealx5
import Derived.Test.YtlglcnljjpedcaaPRealx6
import Derived.Test.YtlglcnljjpedcaaPRealx7
import Derived.Test.YtlglcnljjpedcaaPRealx8
import Derived.Test.YtlglcnljjpedcaaPRealx9
namespace Go.Proofs.Ytlglcnljjpedcaa.PReal
open Go.RowKit Go.Proofs.YtlglcnljjpedcaaW.PrintWords Go.Proofs.YtlglcnljjpedcaaW.PrintLast Go.Proofs.YtlglcnljjpedcaaW.PrintMore
attribute [local go_sem] max2_int min2_int max_two min_two max_three min_three max_four min_four   -- for this text's walks alone
set_option linter.unusedVariables false
set_option linter.unusedSimpArgs false

end Go.Proofs.Ytlglcnljjpedcaa.PReal
