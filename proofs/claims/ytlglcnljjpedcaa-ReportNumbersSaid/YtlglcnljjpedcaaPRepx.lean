-- Written by a program of this session (wip/fprint) out of the translation: each Go function as a Lean function, and its walk.
import Derived.Test.YtlglcnljjpedcaaPRepx0
import Derived.Test.YtlglcnljjpedcaaPRepx1
import Derived.Test.YtlglcnljjpedcaaPRepx2
import Derived.Test.YtlglcnljjpedcaaPRepx3
import Derived.Test.YtlglcnljjpedcaaPRepx4
import Derived.Test.YtlglcnljjpedcaaPRepx5
import Derived.Test.YtlglcnljjpedcaaPRepx6
import Derived.Test.YtlglcnljjpedcaaPRepx7
import Derived.Test.YtlglcnljjpedcaaPRepx8
import Derived.Test.YtlglcnljjpedcaaPRepx9
import Derived.Test.YtlglcnljjpedcaaPRepx10
namespace Go.Proofs.Ytlglcnljjpedcaa.PRep
open Go.RowKit Go.Proofs.YtlglcnljjpedcaaW.PrintWords Go.Proofs.YtlglcnljjpedcaaW.PrintLast Go.Proofs.YtlglcnljjpedcaaW.PrintMore
attribute [local go_sem] max2_int min2_int max_two min_two max_three min_three max_four min_four   -- for this text's walks alone
set_option linter.unusedVariables false
set_option linter.unusedSimpArgs false

end Go.Proofs.Ytlglcnljjpedcaa.PRep
