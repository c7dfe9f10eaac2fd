/- What each of these Go functions answers, as a plain Lean function, and that the call answers so. Written by the kit's print.py, called for these functions together. -/
import Derived.Test.YtilomlohjhhbnaaDoorRx0
import Derived.Test.YtilomlohjhhbnaaDoorRx1
import Derived.Test.YtilomlohjhhbnaaDoorRx2
import Derived.Test.YtilomlohjhhbnaaDoorRx3
import Derived.Test.YtilomlohjhhbnaaDoorRx4
import Derived.Test.YtilomlohjhhbnaaDoorRx5
import Derived.Test.YtilomlohjhhbnaaDoorRx6
import Derived.Test.YtilomlohjhhbnaaDoorRx7
namespace Go.Proofs.YtilomlohjhhbnaaDoor.R
open Go.RowKit Go.Proofs.YtilomlohjhhbnaaDoorW.PrintWords Go.Proofs.YtilomlohjhhbnaaDoorW.PrintLast Go.Proofs.YtilomlohjhhbnaaDoorW.PrintMore
attribute [local go_sem] max2_int min2_int max_two min_two max_three min_three max_four min_four   -- for this text's walks alone
set_option linter.unusedVariables false
set_option linter.unusedSimpArgs false

end Go.Proofs.YtilomlohjhhbnaaDoor.R
