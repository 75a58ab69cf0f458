-- By the session's own program (wip/tools), out of the translation. Not trusted: Lean checks it.
import Derived.Test.YtlpcpkgdojpleaaDoorXS0
import Derived.Test.YtlpcpkgdojpleaaDoorXS1
import Derived.Test.YtlpcpkgdojpleaaDoorXS2
import Derived.Test.YtlpcpkgdojpleaaDoorXS3
import Derived.Test.YtlpcpkgdojpleaaDoorXS4
import Derived.Test.YtlpcpkgdojpleaaDoorXS5
import Derived.Test.YtlpcpkgdojpleaaDoorXS6
import Derived.Test.YtlpcpkgdojpleaaDoorXS7
import Derived.Test.YtlpcpkgdojpleaaDoorXS8
import Derived.Test.YtlpcpkgdojpleaaDoorXS9
import Derived.Test.YtlpcpkgdojpleaaDoorXS10
import Derived.Test.YtlpcpkgdojpleaaDoorXS11
import Derived.Test.YtlpcpkgdojpleaaDoorXS12
import Derived.Test.YtlpcpkgdojpleaaDoorXS13
import Derived.Test.YtlpcpkgdojpleaaDoorXS14
import Derived.Test.YtlpcpkgdojpleaaDoorXS15
import Derived.Test.YtlpcpkgdojpleaaDoorXS16
import Derived.Test.YtlpcpkgdojpleaaDoorXS17
import Derived.Test.YtlpcpkgdojpleaaDoorXS18
import Derived.Test.YtlpcpkgdojpleaaDoorXS19
import Derived.Test.YtlpcpkgdojpleaaDoorXS20
import Derived.Test.YtlpcpkgdojpleaaDoorXS21
namespace Go.Proofs.YtlpcpkgdojpleaaDoor.XS
open Go.RowKit Go.Proofs.YtlpcpkgdojpleaaDoorW.PrintWords Go.Proofs.YtlpcpkgdojpleaaDoorW.PrintLast Go.Proofs.YtlpcpkgdojpleaaDoorW.PrintMore Go.Proofs.YtlpcpkgdojpleaaDoorW.Mem
attribute [local go_sem] max2_int min2_int max_two min_two max_three min_three max_four min_four puts List.set_cons_zero List.set_cons_succ Value.cells List.take_succ_cons List.take_zero List.drop_succ_cons List.drop_zero List.cons_append List.nil_append   -- for this text's walks alone
set_option linter.unusedVariables false
set_option linter.unusedSimpArgs false

end Go.Proofs.YtlpcpkgdojpleaaDoor.XS
