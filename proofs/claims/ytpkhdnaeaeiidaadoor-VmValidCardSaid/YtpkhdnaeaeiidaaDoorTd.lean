/- The abstract texts fit the functions of the program, each by a check in the kernel, second part. Conditions: none. -/
import Derived.Test.YtpkhdnaeaeiidaaDoorGc
import Derived.Test.YtpkhdnaeaeiidaaDoorProg
import Derived.KernelRfl
set_option linter.unusedSimpArgs false
set_option linter.unusedVariables false

namespace Go.Absw
open Go Go.Proofs
set_option maxRecDepth 100000
theorem f4ok : chkF Tryd.prog 4 0 [] 4 f4pc f4rs = true := by kernel_rfl
end Go.Absw
