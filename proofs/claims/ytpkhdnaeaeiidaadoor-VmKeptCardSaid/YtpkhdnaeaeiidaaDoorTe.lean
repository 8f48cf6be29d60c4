/- The abstract texts fit the functions of the program, each by a check in the kernel, third part. Conditions: none. -/
import Derived.Test.YtpkhdnaeaeiidaaDoorGd
import Derived.Test.YtpkhdnaeaeiidaaDoorProg
import Derived.KernelRfl
set_option linter.unusedSimpArgs false
set_option linter.unusedVariables false

namespace Go.Absw
open Go Go.Proofs
set_option maxRecDepth 100000
theorem f5ok : chkF Tryd.prog 5 0 [] 4 f5pc f5rs = true := by kernel_rfl
end Go.Absw
