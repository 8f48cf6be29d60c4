/- The abstract texts fit the functions of the program, each by a check in the kernel, second part. Conditions: none. -/
import Derived.Test.YtpkhdnaeaeiidaaDoorGe
import Derived.Test.YtpkhdnaeaeiidaaDoorProg
import Derived.KernelRfl
set_option linter.unusedSimpArgs false
set_option linter.unusedVariables false

namespace Go.Absw
open Go Go.Proofs
set_option maxRecDepth 100000
theorem f47ok : chkF Tryd.prog 47 0 [129] 1 f47pc f47rs = true := by kernel_rfl
theorem f49ok : chkF Tryd.prog 49 0 [106] 1 f49pc f49rs = true := by kernel_rfl
theorem f48ok : chkF Tryd.prog 48 0 [] 1 f48pc f48rs = true := by kernel_rfl
theorem f50ok : chkF Tryd.prog 50 0 [] 1 f50pc f50rs = true := by kernel_rfl
theorem f21ok : chkF Tryd.prog 21 0 [] 1 f21pc f21rs = true := by kernel_rfl
theorem f22ok : chkF Tryd.prog 22 0 [] 1 f22pc f22rs = true := by kernel_rfl
theorem f20ok : chkF Tryd.prog 20 0 [] 2 f20pc f20rs = true := by kernel_rfl
end Go.Absw

namespace Go.Absw
open Go Go.Proofs
set_option maxRecDepth 100000
theorem f6ok : chkF Tryd.prog 6 0 [] 5 f6pc f6rs = true := by kernel_rfl
end Go.Absw
