/- The abstract texts fit the functions of the program, each by a check in the kernel, third part. Conditions: none. -/
import Derived.Test.YtpkhdnaeaeiidaaDoorGf
import Derived.Test.YtpkhdnaeaeiidaaDoorProg
import Derived.KernelRfl
set_option linter.unusedSimpArgs false
set_option linter.unusedVariables false

namespace Go.Absw
open Go Go.Proofs
set_option maxRecDepth 100000
theorem f25ok : chkF Tryd.prog 25 0 [] 2 f25pc f25rs = true := by kernel_rfl
theorem f30ok : chkF Tryd.prog 30 0 [] 2 f30pc f30rs = true := by kernel_rfl
theorem f51ok : chkF Tryd.prog 51 0 [] 0 f51pc f51rs = true := by kernel_rfl
theorem f58ok : chkF Tryd.prog 58 0 [] 1 f58pc f58rs = true := by kernel_rfl
theorem f63ok : chkF Tryd.prog 63 0 [] 1 f63pc f63rs = true := by kernel_rfl
end Go.Absw

namespace Go.Absw
open Go Go.Proofs
set_option maxRecDepth 100000
theorem f29ok : chkF Tryd.prog 29 0 [] 1 f29pc f29rs = true := by kernel_rfl
end Go.Absw

namespace Go.Absw
open Go Go.Proofs
set_option maxRecDepth 100000
theorem f52ok : chkF Tryd.prog 52 0 [] 1 f52pc f52rs = true := by kernel_rfl
theorem f23ok : chkF Tryd.prog 23 0 [] 1 f23pc f23rs = true := by kernel_rfl
end Go.Absw

namespace Go.Absw
open Go Go.Proofs
set_option maxRecDepth 100000
theorem f26ok : chkF Tryd.prog 26 0 [] 2 f26pc f26rs = true := by kernel_rfl
theorem f27ok : chkF Tryd.prog 27 0 [] 4 f27pc f27rs = true := by kernel_rfl
end Go.Absw

namespace Go.Absw
open Go Go.Proofs
set_option maxRecDepth 100000
theorem f7ok : chkF Tryd.prog 7 0 [] 6 f7pc f7rs = true := by kernel_rfl
theorem f8ok : chkF Tryd.prog 8 0 [] 4 f8pc f8rs = true := by kernel_rfl
end Go.Absw

namespace Go.Absw
open Go Go.Proofs
set_option maxRecDepth 100000
theorem f54ok : chkF Tryd.prog 54 2 [] 2 f54pc f54rs = true := by kernel_rfl
theorem f56ok : chkF Tryd.prog 56 2 [] 2 f56pc f56rs = true := by kernel_rfl
theorem f24ok : chkF Tryd.prog 24 0 [] 1 f24pc f24rs = true := by kernel_rfl
end Go.Absw
