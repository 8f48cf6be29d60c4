/- The abstract texts fit the functions of the program, each by a check in the kernel. Conditions: none. -/
import Derived.Test.YtpkhdnaeaeiidaaDoorGa
import Derived.Test.YtpkhdnaeaeiidaaDoorProg
import Derived.KernelRfl
import Derived.Test.YtpkhdnaeaeiidaaDoorGb
set_option linter.unusedSimpArgs false
set_option linter.unusedVariables false

namespace Go.Absw
open Go Go.Proofs
set_option maxRecDepth 100000
theorem f65ok : chkF Tryd.prog 65 0 [] 2 f65pc f65rs = true := by kernel_rfl
theorem f35ok : chkF Tryd.prog 35 0 [] 3 f35pc f35rs = true := by kernel_rfl
theorem f68ok : chkF Tryd.prog 68 0 [] 2 f68pc f68rs = true := by kernel_rfl
theorem f69ok : chkF Tryd.prog 69 0 [] 2 f69pc f69rs = true := by kernel_rfl
theorem f67ok : chkF Tryd.prog 67 0 [] 3 f67pc f67rs = true := by kernel_rfl
theorem f64ok : chkF Tryd.prog 64 0 [] 1 f64pc f64rs = true := by kernel_rfl
theorem f15ok : chkF Tryd.prog 15 0 [] 1 f15pc f15rs = true := by kernel_rfl
theorem f31ok : chkF Tryd.prog 31 0 [] 1 f31pc f31rs = true := by kernel_rfl
theorem f13ok : chkF Tryd.prog 13 0 [] 2 f13pc f13rs = true := by kernel_rfl
end Go.Absw

namespace Go.Absw
open Go Go.Proofs
set_option maxRecDepth 100000
theorem f14ok : chkF Tryd.prog 14 0 [] 4 f14pc f14rs = true := by kernel_rfl
theorem f40ok : chkF Tryd.prog 40 2 [] 3 f40pc f40rs = true := by kernel_rfl
theorem f71ok : chkF Tryd.prog 71 1 [] 2 f71pc f71rs = true := by kernel_rfl
theorem f70ok : chkF Tryd.prog 70 1 [] 2 f70pc f70rs = true := by kernel_rfl
theorem f78ok : chkF Tryd.prog 78 1 [] 2 f78pc f78rs = true := by kernel_rfl
theorem f39ok : chkF Tryd.prog 39 0 [] 2 f39pc f39rs = true := by kernel_rfl
theorem f43ok : chkF Tryd.prog 43 0 [] 1 f43pc f43rs = true := by kernel_rfl
theorem f44ok : chkF Tryd.prog 44 0 [] 3 f44pc f44rs = true := by kernel_rfl
theorem f45ok : chkF Tryd.prog 45 0 [] 0 f45pc f45rs = true := by kernel_rfl
theorem f18ok : chkF Tryd.prog 18 0 [] 1 f18pc f18rs = true := by kernel_rfl
theorem f19ok : chkF Tryd.prog 19 0 [] 1 f19pc f19rs = true := by kernel_rfl
theorem f46ok : chkF Tryd.prog 46 0 [] 3 f46pc f46rs = true := by kernel_rfl
theorem f38ok : chkF Tryd.prog 38 0 [] 0 f38pc f38rs = true := by kernel_rfl
theorem f41ok : chkF Tryd.prog 41 0 [] 2 f41pc f41rs = true := by kernel_rfl
theorem f16ok : chkF Tryd.prog 16 0 [] 4 f16pc f16rs = true := by kernel_rfl
theorem f123ok : chkF Tryd.prog 123 0 [] 2 f123pc f123rs = true := by kernel_rfl
theorem f124ok : chkF Tryd.prog 124 0 [] 4 f124pc f124rs = true := by kernel_rfl
end Go.Absw

namespace Go.Absw
open Go Go.Proofs
set_option maxRecDepth 100000
theorem f32ok : chkF Tryd.prog 32 1 [] 2 f32pc f32rs = true := by kernel_rfl
theorem f66ok : chkF Tryd.prog 66 1 [] 1 f66pc f66rs = true := by kernel_rfl
theorem f34ok : chkF Tryd.prog 34 1 [] 2 f34pc f34rs = true := by kernel_rfl
theorem f36ok : chkF Tryd.prog 36 0 [] 3 f36pc f36rs = true := by kernel_rfl
end Go.Absw

namespace Go.Absw
open Go Go.Proofs
set_option maxRecDepth 100000
theorem f33ok : chkF Tryd.prog 33 2 [] 2 f33pc f33rs = true := by kernel_rfl
end Go.Absw

namespace Go.Absw
open Go Go.Proofs
set_option maxRecDepth 100000
theorem f9ok : chkF Tryd.prog 9 0 [] 1 f9pc f9rs = true := by kernel_rfl
end Go.Absw

namespace Go.Absw
open Go Go.Proofs
set_option maxRecDepth 100000
theorem f10ok : chkF Tryd.prog 10 0 [] 3 f10pc f10rs = true := by kernel_rfl
end Go.Absw

namespace Go.Absw
open Go Go.Proofs
set_option maxRecDepth 100000
theorem f37ok : chkF Tryd.prog 37 0 [127] 7 f37pc f37rs = true := by kernel_rfl
theorem f11ok : chkF Tryd.prog 11 0 [] 2 f11pc f11rs = true := by kernel_rfl
end Go.Absw

namespace Go.Absw
open Go Go.Proofs
set_option maxRecDepth 100000
theorem f12ok : chkF Tryd.prog 12 0 [] 4 f12pc f12rs = true := by kernel_rfl
end Go.Absw

namespace Go.Absw
open Go Go.Proofs
set_option maxRecDepth 100000
theorem f59ok : chkF Tryd.prog 59 0 [] 2 f59pc f59rs = true := by kernel_rfl
theorem f62ok : chkF Tryd.prog 62 0 [] 1 f62pc f62rs = true := by kernel_rfl
theorem f60ok : chkF Tryd.prog 60 1 [] 2 f60pc f60rs = true := by kernel_rfl
theorem f61ok : chkF Tryd.prog 61 1 [] 2 f61pc f61rs = true := by kernel_rfl
theorem f28ok : chkF Tryd.prog 28 0 [] 1 f28pc f28rs = true := by kernel_rfl
theorem f74ok : chkF Tryd.prog 74 0 [] 2 f74pc f74rs = true := by kernel_rfl
theorem f81ok : chkF Tryd.prog 81 0 [] 2 f81pc f81rs = true := by kernel_rfl
theorem f89ok : chkF Tryd.prog 89 0 [] 2 f89pc f89rs = true := by kernel_rfl
theorem f75ok : chkF Tryd.prog 75 0 [] 2 f75pc f75rs = true := by kernel_rfl
theorem f82ok : chkF Tryd.prog 82 0 [] 2 f82pc f82rs = true := by kernel_rfl
theorem f76ok : chkF Tryd.prog 76 0 [] 1 f76pc f76rs = true := by kernel_rfl
theorem f77ok : chkF Tryd.prog 77 0 [] 1 f77pc f77rs = true := by kernel_rfl
theorem f83ok : chkF Tryd.prog 83 0 [] 1 f83pc f83rs = true := by kernel_rfl
end Go.Absw

namespace Go.Absw
open Go Go.Proofs
set_option maxRecDepth 100000
theorem f42ok : chkF Tryd.prog 42 0 [] 3 f42pc f42rs = true := by kernel_rfl
theorem f17ok : chkF Tryd.prog 17 0 [] 0 f17pc f17rs = true := by kernel_rfl
theorem f3ok : chkF Tryd.prog 3 0 [] 7 f3pc f3rs = true := by kernel_rfl
end Go.Absw
