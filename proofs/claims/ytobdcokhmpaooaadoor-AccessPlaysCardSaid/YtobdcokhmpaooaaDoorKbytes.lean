/- Codes of functions, resolved: by a program of this session. -/
import Derived.Test.YtobdcokhmpaooaaDoorProg
import Derived.Test.YtobdcokhmpaooaaDoorM10
namespace Go.HM
open Go Go.Proofs
set_option linter.unusedVariables false
set_option maxRecDepth 100000
/-- bytes.Equal -/
def c_bytes_Equal : MFn := ⟨10, 2, [.tmp 4],
 (.seq
 (.o 4 (.mov (.const (.bool false))) <|
 .nil)
 (.seq
 (.o 5 (.mov (.tmp 0)) <|
 (.o 6 (.cvBS (.tmp 5)) <|
 (.o 7 (.mov (.tmp 1)) <|
 (.o 8 (.cvBS (.tmp 7)) <|
 (.o 9 (.scmp .eql (.tmp 6) (.tmp 8)) <|
 (.o 4 (.mov (.tmp 9)) <|
 .nil))))))
 .ret))⟩
theorem m_bytes_Equal : toFn Tryd.prog 49 = some c_bytes_Equal := by kernel_rfl
abbrev n_bytes_Equal : FuncId := 49
end Go.HM
