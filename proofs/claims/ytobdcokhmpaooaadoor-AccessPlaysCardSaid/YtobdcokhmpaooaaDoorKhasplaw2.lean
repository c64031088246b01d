/- Codes of functions, resolved: by a program of this session. -/
import Derived.Test.YtobdcokhmpaooaaDoorProg
import Derived.Test.YtobdcokhmpaooaaDoorM10
namespace Go.HM
open Go Go.Proofs
set_option linter.unusedVariables false
set_option maxRecDepth 100000
/-- hasp/hasplaw2.Of -/
def c_hasplaw2_Of : MFn := ⟨16, 1, [.cn 2 6],
 (.seq
 (.o 1 (.bx 39 true (.tmp 0)) <|
 (.o 2 (.al 46 [(.bool false), (.int .u32 0), (.int .u32 0), (.int .u32 0), (.int .u16 0), (.int .u16 0)]) <|
 .nil))
 (.seq
 (.o 3 (.fadr 0 (.tmp 1)) <|
 (.o 4 (.ld1 (.tmp 3)) <|
 (.o 5 (.fadr 1 (.tmp 1)) <|
 (.o 6 (.ld1 (.tmp 5)) <|
 (.o 7 (.fadr 2 (.tmp 1)) <|
 (.o 8 (.ld1 (.tmp 7)) <|
 (.o 9 (.fadr 3 (.tmp 1)) <|
 (.o 10 (.ld1 (.tmp 9)) <|
 (.o 11 (.fadr 4 (.tmp 1)) <|
 (.o 12 (.ld1 (.tmp 11)) <|
 (.o 13 (.fadr 5 (.tmp 1)) <|
 (.o 14 (.ld1 (.tmp 13)) <|
 (.o 15 (.bld [(.bool false), (.int .u32 0), (.int .u32 0), (.int .u32 0), (.int .u16 0), (.int .u16 0)] [(0, 1, (.tmp 4)), (1, 1, (.tmp 6)), (2, 1, (.tmp 8)), (3, 1, (.tmp 10)), (4, 1, (.tmp 12)), (5, 1, (.tmp 14))]) <|
 (.op none none (.stn 6 (.tmp 2) (.tmp 15)) <|
 .nil))))))))))))))
 .ret))⟩
theorem m_hasplaw2_Of : toFn Tryd.prog 13 = some c_hasplaw2_Of := by kernel_rfl
abbrev n_hasplaw2_Of : FuncId := 13
end Go.HM
