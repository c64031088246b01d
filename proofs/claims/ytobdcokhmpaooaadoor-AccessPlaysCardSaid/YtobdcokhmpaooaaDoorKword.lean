/- Codes of functions, resolved: by a program of this session. -/
import Derived.Test.YtobdcokhmpaooaaDoorProg
import Derived.Test.YtobdcokhmpaooaaDoorM10
namespace Go.HM
open Go Go.Proofs
set_option linter.unusedVariables false
set_option maxRecDepth 100000
/-- hasp/word.Signed -/
def c_word_Signed : MFn := ⟨17, 2, [.tmp 4],
 (.seq
 (.o 4 (.mov (.const (.int .u32 0))) <|
 .nil)
 (.seq
 (.o 6 (.mov (.tmp 1)) <|
 (.o 7 (.mnmx false (.tmp 6) (.const (.int .i64 1))) <|
 (.o 8 (.mnmx true (.tmp 7) (.const (.int .i64 32))) <|
 (.o 9 (.iar .sub (.const (.int .i64 32)) (.tmp 8)) <|
 (.o 5 (.mov (.tmp 9)) <|
 .nil)))))
 (.seq
 (.o 10 (.mov (.tmp 0)) <|
 (.o 11 (.mov (.tmp 5)) <|
 (.o 12 (.ish .shl (.tmp 10) (.tmp 11)) <|
 (.o 13 (.conv .i32 (.tmp 12)) <|
 (.o 14 (.mov (.tmp 5)) <|
 (.o 15 (.ish .shr (.tmp 13) (.tmp 14)) <|
 (.o 16 (.conv .u32 (.tmp 15)) <|
 (.o 4 (.mov (.tmp 16)) <|
 .nil))))))))
 .ret)))⟩
theorem m_word_Signed : toFn Tryd.prog 59 = some c_word_Signed := by kernel_rfl
abbrev n_word_Signed : FuncId := 59
end Go.HM
