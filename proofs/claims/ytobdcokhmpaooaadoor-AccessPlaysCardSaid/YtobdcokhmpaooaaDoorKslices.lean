/- Codes of functions, resolved: by a program of this session. -/
import Derived.Test.YtobdcokhmpaooaaDoorProg
import Derived.Test.YtobdcokhmpaooaaDoorM10
namespace Go.HM
open Go Go.Proofs
set_option linter.unusedVariables false
set_option maxRecDepth 100000
/-- slices.Clip[[]byte,byte] -/
def c_slices_Clip_bytebyte : MFn := ⟨9, 1, [.tmp 2],
 (.seq
 (.o 2 (.mov (.const (.slice none 0 0))) <|
 .nil)
 (.seq
 (.o 3 (.mov (.tmp 0)) <|
 (.o 4 (.mov (.tmp 0)) <|
 (.o 5 (.lenS (.tmp 4)) <|
 (.o 6 (.mov (.tmp 0)) <|
 (.o 7 (.lenS (.tmp 6)) <|
 (.o 8 (.slS 1 (.tmp 3) none (some (.tmp 5)) (some (.tmp 7))) <|
 (.o 2 (.mov (.tmp 8)) <|
 .nil)))))))
 .ret))⟩
theorem m_slices_Clip_bytebyte : toFn Tryd.prog 44 = some c_slices_Clip_bytebyte := by kernel_rfl
abbrev n_slices_Clip_bytebyte : FuncId := 44
/-- slices.Clone[[]byte,byte] -/
def c_slices_Clone_bytebyte : MFn := ⟨8, 1, [.tmp 2],
 (.seq
 (.o 2 (.mov (.const (.slice none 0 0))) <|
 .nil)
 (.seq
 (.seq
 (.o 3 (.mov (.tmp 0)) <|
 (.o 4 (.slnil false (.tmp 3)) <|
 .nil))
 (.cond (.tmp 4)
 (.seq
 (.o 2 (.mov (.const (.slice none 0 0))) <|
 .nil)
 .ret)
 .nil))
 (.seq
 (.o 5 (.bldS 5 0 [] []) <|
 (.o 6 (.mov (.tmp 0)) <|
 (.o 7 (.bi .append [35, 35] 35 [(.tmp 5), (.tmp 6)]) <|
 (.o 2 (.mov (.tmp 7)) <|
 .nil))))
 .ret)))⟩
theorem m_slices_Clone_bytebyte : toFn Tryd.prog 45 = some c_slices_Clone_bytebyte := by kernel_rfl
abbrev n_slices_Clone_bytebyte : FuncId := 45
/-- slices.Clone[[]bool,bool] -/
def c_slices_Clone_boolbool : MFn := ⟨8, 1, [.tmp 2],
 (.seq
 (.o 2 (.mov (.const (.slice none 0 0))) <|
 .nil)
 (.seq
 (.seq
 (.o 3 (.mov (.tmp 0)) <|
 (.o 4 (.slnil false (.tmp 3)) <|
 .nil))
 (.cond (.tmp 4)
 (.seq
 (.o 2 (.mov (.const (.slice none 0 0))) <|
 .nil)
 .ret)
 .nil))
 (.seq
 (.o 5 (.bldS 4 0 [] []) <|
 (.o 6 (.mov (.tmp 0)) <|
 (.o 7 (.bi .append [59, 59] 59 [(.tmp 5), (.tmp 6)]) <|
 (.o 2 (.mov (.tmp 7)) <|
 .nil))))
 .ret)))⟩
theorem m_slices_Clone_boolbool : toFn Tryd.prog 48 = some c_slices_Clone_boolbool := by kernel_rfl
abbrev n_slices_Clone_boolbool : FuncId := 48
/-- slices.Equal[[]bool,bool] -/
def c_slices_Equal_boolbool : MFn := ⟨26, 2, [.tmp 4],
 (.seq
 (.o 4 (.mov (.const (.bool false))) <|
 .nil)
 (.seq
 (.seq
 (.o 6 (.mov (.tmp 0)) <|
 (.o 7 (.lenS (.tmp 6)) <|
 (.o 8 (.mov (.tmp 1)) <|
 (.o 9 (.lenS (.tmp 8)) <|
 (.o 10 (.icmp .neq (.tmp 7) (.tmp 9)) <|
 .nil)))))
 (.cond (.tmp 10)
 (.seq
 (.o 4 (.mov (.const (.bool false))) <|
 .nil)
 .ret)
 .nil))
 (.seq
 (.seq
 (.o 11 (.mov (.tmp 0)) <|
 (.o 12 (.lenS (.tmp 11)) <|
 (.o 13 (.mov (.const (.int .i64 0))) <|
 .nil)))
 (.block 0
 (.loop
 (.seq
 (.o 14 (.icmp .lss (.tmp 13) (.tmp 12)) <|
 .nil)
 (.seq
 (.cond (.tmp 14)
 .nil
 (.exit 0))
 (.seq
 (.block 1
 (.seq
 (.o 15 (.mov (.tmp 13)) <|
 (.o 5 (.mov (.tmp 15)) <|
 .nil))
 (.seq
 (.draw
 (.o 16 (.mov (.tmp 0)) <|
 (.o 17 (.mov (.tmp 5)) <|
 (.o 18 (.idxS 1 (.tmp 16) (.tmp 17)) <|
 (.o 19 (.ld1 (.tmp 18)) <|
 (.o 20 (.mov (.tmp 1)) <|
 (.o 21 (.mov (.tmp 5)) <|
 (.o 22 (.idxS 1 (.tmp 20) (.tmp 21)) <|
 (.o 23 (.ld1 (.tmp 22)) <|
 (.o 24 (.beq true (.tmp 19) (.tmp 23)) <|
 .nil))))))))))
 (.cond (.tmp 24)
 (.seq
 (.o 4 (.mov (.const (.bool false))) <|
 .nil)
 .ret)
 .nil))))
 (.o 25 (.iar .add (.tmp 13) (.const (.int .i64 1))) <|
 (.o 13 (.mov (.tmp 25)) <|
 .nil))))))))
 (.seq
 (.o 4 (.mov (.const (.bool true))) <|
 .nil)
 .ret))))⟩
theorem m_slices_Equal_boolbool : toFn Tryd.prog 50 = some c_slices_Equal_boolbool := by kernel_rfl
abbrev n_slices_Equal_boolbool : FuncId := 50
end Go.HM
