/- Codes of functions, resolved: by a program of this session. -/
import Derived.Test.YtobdcokhmpaooaaDoorProg
import Derived.Test.YtobdcokhmpaooaaDoorM10
namespace Go.HM
open Go Go.Proofs
set_option linter.unusedVariables false
set_option maxRecDepth 100000
/-- hasp/cap.Root -/
def c_cap_Root : MFn := ⟨5, 1, [.cn 2 6],
 (.seq
 (.o 2 (.al 39 [(.bool false), (.int .u32 0), (.int .u32 0), (.int .u32 0), (.int .u16 0), (.int .u16 0)]) <|
 .nil)
 (.seq
 (.o 3 (.mov (.tmp 0)) <|
 (.o 4 (.bld [(.bool false), (.int .u32 0), (.int .u32 0), (.int .u32 0), (.int .u16 0), (.int .u16 0)] [(0, 1, (.const (.bool true))), (2, 1, (.tmp 3)), (4, 1, (.const (.int .u16 127))), (5, 1, (.const (.int .u16 0)))]) <|
 (.op none none (.stn 6 (.tmp 2) (.tmp 4)) <|
 .nil)))
 .ret))⟩
theorem m_cap_Root : toFn Tryd.prog 33 = some c_cap_Root := by kernel_rfl
abbrev n_cap_Root : FuncId := 33
/-- hasp/cap.Bounds -/
def c_cap_Bounds : MFn := ⟨26, 2, [.cn 4 6],
 (.seq
 (.o 2 (.bx 39 true (.tmp 0)) <|
 (.o 4 (.al 39 [(.bool false), (.int .u32 0), (.int .u32 0), (.int .u32 0), (.int .u16 0), (.int .u16 0)]) <|
 .nil))
 (.seq
 (.o 6 (.ldn 6 (.tmp 2)) <|
 (.o 7 (.call 75 [(.tmp 6), (.const (.int .i64 0)), (.const (.int .u16 0))]) <|
 (.o 8 (.mov (.tmp 7)) <|
 (.op (some (8, true)) (some 9) (.ldn 6 (.tmp 2)) <|
 (.op (some (8, true)) (some 10) (.fadr 3 (.tmp 2)) <|
 (.op (some (8, true)) (some 11) (.ld1 (.tmp 10)) <|
 (.op (some (8, true)) (some 12) (.mov (.tmp 1)) <|
 (.op (some (8, true)) (some 13) (.call 76 [(.tmp 9), (.tmp 11), (.tmp 12)]) <|
 (.o 14 (.pick (.tmp 8) (.tmp 13) (.const (.bool false))) <|
 (.o 5 (.mov (.tmp 14)) <|
 .nil))))))))))
 (.seq
 (.o 15 (.fadr 3 (.tmp 2)) <|
 (.o 16 (.ld1 (.tmp 15)) <|
 (.o 17 (.fadr 3 (.tmp 2)) <|
 (.o 18 (.ld1 (.tmp 17)) <|
 (.o 19 (.mov (.tmp 1)) <|
 (.o 20 (.iar .add (.tmp 18) (.tmp 19)) <|
 (.o 21 (.fadr 1 (.tmp 2)) <|
 (.op none none (.st1 (.tmp 21) (.tmp 16)) <|
 (.o 22 (.fadr 2 (.tmp 2)) <|
 (.op none none (.st1 (.tmp 22) (.tmp 20)) <|
 .nil))))))))))
 (.seq
 (.o 23 (.ldn 6 (.tmp 2)) <|
 (.o 24 (.mov (.tmp 5)) <|
 (.o 25 (.call 77 [(.tmp 23), (.tmp 24)]) <|
 (.op none none (.stn 6 (.tmp 4) (.tmp 25)) <|
 .nil))))
 .ret))))⟩
theorem m_cap_Bounds : toFn Tryd.prog 52 = some c_cap_Bounds := by kernel_rfl
abbrev n_cap_Bounds : FuncId := 52
/-- hasp/cap.SetAddr -/
def c_cap_SetAddr : MFn := ⟨11, 2, [.cn 4 6],
 (.seq
 (.o 2 (.bx 39 true (.tmp 0)) <|
 (.o 4 (.al 39 [(.bool false), (.int .u32 0), (.int .u32 0), (.int .u32 0), (.int .u16 0), (.int .u16 0)]) <|
 .nil))
 (.seq
 (.o 5 (.mov (.tmp 1)) <|
 (.o 6 (.fadr 3 (.tmp 2)) <|
 (.op none none (.st1 (.tmp 6) (.tmp 5)) <|
 .nil)))
 (.seq
 (.draw
 (.o 7 (.ldn 6 (.tmp 2)) <|
 (.o 8 (.ldn 6 (.tmp 2)) <|
 (.o 9 (.call 75 [(.tmp 8), (.const (.int .i64 0)), (.const (.int .u16 0))]) <|
 (.o 10 (.call 77 [(.tmp 7), (.tmp 9)]) <|
 (.op none none (.stn 6 (.tmp 4) (.tmp 10)) <|
 .nil))))))
 .ret)))⟩
theorem m_cap_SetAddr : toFn Tryd.prog 53 = some c_cap_SetAddr := by kernel_rfl
abbrev n_cap_SetAddr : FuncId := 53
/-- hasp/cap.AndPerm -/
def c_cap_AndPerm : MFn := ⟨14, 2, [.cn 4 6],
 (.seq
 (.o 2 (.bx 39 true (.tmp 0)) <|
 (.o 4 (.al 39 [(.bool false), (.int .u32 0), (.int .u32 0), (.int .u32 0), (.int .u16 0), (.int .u16 0)]) <|
 .nil))
 (.seq
 (.o 5 (.fadr 4 (.tmp 2)) <|
 (.o 6 (.ld1 (.tmp 5)) <|
 (.o 7 (.mov (.tmp 1)) <|
 (.o 8 (.iar .and (.tmp 6) (.tmp 7)) <|
 (.o 9 (.fadr 4 (.tmp 2)) <|
 (.op none none (.st1 (.tmp 9) (.tmp 8)) <|
 .nil))))))
 (.seq
 (.draw
 (.o 10 (.ldn 6 (.tmp 2)) <|
 (.o 11 (.ldn 6 (.tmp 2)) <|
 (.o 12 (.call 75 [(.tmp 11), (.const (.int .i64 0)), (.const (.int .u16 0))]) <|
 (.o 13 (.call 77 [(.tmp 10), (.tmp 12)]) <|
 (.op none none (.stn 6 (.tmp 4) (.tmp 13)) <|
 .nil))))))
 .ret)))⟩
theorem m_cap_AndPerm : toFn Tryd.prog 54 = some c_cap_AndPerm := by kernel_rfl
abbrev n_cap_AndPerm : FuncId := 54
/-- hasp/cap.Clear -/
def c_cap_Clear : MFn := ⟨5, 1, [.cn 2 6],
 (.seq
 (.o 1 (.bx 39 true (.tmp 0)) <|
 (.o 2 (.al 39 [(.bool false), (.int .u32 0), (.int .u32 0), (.int .u32 0), (.int .u16 0), (.int .u16 0)]) <|
 .nil))
 (.seq
 (.o 3 (.ldn 6 (.tmp 1)) <|
 (.o 4 (.call 77 [(.tmp 3), (.const (.bool false))]) <|
 (.op none none (.stn 6 (.tmp 2) (.tmp 4)) <|
 .nil)))
 .ret))⟩
theorem m_cap_Clear : toFn Tryd.prog 64 = some c_cap_Clear := by kernel_rfl
abbrev n_cap_Clear : FuncId := 64
/-- (hasp/cap.Cap).may -/
def c_cap_Cap_may : MFn := ⟨35, 3, [.tmp 6],
 (.seq
 (.o 3 (.bx 39 true (.tmp 0)) <|
 (.o 6 (.mov (.const (.bool false))) <|
 .nil))
 (.seq
 (.o 7 (.mov (.const (.bool true))) <|
 .nil)
 (.seq
 (.seq
 (.o 8 (.mov (.tmp 1)) <|
 .nil)
 (.block 0
 (.seq
 (.block 3
 (.seq
 (.block 2
 (.seq
 (.block 1
 (.seq
 (.seq
 (.seq
 (.o 10 (.icmp .eql (.tmp 8) (.const (.int .i64 2))) <|
 (.o 9 (.mov (.tmp 10)) <|
 .nil))
 (.cond (.tmp 9)
 (.exit 1)
 .nil))
 (.seq
 (.seq
 (.o 12 (.icmp .eql (.tmp 8) (.const (.int .i64 1))) <|
 (.o 11 (.mov (.tmp 12)) <|
 .nil))
 (.cond (.tmp 11)
 (.exit 2)
 .nil))
 (.seq
 (.o 14 (.icmp .eql (.tmp 8) (.const (.int .i64 0))) <|
 (.o 13 (.mov (.tmp 14)) <|
 .nil))
 (.cond (.tmp 13)
 (.exit 3)
 .nil))))
 (.exit 0)))
 (.o 15 (.ldn 6 (.tmp 3)) <|
 (.o 16 (.fadr 3 (.tmp 3)) <|
 (.o 17 (.ld1 (.tmp 16)) <|
 (.o 18 (.call 76 [(.tmp 15), (.tmp 17), (.const (.int .u32 1))]) <|
 (.o 7 (.mov (.tmp 18)) <|
 .nil)))))))
 (.o 19 (.mov (.tmp 7)) <|
 (.o 20 (.mov (.tmp 19)) <|
 (.op (some (20, true)) (some 21) (.fadr 4 (.tmp 3)) <|
 (.op (some (20, true)) (some 22) (.ld1 (.tmp 21)) <|
 (.op (some (20, true)) (some 23) (.mov (.tmp 2)) <|
 (.op (some (20, true)) (some 24) (.iar .and (.tmp 22) (.tmp 23)) <|
 (.op (some (20, true)) (some 25) (.mov (.tmp 2)) <|
 (.op (some (20, true)) (some 26) (.icmp .eql (.tmp 24) (.tmp 25)) <|
 (.o 27 (.pick (.tmp 20) (.tmp 26) (.const (.bool false))) <|
 (.o 7 (.mov (.tmp 27)) <|
 .nil))))))))))))
 (.seq
 (.o 28 (.mov (.tmp 7)) <|
 (.o 29 (.mov (.tmp 28)) <|
 (.op (some (29, true)) (some 30) (.fadr 5 (.tmp 3)) <|
 (.op (some (29, true)) (some 31) (.ld1 (.tmp 30)) <|
 (.op (some (29, true)) (some 32) (.icmp .eql (.tmp 31) (.const (.int .u16 0))) <|
 (.o 33 (.pick (.tmp 29) (.tmp 32) (.const (.bool false))) <|
 (.o 7 (.mov (.tmp 33)) <|
 .nil)))))))
 (.exit 0)))))
 (.seq
 (.o 34 (.mov (.tmp 7)) <|
 (.o 6 (.mov (.tmp 34)) <|
 .nil))
 .ret))))⟩
theorem m_cap_Cap_may : toFn Tryd.prog 75 = some c_cap_Cap_may := by kernel_rfl
abbrev n_cap_Cap_may : FuncId := 75
/-- hasp/cap.Has -/
def c_cap_Has : MFn := ⟨22, 3, [.tmp 6],
 (.seq
 (.o 3 (.bx 39 true (.tmp 0)) <|
 (.o 6 (.mov (.const (.bool false))) <|
 .nil))
 (.seq
 (.o 7 (.fadr 1 (.tmp 3)) <|
 (.o 8 (.ld1 (.tmp 7)) <|
 (.o 9 (.mov (.tmp 1)) <|
 (.o 10 (.icmp .leq (.tmp 8) (.tmp 9)) <|
 (.o 11 (.mov (.tmp 10)) <|
 (.op (some (11, true)) (some 12) (.mov (.tmp 1)) <|
 (.op (some (11, true)) (some 13) (.conv .u64 (.tmp 12)) <|
 (.op (some (11, true)) (some 14) (.mov (.tmp 2)) <|
 (.op (some (11, true)) (some 15) (.conv .u64 (.tmp 14)) <|
 (.op (some (11, true)) (some 16) (.iar .add (.tmp 13) (.tmp 15)) <|
 (.op (some (11, true)) (some 17) (.fadr 2 (.tmp 3)) <|
 (.op (some (11, true)) (some 18) (.ld1 (.tmp 17)) <|
 (.op (some (11, true)) (some 19) (.conv .u64 (.tmp 18)) <|
 (.op (some (11, true)) (some 20) (.icmp .leq (.tmp 16) (.tmp 19)) <|
 (.o 21 (.pick (.tmp 11) (.tmp 20) (.const (.bool false))) <|
 (.o 6 (.mov (.tmp 21)) <|
 .nil))))))))))))))))
 .ret))⟩
theorem m_cap_Has : toFn Tryd.prog 76 = some c_cap_Has := by kernel_rfl
abbrev n_cap_Has : FuncId := 76
/-- (hasp/cap.Cap).kept -/
def c_cap_Cap_kept : MFn := ⟨12, 2, [.cn 4 6],
 (.seq
 (.o 2 (.bx 39 true (.tmp 0)) <|
 (.o 4 (.al 39 [(.bool false), (.int .u32 0), (.int .u32 0), (.int .u32 0), (.int .u16 0), (.int .u16 0)]) <|
 .nil))
 (.seq
 (.o 5 (.fadr 0 (.tmp 2)) <|
 (.o 6 (.ld1 (.tmp 5)) <|
 (.o 7 (.mov (.tmp 6)) <|
 (.op (some (7, true)) (some 8) (.mov (.tmp 1)) <|
 (.o 9 (.pick (.tmp 7) (.tmp 8) (.const (.bool false))) <|
 (.o 10 (.fadr 0 (.tmp 2)) <|
 (.op none none (.st1 (.tmp 10) (.tmp 9)) <|
 .nil)))))))
 (.seq
 (.o 11 (.ldn 6 (.tmp 2)) <|
 (.op none none (.stn 6 (.tmp 4) (.tmp 11)) <|
 .nil))
 .ret)))⟩
theorem m_cap_Cap_kept : toFn Tryd.prog 77 = some c_cap_Cap_kept := by kernel_rfl
abbrev n_cap_Cap_kept : FuncId := 77
end Go.HM
