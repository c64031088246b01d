/- Codes of functions, resolved: by a program of this session. -/
import Derived.Test.YtobdcokhmpaooaaDoorProg
import Derived.Test.YtobdcokhmpaooaaDoorM10
namespace Go.HM
open Go Go.Proofs
set_option linter.unusedVariables false
set_option maxRecDepth 100000
/-- hasp/access.Load -/
def c_access_Load : MFn := ⟨64, 5, [.tmp 10, .tmp 11],
 (.seq
 (.o 6 (.bx 39 true (.tmp 1)) <|
 (.o 10 (.mov (.const (.int .u32 0))) <|
 (.o 11 (.mov (.const .nilIface)) <|
 .nil)))
 (.seq
 (.seq
 (.o 18 (.mov (.tmp 3)) <|
 (.o 19 (.call 57 [(.tmp 18)]) <|
 (.o 12 (.mov (.tmp 19)) <|
 .nil)))
 (.seq
 (.o 20 (.mov (.tmp 12)) <|
 (.o 21 (.ifnil true (.tmp 20)) <|
 .nil))
 (.cond (.tmp 21)
 (.seq
 (.o 22 (.mov (.tmp 12)) <|
 (.o 10 (.mov (.const (.int .u32 0))) <|
 (.o 11 (.mov (.tmp 22)) <|
 .nil)))
 .ret)
 .nil)))
 (.seq
 (.o 24 (.ldn 6 (.tmp 6)) <|
 (.o 25 (.mov (.tmp 2)) <|
 (.o 26 (.mov (.tmp 3)) <|
 (.o 27 (.conv .u32 (.tmp 26)) <|
 (.o 28 (.call 58 [(.tmp 24), (.tmp 25), (.tmp 27), (.const (.int .u16 1))]) <|
 (.o 23 (.mov (.tmp 28)) <|
 (.o 29 (.ext (.tmp 23) 0) <|
 (.o 30 (.ext (.tmp 23) 1) <|
 (.o 13 (.mov (.tmp 29)) <|
 (.o 14 (.mov (.tmp 30)) <|
 .nil))))))))))
 (.seq
 (.seq
 (.o 31 (.mov (.tmp 14)) <|
 (.o 32 (.ifnil true (.tmp 31)) <|
 .nil))
 (.cond (.tmp 32)
 (.seq
 (.o 33 (.mov (.tmp 14)) <|
 (.o 10 (.mov (.const (.int .u32 0))) <|
 (.o 11 (.mov (.tmp 33)) <|
 .nil)))
 .ret)
 .nil))
 (.seq
 (.o 35 (.mov (.tmp 0)) <|
 (.o 36 (.mov (.tmp 13)) <|
 (.o 37 (.mov (.tmp 3)) <|
 (.o 38 (.call 14 [(.tmp 35), (.tmp 36), (.tmp 37)]) <|
 (.o 34 (.mov (.tmp 38)) <|
 (.o 39 (.ext (.tmp 34) 0) <|
 (.o 40 (.ext (.tmp 34) 1) <|
 (.o 15 (.mov (.tmp 39)) <|
 (.o 14 (.mov (.tmp 40)) <|
 .nil)))))))))
 (.seq
 (.seq
 (.o 41 (.mov (.tmp 14)) <|
 (.o 42 (.ifnil true (.tmp 41)) <|
 .nil))
 (.cond (.tmp 42)
 (.seq
 (.o 43 (.mov (.tmp 14)) <|
 (.o 10 (.mov (.const (.int .u32 0))) <|
 (.o 11 (.mov (.tmp 43)) <|
 .nil)))
 .ret)
 .nil))
 (.seq
 (.o 16 (.mov (.const (.int .u32 0))) <|
 .nil)
 (.seq
 (.seq
 (.o 44 (.mov (.tmp 3)) <|
 (.o 45 (.iar .sub (.tmp 44) (.const (.int .i64 1))) <|
 (.o 17 (.mov (.tmp 45)) <|
 .nil)))
 (.block 0
 (.loop
 (.seq
 (.seq
 (.o 46 (.mov (.tmp 17)) <|
 (.o 47 (.icmp .geq (.tmp 46) (.const (.int .i64 0))) <|
 .nil))
 (.cond (.tmp 47)
 .nil
 (.exit 0)))
 (.seq
 (.block 1
 (.o 50 (.mov (.tmp 16)) <|
 (.o 51 (.ishC .shl (.tmp 50) 8) <|
 (.o 52 (.mov (.tmp 15)) <|
 (.o 53 (.mov (.tmp 17)) <|
 (.o 54 (.idxS 1 (.tmp 52) (.tmp 53)) <|
 (.o 55 (.ld1 (.tmp 54)) <|
 (.o 56 (.conv .u32 (.tmp 55)) <|
 (.o 57 (.iar .or (.tmp 51) (.tmp 56)) <|
 (.o 16 (.mov (.tmp 57)) <|
 .nil))))))))))
 (.o 48 (.mov (.tmp 17)) <|
 (.o 49 (.iar .sub (.tmp 48) (.const (.int .i64 1))) <|
 (.o 17 (.mov (.tmp 49)) <|
 .nil))))))))
 (.seq
 (.seq
 (.o 58 (.mov (.tmp 4)) <|
 .nil)
 (.cond (.tmp 58)
 (.o 59 (.mov (.tmp 16)) <|
 (.o 60 (.mov (.tmp 3)) <|
 (.o 61 (.iar .mul (.const (.int .i64 8)) (.tmp 60)) <|
 (.o 62 (.call 59 [(.tmp 59), (.tmp 61)]) <|
 (.o 16 (.mov (.tmp 62)) <|
 .nil)))))
 .nil))
 (.seq
 (.o 63 (.mov (.tmp 16)) <|
 (.o 10 (.mov (.tmp 63)) <|
 (.o 11 (.mov (.const .nilIface)) <|
 .nil)))
 .ret))))))))))⟩
theorem m_access_Load : toFn Tryd.prog 25 = some c_access_Load := by kernel_rfl
abbrev n_access_Load : FuncId := 25
/-- hasp/access.LoadCap -/
def c_access_LoadCap : MFn := ⟨35, 3, [.cn 6 6, .tmp 7],
 (.seq
 (.o 4 (.bx 39 true (.tmp 1)) <|
 (.o 6 (.al 39 [(.bool false), (.int .u32 0), (.int .u32 0), (.int .u32 0), (.int .u16 0), (.int .u16 0)]) <|
 (.o 7 (.mov (.const .nilIface)) <|
 .nil)))
 (.seq
 (.o 12 (.ldn 6 (.tmp 4)) <|
 (.o 13 (.mov (.tmp 2)) <|
 (.o 14 (.call 58 [(.tmp 12), (.tmp 13), (.const (.int .u32 16)), (.const (.int .u16 1))]) <|
 (.o 11 (.mov (.tmp 14)) <|
 (.o 15 (.ext (.tmp 11) 0) <|
 (.o 16 (.ext (.tmp 11) 1) <|
 (.o 8 (.mov (.tmp 15)) <|
 (.o 9 (.mov (.tmp 16)) <|
 .nil))))))))
 (.seq
 (.seq
 (.o 17 (.mov (.tmp 9)) <|
 (.o 18 (.ifnil true (.tmp 17)) <|
 .nil))
 (.cond (.tmp 18)
 (.seq
 (.o 19 (.bld [(.bool false), (.int .u32 0), (.int .u32 0), (.int .u32 0), (.int .u16 0), (.int .u16 0)] []) <|
 (.o 20 (.mov (.tmp 9)) <|
 (.op none none (.stn 6 (.tmp 6) (.tmp 19)) <|
 (.o 7 (.mov (.tmp 20)) <|
 .nil))))
 .ret)
 .nil))
 (.seq
 (.o 22 (.mov (.tmp 0)) <|
 (.o 23 (.mov (.tmp 8)) <|
 (.o 24 (.call 16 [(.tmp 22), (.tmp 23)]) <|
 (.o 21 (.mov (.tmp 24)) <|
 (.o 25 (.ext (.tmp 21) 0) <|
 (.o 26 (.ext (.tmp 21) 1) <|
 (.o 10 (.al 39 [(.bool false), (.int .u32 0), (.int .u32 0), (.int .u32 0), (.int .u16 0), (.int .u16 0)]) <|
 (.op none none (.stn 6 (.tmp 10) (.tmp 25)) <|
 (.o 9 (.mov (.tmp 26)) <|
 .nil)))))))))
 (.seq
 (.seq
 (.o 27 (.fadr 4 (.tmp 4)) <|
 (.o 28 (.ld1 (.tmp 27)) <|
 (.o 29 (.iar .and (.tmp 28) (.const (.int .u16 8))) <|
 (.o 30 (.icmp .eql (.tmp 29) (.const (.int .u16 0))) <|
 .nil))))
 (.cond (.tmp 30)
 (.o 31 (.ldn 6 (.tmp 10)) <|
 (.o 32 (.call 64 [(.tmp 31)]) <|
 (.op none none (.stn 6 (.tmp 10) (.tmp 32)) <|
 .nil)))
 .nil))
 (.seq
 (.o 33 (.ldn 6 (.tmp 10)) <|
 (.o 34 (.mov (.tmp 9)) <|
 (.op none none (.stn 6 (.tmp 6) (.tmp 33)) <|
 (.o 7 (.mov (.tmp 34)) <|
 .nil))))
 .ret))))))⟩
theorem m_access_LoadCap : toFn Tryd.prog 27 = some c_access_LoadCap := by kernel_rfl
abbrev n_access_LoadCap : FuncId := 27
/-- hasp/access.Store -/
def c_access_Store : MFn := ⟨51, 5, [.tmp 10],
 (.seq
 (.o 6 (.bx 39 true (.tmp 1)) <|
 (.o 10 (.mov (.const .nilIface)) <|
 .nil))
 (.seq
 (.seq
 (.o 16 (.mov (.tmp 3)) <|
 (.o 17 (.call 57 [(.tmp 16)]) <|
 (.o 11 (.mov (.tmp 17)) <|
 .nil)))
 (.seq
 (.o 18 (.mov (.tmp 11)) <|
 (.o 19 (.ifnil true (.tmp 18)) <|
 .nil))
 (.cond (.tmp 19)
 (.seq
 (.o 20 (.mov (.tmp 11)) <|
 (.o 10 (.mov (.tmp 20)) <|
 .nil))
 .ret)
 .nil)))
 (.seq
 (.o 22 (.ldn 6 (.tmp 6)) <|
 (.o 23 (.mov (.tmp 2)) <|
 (.o 24 (.mov (.tmp 3)) <|
 (.o 25 (.conv .u32 (.tmp 24)) <|
 (.o 26 (.call 58 [(.tmp 22), (.tmp 23), (.tmp 25), (.const (.int .u16 2))]) <|
 (.o 21 (.mov (.tmp 26)) <|
 (.o 27 (.ext (.tmp 21) 0) <|
 (.o 28 (.ext (.tmp 21) 1) <|
 (.o 12 (.mov (.tmp 27)) <|
 (.o 13 (.mov (.tmp 28)) <|
 .nil))))))))))
 (.seq
 (.seq
 (.o 29 (.mov (.tmp 13)) <|
 (.o 30 (.ifnil true (.tmp 29)) <|
 .nil))
 (.cond (.tmp 30)
 (.seq
 (.o 31 (.mov (.tmp 13)) <|
 (.o 10 (.mov (.tmp 31)) <|
 .nil))
 .ret)
 .nil))
 (.seq
 (.o 32 (.mov (.tmp 3)) <|
 (.o 33 (.mkSl 35 (.tmp 32) (.tmp 32)) <|
 (.o 14 (.mov (.tmp 33)) <|
 .nil)))
 (.seq
 (.seq
 (.o 34 (.mov (.tmp 14)) <|
 (.o 35 (.lenS (.tmp 34)) <|
 (.o 36 (.mov (.const (.int .i64 0))) <|
 .nil)))
 (.block 0
 (.loop
 (.seq
 (.o 37 (.icmp .lss (.tmp 36) (.tmp 35)) <|
 .nil)
 (.seq
 (.cond (.tmp 37)
 .nil
 (.exit 0))
 (.seq
 (.block 1
 (.seq
 (.o 38 (.mov (.tmp 36)) <|
 (.o 15 (.mov (.tmp 38)) <|
 .nil))
 (.o 39 (.mov (.tmp 14)) <|
 (.o 40 (.mov (.tmp 15)) <|
 (.o 41 (.mov (.tmp 4)) <|
 (.o 42 (.conv .u8 (.tmp 41)) <|
 (.o 43 (.mov (.tmp 4)) <|
 (.o 44 (.ishC .shr (.tmp 43) 8) <|
 (.o 45 (.idxS 1 (.tmp 39) (.tmp 40)) <|
 (.op none none (.st1 (.tmp 45) (.tmp 42)) <|
 (.o 4 (.mov (.tmp 44)) <|
 .nil)))))))))))
 (.o 46 (.iar .add (.tmp 36) (.const (.int .i64 1))) <|
 (.o 36 (.mov (.tmp 46)) <|
 .nil))))))))
 (.seq
 (.o 47 (.mov (.tmp 0)) <|
 (.o 48 (.mov (.tmp 12)) <|
 (.o 49 (.mov (.tmp 14)) <|
 (.o 50 (.call 9 [(.tmp 47), (.tmp 48), (.tmp 49)]) <|
 (.o 10 (.mov (.tmp 50)) <|
 .nil)))))
 .ret)))))))⟩
theorem m_access_Store : toFn Tryd.prog 29 = some c_access_Store := by kernel_rfl
abbrev n_access_Store : FuncId := 29
/-- hasp/access.StoreCap -/
def c_access_StoreCap : MFn := ⟨30, 4, [.tmp 8],
 (.seq
 (.o 5 (.bx 39 true (.tmp 1)) <|
 (.o 7 (.bx 39 true (.tmp 3)) <|
 (.o 8 (.mov (.const .nilIface)) <|
 .nil)))
 (.seq
 (.o 9 (.mov (.const (.int .u16 2))) <|
 .nil)
 (.seq
 (.seq
 (.o 12 (.fadr 0 (.tmp 7)) <|
 (.o 13 (.ld1 (.tmp 12)) <|
 .nil))
 (.cond (.tmp 13)
 (.o 14 (.mov (.tmp 9)) <|
 (.o 15 (.iar .or (.tmp 14) (.const (.int .u16 16))) <|
 (.o 9 (.mov (.tmp 15)) <|
 .nil)))
 .nil))
 (.seq
 (.o 17 (.ldn 6 (.tmp 5)) <|
 (.o 18 (.mov (.tmp 2)) <|
 (.o 19 (.mov (.tmp 9)) <|
 (.o 20 (.call 58 [(.tmp 17), (.tmp 18), (.const (.int .u32 16)), (.tmp 19)]) <|
 (.o 16 (.mov (.tmp 20)) <|
 (.o 21 (.ext (.tmp 16) 0) <|
 (.o 22 (.ext (.tmp 16) 1) <|
 (.o 10 (.mov (.tmp 21)) <|
 (.o 11 (.mov (.tmp 22)) <|
 .nil)))))))))
 (.seq
 (.seq
 (.o 23 (.mov (.tmp 11)) <|
 (.o 24 (.ifnil true (.tmp 23)) <|
 .nil))
 (.cond (.tmp 24)
 (.seq
 (.o 25 (.mov (.tmp 11)) <|
 (.o 8 (.mov (.tmp 25)) <|
 .nil))
 .ret)
 .nil))
 (.seq
 (.o 26 (.mov (.tmp 0)) <|
 (.o 27 (.mov (.tmp 10)) <|
 (.o 28 (.ldn 6 (.tmp 7)) <|
 (.o 29 (.call 11 [(.tmp 26), (.tmp 27), (.tmp 28)]) <|
 (.o 8 (.mov (.tmp 29)) <|
 .nil)))))
 .ret))))))⟩
theorem m_access_StoreCap : toFn Tryd.prog 31 = some c_access_StoreCap := by kernel_rfl
abbrev n_access_StoreCap : FuncId := 31
/-- hasp/access.Check -/
def c_access_Check : MFn := ⟨27, 4, [.tmp 8],
 (.seq
 (.o 4 (.bx 39 true (.tmp 0)) <|
 (.o 8 (.mov (.const .nilIface)) <|
 .nil))
 (.seq
 (.seq
 (.o 10 (.ldn 6 (.tmp 4)) <|
 (.o 11 (.mov (.tmp 1)) <|
 (.o 12 (.mov (.tmp 2)) <|
 (.o 13 (.mov (.tmp 3)) <|
 (.o 14 (.call 78 [(.tmp 10), (.tmp 11), (.tmp 12), (.tmp 13)]) <|
 (.o 9 (.mov (.tmp 14)) <|
 .nil))))))
 (.seq
 (.o 15 (.mov (.tmp 9)) <|
 (.o 16 (.mkif 83 (.tmp 15)) <|
 (.o 17 (.mkif 83 (.const (.int .i64 0))) <|
 (.o 18 (.call 38 [(.tmp 16), (.tmp 17)]) <|
 (.o 19 (.bnot (.tmp 18)) <|
 .nil)))))
 (.cond (.tmp 19)
 (.seq
 (.o 20 (.mov (.tmp 1)) <|
 (.o 21 (.conv .i64 (.tmp 20)) <|
 (.o 22 (.mov (.tmp 9)) <|
 (.o 23 (.mkif 83 (.tmp 22)) <|
 (.o 24 (.bld [(.string ⟨#[]⟩), (.int .i64 0), .nilIface] [(0, 1, (.const (.string ⟨#[97, 99, 99, 101, 115, 115]⟩))), (1, 1, (.tmp 21)), (2, 1, (.tmp 23))]) <|
 (.o 25 (.bx 90 true (.tmp 24)) <|
 (.o 26 (.mkif 86 (.tmp 25)) <|
 (.o 8 (.mov (.tmp 26)) <|
 .nil))))))))
 .ret)
 .nil)))
 (.seq
 (.o 8 (.mov (.const .nilIface)) <|
 .nil)
 .ret)))⟩
theorem m_access_Check : toFn Tryd.prog 55 = some c_access_Check := by kernel_rfl
abbrev n_access_Check : FuncId := 55
/-- hasp/access.size -/
def c_access_size : MFn := ⟨13, 1, [.tmp 2],
 (.seq
 (.o 2 (.mov (.const .nilIface)) <|
 .nil)
 (.seq
 (.seq
 (.o 3 (.mov (.tmp 0)) <|
 .nil)
 (.block 0
 (.seq
 (.seq
 (.o 5 (.icmp .eql (.tmp 3) (.const (.int .i64 1))) <|
 (.o 4 (.mov (.tmp 5)) <|
 .nil))
 (.cond (.tmp 4)
 .nil
 (.seq
 (.o 6 (.icmp .eql (.tmp 3) (.const (.int .i64 2))) <|
 (.o 4 (.mov (.tmp 6)) <|
 .nil))
 (.cond (.tmp 4)
 .nil
 (.o 7 (.icmp .eql (.tmp 3) (.const (.int .i64 4))) <|
 (.o 4 (.mov (.tmp 7)) <|
 .nil))))))
 (.cond (.tmp 4)
 (.seq
 (.o 2 (.mov (.const .nilIface)) <|
 .nil)
 .ret)
 .nil))))
 (.seq
 (.o 8 (.mov (.tmp 0)) <|
 (.o 9 (.mkif 83 (.const (.int .i64 7))) <|
 (.o 10 (.bld [(.string ⟨#[]⟩), (.int .i64 0), .nilIface] [(0, 1, (.const (.string ⟨#[115, 105, 122, 101]⟩))), (1, 1, (.tmp 8)), (2, 1, (.tmp 9))]) <|
 (.o 11 (.bx 90 true (.tmp 10)) <|
 (.o 12 (.mkif 86 (.tmp 11)) <|
 (.o 2 (.mov (.tmp 12)) <|
 .nil))))))
 .ret)))⟩
theorem m_access_size : toFn Tryd.prog 57 = some c_access_size := by kernel_rfl
abbrev n_access_size : FuncId := 57
/-- hasp/access.place -/
def c_access_place : MFn := ⟨23, 4, [.tmp 8, .tmp 9],
 (.seq
 (.o 4 (.bx 39 true (.tmp 0)) <|
 (.o 8 (.mov (.const (.int .i64 0))) <|
 (.o 9 (.mov (.const .nilIface)) <|
 .nil)))
 (.seq
 (.o 11 (.fadr 3 (.tmp 4)) <|
 (.o 12 (.ld1 (.tmp 11)) <|
 (.o 13 (.mov (.tmp 1)) <|
 (.o 14 (.conv .u32 (.tmp 13)) <|
 (.o 15 (.iar .add (.tmp 12) (.tmp 14)) <|
 (.o 10 (.mov (.tmp 15)) <|
 .nil))))))
 (.seq
 (.o 16 (.mov (.tmp 10)) <|
 (.o 17 (.conv .i64 (.tmp 16)) <|
 (.o 18 (.ldn 6 (.tmp 4)) <|
 (.o 19 (.mov (.tmp 10)) <|
 (.o 20 (.mov (.tmp 2)) <|
 (.o 21 (.mov (.tmp 3)) <|
 (.o 22 (.call 55 [(.tmp 18), (.tmp 19), (.tmp 20), (.tmp 21)]) <|
 (.o 8 (.mov (.tmp 17)) <|
 (.o 9 (.mov (.tmp 22)) <|
 .nil)))))))))
 .ret)))⟩
theorem m_access_place : toFn Tryd.prog 58 = some c_access_place := by kernel_rfl
abbrev n_access_place : FuncId := 58
/-- hasp/access.first -/
def c_access_first : MFn := ⟨39, 4, [.tmp 8],
 (.seq
 (.o 4 (.bx 39 true (.tmp 0)) <|
 (.o 8 (.mov (.const (.int .i64 0))) <|
 .nil))
 (.seq
 (.block 0
 (.seq
 (.o 10 (.fadr 0 (.tmp 4)) <|
 (.o 11 (.ld1 (.tmp 10)) <|
 (.o 12 (.bnot (.tmp 11)) <|
 (.o 9 (.mov (.tmp 12)) <|
 .nil))))
 (.cond (.tmp 9)
 (.seq
 (.o 8 (.mov (.const (.int .i64 1))) <|
 .nil)
 .ret)
 (.seq
 (.o 14 (.fadr 5 (.tmp 4)) <|
 (.o 15 (.ld1 (.tmp 14)) <|
 (.o 16 (.icmp .neq (.tmp 15) (.const (.int .u16 0))) <|
 (.o 13 (.mov (.tmp 16)) <|
 .nil))))
 (.cond (.tmp 13)
 (.seq
 (.o 8 (.mov (.const (.int .i64 2))) <|
 .nil)
 .ret)
 (.seq
 (.o 18 (.fadr 4 (.tmp 4)) <|
 (.o 19 (.ld1 (.tmp 18)) <|
 (.o 20 (.mov (.tmp 3)) <|
 (.o 21 (.iar .and (.tmp 19) (.tmp 20)) <|
 (.o 22 (.mov (.tmp 3)) <|
 (.o 23 (.icmp .neq (.tmp 21) (.tmp 22)) <|
 (.o 17 (.mov (.tmp 23)) <|
 .nil)))))))
 (.cond (.tmp 17)
 (.seq
 (.o 8 (.mov (.const (.int .i64 3))) <|
 .nil)
 .ret)
 (.seq
 (.o 25 (.ldn 6 (.tmp 4)) <|
 (.o 26 (.mov (.tmp 1)) <|
 (.o 27 (.mov (.tmp 2)) <|
 (.o 28 (.call 76 [(.tmp 25), (.tmp 26), (.tmp 27)]) <|
 (.o 29 (.bnot (.tmp 28)) <|
 (.o 24 (.mov (.tmp 29)) <|
 .nil))))))
 (.cond (.tmp 24)
 (.seq
 (.o 8 (.mov (.const (.int .i64 4))) <|
 .nil)
 .ret)
 (.seq
 (.o 31 (.mov (.tmp 2)) <|
 (.o 32 (.icmp .gtr (.tmp 31) (.const (.int .u32 0))) <|
 (.o 33 (.mov (.tmp 32)) <|
 (.op (some (33, true)) (some 34) (.mov (.tmp 1)) <|
 (.op (some (33, true)) (some 35) (.mov (.tmp 2)) <|
 (.op (some (33, true)) (some 36) (.idiv .rem (.tmp 34) (.tmp 35)) <|
 (.op (some (33, true)) (some 37) (.icmp .neq (.tmp 36) (.const (.int .u32 0))) <|
 (.o 38 (.pick (.tmp 33) (.tmp 37) (.const (.bool false))) <|
 (.o 30 (.mov (.tmp 38)) <|
 .nil)))))))))
 (.cond (.tmp 30)
 (.seq
 (.o 8 (.mov (.const (.int .i64 5))) <|
 .nil)
 .ret)
 .nil)))))))))))
 (.seq
 (.o 8 (.mov (.const (.int .i64 0))) <|
 .nil)
 .ret)))⟩
theorem m_access_first : toFn Tryd.prog 78 = some c_access_first := by kernel_rfl
abbrev n_access_first : FuncId := 78
end Go.HM
