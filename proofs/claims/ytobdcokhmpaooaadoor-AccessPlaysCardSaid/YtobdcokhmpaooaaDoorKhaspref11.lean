/- Codes of functions, resolved: by a program of this session. -/
import Derived.Test.YtobdcokhmpaooaaDoorProg
import Derived.Test.YtobdcokhmpaooaaDoorM10
namespace Go.HM
open Go Go.Proofs
set_option linter.unusedVariables false
set_option maxRecDepth 100000
/-- hasp/haspref11.NewMem -/
def c_haspref11_NewMem : MFn := ⟨27, 1, [.tmp 2, .cn 3 3],
 (.seq
 (.o 2 (.mov (.const (.pointer none))) <|
 (.o 3 (.al 31 [(.string ⟨#[]⟩), (.int .i64 0), (.int .i64 0)]) <|
 .nil))
 (.seq
 (.block 0
 (.seq
 (.o 5 (.mov (.tmp 0)) <|
 (.o 6 (.icmp .lss (.tmp 5) (.const (.int .i64 16))) <|
 (.o 7 (.mov (.tmp 6)) <|
 (.op (some (7, false)) (some 8) (.mov (.tmp 0)) <|
 (.op (some (7, false)) (some 9) (.icmp .gtr (.tmp 8) (.const (.int .i64 65536))) <|
 (.o 10 (.pick (.tmp 7) (.const (.bool true)) (.tmp 9)) <|
 (.o 4 (.mov (.tmp 10)) <|
 .nil)))))))
 (.cond (.tmp 4)
 (.seq
 (.o 11 (.mov (.tmp 0)) <|
 (.o 12 (.bld [(.string ⟨#[]⟩), (.int .i64 0), (.int .i64 0)] [(0, 1, (.const (.string ⟨#[115, 105, 122, 101]⟩))), (1, 1, (.tmp 11)), (2, 1, (.const (.int .i64 6)))]) <|
 (.o 2 (.mov (.const (.pointer none))) <|
 (.op none none (.stn 3 (.tmp 3) (.tmp 12)) <|
 .nil))))
 .ret)
 (.seq
 (.o 14 (.mov (.tmp 0)) <|
 (.o 15 (.idivC .rem (.tmp 14) .i64 16) <|
 (.o 16 (.icmp .neq (.tmp 15) (.const (.int .i64 0))) <|
 (.o 13 (.mov (.tmp 16)) <|
 .nil))))
 (.cond (.tmp 13)
 (.seq
 (.o 17 (.mov (.tmp 0)) <|
 (.o 18 (.bld [(.string ⟨#[]⟩), (.int .i64 0), (.int .i64 0)] [(0, 1, (.const (.string ⟨#[115, 105, 122, 101]⟩))), (1, 1, (.tmp 17)), (2, 1, (.const (.int .i64 5)))]) <|
 (.o 2 (.mov (.const (.pointer none))) <|
 (.op none none (.stn 3 (.tmp 3) (.tmp 18)) <|
 .nil))))
 .ret)
 .nil)))))
 (.seq
 (.draw
 (.o 19 (.mov (.tmp 0)) <|
 (.o 21 (.mov (.tmp 0)) <|
 (.o 22 (.idivC .quo (.tmp 21) .i64 16) <|
 (.o 26 (.bld [(.string ⟨#[]⟩), (.int .i64 0), (.int .i64 0)] []) <|
 (.both
 (.o 20 (.mkSl 35 (.tmp 19) (.tmp 19)) <|
 (.o 23 (.mkSl 59 (.tmp 22) (.tmp 22)) <|
 (.o 24 (.bld [(.slice none 0 0), (.slice none 0 0)] [(0, 1, (.tmp 20)), (1, 1, (.tmp 23))]) <|
 (.o 25 (.bx 61 true (.tmp 24)) <|
 (.o 2 (.mov (.tmp 25)) <|
 (.op none none (.stn 3 (.tmp 3) (.tmp 26)) <|
 .nil))))))
 (.o 23 (.mkSl 59 (.tmp 22) (.tmp 22)) <|
 (.o 20 (.mkSl 35 (.tmp 19) (.tmp 19)) <|
 (.o 24 (.bld [(.slice none 0 0), (.slice none 0 0)] [(0, 1, (.tmp 20)), (1, 1, (.tmp 23))]) <|
 (.o 25 (.bx 61 true (.tmp 24)) <|
 (.o 2 (.mov (.tmp 25)) <|
 (.op none none (.stn 3 (.tmp 3) (.tmp 26)) <|
 .nil))))))))))))
 .ret)))⟩
theorem m_haspref11_NewMem : toFn Tryd.prog 7 = some c_haspref11_NewMem := by kernel_rfl
abbrev n_haspref11_NewMem : FuncId := 7
/-- (*hasp/haspref11.Mem).Store -/
def c_haspref11_Mem_Store : MFn := ⟨46, 3, [.cn 6 3],
 (.seq
 (.o 6 (.al 31 [(.string ⟨#[]⟩), (.int .i64 0), (.int .i64 0)]) <|
 .nil)
 (.seq
 (.o 9 (.mov (.tmp 0)) <|
 (.o 10 (.mov (.tmp 1)) <|
 (.o 11 (.mov (.tmp 2)) <|
 (.o 12 (.lenS (.tmp 11)) <|
 (.o 13 (.call 40 [(.tmp 9), (.tmp 10), (.tmp 12)]) <|
 (.o 7 (.al 31 [(.string ⟨#[]⟩), (.int .i64 0), (.int .i64 0)]) <|
 (.op none none (.stn 3 (.tmp 7) (.tmp 13)) <|
 .nil)))))))
 (.seq
 (.seq
 (.o 14 (.fadr 2 (.tmp 7)) <|
 (.o 15 (.ld1 (.tmp 14)) <|
 (.o 16 (.icmp .neq (.tmp 15) (.const (.int .i64 0))) <|
 .nil)))
 (.cond (.tmp 16)
 (.seq
 (.o 17 (.ldn 3 (.tmp 7)) <|
 (.op none none (.stn 3 (.tmp 6) (.tmp 17)) <|
 .nil))
 .ret)
 .nil))
 (.seq
 (.seq
 (.o 8 (.mov (.const (.int .i64 0))) <|
 .nil)
 (.block 0
 (.loop
 (.seq
 (.seq
 (.o 18 (.mov (.tmp 8)) <|
 (.o 19 (.mov (.tmp 2)) <|
 (.o 20 (.lenS (.tmp 19)) <|
 (.o 21 (.icmp .lss (.tmp 18) (.tmp 20)) <|
 .nil))))
 (.cond (.tmp 21)
 .nil
 (.exit 0)))
 (.seq
 (.block 1
 (.seq
 (.draw
 (.o 24 (.mov (.tmp 0)) <|
 (.o 25 (.nilchk (.tmp 24)) <|
 (.o 26 (.fadr 0 (.tmp 25)) <|
 (.o 27 (.ld1 (.tmp 26)) <|
 (.o 28 (.mov (.tmp 1)) <|
 (.o 29 (.mov (.tmp 8)) <|
 (.o 30 (.iar .add (.tmp 28) (.tmp 29)) <|
 (.o 31 (.mov (.tmp 2)) <|
 (.o 32 (.mov (.tmp 8)) <|
 (.o 33 (.idxS 1 (.tmp 31) (.tmp 32)) <|
 (.o 34 (.ld1 (.tmp 33)) <|
 (.o 35 (.idxS 1 (.tmp 27) (.tmp 30)) <|
 (.op none none (.st1 (.tmp 35) (.tmp 34)) <|
 .nil))))))))))))))
 (.o 36 (.mov (.tmp 0)) <|
 (.o 37 (.nilchk (.tmp 36)) <|
 (.o 38 (.fadr 1 (.tmp 37)) <|
 (.o 39 (.ld1 (.tmp 38)) <|
 (.o 40 (.mov (.tmp 1)) <|
 (.o 41 (.mov (.tmp 8)) <|
 (.o 42 (.iar .add (.tmp 40) (.tmp 41)) <|
 (.o 43 (.idivC .quo (.tmp 42) .i64 16) <|
 (.o 44 (.idxS 1 (.tmp 39) (.tmp 43)) <|
 (.op none none (.st1 (.tmp 44) (.const (.bool false))) <|
 .nil))))))))))))
 (.o 22 (.mov (.tmp 8)) <|
 (.o 23 (.iar .add (.tmp 22) (.const (.int .i64 1))) <|
 (.o 8 (.mov (.tmp 23)) <|
 .nil))))))))
 (.seq
 (.o 45 (.bld [(.string ⟨#[]⟩), (.int .i64 0), (.int .i64 0)] []) <|
 (.op none none (.stn 3 (.tmp 6) (.tmp 45)) <|
 .nil))
 .ret)))))⟩
theorem m_haspref11_Mem_Store : toFn Tryd.prog 10 = some c_haspref11_Mem_Store := by kernel_rfl
abbrev n_haspref11_Mem_Store : FuncId := 10
/-- (*hasp/haspref11.Mem).StoreCap -/
def c_haspref11_Mem_StoreCap : MFn := ⟨34, 3, [.cn 6 3],
 (.seq
 (.o 5 (.bx 46 true (.tmp 2)) <|
 (.o 6 (.al 31 [(.string ⟨#[]⟩), (.int .i64 0), (.int .i64 0)]) <|
 .nil))
 (.seq
 (.o 10 (.mov (.tmp 0)) <|
 (.o 11 (.mov (.tmp 1)) <|
 (.o 12 (.call 17 [(.tmp 10), (.tmp 11)]) <|
 (.o 9 (.mov (.tmp 12)) <|
 (.o 13 (.ext (.tmp 9) 0) <|
 (.o 14 (.ext (.tmp 9) 1) <|
 (.o 7 (.al 46 [(.bool false), (.int .u32 0), (.int .u32 0), (.int .u32 0), (.int .u16 0), (.int .u16 0)]) <|
 (.o 8 (.al 31 [(.string ⟨#[]⟩), (.int .i64 0), (.int .i64 0)]) <|
 (.op none none (.stn 6 (.tmp 7) (.tmp 13)) <|
 (.op none none (.stn 3 (.tmp 8) (.tmp 14)) <|
 .nil))))))))))
 (.seq
 (.seq
 (.o 15 (.fadr 2 (.tmp 8)) <|
 (.o 16 (.ld1 (.tmp 15)) <|
 (.o 17 (.icmp .neq (.tmp 16) (.const (.int .i64 0))) <|
 .nil)))
 (.cond (.tmp 17)
 (.seq
 (.o 18 (.ldn 3 (.tmp 8)) <|
 (.op none none (.stn 3 (.tmp 6) (.tmp 18)) <|
 .nil))
 .ret)
 .nil))
 (.seq
 (.o 19 (.mov (.tmp 0)) <|
 (.o 20 (.mov (.tmp 1)) <|
 (.o 21 (.ldn 6 (.tmp 5)) <|
 (.o 22 (.call 43 [(.tmp 21)]) <|
 (.o 23 (.call 10 [(.tmp 19), (.tmp 20), (.tmp 22)]) <|
 .nil)))))
 (.seq
 (.draw
 (.o 24 (.mov (.tmp 0)) <|
 (.o 25 (.nilchk (.tmp 24)) <|
 (.o 26 (.fadr 1 (.tmp 25)) <|
 (.o 27 (.ld1 (.tmp 26)) <|
 (.o 28 (.mov (.tmp 1)) <|
 (.o 29 (.idivC .quo (.tmp 28) .i64 16) <|
 (.o 30 (.fadr 0 (.tmp 5)) <|
 (.o 31 (.ld1 (.tmp 30)) <|
 (.o 32 (.idxS 1 (.tmp 27) (.tmp 29)) <|
 (.op none none (.st1 (.tmp 32) (.tmp 31)) <|
 .nil)))))))))))
 (.seq
 (.o 33 (.bld [(.string ⟨#[]⟩), (.int .i64 0), (.int .i64 0)] []) <|
 (.op none none (.stn 3 (.tmp 6) (.tmp 33)) <|
 .nil))
 .ret))))))⟩
theorem m_haspref11_Mem_StoreCap : toFn Tryd.prog 12 = some c_haspref11_Mem_StoreCap := by kernel_rfl
abbrev n_haspref11_Mem_StoreCap : FuncId := 12
/-- (*hasp/haspref11.Mem).Load -/
def c_haspref11_Mem_Load : MFn := ⟨29, 3, [.tmp 6, .cn 7 3],
 (.seq
 (.o 6 (.mov (.const (.slice none 0 0))) <|
 (.o 7 (.al 31 [(.string ⟨#[]⟩), (.int .i64 0), (.int .i64 0)]) <|
 .nil))
 (.seq
 (.o 9 (.mov (.tmp 0)) <|
 (.o 10 (.mov (.tmp 1)) <|
 (.o 11 (.mov (.tmp 2)) <|
 (.o 12 (.call 40 [(.tmp 9), (.tmp 10), (.tmp 11)]) <|
 (.o 8 (.al 31 [(.string ⟨#[]⟩), (.int .i64 0), (.int .i64 0)]) <|
 (.op none none (.stn 3 (.tmp 8) (.tmp 12)) <|
 .nil))))))
 (.seq
 (.seq
 (.o 13 (.fadr 2 (.tmp 8)) <|
 (.o 14 (.ld1 (.tmp 13)) <|
 (.o 15 (.icmp .neq (.tmp 14) (.const (.int .i64 0))) <|
 .nil)))
 (.cond (.tmp 15)
 (.seq
 (.draw
 (.o 16 (.ldn 3 (.tmp 8)) <|
 (.o 6 (.mov (.const (.slice none 0 0))) <|
 (.op none none (.stn 3 (.tmp 7) (.tmp 16)) <|
 .nil))))
 .ret)
 .nil))
 (.seq
 (.o 17 (.bldS 5 0 [] []) <|
 (.o 18 (.mov (.tmp 0)) <|
 (.o 19 (.nilchk (.tmp 18)) <|
 (.o 20 (.fadr 0 (.tmp 19)) <|
 (.o 21 (.ld1 (.tmp 20)) <|
 (.o 22 (.mov (.tmp 1)) <|
 (.o 23 (.mov (.tmp 1)) <|
 (.o 24 (.mov (.tmp 2)) <|
 (.o 25 (.iar .add (.tmp 23) (.tmp 24)) <|
 (.o 26 (.slS 1 (.tmp 21) (some (.tmp 22)) (some (.tmp 25)) none) <|
 (.o 27 (.bi .append [35, 35] 35 [(.tmp 17), (.tmp 26)]) <|
 (.o 28 (.bld [(.string ⟨#[]⟩), (.int .i64 0), (.int .i64 0)] []) <|
 (.o 6 (.mov (.tmp 27)) <|
 (.op none none (.stn 3 (.tmp 7) (.tmp 28)) <|
 .nil))))))))))))))
 .ret))))⟩
theorem m_haspref11_Mem_Load : toFn Tryd.prog 15 = some c_haspref11_Mem_Load := by kernel_rfl
abbrev n_haspref11_Mem_Load : FuncId := 15
/-- (*hasp/haspref11.Mem).LoadCap -/
def c_haspref11_Mem_LoadCap : MFn := ⟨40, 2, [.cn 4 6, .cn 5 3],
 (.seq
 (.o 4 (.al 46 [(.bool false), (.int .u32 0), (.int .u32 0), (.int .u32 0), (.int .u16 0), (.int .u16 0)]) <|
 (.o 5 (.al 31 [(.string ⟨#[]⟩), (.int .i64 0), (.int .i64 0)]) <|
 .nil))
 (.seq
 (.o 9 (.mov (.tmp 0)) <|
 (.o 10 (.mov (.tmp 1)) <|
 (.o 11 (.call 15 [(.tmp 9), (.tmp 10), (.const (.int .i64 16))]) <|
 (.o 8 (.mov (.tmp 11)) <|
 (.o 12 (.ext (.tmp 8) 0) <|
 (.o 13 (.ext (.tmp 8) 1) <|
 (.o 7 (.al 31 [(.string ⟨#[]⟩), (.int .i64 0), (.int .i64 0)]) <|
 (.o 6 (.mov (.tmp 12)) <|
 (.op none none (.stn 3 (.tmp 7) (.tmp 13)) <|
 .nil)))))))))
 (.seq
 (.seq
 (.o 14 (.fadr 2 (.tmp 7)) <|
 (.o 15 (.ld1 (.tmp 14)) <|
 (.o 16 (.icmp .eql (.tmp 15) (.const (.int .i64 0))) <|
 (.o 17 (.mov (.tmp 16)) <|
 (.op (some (17, true)) (some 18) (.mov (.tmp 1)) <|
 (.op (some (17, true)) (some 19) (.idivC .rem (.tmp 18) .i64 16) <|
 (.op (some (17, true)) (some 20) (.icmp .neq (.tmp 19) (.const (.int .i64 0))) <|
 (.o 21 (.pick (.tmp 17) (.tmp 20) (.const (.bool false))) <|
 .nil))))))))
 (.cond (.tmp 21)
 (.o 22 (.mov (.tmp 1)) <|
 (.o 23 (.bld [(.string ⟨#[]⟩), (.int .i64 0), (.int .i64 0)] [(0, 1, (.const (.string ⟨#[109, 101, 109]⟩))), (1, 1, (.tmp 22)), (2, 1, (.const (.int .i64 5)))]) <|
 (.op none none (.stn 3 (.tmp 7) (.tmp 23)) <|
 .nil)))
 .nil))
 (.seq
 (.seq
 (.o 24 (.fadr 2 (.tmp 7)) <|
 (.o 25 (.ld1 (.tmp 24)) <|
 (.o 26 (.icmp .neq (.tmp 25) (.const (.int .i64 0))) <|
 .nil)))
 (.cond (.tmp 26)
 (.seq
 (.draw
 (.o 27 (.bld [(.bool false), (.int .u32 0), (.int .u32 0), (.int .u32 0), (.int .u16 0), (.int .u16 0)] []) <|
 (.o 28 (.ldn 3 (.tmp 7)) <|
 (.op none none (.stn 6 (.tmp 4) (.tmp 27)) <|
 (.op none none (.stn 3 (.tmp 5) (.tmp 28)) <|
 .nil)))))
 .ret)
 .nil))
 (.seq
 (.o 29 (.mov (.tmp 6)) <|
 (.o 30 (.mov (.tmp 0)) <|
 (.o 31 (.nilchk (.tmp 30)) <|
 (.o 32 (.fadr 1 (.tmp 31)) <|
 (.o 33 (.ld1 (.tmp 32)) <|
 (.o 34 (.mov (.tmp 1)) <|
 (.o 35 (.idivC .quo (.tmp 34) .i64 16) <|
 (.o 36 (.idxS 1 (.tmp 33) (.tmp 35)) <|
 (.o 37 (.ld1 (.tmp 36)) <|
 (.o 38 (.call 47 [(.tmp 29), (.tmp 37)]) <|
 (.o 39 (.bld [(.string ⟨#[]⟩), (.int .i64 0), (.int .i64 0)] []) <|
 (.op none none (.stn 6 (.tmp 4) (.tmp 38)) <|
 (.op none none (.stn 3 (.tmp 5) (.tmp 39)) <|
 .nil)))))))))))))
 .ret)))))⟩
theorem m_haspref11_Mem_LoadCap : toFn Tryd.prog 17 = some c_haspref11_Mem_LoadCap := by kernel_rfl
abbrev n_haspref11_Mem_LoadCap : FuncId := 17
/-- hasp/haspref11.Read -/
def c_haspref11_Read : MFn := ⟨57, 5, [.tmp 10, .cn 11 3],
 (.seq
 (.o 6 (.bx 46 true (.tmp 1)) <|
 (.o 10 (.mov (.const (.int .u32 0))) <|
 (.o 11 (.al 31 [(.string ⟨#[]⟩), (.int .i64 0), (.int .i64 0)]) <|
 .nil)))
 (.seq
 (.o 17 (.fadr 3 (.tmp 6)) <|
 (.o 18 (.ld1 (.tmp 17)) <|
 (.o 19 (.mov (.tmp 2)) <|
 (.o 20 (.conv .u32 (.tmp 19)) <|
 (.o 21 (.iar .add (.tmp 18) (.tmp 20)) <|
 (.o 12 (.mov (.tmp 21)) <|
 .nil))))))
 (.seq
 (.o 22 (.mov (.tmp 3)) <|
 (.o 23 (.call 60 [(.tmp 22)]) <|
 (.o 13 (.al 31 [(.string ⟨#[]⟩), (.int .i64 0), (.int .i64 0)]) <|
 (.op none none (.stn 3 (.tmp 13) (.tmp 23)) <|
 .nil))))
 (.seq
 (.seq
 (.o 24 (.fadr 2 (.tmp 13)) <|
 (.o 25 (.ld1 (.tmp 24)) <|
 (.o 26 (.icmp .eql (.tmp 25) (.const (.int .i64 0))) <|
 .nil)))
 (.cond (.tmp 26)
 (.o 27 (.ldn 6 (.tmp 6)) <|
 (.o 28 (.mov (.tmp 12)) <|
 (.o 29 (.mov (.tmp 3)) <|
 (.o 30 (.conv .u32 (.tmp 29)) <|
 (.o 31 (.call 61 [(.tmp 27), (.tmp 28), (.tmp 30), (.const (.int .u16 1))]) <|
 (.op none none (.stn 3 (.tmp 13) (.tmp 31)) <|
 .nil))))))
 .nil))
 (.seq
 (.seq
 (.o 32 (.fadr 2 (.tmp 13)) <|
 (.o 33 (.ld1 (.tmp 32)) <|
 (.o 34 (.icmp .neq (.tmp 33) (.const (.int .i64 0))) <|
 .nil)))
 (.cond (.tmp 34)
 (.seq
 (.draw
 (.o 35 (.ldn 3 (.tmp 13)) <|
 (.o 10 (.mov (.const (.int .u32 0))) <|
 (.op none none (.stn 3 (.tmp 11) (.tmp 35)) <|
 .nil))))
 .ret)
 .nil))
 (.seq
 (.o 37 (.mov (.tmp 0)) <|
 (.o 38 (.mov (.tmp 12)) <|
 (.o 39 (.conv .i64 (.tmp 38)) <|
 (.o 40 (.mov (.tmp 3)) <|
 (.o 41 (.call 15 [(.tmp 37), (.tmp 39), (.tmp 40)]) <|
 (.o 36 (.mov (.tmp 41)) <|
 (.o 42 (.ext (.tmp 36) 0) <|
 (.o 43 (.ext (.tmp 36) 1) <|
 (.o 15 (.al 31 [(.string ⟨#[]⟩), (.int .i64 0), (.int .i64 0)]) <|
 (.o 14 (.mov (.tmp 42)) <|
 (.op none none (.stn 3 (.tmp 15) (.tmp 43)) <|
 .nil)))))))))))
 (.seq
 (.seq
 (.o 44 (.fadr 2 (.tmp 15)) <|
 (.o 45 (.ld1 (.tmp 44)) <|
 (.o 46 (.icmp .neq (.tmp 45) (.const (.int .i64 0))) <|
 .nil)))
 (.cond (.tmp 46)
 (.seq
 (.draw
 (.o 47 (.ldn 3 (.tmp 15)) <|
 (.o 10 (.mov (.const (.int .u32 0))) <|
 (.op none none (.stn 3 (.tmp 11) (.tmp 47)) <|
 .nil))))
 .ret)
 .nil))
 (.seq
 (.o 48 (.mov (.tmp 14)) <|
 (.o 49 (.call 62 [(.tmp 48)]) <|
 (.o 16 (.mov (.tmp 49)) <|
 .nil)))
 (.seq
 (.seq
 (.o 50 (.mov (.tmp 4)) <|
 .nil)
 (.cond (.tmp 50)
 (.o 51 (.mov (.tmp 16)) <|
 (.o 52 (.mov (.tmp 3)) <|
 (.o 53 (.iar .mul (.const (.int .i64 8)) (.tmp 52)) <|
 (.o 54 (.call 63 [(.tmp 51), (.tmp 53)]) <|
 (.o 16 (.mov (.tmp 54)) <|
 .nil)))))
 .nil))
 (.seq
 (.o 55 (.mov (.tmp 16)) <|
 (.o 56 (.bld [(.string ⟨#[]⟩), (.int .i64 0), (.int .i64 0)] []) <|
 (.o 10 (.mov (.tmp 55)) <|
 (.op none none (.stn 3 (.tmp 11) (.tmp 56)) <|
 .nil))))
 .ret))))))))))⟩
theorem m_haspref11_Read : toFn Tryd.prog 26 = some c_haspref11_Read := by kernel_rfl
abbrev n_haspref11_Read : FuncId := 26
/-- hasp/haspref11.ReadCap -/
def c_haspref11_ReadCap : MFn := ⟨44, 3, [.cn 6 6, .cn 7 3],
 (.seq
 (.o 4 (.bx 46 true (.tmp 1)) <|
 (.o 6 (.al 46 [(.bool false), (.int .u32 0), (.int .u32 0), (.int .u32 0), (.int .u16 0), (.int .u16 0)]) <|
 (.o 7 (.al 31 [(.string ⟨#[]⟩), (.int .i64 0), (.int .i64 0)]) <|
 .nil)))
 (.seq
 (.o 12 (.fadr 3 (.tmp 4)) <|
 (.o 13 (.ld1 (.tmp 12)) <|
 (.o 14 (.mov (.tmp 2)) <|
 (.o 15 (.conv .u32 (.tmp 14)) <|
 (.o 16 (.iar .add (.tmp 13) (.tmp 15)) <|
 (.o 8 (.mov (.tmp 16)) <|
 .nil))))))
 (.seq
 (.o 17 (.ldn 6 (.tmp 4)) <|
 (.o 18 (.mov (.tmp 8)) <|
 (.o 19 (.call 61 [(.tmp 17), (.tmp 18), (.const (.int .u32 16)), (.const (.int .u16 1))]) <|
 (.o 9 (.al 31 [(.string ⟨#[]⟩), (.int .i64 0), (.int .i64 0)]) <|
 (.op none none (.stn 3 (.tmp 9) (.tmp 19)) <|
 .nil)))))
 (.seq
 (.seq
 (.o 20 (.fadr 2 (.tmp 9)) <|
 (.o 21 (.ld1 (.tmp 20)) <|
 (.o 22 (.icmp .neq (.tmp 21) (.const (.int .i64 0))) <|
 .nil)))
 (.cond (.tmp 22)
 (.seq
 (.draw
 (.o 23 (.bld [(.bool false), (.int .u32 0), (.int .u32 0), (.int .u32 0), (.int .u16 0), (.int .u16 0)] []) <|
 (.o 24 (.ldn 3 (.tmp 9)) <|
 (.op none none (.stn 6 (.tmp 6) (.tmp 23)) <|
 (.op none none (.stn 3 (.tmp 7) (.tmp 24)) <|
 .nil)))))
 .ret)
 .nil))
 (.seq
 (.o 26 (.mov (.tmp 0)) <|
 (.o 27 (.mov (.tmp 8)) <|
 (.o 28 (.conv .i64 (.tmp 27)) <|
 (.o 29 (.call 17 [(.tmp 26), (.tmp 28)]) <|
 (.o 25 (.mov (.tmp 29)) <|
 (.o 30 (.ext (.tmp 25) 0) <|
 (.o 31 (.ext (.tmp 25) 1) <|
 (.o 10 (.al 46 [(.bool false), (.int .u32 0), (.int .u32 0), (.int .u32 0), (.int .u16 0), (.int .u16 0)]) <|
 (.o 11 (.al 31 [(.string ⟨#[]⟩), (.int .i64 0), (.int .i64 0)]) <|
 (.op none none (.stn 6 (.tmp 10) (.tmp 30)) <|
 (.op none none (.stn 3 (.tmp 11) (.tmp 31)) <|
 .nil)))))))))))
 (.seq
 (.seq
 (.o 32 (.fadr 2 (.tmp 11)) <|
 (.o 33 (.ld1 (.tmp 32)) <|
 (.o 34 (.icmp .neq (.tmp 33) (.const (.int .i64 0))) <|
 .nil)))
 (.cond (.tmp 34)
 (.seq
 (.draw
 (.o 35 (.bld [(.bool false), (.int .u32 0), (.int .u32 0), (.int .u32 0), (.int .u16 0), (.int .u16 0)] []) <|
 (.o 36 (.ldn 3 (.tmp 11)) <|
 (.op none none (.stn 6 (.tmp 6) (.tmp 35)) <|
 (.op none none (.stn 3 (.tmp 7) (.tmp 36)) <|
 .nil)))))
 .ret)
 .nil))
 (.seq
 (.o 37 (.ldn 6 (.tmp 10)) <|
 (.o 38 (.fadr 4 (.tmp 4)) <|
 (.o 39 (.ld1 (.tmp 38)) <|
 (.o 40 (.iar .and (.tmp 39) (.const (.int .u16 8))) <|
 (.o 41 (.icmp .neq (.tmp 40) (.const (.int .u16 0))) <|
 (.o 42 (.call 65 [(.tmp 37), (.tmp 41)]) <|
 (.o 43 (.bld [(.string ⟨#[]⟩), (.int .i64 0), (.int .i64 0)] []) <|
 (.op none none (.stn 6 (.tmp 6) (.tmp 42)) <|
 (.op none none (.stn 3 (.tmp 7) (.tmp 43)) <|
 .nil)))))))))
 .ret)))))))⟩
theorem m_haspref11_ReadCap : toFn Tryd.prog 28 = some c_haspref11_ReadCap := by kernel_rfl
abbrev n_haspref11_ReadCap : FuncId := 28
/-- hasp/haspref11.Write -/
def c_haspref11_Write : MFn := ⟨40, 5, [.cn 10 3],
 (.seq
 (.o 6 (.bx 46 true (.tmp 1)) <|
 (.o 10 (.al 31 [(.string ⟨#[]⟩), (.int .i64 0), (.int .i64 0)]) <|
 .nil))
 (.seq
 (.o 13 (.fadr 3 (.tmp 6)) <|
 (.o 14 (.ld1 (.tmp 13)) <|
 (.o 15 (.mov (.tmp 2)) <|
 (.o 16 (.conv .u32 (.tmp 15)) <|
 (.o 17 (.iar .add (.tmp 14) (.tmp 16)) <|
 (.o 11 (.mov (.tmp 17)) <|
 .nil))))))
 (.seq
 (.o 18 (.mov (.tmp 3)) <|
 (.o 19 (.call 60 [(.tmp 18)]) <|
 (.o 12 (.al 31 [(.string ⟨#[]⟩), (.int .i64 0), (.int .i64 0)]) <|
 (.op none none (.stn 3 (.tmp 12) (.tmp 19)) <|
 .nil))))
 (.seq
 (.seq
 (.o 20 (.fadr 2 (.tmp 12)) <|
 (.o 21 (.ld1 (.tmp 20)) <|
 (.o 22 (.icmp .eql (.tmp 21) (.const (.int .i64 0))) <|
 .nil)))
 (.cond (.tmp 22)
 (.o 23 (.ldn 6 (.tmp 6)) <|
 (.o 24 (.mov (.tmp 11)) <|
 (.o 25 (.mov (.tmp 3)) <|
 (.o 26 (.conv .u32 (.tmp 25)) <|
 (.o 27 (.call 61 [(.tmp 23), (.tmp 24), (.tmp 26), (.const (.int .u16 2))]) <|
 (.op none none (.stn 3 (.tmp 12) (.tmp 27)) <|
 .nil))))))
 .nil))
 (.seq
 (.seq
 (.o 28 (.fadr 2 (.tmp 12)) <|
 (.o 29 (.ld1 (.tmp 28)) <|
 (.o 30 (.icmp .neq (.tmp 29) (.const (.int .i64 0))) <|
 .nil)))
 (.cond (.tmp 30)
 (.seq
 (.o 31 (.ldn 3 (.tmp 12)) <|
 (.op none none (.stn 3 (.tmp 10) (.tmp 31)) <|
 .nil))
 .ret)
 .nil))
 (.seq
 (.o 32 (.mov (.tmp 0)) <|
 (.o 33 (.mov (.tmp 11)) <|
 (.o 34 (.conv .i64 (.tmp 33)) <|
 (.o 35 (.mov (.tmp 4)) <|
 (.o 36 (.call 66 [(.tmp 35)]) <|
 (.o 37 (.mov (.tmp 3)) <|
 (.o 38 (.slS 1 (.tmp 36) none (some (.tmp 37)) none) <|
 (.o 39 (.call 10 [(.tmp 32), (.tmp 34), (.tmp 38)]) <|
 (.op none none (.stn 3 (.tmp 10) (.tmp 39)) <|
 .nil)))))))))
 .ret))))))⟩
theorem m_haspref11_Write : toFn Tryd.prog 30 = some c_haspref11_Write := by kernel_rfl
abbrev n_haspref11_Write : FuncId := 30
/-- hasp/haspref11.WriteCap -/
def c_haspref11_WriteCap : MFn := ⟨32, 4, [.cn 8 3],
 (.seq
 (.o 5 (.bx 46 true (.tmp 1)) <|
 (.o 7 (.bx 46 true (.tmp 3)) <|
 (.o 8 (.al 31 [(.string ⟨#[]⟩), (.int .i64 0), (.int .i64 0)]) <|
 .nil)))
 (.seq
 (.o 12 (.fadr 3 (.tmp 5)) <|
 (.o 13 (.ld1 (.tmp 12)) <|
 (.o 14 (.mov (.tmp 2)) <|
 (.o 15 (.conv .u32 (.tmp 14)) <|
 (.o 16 (.iar .add (.tmp 13) (.tmp 15)) <|
 (.o 9 (.mov (.tmp 16)) <|
 .nil))))))
 (.seq
 (.o 10 (.mov (.const (.int .u16 2))) <|
 .nil)
 (.seq
 (.seq
 (.o 17 (.fadr 0 (.tmp 7)) <|
 (.o 18 (.ld1 (.tmp 17)) <|
 .nil))
 (.cond (.tmp 18)
 (.o 10 (.mov (.const (.int .u16 18))) <|
 .nil)
 .nil))
 (.seq
 (.o 19 (.ldn 6 (.tmp 5)) <|
 (.o 20 (.mov (.tmp 9)) <|
 (.o 21 (.mov (.tmp 10)) <|
 (.o 22 (.call 61 [(.tmp 19), (.tmp 20), (.const (.int .u32 16)), (.tmp 21)]) <|
 (.o 11 (.al 31 [(.string ⟨#[]⟩), (.int .i64 0), (.int .i64 0)]) <|
 (.op none none (.stn 3 (.tmp 11) (.tmp 22)) <|
 .nil))))))
 (.seq
 (.seq
 (.o 23 (.fadr 2 (.tmp 11)) <|
 (.o 24 (.ld1 (.tmp 23)) <|
 (.o 25 (.icmp .neq (.tmp 24) (.const (.int .i64 0))) <|
 .nil)))
 (.cond (.tmp 25)
 (.seq
 (.o 26 (.ldn 3 (.tmp 11)) <|
 (.op none none (.stn 3 (.tmp 8) (.tmp 26)) <|
 .nil))
 .ret)
 .nil))
 (.seq
 (.o 27 (.mov (.tmp 0)) <|
 (.o 28 (.mov (.tmp 9)) <|
 (.o 29 (.conv .i64 (.tmp 28)) <|
 (.o 30 (.ldn 6 (.tmp 7)) <|
 (.o 31 (.call 12 [(.tmp 27), (.tmp 29), (.tmp 30)]) <|
 (.op none none (.stn 3 (.tmp 8) (.tmp 31)) <|
 .nil))))))
 .ret)))))))⟩
theorem m_haspref11_WriteCap : toFn Tryd.prog 32 = some c_haspref11_WriteCap := by kernel_rfl
abbrev n_haspref11_WriteCap : FuncId := 32
/-- (*hasp/haspref11.Mem).reach -/
def c_haspref11_Mem_reach : MFn := ⟨36, 3, [.cn 6 3],
 (.seq
 (.o 6 (.al 31 [(.string ⟨#[]⟩), (.int .i64 0), (.int .i64 0)]) <|
 .nil)
 (.seq
 (.seq
 (.o 7 (.mov (.tmp 1)) <|
 (.o 8 (.icmp .lss (.tmp 7) (.const (.int .i64 0))) <|
 (.o 9 (.mov (.tmp 8)) <|
 (.op (some (9, false)) (some 10) (.mov (.tmp 2)) <|
 (.op (some (9, false)) (some 11) (.icmp .lss (.tmp 10) (.const (.int .i64 0))) <|
 (.o 12 (.pick (.tmp 9) (.const (.bool true)) (.tmp 11)) <|
 (.o 13 (.mov (.tmp 12)) <|
 (.op (some (13, false)) (some 14) (.mov (.tmp 1)) <|
 (.op (some (13, false)) (some 15) (.mov (.tmp 0)) <|
 (.op (some (13, false)) (some 16) (.nilchk (.tmp 15)) <|
 (.op (some (13, false)) (some 17) (.fadr 0 (.tmp 16)) <|
 (.op (some (13, false)) (some 18) (.ld1 (.tmp 17)) <|
 (.op (some (13, false)) (some 19) (.lenS (.tmp 18)) <|
 (.op (some (13, false)) (some 20) (.icmp .gtr (.tmp 14) (.tmp 19)) <|
 (.o 21 (.pick (.tmp 13) (.const (.bool true)) (.tmp 20)) <|
 (.o 22 (.mov (.tmp 21)) <|
 (.op (some (22, false)) (some 23) (.mov (.tmp 2)) <|
 (.op (some (22, false)) (some 24) (.mov (.tmp 0)) <|
 (.op (some (22, false)) (some 25) (.nilchk (.tmp 24)) <|
 (.op (some (22, false)) (some 26) (.fadr 0 (.tmp 25)) <|
 (.op (some (22, false)) (some 27) (.ld1 (.tmp 26)) <|
 (.op (some (22, false)) (some 28) (.lenS (.tmp 27)) <|
 (.op (some (22, false)) (some 29) (.mov (.tmp 1)) <|
 (.op (some (22, false)) (some 30) (.iar .sub (.tmp 28) (.tmp 29)) <|
 (.op (some (22, false)) (some 31) (.icmp .gtr (.tmp 23) (.tmp 30)) <|
 (.o 32 (.pick (.tmp 22) (.const (.bool true)) (.tmp 31)) <|
 .nil))))))))))))))))))))))))))
 (.cond (.tmp 32)
 (.seq
 (.o 33 (.mov (.tmp 1)) <|
 (.o 34 (.bld [(.string ⟨#[]⟩), (.int .i64 0), (.int .i64 0)] [(0, 1, (.const (.string ⟨#[109, 101, 109]⟩))), (1, 1, (.tmp 33)), (2, 1, (.const (.int .i64 6)))]) <|
 (.op none none (.stn 3 (.tmp 6) (.tmp 34)) <|
 .nil)))
 .ret)
 .nil))
 (.seq
 (.o 35 (.bld [(.string ⟨#[]⟩), (.int .i64 0), (.int .i64 0)] []) <|
 (.op none none (.stn 3 (.tmp 6) (.tmp 35)) <|
 .nil))
 .ret)))⟩
theorem m_haspref11_Mem_reach : toFn Tryd.prog 40 = some c_haspref11_Mem_reach := by kernel_rfl
abbrev n_haspref11_Mem_reach : FuncId := 40
/-- hasp/haspref11.Put -/
def c_haspref11_Put : MFn := ⟨33, 1, [.tmp 2],
 (.seq
 (.o 1 (.bx 46 true (.tmp 0)) <|
 (.o 2 (.mov (.const (.slice none 0 0))) <|
 .nil))
 (.seq
 (.draw
 (.o 4 (.fadr 1 (.tmp 1)) <|
 (.o 5 (.ld1 (.tmp 4)) <|
 (.o 7 (.fadr 2 (.tmp 1)) <|
 (.o 8 (.ld1 (.tmp 7)) <|
 (.o 6 (.call 66 [(.tmp 5)]) <|
 (.o 9 (.call 66 [(.tmp 8)]) <|
 (.o 10 (.bi .append [35, 35] 35 [(.tmp 6), (.tmp 9)]) <|
 (.o 3 (.mov (.tmp 10)) <|
 .nil)))))))))
 (.seq
 (.o 11 (.mov (.tmp 3)) <|
 (.o 12 (.fadr 3 (.tmp 1)) <|
 (.o 13 (.ld1 (.tmp 12)) <|
 (.o 14 (.call 66 [(.tmp 13)]) <|
 (.o 15 (.bi .append [35, 35] 35 [(.tmp 11), (.tmp 14)]) <|
 (.o 3 (.mov (.tmp 15)) <|
 .nil))))))
 (.seq
 (.o 16 (.mov (.tmp 3)) <|
 (.o 17 (.fadr 4 (.tmp 1)) <|
 (.o 18 (.ld1 (.tmp 17)) <|
 (.o 19 (.conv .u8 (.tmp 18)) <|
 (.o 20 (.fadr 4 (.tmp 1)) <|
 (.o 21 (.ld1 (.tmp 20)) <|
 (.o 22 (.ishC .shr (.tmp 21) 8) <|
 (.o 23 (.conv .u8 (.tmp 22)) <|
 (.o 24 (.fadr 5 (.tmp 1)) <|
 (.o 25 (.ld1 (.tmp 24)) <|
 (.o 26 (.conv .u8 (.tmp 25)) <|
 (.o 27 (.fadr 5 (.tmp 1)) <|
 (.o 28 (.ld1 (.tmp 27)) <|
 (.o 29 (.ishC .shr (.tmp 28) 8) <|
 (.o 30 (.conv .u8 (.tmp 29)) <|
 (.o 31 (.bldS 5 4 [(.int .u8 0), (.int .u8 0), (.int .u8 0), (.int .u8 0)] [(0, 1, (.tmp 19)), (1, 1, (.tmp 23)), (2, 1, (.tmp 26)), (3, 1, (.tmp 30))]) <|
 (.o 32 (.bi .append [35, 35] 35 [(.tmp 16), (.tmp 31)]) <|
 (.o 2 (.mov (.tmp 32)) <|
 .nil))))))))))))))))))
 .ret))))⟩
theorem m_haspref11_Put : toFn Tryd.prog 43 = some c_haspref11_Put := by kernel_rfl
abbrev n_haspref11_Put : FuncId := 43
/-- hasp/haspref11.Get -/
def c_haspref11_Get : MFn := ⟨24, 2, [.cn 4 6],
 (.seq
 (.o 4 (.al 46 [(.bool false), (.int .u32 0), (.int .u32 0), (.int .u32 0), (.int .u16 0), (.int .u16 0)]) <|
 .nil)
 (.seq
 (.draw
 (.o 5 (.mov (.tmp 1)) <|
 (.o 6 (.mov (.tmp 0)) <|
 (.o 7 (.slS 1 (.tmp 6) none (some (.const (.int .i64 4))) none) <|
 (.o 9 (.mov (.tmp 0)) <|
 (.o 10 (.slS 1 (.tmp 9) (some (.const (.int .i64 4))) (some (.const (.int .i64 8))) none) <|
 (.o 12 (.mov (.tmp 0)) <|
 (.o 13 (.slS 1 (.tmp 12) (some (.const (.int .i64 8))) (some (.const (.int .i64 12))) none) <|
 (.o 15 (.mov (.tmp 0)) <|
 (.o 16 (.slS 1 (.tmp 15) (some (.const (.int .i64 12))) (some (.const (.int .i64 14))) none) <|
 (.o 19 (.mov (.tmp 0)) <|
 (.o 20 (.slS 1 (.tmp 19) (some (.const (.int .i64 14))) (some (.const (.int .i64 16))) none) <|
 (.o 8 (.call 62 [(.tmp 7)]) <|
 (.o 11 (.call 62 [(.tmp 10)]) <|
 (.o 14 (.call 62 [(.tmp 13)]) <|
 (.o 17 (.call 62 [(.tmp 16)]) <|
 (.o 18 (.conv .u16 (.tmp 17)) <|
 (.o 21 (.call 62 [(.tmp 20)]) <|
 (.o 22 (.conv .u16 (.tmp 21)) <|
 (.o 23 (.bld [(.bool false), (.int .u32 0), (.int .u32 0), (.int .u32 0), (.int .u16 0), (.int .u16 0)] [(0, 1, (.tmp 5)), (1, 1, (.tmp 8)), (2, 1, (.tmp 11)), (3, 1, (.tmp 14)), (4, 1, (.tmp 18)), (5, 1, (.tmp 22))]) <|
 (.op none none (.stn 6 (.tmp 4) (.tmp 23)) <|
 .nil)))))))))))))))))))))
 .ret))⟩
theorem m_haspref11_Get : toFn Tryd.prog 47 = some c_haspref11_Get := by kernel_rfl
abbrev n_haspref11_Get : FuncId := 47
/-- (*hasp/haspref11.Mem).Tags -/
def c_haspref11_Mem_Tags : MFn := ⟨27, 1, [.tmp 2],
 (.seq
 (.o 2 (.mov (.const (.slice none 0 0))) <|
 .nil)
 (.seq
 (.o 3 (.mov (.const (.slice none 0 0))) <|
 .nil)
 (.seq
 (.seq
 (.o 4 (.mov (.const (.int .i64 0))) <|
 .nil)
 (.block 0
 (.loop
 (.seq
 (.seq
 (.o 5 (.mov (.tmp 4)) <|
 (.o 6 (.mov (.tmp 0)) <|
 (.o 7 (.nilchk (.tmp 6)) <|
 (.o 8 (.fadr 1 (.tmp 7)) <|
 (.o 9 (.ld1 (.tmp 8)) <|
 (.o 10 (.lenS (.tmp 9)) <|
 (.o 11 (.icmp .lss (.tmp 5) (.tmp 10)) <|
 .nil)))))))
 (.cond (.tmp 11)
 .nil
 (.exit 0)))
 (.seq
 (.block 1
 (.seq
 (.o 14 (.mov (.tmp 0)) <|
 (.o 15 (.nilchk (.tmp 14)) <|
 (.o 16 (.fadr 1 (.tmp 15)) <|
 (.o 17 (.ld1 (.tmp 16)) <|
 (.o 18 (.mov (.tmp 4)) <|
 (.o 19 (.idxS 1 (.tmp 17) (.tmp 18)) <|
 (.o 20 (.ld1 (.tmp 19)) <|
 .nil)))))))
 (.cond (.tmp 20)
 (.o 21 (.mov (.tmp 3)) <|
 (.o 22 (.mov (.tmp 4)) <|
 (.o 23 (.iar .mul (.const (.int .i64 16)) (.tmp 22)) <|
 (.o 24 (.bldS 3 1 [(.int .i64 0)] [(0, 1, (.tmp 23))]) <|
 (.o 25 (.bi .append [79, 79] 79 [(.tmp 21), (.tmp 24)]) <|
 (.o 3 (.mov (.tmp 25)) <|
 .nil))))))
 .nil)))
 (.o 12 (.mov (.tmp 4)) <|
 (.o 13 (.iar .add (.tmp 12) (.const (.int .i64 1))) <|
 (.o 4 (.mov (.tmp 13)) <|
 .nil))))))))
 (.seq
 (.o 26 (.mov (.tmp 3)) <|
 (.o 2 (.mov (.tmp 26)) <|
 .nil))
 .ret))))⟩
theorem m_haspref11_Mem_Tags : toFn Tryd.prog 51 = some c_haspref11_Mem_Tags := by kernel_rfl
abbrev n_haspref11_Mem_Tags : FuncId := 51
/-- hasp/haspref11.Root -/
def c_haspref11_Root : MFn := ⟨5, 1, [.cn 2 6],
 (.seq
 (.o 2 (.al 46 [(.bool false), (.int .u32 0), (.int .u32 0), (.int .u32 0), (.int .u16 0), (.int .u16 0)]) <|
 .nil)
 (.seq
 (.o 3 (.mov (.tmp 0)) <|
 (.o 4 (.bld [(.bool false), (.int .u32 0), (.int .u32 0), (.int .u32 0), (.int .u16 0), (.int .u16 0)] [(0, 1, (.const (.bool true))), (1, 1, (.const (.int .u32 0))), (2, 1, (.tmp 3)), (3, 1, (.const (.int .u32 0))), (4, 1, (.const (.int .u16 127))), (5, 1, (.const (.int .u16 0)))]) <|
 (.op none none (.stn 6 (.tmp 2) (.tmp 4)) <|
 .nil)))
 .ret))⟩
theorem m_haspref11_Root : toFn Tryd.prog 56 = some c_haspref11_Root := by kernel_rfl
abbrev n_haspref11_Root : FuncId := 56
/-- hasp/haspref11.sized -/
def c_haspref11_sized : MFn := ⟨16, 1, [.cn 2 3],
 (.seq
 (.o 2 (.al 31 [(.string ⟨#[]⟩), (.int .i64 0), (.int .i64 0)]) <|
 .nil)
 (.seq
 (.seq
 (.o 3 (.mov (.tmp 0)) <|
 (.o 4 (.icmp .eql (.tmp 3) (.const (.int .i64 1))) <|
 (.o 5 (.mov (.tmp 4)) <|
 (.op (some (5, false)) (some 6) (.mov (.tmp 0)) <|
 (.op (some (5, false)) (some 7) (.icmp .eql (.tmp 6) (.const (.int .i64 2))) <|
 (.o 8 (.pick (.tmp 5) (.const (.bool true)) (.tmp 7)) <|
 (.o 9 (.mov (.tmp 8)) <|
 (.op (some (9, false)) (some 10) (.mov (.tmp 0)) <|
 (.op (some (9, false)) (some 11) (.icmp .eql (.tmp 10) (.const (.int .i64 4))) <|
 (.o 12 (.pick (.tmp 9) (.const (.bool true)) (.tmp 11)) <|
 .nil))))))))))
 (.cond (.tmp 12)
 (.seq
 (.o 13 (.bld [(.string ⟨#[]⟩), (.int .i64 0), (.int .i64 0)] []) <|
 (.op none none (.stn 3 (.tmp 2) (.tmp 13)) <|
 .nil))
 .ret)
 .nil))
 (.seq
 (.o 14 (.mov (.tmp 0)) <|
 (.o 15 (.bld [(.string ⟨#[]⟩), (.int .i64 0), (.int .i64 0)] [(0, 1, (.const (.string ⟨#[115, 105, 122, 101]⟩))), (1, 1, (.tmp 14)), (2, 1, (.const (.int .i64 7)))]) <|
 (.op none none (.stn 3 (.tmp 2) (.tmp 15)) <|
 .nil)))
 .ret)))⟩
theorem m_haspref11_sized : toFn Tryd.prog 60 = some c_haspref11_sized := by kernel_rfl
abbrev n_haspref11_sized : FuncId := 60
/-- hasp/haspref11.CheckAccess -/
def c_haspref11_CheckAccess : MFn := ⟨47, 4, [.cn 8 3],
 (.seq
 (.o 4 (.bx 46 true (.tmp 0)) <|
 (.o 8 (.al 31 [(.string ⟨#[]⟩), (.int .i64 0), (.int .i64 0)]) <|
 .nil))
 (.seq
 (.o 9 (.mov (.const (.int .i64 0))) <|
 .nil)
 (.seq
 (.block 0
 (.seq
 (.o 11 (.fadr 0 (.tmp 4)) <|
 (.o 12 (.ld1 (.tmp 11)) <|
 (.o 13 (.bnot (.tmp 12)) <|
 (.o 10 (.mov (.tmp 13)) <|
 .nil))))
 (.cond (.tmp 10)
 (.o 9 (.mov (.const (.int .i64 1))) <|
 .nil)
 (.seq
 (.o 15 (.fadr 5 (.tmp 4)) <|
 (.o 16 (.ld1 (.tmp 15)) <|
 (.o 17 (.icmp .neq (.tmp 16) (.const (.int .u16 0))) <|
 (.o 14 (.mov (.tmp 17)) <|
 .nil))))
 (.cond (.tmp 14)
 (.o 9 (.mov (.const (.int .i64 2))) <|
 .nil)
 (.seq
 (.o 19 (.fadr 4 (.tmp 4)) <|
 (.o 20 (.ld1 (.tmp 19)) <|
 (.o 21 (.mov (.tmp 3)) <|
 (.o 22 (.iar .and (.tmp 20) (.tmp 21)) <|
 (.o 23 (.mov (.tmp 3)) <|
 (.o 24 (.icmp .neq (.tmp 22) (.tmp 23)) <|
 (.o 18 (.mov (.tmp 24)) <|
 .nil)))))))
 (.cond (.tmp 18)
 (.o 9 (.mov (.const (.int .i64 3))) <|
 .nil)
 (.seq
 (.o 26 (.ldn 6 (.tmp 4)) <|
 (.o 27 (.mov (.tmp 1)) <|
 (.o 28 (.mov (.tmp 2)) <|
 (.o 29 (.call 79 [(.tmp 26), (.tmp 27), (.tmp 28)]) <|
 (.o 30 (.bnot (.tmp 29)) <|
 (.o 25 (.mov (.tmp 30)) <|
 .nil))))))
 (.cond (.tmp 25)
 (.o 9 (.mov (.const (.int .i64 4))) <|
 .nil)
 (.seq
 (.o 32 (.mov (.tmp 2)) <|
 (.o 33 (.icmp .gtr (.tmp 32) (.const (.int .u32 0))) <|
 (.o 34 (.mov (.tmp 33)) <|
 (.op (some (34, true)) (some 35) (.mov (.tmp 1)) <|
 (.op (some (34, true)) (some 36) (.mov (.tmp 2)) <|
 (.op (some (34, true)) (some 37) (.idiv .rem (.tmp 35) (.tmp 36)) <|
 (.op (some (34, true)) (some 38) (.icmp .neq (.tmp 37) (.const (.int .u32 0))) <|
 (.o 39 (.pick (.tmp 34) (.tmp 38) (.const (.bool false))) <|
 (.o 31 (.mov (.tmp 39)) <|
 .nil)))))))))
 (.cond (.tmp 31)
 (.o 9 (.mov (.const (.int .i64 5))) <|
 .nil)
 .nil)))))))))))
 (.seq
 (.seq
 (.o 40 (.mov (.tmp 9)) <|
 (.o 41 (.icmp .eql (.tmp 40) (.const (.int .i64 0))) <|
 .nil))
 (.cond (.tmp 41)
 (.seq
 (.o 42 (.bld [(.string ⟨#[]⟩), (.int .i64 0), (.int .i64 0)] []) <|
 (.op none none (.stn 3 (.tmp 8) (.tmp 42)) <|
 .nil))
 .ret)
 .nil))
 (.seq
 (.o 43 (.mov (.tmp 1)) <|
 (.o 44 (.conv .i64 (.tmp 43)) <|
 (.o 45 (.mov (.tmp 9)) <|
 (.o 46 (.bld [(.string ⟨#[]⟩), (.int .i64 0), (.int .i64 0)] [(0, 1, (.const (.string ⟨#[97, 99, 99, 101, 115, 115]⟩))), (1, 1, (.tmp 44)), (2, 1, (.tmp 45))]) <|
 (.op none none (.stn 3 (.tmp 8) (.tmp 46)) <|
 .nil)))))
 .ret)))))⟩
theorem m_haspref11_CheckAccess : toFn Tryd.prog 61 = some c_haspref11_CheckAccess := by kernel_rfl
abbrev n_haspref11_CheckAccess : FuncId := 61
/-- hasp/haspref11.Word -/
def c_haspref11_Word : MFn := ⟨21, 1, [.tmp 2],
 (.seq
 (.o 2 (.mov (.const (.int .u32 0))) <|
 .nil)
 (.seq
 (.o 3 (.mov (.const (.int .u32 0))) <|
 .nil)
 (.seq
 (.seq
 (.o 5 (.mov (.tmp 0)) <|
 (.o 6 (.lenS (.tmp 5)) <|
 (.o 7 (.iar .sub (.tmp 6) (.const (.int .i64 1))) <|
 (.o 4 (.mov (.tmp 7)) <|
 .nil))))
 (.block 0
 (.loop
 (.seq
 (.seq
 (.o 8 (.mov (.tmp 4)) <|
 (.o 9 (.icmp .geq (.tmp 8) (.const (.int .i64 0))) <|
 .nil))
 (.cond (.tmp 9)
 .nil
 (.exit 0)))
 (.seq
 (.block 1
 (.o 12 (.mov (.tmp 3)) <|
 (.o 13 (.ishC .shl (.tmp 12) 8) <|
 (.o 14 (.mov (.tmp 0)) <|
 (.o 15 (.mov (.tmp 4)) <|
 (.o 16 (.idxS 1 (.tmp 14) (.tmp 15)) <|
 (.o 17 (.ld1 (.tmp 16)) <|
 (.o 18 (.conv .u32 (.tmp 17)) <|
 (.o 19 (.iar .or (.tmp 13) (.tmp 18)) <|
 (.o 3 (.mov (.tmp 19)) <|
 .nil))))))))))
 (.o 10 (.mov (.tmp 4)) <|
 (.o 11 (.iar .sub (.tmp 10) (.const (.int .i64 1))) <|
 (.o 4 (.mov (.tmp 11)) <|
 .nil))))))))
 (.seq
 (.o 20 (.mov (.tmp 3)) <|
 (.o 2 (.mov (.tmp 20)) <|
 .nil))
 .ret))))⟩
theorem m_haspref11_Word : toFn Tryd.prog 62 = some c_haspref11_Word := by kernel_rfl
abbrev n_haspref11_Word : FuncId := 62
/-- hasp/haspref11.Signed -/
def c_haspref11_Signed : MFn := ⟨20, 2, [.tmp 4],
 (.seq
 (.o 4 (.mov (.const (.int .u32 0))) <|
 .nil)
 (.seq
 (.seq
 (.o 6 (.mov (.tmp 1)) <|
 (.o 7 (.icmp .lss (.tmp 6) (.const (.int .i64 1))) <|
 .nil))
 (.cond (.tmp 7)
 (.o 1 (.mov (.const (.int .i64 1))) <|
 .nil)
 .nil))
 (.seq
 (.seq
 (.o 8 (.mov (.tmp 1)) <|
 (.o 9 (.icmp .gtr (.tmp 8) (.const (.int .i64 32))) <|
 .nil))
 (.cond (.tmp 9)
 (.o 1 (.mov (.const (.int .i64 32))) <|
 .nil)
 .nil))
 (.seq
 (.o 10 (.mov (.tmp 1)) <|
 (.o 11 (.iar .sub (.const (.int .i64 32)) (.tmp 10)) <|
 (.o 12 (.conv .u64 (.tmp 11)) <|
 (.o 5 (.mov (.tmp 12)) <|
 .nil))))
 (.seq
 (.o 13 (.mov (.tmp 0)) <|
 (.o 14 (.mov (.tmp 5)) <|
 (.o 15 (.ish .shl (.tmp 13) (.tmp 14)) <|
 (.o 16 (.conv .i32 (.tmp 15)) <|
 (.o 17 (.mov (.tmp 5)) <|
 (.o 18 (.ish .shr (.tmp 16) (.tmp 17)) <|
 (.o 19 (.conv .u32 (.tmp 18)) <|
 (.o 4 (.mov (.tmp 19)) <|
 .nil))))))))
 .ret)))))⟩
theorem m_haspref11_Signed : toFn Tryd.prog 63 = some c_haspref11_Signed := by kernel_rfl
abbrev n_haspref11_Signed : FuncId := 63
/-- hasp/haspref11.asks -/
def c_haspref11_asks : MFn := ⟨12, 2, [.cn 4 6],
 (.seq
 (.o 2 (.bx 46 true (.tmp 0)) <|
 (.o 4 (.al 46 [(.bool false), (.int .u32 0), (.int .u32 0), (.int .u32 0), (.int .u16 0), (.int .u16 0)]) <|
 .nil))
 (.seq
 (.o 5 (.fadr 0 (.tmp 2)) <|
 (.o 6 (.ld1 (.tmp 5)) <|
 (.o 7 (.mov (.tmp 6)) <|
 (.op (some (7, true)) (some 8) (.mov (.tmp 1)) <|
 (.o 9 (.pick (.tmp 7) (.tmp 8) (.const (.bool false))) <|
 (.o 10 (.fadr 0 (.tmp 2)) <|
 (.op none none (.st1 (.tmp 10) (.tmp 9)) <|
 .nil)))))))
 (.seq
 (.o 11 (.ldn 6 (.tmp 2)) <|
 (.op none none (.stn 6 (.tmp 4) (.tmp 11)) <|
 .nil))
 .ret)))⟩
theorem m_haspref11_asks : toFn Tryd.prog 65 = some c_haspref11_asks := by kernel_rfl
abbrev n_haspref11_asks : FuncId := 65
/-- hasp/haspref11.word -/
def c_haspref11_word : MFn := ⟨15, 1, [.tmp 2],
 (.seq
 (.o 2 (.mov (.const (.slice none 0 0))) <|
 .nil)
 (.seq
 (.o 3 (.mov (.tmp 0)) <|
 (.o 4 (.conv .u8 (.tmp 3)) <|
 (.o 5 (.mov (.tmp 0)) <|
 (.o 6 (.ishC .shr (.tmp 5) 8) <|
 (.o 7 (.conv .u8 (.tmp 6)) <|
 (.o 8 (.mov (.tmp 0)) <|
 (.o 9 (.ishC .shr (.tmp 8) 16) <|
 (.o 10 (.conv .u8 (.tmp 9)) <|
 (.o 11 (.mov (.tmp 0)) <|
 (.o 12 (.ishC .shr (.tmp 11) 24) <|
 (.o 13 (.conv .u8 (.tmp 12)) <|
 (.o 14 (.bldS 5 4 [(.int .u8 0), (.int .u8 0), (.int .u8 0), (.int .u8 0)] [(0, 1, (.tmp 4)), (1, 1, (.tmp 7)), (2, 1, (.tmp 10)), (3, 1, (.tmp 13))]) <|
 (.o 2 (.mov (.tmp 14)) <|
 .nil)))))))))))))
 .ret))⟩
theorem m_haspref11_word : toFn Tryd.prog 66 = some c_haspref11_word := by kernel_rfl
abbrev n_haspref11_word : FuncId := 66
/-- hasp/haspref11.Has -/
def c_haspref11_Has : MFn := ⟨22, 3, [.tmp 6],
 (.seq
 (.o 3 (.bx 46 true (.tmp 0)) <|
 (.o 6 (.mov (.const (.bool false))) <|
 .nil))
 (.seq
 (.o 7 (.fadr 1 (.tmp 3)) <|
 (.o 8 (.ld1 (.tmp 7)) <|
 (.o 9 (.mov (.tmp 1)) <|
 (.o 10 (.icmp .leq (.tmp 8) (.tmp 9)) <|
 (.o 11 (.mov (.tmp 10)) <|
 (.op (some (11, true)) (some 12) (.mov (.tmp 1)) <|
 (.op (some (11, true)) (some 13) (.conv .u64 (.tmp 12)) <|
 (.op (some (11, true)) (some 14) (.mov (.tmp 2)) <|
 (.op (some (11, true)) (some 15) (.conv .u64 (.tmp 14)) <|
 (.op (some (11, true)) (some 16) (.iar .add (.tmp 13) (.tmp 15)) <|
 (.op (some (11, true)) (some 17) (.fadr 2 (.tmp 3)) <|
 (.op (some (11, true)) (some 18) (.ld1 (.tmp 17)) <|
 (.op (some (11, true)) (some 19) (.conv .u64 (.tmp 18)) <|
 (.op (some (11, true)) (some 20) (.icmp .leq (.tmp 16) (.tmp 19)) <|
 (.o 21 (.pick (.tmp 11) (.tmp 20) (.const (.bool false))) <|
 (.o 6 (.mov (.tmp 21)) <|
 .nil))))))))))))))))
 .ret))⟩
theorem m_haspref11_Has : toFn Tryd.prog 79 = some c_haspref11_Has := by kernel_rfl
abbrev n_haspref11_Has : FuncId := 79
end Go.HM
