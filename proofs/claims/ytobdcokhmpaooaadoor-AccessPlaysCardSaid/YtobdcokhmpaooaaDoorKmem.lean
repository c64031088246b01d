/- Codes of functions, resolved: by a program of this session. -/
import Derived.Test.YtobdcokhmpaooaaDoorProg
import Derived.Test.YtobdcokhmpaooaaDoorM10
namespace Go.HM
open Go Go.Proofs
set_option linter.unusedVariables false
set_option maxRecDepth 100000
/-- hasp/mem.New -/
def c_mem_New : MFn := ⟨26, 1, [.tmp 2, .tmp 3],
 (.seq
 (.o 2 (.mov (.const (.pointer none))) <|
 (.o 3 (.mov (.const .nilIface)) <|
 .nil))
 (.seq
 (.block 0
 (.seq
 (.o 5 (.mov (.tmp 0)) <|
 (.o 6 (.icmp .lss (.tmp 5) (.const (.int .i64 16))) <|
 (.o 7 (.mov (.tmp 6)) <|
 (.op (some (7, false)) (some 8) (.mov (.tmp 0)) <|
 (.op (some (7, false)) (some 9) (.icmp .gtr (.tmp 8) (.const (.int .i64 65536))) <|
 (.o 10 (.pick (.tmp 7) (.const (.bool true)) (.tmp 9)) <|
 (.o 4 (.mov (.tmp 10)) <|
 .nil)))))))
 (.cond (.tmp 4)
 (.seq
 (.o 11 (.mov (.tmp 0)) <|
 (.o 12 (.call 36 [(.const (.string ⟨#[115, 105, 122, 101]⟩)), (.tmp 11), (.const (.int .i64 6))]) <|
 (.o 2 (.mov (.const (.pointer none))) <|
 (.o 3 (.mov (.tmp 12)) <|
 .nil))))
 .ret)
 (.seq
 (.o 14 (.mov (.tmp 0)) <|
 (.o 15 (.idivC .rem (.tmp 14) .i64 16) <|
 (.o 16 (.icmp .neq (.tmp 15) (.const (.int .i64 0))) <|
 (.o 13 (.mov (.tmp 16)) <|
 .nil))))
 (.cond (.tmp 13)
 (.seq
 (.o 17 (.mov (.tmp 0)) <|
 (.o 18 (.call 36 [(.const (.string ⟨#[115, 105, 122, 101]⟩)), (.tmp 17), (.const (.int .i64 5))]) <|
 (.o 2 (.mov (.const (.pointer none))) <|
 (.o 3 (.mov (.tmp 18)) <|
 .nil))))
 .ret)
 .nil)))))
 (.seq
 (.draw
 (.o 19 (.mov (.tmp 0)) <|
 (.o 21 (.mov (.tmp 0)) <|
 (.o 22 (.idivC .quo (.tmp 21) .i64 16) <|
 (.both
 (.o 20 (.mkSl 35 (.tmp 19) (.tmp 19)) <|
 (.o 23 (.mkSl 59 (.tmp 22) (.tmp 22)) <|
 (.o 24 (.bld [(.slice none 0 0), (.slice none 0 0)] [(0, 1, (.tmp 20)), (1, 1, (.tmp 23))]) <|
 (.o 25 (.bx 85 true (.tmp 24)) <|
 (.o 2 (.mov (.tmp 25)) <|
 (.o 3 (.mov (.const .nilIface)) <|
 .nil))))))
 (.o 23 (.mkSl 59 (.tmp 22) (.tmp 22)) <|
 (.o 20 (.mkSl 35 (.tmp 19) (.tmp 19)) <|
 (.o 24 (.bld [(.slice none 0 0), (.slice none 0 0)] [(0, 1, (.tmp 20)), (1, 1, (.tmp 23))]) <|
 (.o 25 (.bx 85 true (.tmp 24)) <|
 (.o 2 (.mov (.tmp 25)) <|
 (.o 3 (.mov (.const .nilIface)) <|
 .nil)))))))))))
 .ret)))⟩
theorem m_mem_New : toFn Tryd.prog 6 = some c_mem_New := by kernel_rfl
abbrev n_mem_New : FuncId := 6
/-- (*hasp/mem.Mem).Store -/
def c_mem_Mem_Store : MFn := ⟨40, 3, [.tmp 6],
 (.seq
 (.o 6 (.mov (.const .nilIface)) <|
 .nil)
 (.seq
 (.o 10 (.mov (.tmp 0)) <|
 (.o 11 (.mov (.tmp 1)) <|
 (.o 12 (.mov (.tmp 2)) <|
 (.o 13 (.lenS (.tmp 12)) <|
 (.o 14 (.call 39 [(.tmp 10), (.tmp 11), (.tmp 13)]) <|
 (.o 9 (.mov (.tmp 14)) <|
 (.o 15 (.ext (.tmp 9) 0) <|
 (.o 16 (.ext (.tmp 9) 1) <|
 (.o 7 (.mov (.tmp 15)) <|
 (.o 8 (.mov (.tmp 16)) <|
 .nil))))))))))
 (.seq
 (.seq
 (.o 17 (.mov (.tmp 8)) <|
 (.o 18 (.ifnil true (.tmp 17)) <|
 .nil))
 (.cond (.tmp 18)
 (.seq
 (.o 19 (.mov (.tmp 8)) <|
 (.o 6 (.mov (.tmp 19)) <|
 .nil))
 .ret)
 .nil))
 (.seq
 (.o 20 (.mov (.tmp 7)) <|
 (.o 21 (.mov (.tmp 2)) <|
 (.o 22 (.bi .copy [35, 35] 3 [(.tmp 20), (.tmp 21)]) <|
 .nil)))
 (.seq
 (.seq
 (.o 23 (.mov (.tmp 2)) <|
 (.o 24 (.lenS (.tmp 23)) <|
 (.o 25 (.icmp .gtr (.tmp 24) (.const (.int .i64 0))) <|
 .nil)))
 (.cond (.tmp 25)
 (.o 26 (.mov (.tmp 0)) <|
 (.o 27 (.nilchk (.tmp 26)) <|
 (.o 28 (.fadr 1 (.tmp 27)) <|
 (.o 29 (.ld1 (.tmp 28)) <|
 (.o 30 (.mov (.tmp 1)) <|
 (.o 31 (.idivC .quo (.tmp 30) .i64 16) <|
 (.o 32 (.mov (.tmp 1)) <|
 (.o 33 (.mov (.tmp 2)) <|
 (.o 34 (.lenS (.tmp 33)) <|
 (.o 35 (.iar .add (.tmp 32) (.tmp 34)) <|
 (.o 36 (.iar .sub (.tmp 35) (.const (.int .i64 1))) <|
 (.o 37 (.idivC .quo (.tmp 36) .i64 16) <|
 (.o 38 (.iar .add (.tmp 37) (.const (.int .i64 1))) <|
 (.o 39 (.slS 1 (.tmp 29) (some (.tmp 31)) (some (.tmp 38)) none) <|
 (.op none none (.bi .clear [59] 0 [(.tmp 39)]) <|
 .nil)))))))))))))))
 .nil))
 (.seq
 (.o 6 (.mov (.const .nilIface)) <|
 .nil)
 .ret))))))⟩
theorem m_mem_Mem_Store : toFn Tryd.prog 9 = some c_mem_Mem_Store := by kernel_rfl
abbrev n_mem_Mem_Store : FuncId := 9
/-- (*hasp/mem.Mem).StoreCap -/
def c_mem_Mem_StoreCap : MFn := ⟨33, 3, [.tmp 6],
 (.seq
 (.o 5 (.bx 39 true (.tmp 2)) <|
 (.o 6 (.mov (.const .nilIface)) <|
 .nil))
 (.seq
 (.o 11 (.mov (.tmp 0)) <|
 (.o 12 (.mov (.tmp 1)) <|
 (.o 13 (.call 41 [(.tmp 11), (.tmp 12)]) <|
 (.o 10 (.mov (.tmp 13)) <|
 (.o 14 (.ext (.tmp 10) 0) <|
 (.o 15 (.ext (.tmp 10) 1) <|
 (.o 7 (.mov (.tmp 14)) <|
 (.o 8 (.mov (.tmp 15)) <|
 .nil))))))))
 (.seq
 (.seq
 (.o 16 (.mov (.tmp 8)) <|
 (.o 17 (.ifnil true (.tmp 16)) <|
 .nil))
 (.cond (.tmp 17)
 (.seq
 (.o 18 (.mov (.tmp 8)) <|
 (.o 6 (.mov (.tmp 18)) <|
 .nil))
 .ret)
 .nil))
 (.seq
 (.o 19 (.ldn 6 (.tmp 5)) <|
 (.o 20 (.call 42 [(.tmp 19)]) <|
 (.o 9 (.al 94 [(.int .u8 0), (.int .u8 0), (.int .u8 0), (.int .u8 0), (.int .u8 0), (.int .u8 0), (.int .u8 0), (.int .u8 0), (.int .u8 0), (.int .u8 0), (.int .u8 0), (.int .u8 0), (.int .u8 0), (.int .u8 0), (.int .u8 0), (.int .u8 0)]) <|
 (.op none none (.stn 16 (.tmp 9) (.tmp 20)) <|
 .nil))))
 (.seq
 (.o 21 (.mov (.tmp 7)) <|
 (.o 22 (.slA 16 1 (.tmp 9) none none none) <|
 (.o 23 (.bi .copy [35, 35] 3 [(.tmp 21), (.tmp 22)]) <|
 .nil)))
 (.seq
 (.draw
 (.o 24 (.mov (.tmp 0)) <|
 (.o 25 (.nilchk (.tmp 24)) <|
 (.o 26 (.fadr 1 (.tmp 25)) <|
 (.o 27 (.ld1 (.tmp 26)) <|
 (.o 28 (.mov (.tmp 1)) <|
 (.o 29 (.idivC .quo (.tmp 28) .i64 16) <|
 (.o 30 (.fadr 0 (.tmp 5)) <|
 (.o 31 (.ld1 (.tmp 30)) <|
 (.o 32 (.idxS 1 (.tmp 27) (.tmp 29)) <|
 (.op none none (.st1 (.tmp 32) (.tmp 31)) <|
 .nil)))))))))))
 (.seq
 (.o 6 (.mov (.const .nilIface)) <|
 .nil)
 .ret)))))))⟩
theorem m_mem_Mem_StoreCap : toFn Tryd.prog 11 = some c_mem_Mem_StoreCap := by kernel_rfl
abbrev n_mem_Mem_StoreCap : FuncId := 11
/-- (*hasp/mem.Mem).Load -/
def c_mem_Mem_Load : MFn := ⟨23, 3, [.tmp 6, .tmp 7],
 (.seq
 (.o 6 (.mov (.const (.slice none 0 0))) <|
 (.o 7 (.mov (.const .nilIface)) <|
 .nil))
 (.seq
 (.o 11 (.mov (.tmp 0)) <|
 (.o 12 (.mov (.tmp 1)) <|
 (.o 13 (.mov (.tmp 2)) <|
 (.o 14 (.call 39 [(.tmp 11), (.tmp 12), (.tmp 13)]) <|
 (.o 10 (.mov (.tmp 14)) <|
 (.o 15 (.ext (.tmp 10) 0) <|
 (.o 16 (.ext (.tmp 10) 1) <|
 (.o 8 (.mov (.tmp 15)) <|
 (.o 9 (.mov (.tmp 16)) <|
 .nil)))))))))
 (.seq
 (.seq
 (.o 17 (.mov (.tmp 9)) <|
 (.o 18 (.ifnil true (.tmp 17)) <|
 .nil))
 (.cond (.tmp 18)
 (.seq
 (.o 19 (.mov (.tmp 9)) <|
 (.o 6 (.mov (.const (.slice none 0 0))) <|
 (.o 7 (.mov (.tmp 19)) <|
 .nil)))
 .ret)
 .nil))
 (.seq
 (.o 20 (.mov (.tmp 8)) <|
 (.o 21 (.call 45 [(.tmp 20)]) <|
 (.o 22 (.call 44 [(.tmp 21)]) <|
 (.o 6 (.mov (.tmp 22)) <|
 (.o 7 (.mov (.const .nilIface)) <|
 .nil)))))
 .ret))))⟩
theorem m_mem_Mem_Load : toFn Tryd.prog 14 = some c_mem_Mem_Load := by kernel_rfl
abbrev n_mem_Mem_Load : FuncId := 14
/-- (*hasp/mem.Mem).LoadCap -/
def c_mem_Mem_LoadCap : MFn := ⟨30, 2, [.cn 4 6, .tmp 5],
 (.seq
 (.o 4 (.al 39 [(.bool false), (.int .u32 0), (.int .u32 0), (.int .u32 0), (.int .u16 0), (.int .u16 0)]) <|
 (.o 5 (.mov (.const .nilIface)) <|
 .nil))
 (.seq
 (.o 9 (.mov (.tmp 0)) <|
 (.o 10 (.mov (.tmp 1)) <|
 (.o 11 (.call 41 [(.tmp 9), (.tmp 10)]) <|
 (.o 8 (.mov (.tmp 11)) <|
 (.o 12 (.ext (.tmp 8) 0) <|
 (.o 13 (.ext (.tmp 8) 1) <|
 (.o 6 (.mov (.tmp 12)) <|
 (.o 7 (.mov (.tmp 13)) <|
 .nil))))))))
 (.seq
 (.seq
 (.o 14 (.mov (.tmp 7)) <|
 (.o 15 (.ifnil true (.tmp 14)) <|
 .nil))
 (.cond (.tmp 15)
 (.seq
 (.o 16 (.bld [(.bool false), (.int .u32 0), (.int .u32 0), (.int .u32 0), (.int .u16 0), (.int .u16 0)] []) <|
 (.o 17 (.mov (.tmp 7)) <|
 (.op none none (.stn 6 (.tmp 4) (.tmp 16)) <|
 (.o 5 (.mov (.tmp 17)) <|
 .nil))))
 .ret)
 .nil))
 (.seq
 (.draw
 (.o 18 (.mov (.tmp 6)) <|
 (.o 19 (.arA 16 (.tmp 18)) <|
 (.o 20 (.ldn 16 (.tmp 19)) <|
 (.o 21 (.mov (.tmp 0)) <|
 (.o 22 (.nilchk (.tmp 21)) <|
 (.o 23 (.fadr 1 (.tmp 22)) <|
 (.o 24 (.ld1 (.tmp 23)) <|
 (.o 25 (.mov (.tmp 1)) <|
 (.o 26 (.idivC .quo (.tmp 25) .i64 16) <|
 (.o 27 (.idxS 1 (.tmp 24) (.tmp 26)) <|
 (.o 28 (.ld1 (.tmp 27)) <|
 (.o 29 (.call 46 [(.tmp 20), (.tmp 28)]) <|
 (.op none none (.stn 6 (.tmp 4) (.tmp 29)) <|
 (.o 5 (.mov (.const .nilIface)) <|
 .nil)))))))))))))))
 .ret))))⟩
theorem m_mem_Mem_LoadCap : toFn Tryd.prog 16 = some c_mem_Mem_LoadCap := by kernel_rfl
abbrev n_mem_Mem_LoadCap : FuncId := 16
/-- (*hasp/mem.Mem).Zero -/
def c_mem_Mem_Zero : MFn := ⟨24, 3, [.tmp 6],
 (.seq
 (.o 6 (.mov (.const .nilIface)) <|
 .nil)
 (.seq
 (.o 10 (.mov (.tmp 0)) <|
 (.o 11 (.mov (.tmp 1)) <|
 (.o 12 (.mov (.tmp 2)) <|
 (.o 13 (.call 14 [(.tmp 10), (.tmp 11), (.tmp 12)]) <|
 (.o 9 (.mov (.tmp 13)) <|
 (.o 14 (.ext (.tmp 9) 0) <|
 (.o 15 (.ext (.tmp 9) 1) <|
 (.o 7 (.mov (.tmp 14)) <|
 (.o 8 (.mov (.tmp 15)) <|
 .nil)))))))))
 (.seq
 (.seq
 (.o 16 (.mov (.tmp 8)) <|
 (.o 17 (.ifnil true (.tmp 16)) <|
 .nil))
 (.cond (.tmp 17)
 (.seq
 (.o 18 (.mov (.tmp 8)) <|
 (.o 6 (.mov (.tmp 18)) <|
 .nil))
 .ret)
 .nil))
 (.seq
 (.o 19 (.mov (.tmp 7)) <|
 (.op none none (.bi .clear [35] 0 [(.tmp 19)]) <|
 .nil))
 (.seq
 (.o 20 (.mov (.tmp 0)) <|
 (.o 21 (.mov (.tmp 1)) <|
 (.o 22 (.mov (.tmp 7)) <|
 (.o 23 (.call 9 [(.tmp 20), (.tmp 21), (.tmp 22)]) <|
 (.o 6 (.mov (.tmp 23)) <|
 .nil)))))
 .ret)))))⟩
theorem m_mem_Mem_Zero : toFn Tryd.prog 18 = some c_mem_Mem_Zero := by kernel_rfl
abbrev n_mem_Mem_Zero : FuncId := 18
/-- (*hasp/mem.Mem).Twin -/
def c_mem_Mem_Twin : MFn := ⟨15, 1, [.tmp 2],
 (.seq
 (.o 2 (.mov (.const (.pointer none))) <|
 .nil)
 (.seq
 (.draw
 (.o 3 (.mov (.tmp 0)) <|
 (.o 4 (.nilchk (.tmp 3)) <|
 (.o 5 (.fadr 0 (.tmp 4)) <|
 (.o 6 (.ld1 (.tmp 5)) <|
 (.o 8 (.mov (.tmp 0)) <|
 (.o 9 (.nilchk (.tmp 8)) <|
 (.o 10 (.fadr 1 (.tmp 9)) <|
 (.o 11 (.ld1 (.tmp 10)) <|
 (.o 7 (.call 45 [(.tmp 6)]) <|
 (.o 12 (.call 48 [(.tmp 11)]) <|
 (.o 13 (.bld [(.slice none 0 0), (.slice none 0 0)] [(0, 1, (.tmp 7)), (1, 1, (.tmp 12))]) <|
 (.o 14 (.bx 85 true (.tmp 13)) <|
 (.o 2 (.mov (.tmp 14)) <|
 .nil))))))))))))))
 .ret))⟩
theorem m_mem_Mem_Twin : toFn Tryd.prog 19 = some c_mem_Mem_Twin := by kernel_rfl
abbrev n_mem_Mem_Twin : FuncId := 19
/-- (*hasp/mem.Mem).Same -/
def c_mem_Mem_Same : MFn := ⟨25, 2, [.tmp 4],
 (.seq
 (.o 4 (.mov (.const (.bool false))) <|
 .nil)
 (.seq
 (.draw
 (.o 5 (.mov (.tmp 0)) <|
 (.o 6 (.nilchk (.tmp 5)) <|
 (.o 7 (.fadr 0 (.tmp 6)) <|
 (.o 8 (.ld1 (.tmp 7)) <|
 (.o 9 (.mov (.tmp 1)) <|
 (.o 10 (.nilchk (.tmp 9)) <|
 (.o 11 (.fadr 0 (.tmp 10)) <|
 (.o 12 (.ld1 (.tmp 11)) <|
 (.o 13 (.call 49 [(.tmp 8), (.tmp 12)]) <|
 (.o 14 (.mov (.tmp 13)) <|
 (.op (some (14, true)) (some 15) (.mov (.tmp 0)) <|
 (.op (some (14, true)) (some 16) (.nilchk (.tmp 15)) <|
 (.op (some (14, true)) (some 17) (.fadr 1 (.tmp 16)) <|
 (.op (some (14, true)) (some 18) (.ld1 (.tmp 17)) <|
 (.op (some (14, true)) (some 19) (.mov (.tmp 1)) <|
 (.op (some (14, true)) (some 20) (.nilchk (.tmp 19)) <|
 (.op (some (14, true)) (some 21) (.fadr 1 (.tmp 20)) <|
 (.op (some (14, true)) (some 22) (.ld1 (.tmp 21)) <|
 (.op (some (14, true)) (some 23) (.call 50 [(.tmp 18), (.tmp 22)]) <|
 (.o 24 (.pick (.tmp 14) (.tmp 23) (.const (.bool false))) <|
 (.o 4 (.mov (.tmp 24)) <|
 .nil))))))))))))))))))))))
 .ret))⟩
theorem m_mem_Mem_Same : toFn Tryd.prog 20 = some c_mem_Mem_Same := by kernel_rfl
abbrev n_mem_Mem_Same : FuncId := 20
/-- (*hasp/mem.Mem).Tag -/
def c_mem_Mem_Tag : MFn := ⟨26, 2, [.tmp 4],
 (.seq
 (.o 4 (.mov (.const (.bool false))) <|
 .nil)
 (.seq
 (.o 5 (.mov (.tmp 1)) <|
 (.o 6 (.icmp .geq (.tmp 5) (.const (.int .i64 0))) <|
 (.o 7 (.mov (.tmp 6)) <|
 (.op (some (7, true)) (some 8) (.mov (.tmp 1)) <|
 (.op (some (7, true)) (some 9) (.mov (.tmp 0)) <|
 (.op (some (7, true)) (some 10) (.nilchk (.tmp 9)) <|
 (.op (some (7, true)) (some 11) (.fadr 0 (.tmp 10)) <|
 (.op (some (7, true)) (some 12) (.ld1 (.tmp 11)) <|
 (.op (some (7, true)) (some 13) (.lenS (.tmp 12)) <|
 (.op (some (7, true)) (some 14) (.icmp .lss (.tmp 8) (.tmp 13)) <|
 (.o 15 (.pick (.tmp 7) (.tmp 14) (.const (.bool false))) <|
 (.o 16 (.mov (.tmp 15)) <|
 (.op (some (16, true)) (some 17) (.mov (.tmp 0)) <|
 (.op (some (16, true)) (some 18) (.nilchk (.tmp 17)) <|
 (.op (some (16, true)) (some 19) (.fadr 1 (.tmp 18)) <|
 (.op (some (16, true)) (some 20) (.ld1 (.tmp 19)) <|
 (.op (some (16, true)) (some 21) (.mov (.tmp 1)) <|
 (.op (some (16, true)) (some 22) (.idivC .quo (.tmp 21) .i64 16) <|
 (.op (some (16, true)) (some 23) (.idxS 1 (.tmp 20) (.tmp 22)) <|
 (.op (some (16, true)) (some 24) (.ld1 (.tmp 23)) <|
 (.o 25 (.pick (.tmp 16) (.tmp 24) (.const (.bool false))) <|
 (.o 4 (.mov (.tmp 25)) <|
 .nil))))))))))))))))))))))
 .ret))⟩
theorem m_mem_Mem_Tag : toFn Tryd.prog 21 = some c_mem_Mem_Tag := by kernel_rfl
abbrev n_mem_Mem_Tag : FuncId := 21
/-- (*hasp/mem.Mem).Tags -/
def c_mem_Mem_Tags : MFn := ⟨24, 1, [.tmp 2],
 (.seq
 (.o 2 (.mov (.const (.slice none 0 0))) <|
 .nil)
 (.seq
 (.o 3 (.mov (.const (.slice none 0 0))) <|
 .nil)
 (.seq
 (.seq
 (.o 6 (.mov (.tmp 0)) <|
 (.o 7 (.nilchk (.tmp 6)) <|
 (.o 8 (.fadr 1 (.tmp 7)) <|
 (.o 9 (.ld1 (.tmp 8)) <|
 (.o 10 (.lenS (.tmp 9)) <|
 (.o 11 (.mov (.const (.int .i64 0))) <|
 .nil))))))
 (.block 0
 (.loop
 (.seq
 (.o 12 (.icmp .lss (.tmp 11) (.tmp 10)) <|
 .nil)
 (.seq
 (.cond (.tmp 12)
 .nil
 (.exit 0))
 (.seq
 (.block 1
 (.seq
 (.o 13 (.mov (.tmp 11)) <|
 (.o 14 (.idxS 1 (.tmp 9) (.tmp 11)) <|
 (.o 15 (.ld1 (.tmp 14)) <|
 (.o 4 (.mov (.tmp 13)) <|
 (.o 5 (.mov (.tmp 15)) <|
 .nil)))))
 (.seq
 (.o 16 (.mov (.tmp 5)) <|
 .nil)
 (.cond (.tmp 16)
 (.o 17 (.mov (.tmp 3)) <|
 (.o 18 (.mov (.tmp 4)) <|
 (.o 19 (.iar .mul (.tmp 18) (.const (.int .i64 16))) <|
 (.o 20 (.bldS 3 1 [(.int .i64 0)] [(0, 1, (.tmp 19))]) <|
 (.o 21 (.bi .append [79, 79] 79 [(.tmp 17), (.tmp 20)]) <|
 (.o 3 (.mov (.tmp 21)) <|
 .nil))))))
 .nil))))
 (.o 22 (.iar .add (.tmp 11) (.const (.int .i64 1))) <|
 (.o 11 (.mov (.tmp 22)) <|
 .nil))))))))
 (.seq
 (.o 23 (.mov (.tmp 3)) <|
 (.o 2 (.mov (.tmp 23)) <|
 .nil))
 .ret))))⟩
theorem m_mem_Mem_Tags : toFn Tryd.prog 34 = some c_mem_Mem_Tags := by kernel_rfl
abbrev n_mem_Mem_Tags : FuncId := 34
/-- (*hasp/mem.Mem).Size -/
def c_mem_Mem_Size : MFn := ⟨8, 1, [.tmp 2],
 (.seq
 (.o 2 (.mov (.const (.int .i64 0))) <|
 .nil)
 (.seq
 (.o 3 (.mov (.tmp 0)) <|
 (.o 4 (.nilchk (.tmp 3)) <|
 (.o 5 (.fadr 0 (.tmp 4)) <|
 (.o 6 (.ld1 (.tmp 5)) <|
 (.o 7 (.lenS (.tmp 6)) <|
 (.o 2 (.mov (.tmp 7)) <|
 .nil))))))
 .ret))⟩
theorem m_mem_Mem_Size : toFn Tryd.prog 35 = some c_mem_Mem_Size := by kernel_rfl
abbrev n_mem_Mem_Size : FuncId := 35
/-- hasp/mem.fault -/
def c_mem_fault : MFn := ⟨14, 3, [.tmp 6],
 (.seq
 (.o 6 (.mov (.const .nilIface)) <|
 .nil)
 (.seq
 (.o 7 (.mov (.tmp 0)) <|
 (.o 8 (.mov (.tmp 1)) <|
 (.o 9 (.mov (.tmp 2)) <|
 (.o 10 (.mkif 83 (.tmp 9)) <|
 (.o 11 (.bld [(.string ⟨#[]⟩), (.int .i64 0), .nilIface] [(0, 1, (.tmp 7)), (1, 1, (.tmp 8)), (2, 1, (.tmp 10))]) <|
 (.o 12 (.bx 90 true (.tmp 11)) <|
 (.o 13 (.mkif 86 (.tmp 12)) <|
 (.o 6 (.mov (.tmp 13)) <|
 .nil))))))))
 .ret))⟩
theorem m_mem_fault : toFn Tryd.prog 36 = some c_mem_fault := by kernel_rfl
abbrev n_mem_fault : FuncId := 36
/-- (*hasp/mem.Mem).span -/
def c_mem_Mem_span : MFn := ⟨45, 3, [.tmp 6, .tmp 7],
 (.seq
 (.o 6 (.mov (.const (.slice none 0 0))) <|
 (.o 7 (.mov (.const .nilIface)) <|
 .nil))
 (.seq
 (.seq
 (.o 8 (.mov (.tmp 1)) <|
 (.o 9 (.icmp .lss (.tmp 8) (.const (.int .i64 0))) <|
 (.o 10 (.mov (.tmp 9)) <|
 (.op (some (10, false)) (some 11) (.mov (.tmp 2)) <|
 (.op (some (10, false)) (some 12) (.icmp .lss (.tmp 11) (.const (.int .i64 0))) <|
 (.o 13 (.pick (.tmp 10) (.const (.bool true)) (.tmp 12)) <|
 (.o 14 (.mov (.tmp 13)) <|
 (.op (some (14, false)) (some 15) (.mov (.tmp 1)) <|
 (.op (some (14, false)) (some 16) (.mov (.tmp 0)) <|
 (.op (some (14, false)) (some 17) (.nilchk (.tmp 16)) <|
 (.op (some (14, false)) (some 18) (.fadr 0 (.tmp 17)) <|
 (.op (some (14, false)) (some 19) (.ld1 (.tmp 18)) <|
 (.op (some (14, false)) (some 20) (.lenS (.tmp 19)) <|
 (.op (some (14, false)) (some 21) (.icmp .gtr (.tmp 15) (.tmp 20)) <|
 (.o 22 (.pick (.tmp 14) (.const (.bool true)) (.tmp 21)) <|
 (.o 23 (.mov (.tmp 22)) <|
 (.op (some (23, false)) (some 24) (.mov (.tmp 2)) <|
 (.op (some (23, false)) (some 25) (.mov (.tmp 0)) <|
 (.op (some (23, false)) (some 26) (.nilchk (.tmp 25)) <|
 (.op (some (23, false)) (some 27) (.fadr 0 (.tmp 26)) <|
 (.op (some (23, false)) (some 28) (.ld1 (.tmp 27)) <|
 (.op (some (23, false)) (some 29) (.lenS (.tmp 28)) <|
 (.op (some (23, false)) (some 30) (.mov (.tmp 1)) <|
 (.op (some (23, false)) (some 31) (.iar .sub (.tmp 29) (.tmp 30)) <|
 (.op (some (23, false)) (some 32) (.icmp .gtr (.tmp 24) (.tmp 31)) <|
 (.o 33 (.pick (.tmp 23) (.const (.bool true)) (.tmp 32)) <|
 .nil))))))))))))))))))))))))))
 (.cond (.tmp 33)
 (.seq
 (.o 34 (.mov (.tmp 1)) <|
 (.o 35 (.call 36 [(.const (.string ⟨#[109, 101, 109]⟩)), (.tmp 34), (.const (.int .i64 6))]) <|
 (.o 6 (.mov (.const (.slice none 0 0))) <|
 (.o 7 (.mov (.tmp 35)) <|
 .nil))))
 .ret)
 .nil))
 (.seq
 (.o 36 (.mov (.tmp 0)) <|
 (.o 37 (.nilchk (.tmp 36)) <|
 (.o 38 (.fadr 0 (.tmp 37)) <|
 (.o 39 (.ld1 (.tmp 38)) <|
 (.o 40 (.mov (.tmp 1)) <|
 (.o 41 (.mov (.tmp 1)) <|
 (.o 42 (.mov (.tmp 2)) <|
 (.o 43 (.iar .add (.tmp 41) (.tmp 42)) <|
 (.o 44 (.slS 1 (.tmp 39) (some (.tmp 40)) (some (.tmp 43)) none) <|
 (.o 6 (.mov (.tmp 44)) <|
 (.o 7 (.mov (.const .nilIface)) <|
 .nil)))))))))))
 .ret)))⟩
theorem m_mem_Mem_span : toFn Tryd.prog 39 = some c_mem_Mem_span := by kernel_rfl
abbrev n_mem_Mem_span : FuncId := 39
/-- (*hasp/mem.Mem).granule -/
def c_mem_Mem_granule : MFn := ⟨26, 2, [.tmp 4, .tmp 5],
 (.seq
 (.o 4 (.mov (.const (.slice none 0 0))) <|
 (.o 5 (.mov (.const .nilIface)) <|
 .nil))
 (.seq
 (.o 10 (.mov (.tmp 0)) <|
 (.o 11 (.mov (.tmp 1)) <|
 (.o 12 (.call 39 [(.tmp 10), (.tmp 11), (.const (.int .i64 16))]) <|
 (.o 9 (.mov (.tmp 12)) <|
 (.o 13 (.ext (.tmp 9) 0) <|
 (.o 14 (.ext (.tmp 9) 1) <|
 (.o 6 (.mov (.tmp 13)) <|
 (.o 7 (.mov (.tmp 14)) <|
 .nil))))))))
 (.seq
 (.o 8 (.al 86 [(.pointer none)]) <|
 .nil)
 (.seq
 (.seq
 (.o 15 (.mov (.tmp 7)) <|
 (.o 16 (.mkif 88 (.tmp 8)) <|
 (.o 17 (.call 37 [(.tmp 15), (.tmp 16)]) <|
 .nil)))
 (.cond (.tmp 17)
 (.seq
 (.draw
 (.o 18 (.ld1 (.tmp 8)) <|
 (.o 19 (.mkif 86 (.tmp 18)) <|
 (.o 4 (.mov (.const (.slice none 0 0))) <|
 (.o 5 (.mov (.tmp 19)) <|
 .nil)))))
 .ret)
 .nil))
 (.seq
 (.seq
 (.o 20 (.mov (.tmp 1)) <|
 (.o 21 (.idivC .rem (.tmp 20) .i64 16) <|
 (.o 22 (.icmp .neq (.tmp 21) (.const (.int .i64 0))) <|
 .nil)))
 (.cond (.tmp 22)
 (.seq
 (.o 23 (.mov (.tmp 1)) <|
 (.o 24 (.call 36 [(.const (.string ⟨#[109, 101, 109]⟩)), (.tmp 23), (.const (.int .i64 5))]) <|
 (.o 4 (.mov (.const (.slice none 0 0))) <|
 (.o 5 (.mov (.tmp 24)) <|
 .nil))))
 .ret)
 .nil))
 (.seq
 (.o 25 (.mov (.tmp 6)) <|
 (.o 4 (.mov (.tmp 25)) <|
 (.o 5 (.mov (.const .nilIface)) <|
 .nil)))
 .ret))))))⟩
theorem m_mem_Mem_granule : toFn Tryd.prog 41 = some c_mem_Mem_granule := by kernel_rfl
abbrev n_mem_Mem_granule : FuncId := 41
end Go.HM
