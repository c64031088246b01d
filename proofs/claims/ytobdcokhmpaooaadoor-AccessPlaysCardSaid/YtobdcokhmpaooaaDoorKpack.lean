/- Codes of functions, resolved: by a program of this session. -/
import Derived.Test.YtobdcokhmpaooaaDoorProg
import Derived.Test.YtobdcokhmpaooaaDoorM10
namespace Go.HM
open Go Go.Proofs
set_option linter.unusedVariables false
set_option maxRecDepth 100000
/-- hasp/pack.Put -/
def c_pack_Put : MFn := ⟨42, 1, [.cn 2 16],
 (.seq
 (.o 1 (.bx 39 true (.tmp 0)) <|
 (.o 2 (.al 94 [(.int .u8 0), (.int .u8 0), (.int .u8 0), (.int .u8 0), (.int .u8 0), (.int .u8 0), (.int .u8 0), (.int .u8 0), (.int .u8 0), (.int .u8 0), (.int .u8 0), (.int .u8 0), (.int .u8 0), (.int .u8 0), (.int .u8 0), (.int .u8 0)]) <|
 .nil))
 (.seq
 (.o 3 (.mov (.const (.slice none 0 0))) <|
 .nil)
 (.seq
 (.seq
 (.o 8 (.fadr 1 (.tmp 1)) <|
 (.o 9 (.ld1 (.tmp 8)) <|
 (.o 10 (.fadr 2 (.tmp 1)) <|
 (.o 11 (.ld1 (.tmp 10)) <|
 (.o 12 (.fadr 3 (.tmp 1)) <|
 (.o 13 (.ld1 (.tmp 12)) <|
 (.o 14 (.bldS 36 3 [(.int .u32 0), (.int .u32 0), (.int .u32 0)] [(0, 1, (.tmp 9)), (1, 1, (.tmp 11)), (2, 1, (.tmp 13))]) <|
 (.o 15 (.lenS (.tmp 14)) <|
 (.o 16 (.mov (.const (.int .i64 0))) <|
 .nil)))))))))
 (.block 0
 (.loop
 (.seq
 (.o 17 (.icmp .lss (.tmp 16) (.tmp 15)) <|
 .nil)
 (.seq
 (.cond (.tmp 17)
 .nil
 (.exit 0))
 (.seq
 (.block 1
 (.seq
 (.o 18 (.idxS 1 (.tmp 14) (.tmp 16)) <|
 (.o 19 (.ld1 (.tmp 18)) <|
 (.o 5 (.mov (.tmp 19)) <|
 .nil)))
 (.o 20 (.mov (.tmp 3)) <|
 (.o 21 (.mov (.tmp 5)) <|
 (.o 22 (.call 73 [(.tmp 20), (.tmp 21), (.const (.int .i64 4))]) <|
 (.o 3 (.mov (.tmp 22)) <|
 .nil))))))
 (.o 23 (.iar .add (.tmp 16) (.const (.int .i64 1))) <|
 (.o 16 (.mov (.tmp 23)) <|
 .nil))))))))
 (.seq
 (.seq
 (.o 24 (.fadr 4 (.tmp 1)) <|
 (.o 25 (.ld1 (.tmp 24)) <|
 (.o 26 (.fadr 5 (.tmp 1)) <|
 (.o 27 (.ld1 (.tmp 26)) <|
 (.o 28 (.bldS 37 2 [(.int .u16 0), (.int .u16 0)] [(0, 1, (.tmp 25)), (1, 1, (.tmp 27))]) <|
 (.o 29 (.lenS (.tmp 28)) <|
 (.o 30 (.mov (.const (.int .i64 0))) <|
 .nil)))))))
 (.block 2
 (.loop
 (.seq
 (.o 31 (.icmp .lss (.tmp 30) (.tmp 29)) <|
 .nil)
 (.seq
 (.cond (.tmp 31)
 .nil
 (.exit 2))
 (.seq
 (.block 3
 (.seq
 (.o 32 (.idxS 1 (.tmp 28) (.tmp 30)) <|
 (.o 33 (.ld1 (.tmp 32)) <|
 (.o 7 (.mov (.tmp 33)) <|
 .nil)))
 (.o 34 (.mov (.tmp 3)) <|
 (.o 35 (.mov (.tmp 7)) <|
 (.o 36 (.conv .u32 (.tmp 35)) <|
 (.o 37 (.call 73 [(.tmp 34), (.tmp 36), (.const (.int .i64 2))]) <|
 (.o 3 (.mov (.tmp 37)) <|
 .nil)))))))
 (.o 38 (.iar .add (.tmp 30) (.const (.int .i64 1))) <|
 (.o 30 (.mov (.tmp 38)) <|
 .nil))))))))
 (.seq
 (.o 39 (.mov (.tmp 3)) <|
 (.o 40 (.arA 16 (.tmp 39)) <|
 (.o 41 (.ldn 16 (.tmp 40)) <|
 (.op none none (.stn 16 (.tmp 2) (.tmp 41)) <|
 .nil))))
 .ret)))))⟩
theorem m_pack_Put : toFn Tryd.prog 42 = some c_pack_Put := by kernel_rfl
abbrev n_pack_Put : FuncId := 42
/-- hasp/pack.Get -/
def c_pack_Get : MFn := ⟨51, 2, [.cn 4 6],
 (.seq
 (.o 2 (.bx 94 true (.tmp 0)) <|
 (.o 4 (.al 39 [(.bool false), (.int .u32 0), (.int .u32 0), (.int .u32 0), (.int .u16 0), (.int .u16 0)]) <|
 .nil))
 (.seq
 (.o 12 (.mov (.tmp 1)) <|
 (.o 13 (.bld [(.bool false), (.int .u32 0), (.int .u32 0), (.int .u32 0), (.int .u16 0), (.int .u16 0)] [(0, 1, (.tmp 12))]) <|
 (.o 5 (.al 39 [(.bool false), (.int .u32 0), (.int .u32 0), (.int .u32 0), (.int .u16 0), (.int .u16 0)]) <|
 (.op none none (.stn 6 (.tmp 5) (.tmp 13)) <|
 .nil))))
 (.seq
 (.o 14 (.slA 16 1 (.tmp 2) none none none) <|
 (.o 6 (.mov (.tmp 14)) <|
 .nil))
 (.seq
 (.seq
 (.o 15 (.fadr 1 (.tmp 5)) <|
 (.o 16 (.fadr 2 (.tmp 5)) <|
 (.o 17 (.fadr 3 (.tmp 5)) <|
 (.o 18 (.bldS 135 3 [(.pointer none), (.pointer none), (.pointer none)] [(0, 1, (.tmp 15)), (1, 1, (.tmp 16)), (2, 1, (.tmp 17))]) <|
 (.o 19 (.lenS (.tmp 18)) <|
 (.o 20 (.mov (.const (.int .i64 0))) <|
 .nil))))))
 (.block 0
 (.loop
 (.seq
 (.o 21 (.icmp .lss (.tmp 20) (.tmp 19)) <|
 .nil)
 (.seq
 (.cond (.tmp 21)
 .nil
 (.exit 0))
 (.seq
 (.block 1
 (.seq
 (.o 22 (.idxS 1 (.tmp 18) (.tmp 20)) <|
 (.o 23 (.ld1 (.tmp 22)) <|
 (.o 8 (.mov (.tmp 23)) <|
 .nil)))
 (.o 25 (.mov (.tmp 8)) <|
 (.o 26 (.mov (.tmp 6)) <|
 (.o 27 (.call 74 [(.tmp 26), (.const (.int .i64 4))]) <|
 (.o 24 (.mov (.tmp 27)) <|
 (.o 28 (.ext (.tmp 24) 0) <|
 (.o 29 (.ext (.tmp 24) 1) <|
 (.o 30 (.nilchk (.tmp 25)) <|
 (.op none none (.st1 (.tmp 30) (.tmp 28)) <|
 (.o 6 (.mov (.tmp 29)) <|
 .nil)))))))))))
 (.o 31 (.iar .add (.tmp 20) (.const (.int .i64 1))) <|
 (.o 20 (.mov (.tmp 31)) <|
 .nil))))))))
 (.seq
 (.seq
 (.o 32 (.fadr 4 (.tmp 5)) <|
 (.o 33 (.fadr 5 (.tmp 5)) <|
 (.o 34 (.bldS 139 2 [(.pointer none), (.pointer none)] [(0, 1, (.tmp 32)), (1, 1, (.tmp 33))]) <|
 (.o 35 (.lenS (.tmp 34)) <|
 (.o 36 (.mov (.const (.int .i64 0))) <|
 .nil)))))
 (.block 2
 (.loop
 (.seq
 (.o 37 (.icmp .lss (.tmp 36) (.tmp 35)) <|
 .nil)
 (.seq
 (.cond (.tmp 37)
 .nil
 (.exit 2))
 (.seq
 (.block 3
 (.seq
 (.o 38 (.idxS 1 (.tmp 34) (.tmp 36)) <|
 (.o 39 (.ld1 (.tmp 38)) <|
 (.o 10 (.mov (.tmp 39)) <|
 .nil)))
 (.seq
 (.o 11 (.mov (.const (.int .u32 0))) <|
 .nil)
 (.seq
 (.o 41 (.mov (.tmp 6)) <|
 (.o 42 (.call 74 [(.tmp 41), (.const (.int .i64 2))]) <|
 (.o 40 (.mov (.tmp 42)) <|
 (.o 43 (.ext (.tmp 40) 0) <|
 (.o 44 (.ext (.tmp 40) 1) <|
 (.o 11 (.mov (.tmp 43)) <|
 (.o 6 (.mov (.tmp 44)) <|
 .nil)))))))
 (.o 45 (.mov (.tmp 10)) <|
 (.o 46 (.mov (.tmp 11)) <|
 (.o 47 (.conv .u16 (.tmp 46)) <|
 (.o 48 (.nilchk (.tmp 45)) <|
 (.op none none (.st1 (.tmp 48) (.tmp 47)) <|
 .nil)))))))))
 (.o 49 (.iar .add (.tmp 36) (.const (.int .i64 1))) <|
 (.o 36 (.mov (.tmp 49)) <|
 .nil))))))))
 (.seq
 (.o 50 (.ldn 6 (.tmp 5)) <|
 (.op none none (.stn 6 (.tmp 4) (.tmp 50)) <|
 .nil))
 .ret))))))⟩
theorem m_pack_Get : toFn Tryd.prog 46 = some c_pack_Get := by kernel_rfl
abbrev n_pack_Get : FuncId := 46
/-- hasp/pack.put -/
def c_pack_put : MFn := ⟨22, 3, [.tmp 6],
 (.seq
 (.o 6 (.mov (.const (.slice none 0 0))) <|
 .nil)
 (.seq
 (.seq
 (.o 8 (.mov (.tmp 2)) <|
 (.o 9 (.mov (.const (.int .i64 0))) <|
 .nil))
 (.block 0
 (.loop
 (.seq
 (.o 10 (.icmp .lss (.tmp 9) (.tmp 8)) <|
 .nil)
 (.seq
 (.cond (.tmp 10)
 .nil
 (.exit 0))
 (.seq
 (.block 1
 (.seq
 (.o 11 (.mov (.tmp 9)) <|
 (.o 7 (.mov (.tmp 11)) <|
 .nil))
 (.o 12 (.mov (.tmp 0)) <|
 (.o 13 (.mov (.tmp 1)) <|
 (.o 14 (.mov (.tmp 7)) <|
 (.o 15 (.iar .mul (.const (.int .i64 8)) (.tmp 14)) <|
 (.o 16 (.ish .shr (.tmp 13) (.tmp 15)) <|
 (.o 17 (.conv .u8 (.tmp 16)) <|
 (.o 18 (.bldS 5 1 [(.int .u8 0)] [(0, 1, (.tmp 17))]) <|
 (.o 19 (.bi .append [35, 35] 35 [(.tmp 12), (.tmp 18)]) <|
 (.o 0 (.mov (.tmp 19)) <|
 .nil)))))))))))
 (.o 20 (.iar .add (.tmp 9) (.const (.int .i64 1))) <|
 (.o 9 (.mov (.tmp 20)) <|
 .nil))))))))
 (.seq
 (.o 21 (.mov (.tmp 0)) <|
 (.o 6 (.mov (.tmp 21)) <|
 .nil))
 .ret)))⟩
theorem m_pack_put : toFn Tryd.prog 73 = some c_pack_put := by kernel_rfl
abbrev n_pack_put : FuncId := 73
/-- hasp/pack.get -/
def c_pack_get : MFn := ⟨27, 2, [.tmp 4, .tmp 5],
 (.seq
 (.o 4 (.mov (.const (.int .u32 0))) <|
 (.o 5 (.mov (.const (.slice none 0 0))) <|
 .nil))
 (.seq
 (.o 6 (.mov (.const (.int .u32 0))) <|
 .nil)
 (.seq
 (.seq
 (.o 8 (.mov (.tmp 1)) <|
 (.o 9 (.mov (.const (.int .i64 0))) <|
 .nil))
 (.block 0
 (.loop
 (.seq
 (.o 10 (.icmp .lss (.tmp 9) (.tmp 8)) <|
 .nil)
 (.seq
 (.cond (.tmp 10)
 .nil
 (.exit 0))
 (.seq
 (.block 1
 (.seq
 (.o 11 (.mov (.tmp 9)) <|
 (.o 7 (.mov (.tmp 11)) <|
 .nil))
 (.o 12 (.mov (.tmp 6)) <|
 (.o 13 (.mov (.tmp 0)) <|
 (.o 14 (.mov (.tmp 7)) <|
 (.o 15 (.idxS 1 (.tmp 13) (.tmp 14)) <|
 (.o 16 (.ld1 (.tmp 15)) <|
 (.o 17 (.conv .u32 (.tmp 16)) <|
 (.o 18 (.mov (.tmp 7)) <|
 (.o 19 (.iar .mul (.const (.int .i64 8)) (.tmp 18)) <|
 (.o 20 (.ish .shl (.tmp 17) (.tmp 19)) <|
 (.o 21 (.iar .or (.tmp 12) (.tmp 20)) <|
 (.o 6 (.mov (.tmp 21)) <|
 .nil)))))))))))))
 (.o 22 (.iar .add (.tmp 9) (.const (.int .i64 1))) <|
 (.o 9 (.mov (.tmp 22)) <|
 .nil))))))))
 (.seq
 (.draw
 (.o 23 (.mov (.tmp 6)) <|
 (.o 24 (.mov (.tmp 0)) <|
 (.o 25 (.mov (.tmp 1)) <|
 (.o 26 (.slS 1 (.tmp 24) (some (.tmp 25)) none none) <|
 (.o 4 (.mov (.tmp 23)) <|
 (.o 5 (.mov (.tmp 26)) <|
 .nil)))))))
 .ret))))⟩
theorem m_pack_get : toFn Tryd.prog 74 = some c_pack_get := by kernel_rfl
abbrev n_pack_get : FuncId := 74
end Go.HM
