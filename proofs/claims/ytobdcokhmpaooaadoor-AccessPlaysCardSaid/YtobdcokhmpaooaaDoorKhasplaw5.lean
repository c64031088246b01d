/- Codes of functions, resolved: by a program of this session. -/
import Derived.Test.YtobdcokhmpaooaaDoorProg
import Derived.Test.YtobdcokhmpaooaaDoorM10
namespace Go.HM
open Go Go.Proofs
set_option linter.unusedVariables false
set_option maxRecDepth 100000
/-- hasp/hasplaw5.AccessPlays -/
def c_hasplaw5_AccessPlays : MFn := ⟨148, 6, [.tmp 12],
 (.seq
 (.o 7 (.bx 39 true (.tmp 1)) <|
 (.o 11 (.bx 39 true (.tmp 5)) <|
 (.o 12 (.mov (.const (.bool false))) <|
 .nil)))
 (.seq
 (.seq
 (.o 30 (.call 23 []) <|
 (.o 31 (.bnot (.tmp 30)) <|
 .nil))
 (.cond (.tmp 31)
 (.seq
 (.o 12 (.mov (.const (.bool false))) <|
 .nil)
 .ret)
 .nil))
 (.seq
 (.seq
 (.o 32 (.mov (.tmp 0)) <|
 (.o 33 (.lenS (.tmp 32)) <|
 (.o 34 (.icmp .gtr (.tmp 33) (.const (.int .i64 128))) <|
 .nil)))
 (.cond (.tmp 34)
 (.seq
 (.o 12 (.mov (.const (.bool true))) <|
 .nil)
 .ret)
 .nil))
 (.seq
 (.o 36 (.mov (.tmp 0)) <|
 (.o 37 (.ldn 6 (.tmp 11)) <|
 (.o 38 (.call 24 [(.tmp 36), (.tmp 37)]) <|
 (.o 35 (.mov (.tmp 38)) <|
 (.o 39 (.ext (.tmp 35) 0) <|
 (.o 40 (.ext (.tmp 35) 1) <|
 (.o 41 (.ext (.tmp 35) 2) <|
 (.o 13 (.mov (.tmp 39)) <|
 (.o 14 (.mov (.tmp 40)) <|
 (.o 15 (.mov (.tmp 41)) <|
 .nil))))))))))
 (.seq
 (.seq
 (.o 42 (.mov (.tmp 15)) <|
 (.o 43 (.bnot (.tmp 42)) <|
 .nil))
 (.cond (.tmp 43)
 (.seq
 (.o 12 (.mov (.const (.bool false))) <|
 .nil)
 .ret)
 .nil))
 (.seq
 (.o 44 (.ldn 6 (.tmp 7)) <|
 (.o 45 (.call 13 [(.tmp 44)]) <|
 (.o 16 (.al 46 [(.bool false), (.int .u32 0), (.int .u32 0), (.int .u32 0), (.int .u16 0), (.int .u16 0)]) <|
 (.op none none (.stn 6 (.tmp 16) (.tmp 45)) <|
 .nil))))
 (.seq
 (.seq
 (.o 17 (.mov (.const (.int .i64 0))) <|
 .nil)
 (.block 0
 (.loop
 (.seq
 (.seq
 (.o 46 (.mov (.tmp 17)) <|
 (.o 47 (.icmp .lss (.tmp 46) (.const (.int .i64 2))) <|
 .nil))
 (.cond (.tmp 47)
 .nil
 (.exit 0)))
 (.seq
 (.block 1
 (.seq
 (.o 51 (.mov (.tmp 13)) <|
 (.o 52 (.ldn 6 (.tmp 7)) <|
 (.o 53 (.mov (.tmp 2)) <|
 (.o 54 (.mov (.tmp 3)) <|
 (.o 55 (.mov (.tmp 17)) <|
 (.o 56 (.icmp .eql (.tmp 55) (.const (.int .i64 0))) <|
 (.o 57 (.call 25 [(.tmp 51), (.tmp 52), (.tmp 53), (.tmp 54), (.tmp 56)]) <|
 (.o 50 (.mov (.tmp 57)) <|
 (.o 58 (.ext (.tmp 50) 0) <|
 (.o 59 (.ext (.tmp 50) 1) <|
 (.o 18 (.mov (.tmp 58)) <|
 (.o 19 (.mov (.tmp 59)) <|
 .nil))))))))))))
 (.seq
 (.o 61 (.mov (.tmp 14)) <|
 (.o 62 (.ldn 6 (.tmp 16)) <|
 (.o 63 (.mov (.tmp 2)) <|
 (.o 64 (.mov (.tmp 3)) <|
 (.o 65 (.mov (.tmp 17)) <|
 (.o 66 (.icmp .eql (.tmp 65) (.const (.int .i64 0))) <|
 (.o 67 (.call 26 [(.tmp 61), (.tmp 62), (.tmp 63), (.tmp 64), (.tmp 66)]) <|
 (.o 60 (.mov (.tmp 67)) <|
 (.o 68 (.ext (.tmp 60) 0) <|
 (.o 69 (.ext (.tmp 60) 1) <|
 (.o 21 (.al 31 [(.string ⟨#[]⟩), (.int .i64 0), (.int .i64 0)]) <|
 (.o 20 (.mov (.tmp 68)) <|
 (.op none none (.stn 3 (.tmp 21) (.tmp 69)) <|
 .nil)))))))))))))
 (.seq
 (.o 71 (.mov (.tmp 13)) <|
 (.o 72 (.ldn 6 (.tmp 7)) <|
 (.o 73 (.mov (.tmp 2)) <|
 (.o 74 (.call 27 [(.tmp 71), (.tmp 72), (.tmp 73)]) <|
 (.o 70 (.mov (.tmp 74)) <|
 (.o 75 (.ext (.tmp 70) 0) <|
 (.o 76 (.ext (.tmp 70) 1) <|
 (.o 22 (.al 39 [(.bool false), (.int .u32 0), (.int .u32 0), (.int .u32 0), (.int .u16 0), (.int .u16 0)]) <|
 (.op none none (.stn 6 (.tmp 22) (.tmp 75)) <|
 (.o 23 (.mov (.tmp 76)) <|
 .nil))))))))))
 (.seq
 (.o 78 (.mov (.tmp 14)) <|
 (.o 79 (.ldn 6 (.tmp 16)) <|
 (.o 80 (.mov (.tmp 2)) <|
 (.o 81 (.call 28 [(.tmp 78), (.tmp 79), (.tmp 80)]) <|
 (.o 77 (.mov (.tmp 81)) <|
 (.o 82 (.ext (.tmp 77) 0) <|
 (.o 83 (.ext (.tmp 77) 1) <|
 (.o 24 (.al 46 [(.bool false), (.int .u32 0), (.int .u32 0), (.int .u32 0), (.int .u16 0), (.int .u16 0)]) <|
 (.o 25 (.al 31 [(.string ⟨#[]⟩), (.int .i64 0), (.int .i64 0)]) <|
 (.op none none (.stn 6 (.tmp 24) (.tmp 82)) <|
 (.op none none (.stn 3 (.tmp 25) (.tmp 83)) <|
 .nil)))))))))))
 (.seq
 (.seq
 (.draw
 (.o 84 (.mov (.tmp 18)) <|
 (.o 85 (.mov (.tmp 20)) <|
 (.o 86 (.icmp .neq (.tmp 84) (.tmp 85)) <|
 (.o 87 (.mov (.tmp 86)) <|
 (.op (some (87, false)) (some 88) (.mov (.tmp 19)) <|
 (.op (some (87, false)) (some 89) (.ldn 3 (.tmp 21)) <|
 (.op (some (87, false)) (some 90) (.call 8 [(.tmp 88), (.tmp 89)]) <|
 (.op (some (87, false)) (some 91) (.bnot (.tmp 90)) <|
 (.o 92 (.pick (.tmp 87) (.const (.bool true)) (.tmp 91)) <|
 (.o 93 (.mov (.tmp 92)) <|
 (.op (some (93, false)) (some 94) (.ldn 6 (.tmp 22)) <|
 (.op (some (93, false)) (some 96) (.ldn 6 (.tmp 24)) <|
 (.op (some (93, false)) (some 95) (.call 13 [(.tmp 94)]) <|
 (.op (some (93, false)) (some 97) (.aeq true [.bool, .int, .int, .int, .int, .int] (.tmp 95) (.tmp 96)) <|
 (.o 98 (.pick (.tmp 93) (.const (.bool true)) (.tmp 97)) <|
 (.o 99 (.mov (.tmp 98)) <|
 (.op (some (99, false)) (some 100) (.mov (.tmp 23)) <|
 (.op (some (99, false)) (some 101) (.ldn 3 (.tmp 25)) <|
 (.op (some (99, false)) (some 102) (.call 8 [(.tmp 100), (.tmp 101)]) <|
 (.op (some (99, false)) (some 103) (.bnot (.tmp 102)) <|
 (.o 104 (.pick (.tmp 99) (.const (.bool true)) (.tmp 103)) <|
 .nil))))))))))))))))))))))
 (.cond (.tmp 104)
 (.seq
 (.o 12 (.mov (.const (.bool false))) <|
 .nil)
 .ret)
 .nil))
 (.seq
 (.o 105 (.mov (.tmp 13)) <|
 (.o 106 (.ldn 6 (.tmp 7)) <|
 (.o 107 (.mov (.tmp 2)) <|
 (.o 108 (.mov (.tmp 3)) <|
 (.o 109 (.mov (.tmp 4)) <|
 (.o 110 (.call 29 [(.tmp 105), (.tmp 106), (.tmp 107), (.tmp 108), (.tmp 109)]) <|
 (.o 26 (.mov (.tmp 110)) <|
 .nil)))))))
 (.seq
 (.o 111 (.mov (.tmp 14)) <|
 (.o 112 (.ldn 6 (.tmp 16)) <|
 (.o 113 (.mov (.tmp 2)) <|
 (.o 114 (.mov (.tmp 3)) <|
 (.o 115 (.mov (.tmp 4)) <|
 (.o 116 (.call 30 [(.tmp 111), (.tmp 112), (.tmp 113), (.tmp 114), (.tmp 115)]) <|
 (.o 27 (.al 31 [(.string ⟨#[]⟩), (.int .i64 0), (.int .i64 0)]) <|
 (.op none none (.stn 3 (.tmp 27) (.tmp 116)) <|
 .nil))))))))
 (.seq
 (.seq
 (.o 117 (.mov (.tmp 26)) <|
 (.o 118 (.ldn 3 (.tmp 27)) <|
 (.o 119 (.call 8 [(.tmp 117), (.tmp 118)]) <|
 (.o 120 (.bnot (.tmp 119)) <|
 (.o 121 (.mov (.tmp 120)) <|
 (.op (some (121, false)) (some 122) (.mov (.tmp 13)) <|
 (.op (some (121, false)) (some 123) (.mov (.tmp 14)) <|
 (.op (some (121, false)) (some 124) (.call 22 [(.tmp 122), (.tmp 123)]) <|
 (.op (some (121, false)) (some 125) (.bnot (.tmp 124)) <|
 (.o 126 (.pick (.tmp 121) (.const (.bool true)) (.tmp 125)) <|
 .nil))))))))))
 (.cond (.tmp 126)
 (.seq
 (.o 12 (.mov (.const (.bool false))) <|
 .nil)
 .ret)
 .nil))
 (.seq
 (.o 127 (.mov (.tmp 13)) <|
 (.o 128 (.ldn 6 (.tmp 7)) <|
 (.o 129 (.mov (.tmp 2)) <|
 (.o 130 (.ldn 6 (.tmp 11)) <|
 (.o 131 (.call 31 [(.tmp 127), (.tmp 128), (.tmp 129), (.tmp 130)]) <|
 (.o 28 (.mov (.tmp 131)) <|
 .nil))))))
 (.seq
 (.draw
 (.o 132 (.mov (.tmp 14)) <|
 (.o 133 (.ldn 6 (.tmp 16)) <|
 (.o 134 (.mov (.tmp 2)) <|
 (.o 135 (.ldn 6 (.tmp 11)) <|
 (.both
 (.o 136 (.call 13 [(.tmp 135)]) <|
 (.both
 (.o 137 (.call 32 [(.tmp 132), (.tmp 133), (.tmp 134), (.tmp 136)]) <|
 (.o 29 (.al 31 [(.string ⟨#[]⟩), (.int .i64 0), (.int .i64 0)]) <|
 (.op none none (.stn 3 (.tmp 29) (.tmp 137)) <|
 .nil)))
 (.o 29 (.al 31 [(.string ⟨#[]⟩), (.int .i64 0), (.int .i64 0)]) <|
 (.o 137 (.call 32 [(.tmp 132), (.tmp 133), (.tmp 134), (.tmp 136)]) <|
 (.op none none (.stn 3 (.tmp 29) (.tmp 137)) <|
 .nil)))))
 (.o 29 (.al 31 [(.string ⟨#[]⟩), (.int .i64 0), (.int .i64 0)]) <|
 (.o 136 (.call 13 [(.tmp 135)]) <|
 (.o 137 (.call 32 [(.tmp 132), (.tmp 133), (.tmp 134), (.tmp 136)]) <|
 (.op none none (.stn 3 (.tmp 29) (.tmp 137)) <|
 .nil))))))))))
 (.seq
 (.o 138 (.mov (.tmp 28)) <|
 (.o 139 (.ldn 3 (.tmp 29)) <|
 (.o 140 (.call 8 [(.tmp 138), (.tmp 139)]) <|
 (.o 141 (.bnot (.tmp 140)) <|
 (.o 142 (.mov (.tmp 141)) <|
 (.op (some (142, false)) (some 143) (.mov (.tmp 13)) <|
 (.op (some (142, false)) (some 144) (.mov (.tmp 14)) <|
 (.op (some (142, false)) (some 145) (.call 22 [(.tmp 143), (.tmp 144)]) <|
 (.op (some (142, false)) (some 146) (.bnot (.tmp 145)) <|
 (.o 147 (.pick (.tmp 142) (.const (.bool true)) (.tmp 146)) <|
 .nil))))))))))
 (.cond (.tmp 147)
 (.seq
 (.o 12 (.mov (.const (.bool false))) <|
 .nil)
 .ret)
 .nil)))))))))))))
 (.o 48 (.mov (.tmp 17)) <|
 (.o 49 (.iar .add (.tmp 48) (.const (.int .i64 1))) <|
 (.o 17 (.mov (.tmp 49)) <|
 .nil))))))))
 (.seq
 (.o 12 (.mov (.const (.bool true))) <|
 .nil)
 .ret))))))))⟩
theorem m_hasplaw5_AccessPlays : toFn Tryd.prog 4 = some c_hasplaw5_AccessPlays := by kernel_rfl
abbrev n_hasplaw5_AccessPlays : FuncId := 4
/-- hasp/hasplaw5.known -/
def c_hasplaw5_known : MFn := ⟨111, 0, [.tmp 0],
 (.seq
 (.o 0 (.mov (.const (.bool false))) <|
 .nil)
 (.seq
 (.o 16 (.call 6 [(.const (.int .i64 64))]) <|
 (.o 15 (.mov (.tmp 16)) <|
 (.o 17 (.ext (.tmp 15) 0) <|
 (.o 18 (.ext (.tmp 15) 1) <|
 (.o 1 (.mov (.tmp 17)) <|
 (.o 2 (.mov (.tmp 18)) <|
 .nil))))))
 (.seq
 (.seq
 (.o 19 (.mov (.tmp 2)) <|
 (.o 20 (.ifnil true (.tmp 19)) <|
 (.o 21 (.mov (.tmp 20)) <|
 (.op (some (21, false)) (some 22) (.mov (.tmp 1)) <|
 (.op (some (21, false)) (some 23) (.ptnil false (.tmp 22)) <|
 (.o 24 (.pick (.tmp 21) (.const (.bool true)) (.tmp 23)) <|
 .nil))))))
 (.cond (.tmp 24)
 (.seq
 (.o 0 (.mov (.const (.bool false))) <|
 .nil)
 .ret)
 .nil))
 (.seq
 (.o 25 (.call 33 [(.const (.int .u32 64))]) <|
 (.o 26 (.call 53 [(.tmp 25), (.const (.int .u32 16))]) <|
 (.o 27 (.call 52 [(.tmp 26), (.const (.int .u32 16))]) <|
 (.o 3 (.al 39 [(.bool false), (.int .u32 0), (.int .u32 0), (.int .u32 0), (.int .u16 0), (.int .u16 0)]) <|
 (.op none none (.stn 6 (.tmp 3) (.tmp 27)) <|
 .nil)))))
 (.seq
 (.o 28 (.mov (.tmp 1)) <|
 (.o 29 (.ldn 6 (.tmp 3)) <|
 (.o 30 (.call 29 [(.tmp 28), (.tmp 29), (.const (.int .i32 4)), (.const (.int .i64 2)), (.const (.int .u32 65534))]) <|
 (.o 4 (.mov (.tmp 30)) <|
 .nil))))
 (.seq
 (.o 32 (.mov (.tmp 1)) <|
 (.o 33 (.ldn 6 (.tmp 3)) <|
 (.o 34 (.call 25 [(.tmp 32), (.tmp 33), (.const (.int .i32 4)), (.const (.int .i64 2)), (.const (.bool true))]) <|
 (.o 31 (.mov (.tmp 34)) <|
 (.o 35 (.ext (.tmp 31) 0) <|
 (.o 36 (.ext (.tmp 31) 1) <|
 (.o 5 (.mov (.tmp 35)) <|
 (.o 6 (.mov (.tmp 36)) <|
 .nil))))))))
 (.seq
 (.o 38 (.mov (.tmp 1)) <|
 (.o 39 (.ldn 6 (.tmp 3)) <|
 (.o 40 (.call 25 [(.tmp 38), (.tmp 39), (.const (.int .i32 16)), (.const (.int .i64 1)), (.const (.bool false))]) <|
 (.o 37 (.mov (.tmp 40)) <|
 (.o 41 (.ext (.tmp 37) 0) <|
 (.o 42 (.ext (.tmp 37) 1) <|
 (.o 7 (.mov (.tmp 41)) <|
 (.o 8 (.mov (.tmp 42)) <|
 .nil))))))))
 (.seq
 (.o 43 (.mov (.tmp 1)) <|
 (.o 44 (.ldn 6 (.tmp 3)) <|
 (.o 45 (.call 54 [(.tmp 44), (.const (.int .u16 1))]) <|
 (.o 46 (.call 29 [(.tmp 43), (.tmp 45), (.const (.int .i32 0)), (.const (.int .i64 1)), (.const (.int .u32 0))]) <|
 (.o 9 (.mov (.tmp 46)) <|
 .nil)))))
 (.seq
 (.o 47 (.mov (.tmp 1)) <|
 (.o 48 (.ldn 6 (.tmp 3)) <|
 (.o 49 (.ldn 6 (.tmp 3)) <|
 (.o 50 (.call 31 [(.tmp 47), (.tmp 48), (.const (.int .i32 0)), (.tmp 49)]) <|
 (.o 10 (.mov (.tmp 50)) <|
 .nil)))))
 (.seq
 (.o 52 (.mov (.tmp 1)) <|
 (.o 53 (.ldn 6 (.tmp 3)) <|
 (.o 54 (.call 27 [(.tmp 52), (.tmp 53), (.const (.int .i32 0))]) <|
 (.o 51 (.mov (.tmp 54)) <|
 (.o 55 (.ext (.tmp 51) 0) <|
 (.o 56 (.ext (.tmp 51) 1) <|
 (.o 11 (.al 39 [(.bool false), (.int .u32 0), (.int .u32 0), (.int .u32 0), (.int .u16 0), (.int .u16 0)]) <|
 (.op none none (.stn 6 (.tmp 11) (.tmp 55)) <|
 (.o 12 (.mov (.tmp 56)) <|
 .nil)))))))))
 (.seq
 (.o 58 (.mov (.tmp 1)) <|
 (.o 59 (.ldn 6 (.tmp 3)) <|
 (.o 60 (.call 54 [(.tmp 59), (.const (.int .u16 1))]) <|
 (.o 61 (.call 27 [(.tmp 58), (.tmp 60), (.const (.int .i32 0))]) <|
 (.o 57 (.mov (.tmp 61)) <|
 (.o 62 (.ext (.tmp 57) 0) <|
 (.o 63 (.ext (.tmp 57) 1) <|
 (.o 13 (.al 39 [(.bool false), (.int .u32 0), (.int .u32 0), (.int .u32 0), (.int .u16 0), (.int .u16 0)]) <|
 (.op none none (.stn 6 (.tmp 13) (.tmp 62)) <|
 (.o 14 (.mov (.tmp 63)) <|
 .nil))))))))))
 (.seq
 (.o 64 (.mov (.tmp 4)) <|
 (.o 65 (.ifnil false (.tmp 64)) <|
 (.o 66 (.mov (.tmp 65)) <|
 (.op (some (66, true)) (some 67) (.mov (.tmp 6)) <|
 (.op (some (66, true)) (some 68) (.ifnil false (.tmp 67)) <|
 (.o 69 (.pick (.tmp 66) (.tmp 68) (.const (.bool false))) <|
 (.o 70 (.mov (.tmp 69)) <|
 (.op (some (70, true)) (some 71) (.mov (.tmp 5)) <|
 (.op (some (70, true)) (some 72) (.icmp .eql (.tmp 71) (.const (.int .u32 4294967294))) <|
 (.o 73 (.pick (.tmp 70) (.tmp 72) (.const (.bool false))) <|
 (.o 74 (.mov (.tmp 73)) <|
 (.op (some (74, true)) (some 75) (.mov (.tmp 8)) <|
 (.op (some (74, true)) (some 76) (.bld [(.string ⟨#[]⟩), (.int .i64 0), (.int .i64 0)] [(0, 1, (.const (.string ⟨#[97, 99, 99, 101, 115, 115]⟩))), (1, 1, (.const (.int .i64 32))), (2, 1, (.const (.int .i64 4)))]) <|
 (.op (some (74, true)) (some 77) (.call 8 [(.tmp 75), (.tmp 76)]) <|
 (.o 78 (.pick (.tmp 74) (.tmp 77) (.const (.bool false))) <|
 (.o 79 (.mov (.tmp 78)) <|
 (.op (some (79, true)) (some 80) (.mov (.tmp 9)) <|
 (.op (some (79, true)) (some 81) (.bld [(.string ⟨#[]⟩), (.int .i64 0), (.int .i64 0)] [(0, 1, (.const (.string ⟨#[97, 99, 99, 101, 115, 115]⟩))), (1, 1, (.const (.int .i64 16))), (2, 1, (.const (.int .i64 3)))]) <|
 (.op (some (79, true)) (some 82) (.call 8 [(.tmp 80), (.tmp 81)]) <|
 (.o 83 (.pick (.tmp 79) (.tmp 82) (.const (.bool false))) <|
 (.o 84 (.mov (.tmp 83)) <|
 (.op (some (84, true)) (some 85) (.mov (.tmp 10)) <|
 (.op (some (84, true)) (some 86) (.ifnil false (.tmp 85)) <|
 (.o 87 (.pick (.tmp 84) (.tmp 86) (.const (.bool false))) <|
 (.o 88 (.mov (.tmp 87)) <|
 (.op (some (88, true)) (some 89) (.mov (.tmp 12)) <|
 (.op (some (88, true)) (some 90) (.ifnil false (.tmp 89)) <|
 (.o 91 (.pick (.tmp 88) (.tmp 90) (.const (.bool false))) <|
 (.o 92 (.mov (.tmp 91)) <|
 (.op (some (92, true)) (some 93) (.ldn 6 (.tmp 11)) <|
 (.op (some (92, true)) (some 94) (.ldn 6 (.tmp 3)) <|
 (.op (some (92, true)) (some 95) (.aeq false [.bool, .int, .int, .int, .int, .int] (.tmp 93) (.tmp 94)) <|
 (.o 96 (.pick (.tmp 92) (.tmp 95) (.const (.bool false))) <|
 (.o 97 (.mov (.tmp 96)) <|
 (.op (some (97, true)) (some 98) (.mov (.tmp 14)) <|
 (.op (some (97, true)) (some 99) (.ifnil false (.tmp 98)) <|
 (.o 100 (.pick (.tmp 97) (.tmp 99) (.const (.bool false))) <|
 (.o 101 (.mov (.tmp 100)) <|
 (.op (some (101, true)) (some 102) (.fadr 0 (.tmp 13)) <|
 (.op (some (101, true)) (some 103) (.ld1 (.tmp 102)) <|
 (.op (some (101, true)) (some 104) (.bnot (.tmp 103)) <|
 (.o 105 (.pick (.tmp 101) (.tmp 104) (.const (.bool false))) <|
 (.o 106 (.mov (.tmp 105)) <|
 (.op (some (106, true)) (some 107) (.ldn 6 (.tmp 3)) <|
 (.op (some (106, true)) (some 108) (.call 55 [(.tmp 107), (.const (.int .u32 16)), (.const (.int .u32 16)), (.const (.int .u16 1))]) <|
 (.op (some (106, true)) (some 109) (.ifnil false (.tmp 108)) <|
 (.o 110 (.pick (.tmp 106) (.tmp 109) (.const (.bool false))) <|
 (.o 0 (.mov (.tmp 110)) <|
 .nil))))))))))))))))))))))))))))))))))))))))))))))))
 .ret))))))))))))⟩
theorem m_hasplaw5_known : toFn Tryd.prog 23 = some c_hasplaw5_known := by kernel_rfl
abbrev n_hasplaw5_known : FuncId := 23
/-- hasp/hasplaw5.filled -/
def c_hasplaw5_filled : MFn := ⟨55, 2, [.tmp 4, .tmp 5, .tmp 6],
 (.seq
 (.o 3 (.bx 39 true (.tmp 1)) <|
 (.o 4 (.mov (.const (.pointer none))) <|
 (.o 5 (.mov (.const (.pointer none))) <|
 (.o 6 (.mov (.const (.bool false))) <|
 .nil))))
 (.seq
 (.o 13 (.call 6 [(.const (.int .i64 128))]) <|
 (.o 12 (.mov (.tmp 13)) <|
 (.o 14 (.ext (.tmp 12) 0) <|
 (.o 15 (.ext (.tmp 12) 1) <|
 (.o 7 (.mov (.tmp 14)) <|
 (.o 8 (.mov (.tmp 15)) <|
 .nil))))))
 (.seq
 (.o 17 (.call 7 [(.const (.int .i64 128))]) <|
 (.o 16 (.mov (.tmp 17)) <|
 (.o 18 (.ext (.tmp 16) 0) <|
 (.o 19 (.ext (.tmp 16) 1) <|
 (.o 10 (.al 31 [(.string ⟨#[]⟩), (.int .i64 0), (.int .i64 0)]) <|
 (.o 9 (.mov (.tmp 18)) <|
 (.op none none (.stn 3 (.tmp 10) (.tmp 19)) <|
 .nil)))))))
 (.seq
 (.seq
 (.o 20 (.mov (.tmp 8)) <|
 (.o 21 (.ifnil true (.tmp 20)) <|
 (.o 22 (.mov (.tmp 21)) <|
 (.op (some (22, false)) (some 23) (.mov (.tmp 7)) <|
 (.op (some (22, false)) (some 24) (.ptnil false (.tmp 23)) <|
 (.o 25 (.pick (.tmp 22) (.const (.bool true)) (.tmp 24)) <|
 .nil))))))
 (.cond (.tmp 25)
 (.seq
 (.o 4 (.mov (.const (.pointer none))) <|
 (.o 5 (.mov (.const (.pointer none))) <|
 (.o 6 (.mov (.const (.bool false))) <|
 .nil)))
 .ret)
 .nil))
 (.seq
 (.o 26 (.mov (.tmp 7)) <|
 (.o 27 (.mov (.tmp 0)) <|
 (.o 28 (.call 9 [(.tmp 26), (.const (.int .i64 0)), (.tmp 27)]) <|
 (.o 29 (.ifnil false (.tmp 28)) <|
 (.o 30 (.mov (.tmp 29)) <|
 (.op (some (30, true)) (some 31) (.mov (.tmp 7)) <|
 (.op (some (30, true)) (some 32) (.ldn 6 (.tmp 3)) <|
 (.op (some (30, true)) (some 33) (.call 11 [(.tmp 31), (.const (.int .i64 64)), (.tmp 32)]) <|
 (.op (some (30, true)) (some 34) (.ifnil false (.tmp 33)) <|
 (.o 35 (.pick (.tmp 30) (.tmp 34) (.const (.bool false))) <|
 (.o 36 (.mov (.tmp 35)) <|
 (.op (some (36, true)) (some 37) (.mov (.tmp 7)) <|
 (.op (some (36, true)) (some 38) (.call 33 [(.const (.int .u32 128))]) <|
 (.op (some (36, true)) (some 39) (.call 11 [(.tmp 37), (.const (.int .i64 96)), (.tmp 38)]) <|
 (.op (some (36, true)) (some 40) (.ifnil false (.tmp 39)) <|
 (.o 41 (.pick (.tmp 36) (.tmp 40) (.const (.bool false))) <|
 (.o 11 (.mov (.tmp 41)) <|
 .nil)))))))))))))))))
 (.seq
 (.o 42 (.mov (.tmp 9)) <|
 (.o 43 (.mov (.tmp 0)) <|
 (.o 44 (.call 10 [(.tmp 42), (.const (.int .i64 0)), (.tmp 43)]) <|
 .nil)))
 (.seq
 (.o 45 (.mov (.tmp 9)) <|
 (.o 46 (.ldn 6 (.tmp 3)) <|
 (.o 47 (.call 13 [(.tmp 46)]) <|
 (.o 48 (.call 12 [(.tmp 45), (.const (.int .i64 64)), (.tmp 47)]) <|
 .nil))))
 (.seq
 (.o 49 (.mov (.tmp 9)) <|
 (.o 50 (.call 56 [(.const (.int .u32 128))]) <|
 (.o 51 (.call 12 [(.tmp 49), (.const (.int .i64 96)), (.tmp 50)]) <|
 .nil)))
 (.seq
 (.o 52 (.mov (.tmp 7)) <|
 (.o 53 (.mov (.tmp 9)) <|
 (.o 54 (.mov (.tmp 11)) <|
 (.o 4 (.mov (.tmp 52)) <|
 (.o 5 (.mov (.tmp 53)) <|
 (.o 6 (.mov (.tmp 54)) <|
 .nil))))))
 .ret)))))))))⟩
theorem m_hasplaw5_filled : toFn Tryd.prog 24 = some c_hasplaw5_filled := by kernel_rfl
abbrev n_hasplaw5_filled : FuncId := 24
end Go.HM
